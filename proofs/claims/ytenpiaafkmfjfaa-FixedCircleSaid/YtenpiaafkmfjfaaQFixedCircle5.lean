/- FixedCircle: part 5 of the proof. -/
import Derived.Test.YtenpiaafkmfjfaaQFixedCircle4
import Derived.Laws.IdiomStrings
section
namespace Go.Proofs.Ytenpiaafkmfjfaa.B
open Go.RowKit Go.Proofs.YtenpiaafkmfjfaaW.PrintWords Go.Proofs.YtenpiaafkmfjfaaW.PrintLast Go.Proofs.YtenpiaafkmfjfaaW.PrintMore
attribute [local go_sem] max2_int min2_int max_two min_two max_three min_three max_four min_four
set_option linter.unusedVariables false
set_option linter.unusedSimpArgs false
def fixed_extreme_int64.l0 : Nat → Int → Int → List Int → Int → Int → Option (Int)
  | 0, _, _, _, _, _ => none
  | k + 1, x0, x1, x9, x10, x11 => if x11 < x10 then (if 0 ≤ x11 then (if x11 < (x9.length : Int) then ((cmp_Compare_int64.f (rd x9 x11) x1).bind fun t350 => (if (wrap64 (t350 * x0)) < 0 then (fixed_extreme_int64.l0 k x0 (rd x9 x11) x9 x10 (wrap64 (x11 + 1))) else (fixed_extreme_int64.l0 k x0 x1 x9 x10 (wrap64 (x11 + 1))))) else (none)) else (none)) else (some x1)
def fixed_extreme_int64.f (k : Nat) (a0 : Int) (a1 : Int) (l2 : List Int) : Option (Int) := fixed_extreme_int64.l0 k a0 a1 l2 (l2.length : Int) 0
set_option maxHeartbeats 8000000 in
set_option maxRecDepth 100000 in
theorem fixed_extreme_int64.calls (k : Nat) (a0 : Int) (a1 : Int) (A2 : Option Addr) (c2 : Nat) (l2 : List Int) (r : Int) (w : World) (hr2 : Kd.C (Kd.int .i64) w A2 l2.length l2) (hc2 : l2.length ≤ c2) (h : fixed_extreme_int64.f k a0 a1 l2 = some r) :
    Calls Try.prog 112 #[.int .i64 a0, .int .i64 a1, .slice A2 l2.length c2] w fun e w' => e = .returned (.int .i64 r) ∧ Drawn0 w w' := by
  have HR2 := Aside0.mk hr2
  have HC2 := Aside0.mk hc2
  clear hr2 hc2
  have H : (fixed_extreme_int64.l0 k a0 a1 l2 (l2.length : Int) 0) = some r := h
  clear h
  have H' := Aside0.mk H
  clear H
  go_enter Try.func112, Try.ntmps112
  go_wp2
  go_loopg [1, 11] k (fun kq v1 v11 w' => ∃ (x1_1 : Int) (x11_1 : Int), v1 = .int .i64 x1_1 ∧ v11 = .int .i64 x11_1 ∧ Aside0 (fixed_extreme_int64.l0 kq a0 x1_1 l2 (l2.length : Int) x11_1 = some r) ∧ Aside0 (kq ≤ k) ∧ Drawn0 w w')
  case atStart => exact ⟨(a1), (0), (by first | rfl | (simp; done) | (simp [*]; done)), (by first | rfl | (simp; done) | (simp [*]; done)), H', ⟨Nat.le_refl _⟩, by repeat (first | exact Drawn0.refl _ | apply Drawn0.step)⟩
  case round =>
    clear H'
    try clear c1
    try clear c2
    try clear p2
    obtain ⟨x1_1, x11_1, rfl, rfl, HA, HK1, ⟨m1, rfl⟩⟩ := hrel
    cases gk with
    | zero => exact absurd HA.out (by simp [fixed_extreme_int64.l0])
    | succ k1 =>
      have H := HA.out
      clear HA
      simp only [fixed_extreme_int64.l0] at H
      by_cases c4 : x11_1 < (l2.length : Int)
      · rw [if_pos c4] at H
        have c4b0 : decide (x11_1 < (l2.length : Int)) = true := decide_eq_true c4
        clear c4
        by_cases c5 : 0 ≤ x11_1
        · rw [if_pos c5] at H
          have c5b0 : decide (0 ≤ x11_1) = true := decide_eq_true c5
          clear c5
          by_cases c6 : x11_1 < (l2.length : Int)
          · rw [if_pos c6] at H
            have c6b0 : decide (x11_1 < (l2.length : Int)) = true := decide_eq_true c6
            clear c6
            replace H := Option.bind_eq_some_iff.mp H
            obtain ⟨t350, A70, H⟩ := H
            replace H : (if (wrap64 (t350 * a0)) < 0 then (fixed_extreme_int64.l0 k1 a0 (rd l2 x11_1) l2 (l2.length : Int) (wrap64 (x11_1 + 1))) else (fixed_extreme_int64.l0 k1 a0 x1_1 l2 (l2.length : Int) (wrap64 (x11_1 + 1)))) = some r := H
            have A7 := Aside0.mk A70
            clear A70
            by_cases c8 : (wrap64 (t350 * a0)) < 0
            · rw [if_pos c8] at H
              have c8b0 : decide ((wrap64 (t350 * a0)) < 0) = true := decide_eq_true c8
              clear c8
              have H' := Aside0.mk H
              clear H
              have p349 : 0 ≤ (x11_1 : Int) := of_decide_eq_true (by first | (with_reducible assumption) | assumption)
              have q349 : x11_1 < (l2.length : Int) := of_decide_eq_true (by first | (with_reducible assumption) | assumption)
              obtain ⟨ad349, e349, hx349_0⟩ := Kd.at_int HR2.out x11_1 p349 q349
              cases e349
              replace p349 := eq_true p349
              replace q349 := eq_true q349
              go_wp2_with (first | ((with_reducible refine gate_callee (f := 78) rfl ?_); refine goesL_ (some 17) rfl rfl Try.func78 (by kernel_rfl) rfl #[.int .i64 (rd l2 x11_1), .int .i64 x1_1] rfl (by (try simp only [List.map_toArray, List.map_cons, List.map_nil]); first | done | rfl | (simp only [List.length_drop, List.length_take]; rfl)) ?_; (with_reducible refine (cmp_Compare_int64.calls (rd l2 x11_1) x1_1 t350 _ A7.out).mono ?_); rintro e w' ⟨rfl, ⟨nd, rfl⟩⟩; refine ⟨_, rfl, ?_⟩))
              go_roundg k1
              case measure => have := HK1.out; omega
              case rel => exact ⟨(rd l2 x11_1), (wrap64 (x11_1 + 1)), (by first | rfl | (simp; done) | (simp [*]; done)), (by first | rfl | (simp; done) | (simp [*]; done)), H', ⟨by have := HK1.out; omega⟩, by repeat (first | exact Drawn0.refl _ | apply Drawn0.step)⟩
            · rw [if_neg c8] at H
              have c8b0 : decide ((wrap64 (t350 * a0)) < 0) = false := decide_eq_false c8
              clear c8
              have H' := Aside0.mk H
              clear H
              have p349 : 0 ≤ (x11_1 : Int) := of_decide_eq_true (by first | (with_reducible assumption) | assumption)
              have q349 : x11_1 < (l2.length : Int) := of_decide_eq_true (by first | (with_reducible assumption) | assumption)
              obtain ⟨ad349, e349, hx349_0⟩ := Kd.at_int HR2.out x11_1 p349 q349
              cases e349
              replace p349 := eq_true p349
              replace q349 := eq_true q349
              go_wp2_with (first | ((with_reducible refine gate_callee (f := 78) rfl ?_); refine goesL_ (some 17) rfl rfl Try.func78 (by kernel_rfl) rfl #[.int .i64 (rd l2 x11_1), .int .i64 x1_1] rfl (by (try simp only [List.map_toArray, List.map_cons, List.map_nil]); first | done | rfl | (simp only [List.length_drop, List.length_take]; rfl)) ?_; (with_reducible refine (cmp_Compare_int64.calls (rd l2 x11_1) x1_1 t350 _ A7.out).mono ?_); rintro e w' ⟨rfl, ⟨nd, rfl⟩⟩; refine ⟨_, rfl, ?_⟩))
              go_roundg k1
              case measure => have := HK1.out; omega
              case rel => exact ⟨(x1_1), (wrap64 (x11_1 + 1)), (by first | rfl | (simp; done) | (simp [*]; done)), (by first | rfl | (simp; done) | (simp [*]; done)), H', ⟨by have := HK1.out; omega⟩, by repeat (first | exact Drawn0.refl _ | apply Drawn0.step)⟩
          · rw [if_neg c6] at H
            exact absurd H (by simp)
        · rw [if_neg c5] at H
          exact absurd H (by simp)
      · rw [if_neg c4] at H
        have c4b0 : decide (x11_1 < (l2.length : Int)) = false := decide_eq_false c4
        clear c4
        obtain rfl := Option.some.inj H
        go_wp2
        go_ret
        exact ⟨by first | rfl | (simp; done) | (simp [*]; done), by repeat (first | exact Drawn0.refl _ | apply Drawn0.step)⟩
def fixed_most.f (k : Nat) (a0 : Int) (l1 : List (S23)) : Option (Int × Bool) := if (l1.length : Int) = 0 then (some (0, false)) else ((fixed_values.f l1).bind fun bt352 => (if 0 < (bt352.1.length : Int) then (if 1 ≤ (bt352.1.length : Int) then ((fixed_extreme_int64.f k a0 (rd bt352.1 0) (bt352.1.drop 1)).bind fun t361 => (some (t361, bt352.2))) else (none)) else (none)))
def fixed_most.T4 : Bool × List (List Nat × List Nat) := (true, [([], []), ([], []), ([1], [1]), ([2], [2]), ([], []), ([4], [4]), ([0, 3, 5], [0, 3, 5]), ([], []), ([6, 7], [6, 7]), ([8, 6, 0, 1, 2, 3, 4, 5, 6, 7, 8], [8])])
def fixed_most.B4 : List Nat := [0, 0, 2, 6, 0, 16, 63, 0, 255, 511]
theorem fixed_most.tab4 : rtab .any (opsOf Try.f79 4) = fixed_most.T4 := by kernel_rfl
theorem fixed_most.bits4 : waitsOk fixed_most.T4.2 fixed_most.B4 = true := by kernel_rfl
set_option maxHeartbeats 8000000 in
set_option maxRecDepth 100000 in
theorem fixed_most.calls (k : Nat) (a0 : Int) (A1 : Option Addr) (c1 : Nat) (l1 : List (S23)) (r1 : Int) (r2 : Bool) (w : World) (hr1 : Kd.C k23 w A1 l1.length l1) (hc1 : l1.length ≤ c1) (h : fixed_most.f k a0 l1 = some (r1, r2)) :
    Calls Try.prog 79 #[.int .i64 a0, .slice A1 l1.length c1] w fun e w' => e = .returned (.agg #[.int .i64 r1, .bool r2]) ∧ Below w.heap.size w w' := by
  have hu23 := Try.underlying23
  have HR1 := Aside0.mk hr1
  have HC1 := Aside0.mk hc1
  clear hr1 hc1
  have HB := Aside0.mk (Below.refl w.heap.size w)
  have H : (if (l1.length : Int) = 0 then (some (0, false)) else ((fixed_values.f l1).bind fun bt352 => (if 0 < (bt352.1.length : Int) then (if 1 ≤ (bt352.1.length : Int) then ((fixed_extreme_int64.f k a0 (rd bt352.1 0) (bt352.1.drop 1)).bind fun t361 => (some (t361, bt352.2))) else (none)) else (none)))) = some (r1, r2) := h
  clear h
  by_cases c3 : (l1.length : Int) = 0
  · rw [if_pos c3] at H
    have c3b0 : ((l1.length : Int) == 0) = true := beq_iff_eq.mpr c3
    have c3b1 : ((l1.length : Int) != 0) = false := bne_eq_false_iff_eq.mpr c3
    clear c3
    simp only [Option.some.injEq, Prod.mk.injEq] at H
    obtain ⟨rfl, rfl⟩ := H
    go_enter Try.func79, Try.ntmps79
    go_wp2_with (first | ((with_reducible refine gate_dst (N := 4) rfl ?_); refine box_event ?hg (N := 4) ?hd (cs := #[.int .i64 0, .bool false]) (t := 23) ?hr ?_; (case hd => rfl); (case hg => rfl); (case hr => first | (go_simp; done) | (go_simp; rfl)); intro gb351 hg w4 hbox hb; have n0_ := Aside0.mk (below_step (by repeat (first | (with_reducible first | exact HB.out | apply below_alloc | apply pw_below_drewN | apply below_drew1) | exact HB.out)) hb); have n1_ := Aside0.mk (hbox); have n2_ := Aside0.mk ((by rw [hg]; exact (below_size (by repeat (first | (with_reducible first | exact HB.out | apply below_alloc | apply pw_below_drewN | apply below_drew1) | exact HB.out))) : w.heap.size ≤ gb351)); have n3_ := Aside0.mk ((by rw [hg]; exact (below_size (by repeat (first | (with_reducible first | exact HB.out | apply below_alloc | apply pw_below_drewN | apply below_drew1) | exact HB.out))) : w.heap.size ≤ gb351)); clear HB; have HB := n0_; have BK351 := n1_; have GW351 := n2_; have GE351 := n3_; clear n0_ n1_ n2_ n3_; clear hb hbox hg; have hcz5_0 : w4.cell? ⟨gb351, 0, none⟩ = some (.int .i64 0) := (blk_cell BK351.out 0).trans rfl; have hcz5_1 : w4.cell? ⟨gb351, 1, none⟩ = some (.bool false) := (blk_cell BK351.out 1).trans rfl; have hfz5_0 := blk_frozen BK351.out 0; have hfz5_1 := blk_frozen BK351.out 1))
    refine bodyPost_ret (results_cell_row rfl _ _ gb351 23 #[.int .i64 0, .bool false] (0, 0) _ rfl (by (with_reducible repeat (first | refine blk_drewN ?_ _ | refine blk_drew ?_ | refine blk_alloc ?_ _)); refine blk_put (cs := #[.int .i64 0, .bool false]) ?_ 1 _ rfl; (with_reducible repeat (first | refine blk_drewN ?_ _ | refine blk_drew ?_ | refine blk_alloc ?_ _)); refine blk_put (cs := #[.int .i64 0, .bool false]) ?_ 0 _ rfl; (with_reducible repeat (first | refine blk_drewN ?_ _ | refine blk_drew ?_ | refine blk_alloc ?_ _)); exact BK351.out) Try.underlying23 rfl (by kernel_rfl)) rfl ?_
    exact ⟨by first | rfl | (simp [errW_none, errW_some] <;> rfl) | (simp [*, errW_none, errW_some] <;> rfl), by repeat (first | (with_reducible first | exact HB.out | apply below_alloc | apply pw_below_drewN | apply below_drew1 | refine below_set ?_ GE351.out) | exact HB.out)⟩
  · rw [if_neg c3] at H
    have c3b0 : ((l1.length : Int) == 0) = false := beq_eq_false_iff_ne.mpr c3
    have c3b1 : ((l1.length : Int) != 0) = true := bne_iff_ne.mpr c3
    have c3b2 : ¬ (l1 = []) := fun h_ => c3 (by rw [h_]; rfl)
    replace H := Option.bind_eq_some_iff.mp H
    obtain ⟨⟨t352, t353⟩, A60, H⟩ := H
    replace H : (if 0 < (t352.length : Int) then (if 1 ≤ (t352.length : Int) then ((fixed_extreme_int64.f k a0 (rd t352 0) (t352.drop 1)).bind fun t361 => (some (t361, t353))) else (none)) else (none)) = some (r1, r2) := H
    have A6 := Aside0.mk A60
    clear A60
    by_cases c7 : 0 < (t352.length : Int)
    · rw [if_pos c7] at H
      have c7b0 : decide (0 < (t352.length : Int)) = true := decide_eq_true c7
      have c7b1 : decide (0 < t352.length) = true := decide_eq_true (by omega)
      clear c7
      by_cases c8 : 1 ≤ (t352.length : Int)
      · rw [if_pos c8] at H
        have c8b0 := eq_true c8
        have c8b1 : decide (1 ≤ (t352.length : Int)) = true := decide_eq_true c8
        clear c8
        obtain ⟨y357, hy357⟩ : ∃ y_ : List Int, y_ = (t352.drop 1) := ⟨_, rfl⟩
        replace H : ((fixed_extreme_int64.f k a0 (rd t352 0) y357).bind fun t361 => (some (t361, t353))) = some (r1, r2) := by first | (rw [hy357]; with_reducible exact H) | (have H2_ := (Option.bind_some _ _).symm.trans H; rw [hy357]; with_reducible exact H2_) | (have H2_ := (Option.bind_some _ _).symm.trans H; with_reducible exact H2_) | with_reducible exact H | (rw [hy357]; exact H) | exact H
        have Ny357 := Aside0.mk hy357
        clear hy357
        replace H := Option.bind_eq_some_iff.mp H
        obtain ⟨t361, A90, H⟩ := H
        replace H : (some (t361, t353)) = some (r1, r2) := H
        have A9 := Aside0.mk A90
        clear A90
        simp only [Option.some.injEq, Prod.mk.injEq] at H
        obtain ⟨rfl, rfl⟩ := H
        go_enter Try.func79, Try.ntmps79
        try go_wp2_with (first | ((with_reducible refine gate_dst (N := 4) rfl ?_); refine box_event ?hg (N := 4) ?hd (cs := #[.int .i64 0, .bool false]) (t := 23) ?hr ?_; (case hd => rfl); (case hg => rfl); (case hr => first | (go_simp; done) | (go_simp; rfl)); intro gb351 hg w10 hbox hb; have n0_ := Aside0.mk (below_step (by repeat (first | (with_reducible first | exact HB.out | apply below_alloc | apply pw_below_drewN | apply below_drew1) | exact HB.out)) hb); have n1_ := Aside0.mk (hbox); have n2_ := Aside0.mk ((by rw [hg]; exact (below_size (by repeat (first | (with_reducible first | exact HB.out | apply below_alloc | apply pw_below_drewN | apply below_drew1) | exact HB.out))) : w.heap.size ≤ gb351)); have n3_ := Aside0.mk ((by rw [hg]; exact (below_size (by repeat (first | (with_reducible first | exact HB.out | apply below_alloc | apply pw_below_drewN | apply below_drew1) | exact HB.out))) : w.heap.size ≤ gb351)); clear HB; have HB := n0_; have BK351 := n1_; have GW351 := n2_; have GE351 := n3_; clear n0_ n1_ n2_ n3_; clear hb hbox hg) | ((with_reducible refine gate_callee (f := 81) rfl ?_); refine goesL_ (some 13) rfl rfl Try.func81 (by kernel_rfl) rfl #[.slice A1 l1.length c1] rfl (by (try simp only [List.map_toArray, List.map_cons, List.map_nil]); first | done | rfl | (simp only [List.length_drop, List.length_take]; rfl)) ?_; (with_reducible refine (fixed_values.calls _ _ l1 t352 t353 _ ?side1 ?side2 A6.out).mono ?_); (case side1 => repeat (first | exact (Kd.C_below HR1.out HB.out) | (with_reducible refine Kd.C_alloc ?_ _) | (with_reducible refine Kd.C_drewN ?_ _) | (with_reducible refine Kd.C_drew ?_))); (case side2 => exact HC1.out); rintro e w11 ⟨v354, rfl, ho0, hb⟩; refine ⟨_, rfl, ?_⟩; have n0_ := Aside0.mk (Kd.R_lower ho0 (below_size (by repeat (first | (with_reducible first | exact HB.out | apply below_alloc | apply pw_below_drewN | apply below_drew1 | refine below_set ?_ GE351.out) | exact HB.out)))); have n1_ := Aside0.mk (blk_below (g := gb351) (o := .cells #[.int .i64 0, .bool false] 23 (0, 0)) (by (with_reducible repeat (first | refine blk_drewN ?_ _ | refine blk_drew ?_ | refine blk_alloc ?_ _)); exact BK351.out) hb); have n2_ := Aside0.mk (below_step (by repeat (first | (with_reducible first | exact HB.out | apply below_alloc | apply pw_below_drewN | apply below_drew1 | refine below_set ?_ GE351.out) | exact HB.out)) hb); clear BK351; clear HB; have HO355 := n0_; have BK351 := n1_; have HB := n2_; clear n0_ n1_ n2_; (try clear hb); (try clear hb2); (try clear hk); (try clear hi); (try clear ho0)))
        have n0_ := Aside0.mk (Kd.R_drew HO355.out)
        have n1_ := Aside0.mk (blk_drew BK351.out)
        have n2_ := Aside0.mk (below_drew1 HB.out)
        clear HO355
        clear BK351
        clear HB
        have HO355 := n0_
        have BK351 := n1_
        have HB := n2_
        clear n0_ n1_ n2_
        obtain ⟨Ao13, co13, eo13⟩ := Kd.R_slice HO355.out
        (first | subst eo13 | (injection eo13 with f1_ f2_ f3_; have f4_ := f1_.symm; have f5_ := f3_.symm; clear f1_ f2_ f3_; subst f4_; subst f5_))
        have p356 : 0 ≤ (0 : Int) := (by omega)
        have q356 : 0 < (t352.length : Int) := of_decide_eq_true (by first | (with_reducible assumption) | assumption)
        obtain ⟨ad356, e356, hx356_0⟩ := Kd.at_int (Kd.R_reads' HO355.out).2.2 0 p356 q356
        cases e356
        have qi356 : (0 < t352.length) = True := eq_true (by omega)
        (try rw [show ((0 : Int)).toNat = 0 from rfl] at hx356_0)
        (try rw [Addr.add_zero'] at hx356_0)
        replace p356 := eq_true p356
        replace q356 := eq_true q356
        have q14 : (1 : Int) ≤ ((t352.length : Int) : Int) := of_decide_eq_true (by first | (with_reducible assumption) | assumption)
        obtain ⟨i014, hi014, _, hsz14, _⟩ := info_parts info2
        have hroom14 : t352.length ≤ co13 := (Kd.R_reads' HO355.out).2.1
        have hC14 : Kd.C (Kd.int .i64) _ (some ad356) t352.length t352 := (Kd.R_reads' HO355.out).2.2
        have hcut14 := cut_from (P := Try.prog) 70 2 .i64 Try.underlying70 hi014 1 hsz14 (some ad356) t352.length co13 1 (by omega) q14
        have hr14 := Kd.C_drop (m := (1 : Int).toNat) (c := co13) hC14 (by omega) hroom14
        obtain ⟨A14, hA14⟩ : ∃ A1, A1 = (if co13 = (1 : Int).toNat then (some ad356) else ((some ad356) : Option Addr).map (·.add ((1 : Int).toNat * 1))) := ⟨_, rfl⟩
        obtain ⟨c14, hc14⟩ : ∃ c1, c1 = co13 - (1 : Int).toNat := ⟨_, rfl⟩
        have hy14 : y357.length = t352.length - (1 : Int).toNat := (by rw [Ny357.out, List.length_drop] <;> omega)
        rw [show (t352).drop (1 : Int).toNat = y357 from Ny357.out.symm] at hr14
        replace hr14 : Kd.C (Kd.int .i64) _ A14 y357.length y357 := (by rw [hA14]; exact hr14)
        rw [← hy14, ← hA14, ← hc14] at hcut14
        have HR360 := Aside0.mk hr14
        have HC360 := Aside0.mk (show y357.length ≤ c14 from by rw [hy14, hc14]; exact Nat.sub_le_sub_right hroom14 _)
        clear hr14 hC14 hroom14 hi014 hsz14 hc14
        have KY14 := Aside0.mk hy14
        have KA14 := Aside0.mk hA14
        clear hy14 hA14
        have KL14 := Aside0.mk (show 1 ≤ t352.length from by omega)
        replace q14 := eq_true q14
        refine start_ (n := 10) (S := fun w' => w'.cell? ad356 = some (.int .i64 (rd t352 0))) (ds := []) #[false, false, false, false, false, false, false, false, false, false] (by kernel_rfl) rfl rfl (hx356_0) (fun hHeld => ?_); refine with_tabW fixed_most.tab4 fixed_most.bits4 (fun HT_ HW_ => ?_)
        generalize w11.drew = w12 at HO355 BK351 HB HR360 hx356_0 hHeld ⊢
        refine pure_ (i := 0) (N := some 16) (v := ?_) (a' := ?_) #[true, false, false, false, false, false, false, false, false, false] rfl rfl (any_of HT_.out (by kernel_rfl)) (fun _ _ _ h => h) (Or.inl ⟨by rfl, ?_⟩) ?_ ?_
        rotate_left
        · intro w'
          go_simp
          with_reducible rfl
        rotate_left
        · simp only [Act.put, List.setIfInBounds_toArray, List.set_cons_zero, List.set_cons_succ, i64_w, i32_w]
          rfl
        refine pure_ (i := 1) (N := some 17) (v := ?_) (a' := ?_) #[true, true, false, false, false, false, false, false, false, false] rfl rfl (any_of HT_.out (by kernel_rfl)) (fun _ _ _ h => h) (Or.inl ⟨by rfl, ?_⟩) ?_ ?_
        rotate_left
        · intro w'
          go_simp
          with_reducible rfl
        rotate_left
        · simp only [Act.put, List.setIfInBounds_toArray, List.set_cons_zero, List.set_cons_succ, i64_w, i32_w]
          rfl
        refine pure_ (i := 2) (N := some 18) (v := ?_) (a' := ?_) #[true, true, true, false, false, false, false, false, false, false] rfl rfl (any_of HT_.out (by kernel_rfl)) (fun _ _ _ h => h) (Or.inl ⟨by rfl, ?_⟩) ?_ ?_
        rotate_left
        · intro w'
          go_simp
          with_reducible rfl
        rotate_left
        · simp only [Act.put, List.setIfInBounds_toArray, List.set_cons_zero, List.set_cons_succ, i64_w, i32_w]
          rfl
        refine pure_ (i := 4) (N := some 20) (v := ?_) (a' := ?_) #[true, true, true, false, true, false, false, false, false, false] rfl rfl (any_of HT_.out (by kernel_rfl)) (fun _ _ _ h => h) (Or.inl ⟨by rfl, ?_⟩) ?_ ?_
        rotate_left
        · intro w'
          go_simp
          with_reducible rfl
        rotate_left
        · simp only [Act.put, List.setIfInBounds_toArray, List.set_cons_zero, List.set_cons_succ, i64_w, i32_w]
          rfl
        refine pure_ (i := 5) (N := some 21) (v := ?_) (a' := ?_) #[true, true, true, false, true, true, false, false, false, false] rfl rfl (any_of HT_.out (by kernel_rfl)) (fun _ _ _ h => h) (Or.inl ⟨by rfl, ?_⟩) ?_ ?_
        rotate_left
        · intro w'
          go_simp
          with_reducible rfl
        rotate_left
        · simp only [Act.put, List.setIfInBounds_toArray, List.set_cons_zero, List.set_cons_succ, i64_w, i32_w]
          rfl
        refine pure_ (i := 7) (N := some 23) (v := ?_) (a' := ?_) #[true, true, true, false, true, true, false, true, false, false] rfl rfl (any_of HT_.out (by kernel_rfl)) (fun _ _ _ h => h) (Or.inl ⟨by rfl, ?_⟩) ?_ ?_
        rotate_left
        · intro w'
          go_simp
          with_reducible rfl
        rotate_left
        · simp only [Act.put, List.setIfInBounds_toArray, List.set_cons_zero, List.set_cons_succ, i64_w, i32_w]
          rfl
        refine take_ (i := 3) (N := some 19) (v := ?_) (a' := ?_) #[true, true, true, true, true, true, false, true, false, false] rfl rfl (take_ofW HT_.out HW_.out (by kernel_rfl)) (fun _ _ _ h => h) (Or.inl ⟨by rfl, ?_⟩) hHeld ?_ ?_
        rotate_left
        · intro w' s0
          go_simp
          with_reducible rfl
        rotate_left
        · simp only [Act.put, List.setIfInBounds_toArray, List.set_cons_zero, List.set_cons_succ, i64_w, i32_w]
          rfl
        refine one_ (i := 6) (N := some 22) #[true, true, true, true, true, true, true, true, false, false] rfl rfl (one_of HT_.out (by kernel_rfl)) (by decide) (fun K hK => ?_)
        refine goes_ Try.func112 (by kernel_rfl) rfl #[.int .i64 a0, .int .i64 (rd t352 0), .slice A14 y357.length c14] (by rfl) rfl rfl (by (try simp only [List.map_toArray, List.map_cons, List.map_nil]); first | done | rfl | (simp only [List.length_drop, List.length_take]; rfl)) ?_
        with_reducible refine (fixed_extreme_int64.calls k a0 (rd t352 0) _ _ y357 t361 _ ?side1 ?side2 A9.out).mono ?_
        (case side1 => repeat (first | exact (by repeat (first | (with_reducible exact HR360.out) | (with_reducible refine Kd.C_alloc ?_ _) | (with_reducible refine Kd.C_drewN ?_ _) | (with_reducible refine Kd.C_drew ?_) | exact HR360.out)) | (with_reducible refine Kd.C_alloc ?_ _) | (with_reducible refine Kd.C_drewN ?_ _) | (with_reducible refine Kd.C_drew ?_)))
        (case side2 => exact HC360.out)
        rintro e w' ⟨rfl, ⟨nd, rfl⟩⟩
        refine ⟨_, rfl, ?_⟩
        refine hK.out _ _ (hHeld) (fun hHeld => ?_)
        clear hK K
        refine norm_ (a' := ?_) ?_ ?_
        rotate_left
        · show Act.put _ (some 22) _ = _
          simp only [Act.put, List.setIfInBounds_toArray, List.set_cons_zero, List.set_cons_succ, i64_w, i32_w]
          rfl
        refine pure_ (i := 8) (N := some 24) (v := ?_) (a' := ?_) #[true, true, true, true, true, true, true, true, true, false] rfl rfl (any_of HT_.out (by kernel_rfl)) (fun _ _ _ h => h) (Or.inl ⟨by rfl, ?_⟩) ?_ ?_
        rotate_left
        · intro w'
          go_simp
          with_reducible rfl
        rotate_left
        · simp only [Act.put, List.setIfInBounds_toArray, List.set_cons_zero, List.set_cons_succ, i64_w, i32_w]
          rfl
        refine one_ (i := 9) (N := none) #[true, true, true, true, true, true, true, true, true, true] rfl rfl (one_of HT_.out (by kernel_rfl)) (by decide) (fun K hK => ?_)
        have hs15 : w12.cell? ⟨gb351, 0, none⟩ = some (.int .i64 0) := (blk_cell BK351.out 0).trans rfl
        have hfs15 := blk_frozen BK351.out 0
        have hs16 : w12.cell? ⟨gb351, 1, none⟩ = some (.bool false) := (blk_cell BK351.out 1).trans rfl
        have hfs16 := blk_frozen BK351.out 1
        refine skip_ (w1 := ?_) (by rfl) rfl ?_ ?_
        rotate_left
        · go_simp
          rfl
        refine hK.out _ _ (((cell_far (p := ⟨gb351, _, none⟩) (by first | exact Kd.own_blk (Kd.R_ne HO355.out BK351.out (by decide)) | (rw [add_block]; exact Kd.own_blk (Kd.R_ne HO355.out BK351.out (by decide))) | (show (Addr.add _ _).block ≠ _; rw [add_block]; exact Kd.own_blk (Kd.R_ne HO355.out BK351.out (by decide))) | (dsimp only; exact Kd.own_blk (Kd.R_ne HO355.out BK351.out (by decide)))) _).trans (((cell_far (p := ⟨gb351, _, none⟩) (by first | exact Kd.own_blk (Kd.R_ne HO355.out BK351.out (by decide)) | (rw [add_block]; exact Kd.own_blk (Kd.R_ne HO355.out BK351.out (by decide))) | (show (Addr.add _ _).block ≠ _; rw [add_block]; exact Kd.own_blk (Kd.R_ne HO355.out BK351.out (by decide))) | (dsimp only; exact Kd.own_blk (Kd.R_ne HO355.out BK351.out (by decide)))) _).trans (hHeld))))) (fun hHeld => ?_)
        clear hK K
        refine done_ (done_of HT_.out (by kernel_rfl)) ?_
        try go_wp2
        refine bodyPost_ret (results_cell_row rfl _ _ gb351 23 #[.int .i64 t361, .bool t353] (0, 0) _ rfl (by (with_reducible repeat (first | refine blk_drewN ?_ _ | refine blk_drew ?_ | refine blk_alloc ?_ _)); refine blk_put (cs := #[.int .i64 t361, .bool false]) ?_ 1 _ rfl; (with_reducible repeat (first | refine blk_drewN ?_ _ | refine blk_drew ?_ | refine blk_alloc ?_ _)); refine blk_put (cs := #[.int .i64 0, .bool false]) ?_ 0 _ rfl; (with_reducible repeat (first | refine blk_drewN ?_ _ | refine blk_drew ?_ | refine blk_alloc ?_ _)); exact BK351.out) Try.underlying23 rfl (by kernel_rfl)) rfl ?_
        exact ⟨by first | rfl | (simp [errW_none, errW_some] <;> rfl) | (simp [*, errW_none, errW_some] <;> rfl), by repeat (first | (with_reducible first | exact HB.out | apply below_alloc | apply pw_below_drewN | apply below_drew1 | refine below_set ?_ GE351.out) | exact HB.out)⟩
      · rw [if_neg c8] at H
        exact absurd H (by simp)
    · rw [if_neg c7] at H
      exact absurd H (by simp)
def fixed_Min.f (k : Nat) (l0 : List (S23)) : Option (Int × Bool) := (fixed_most.f k 1 l0).bind fun bt363 => (some (bt363.1, bt363.2))
set_option maxHeartbeats 8000000 in
set_option maxRecDepth 100000 in
theorem fixed_Min.calls (k : Nat) (A0 : Option Addr) (c0 : Nat) (l0 : List (S23)) (r1 : Int) (r2 : Bool) (w : World) (hr0 : Kd.C k23 w A0 l0.length l0) (hc0 : l0.length ≤ c0) (h : fixed_Min.f k l0 = some (r1, r2)) :
    Calls Try.prog 28 #[.slice A0 l0.length c0] w fun e w' => e = .returned (.agg #[.int .i64 r1, .bool r2]) ∧ Below w.heap.size w w' := by
  have hu23 := Try.underlying23
  have HR0 := Aside0.mk hr0
  have HC0 := Aside0.mk hc0
  clear hr0 hc0
  have HB := Aside0.mk (Below.refl w.heap.size w)
  have H : ((fixed_most.f k 1 l0).bind fun bt363 => (some (bt363.1, bt363.2))) = some (r1, r2) := h
  clear h
  replace H := Option.bind_eq_some_iff.mp H
  obtain ⟨⟨t363, t364⟩, A20, H⟩ := H
  replace H : (some (t363, t364)) = some (r1, r2) := H
  have A2 := Aside0.mk A20
  clear A20
  simp only [Option.some.injEq, Prod.mk.injEq] at H
  obtain ⟨rfl, rfl⟩ := H
  go_enter Try.func28, Try.ntmps28
  go_wp2_with (first | ((with_reducible refine gate_dst (N := 2) rfl ?_); refine box_event ?hg (N := 2) ?hd (cs := #[.int .i64 0, .bool false]) (t := 23) ?hr ?_; (case hd => rfl); (case hg => rfl); (case hr => first | (go_simp; done) | (go_simp; rfl)); intro gb362 hg w3 hbox hb; have n0_ := Aside0.mk (below_step (by repeat (first | (with_reducible first | exact HB.out | apply below_alloc | apply pw_below_drewN | apply below_drew1) | exact HB.out)) hb); have n1_ := Aside0.mk (hbox); have n2_ := Aside0.mk ((by rw [hg]; exact (below_size (by repeat (first | (with_reducible first | exact HB.out | apply below_alloc | apply pw_below_drewN | apply below_drew1) | exact HB.out))) : w.heap.size ≤ gb362)); have n3_ := Aside0.mk ((by rw [hg]; exact (below_size (by repeat (first | (with_reducible first | exact HB.out | apply below_alloc | apply pw_below_drewN | apply below_drew1) | exact HB.out))) : w.heap.size ≤ gb362)); clear HB; have HB := n0_; have BK362 := n1_; have GW362 := n2_; have GE362 := n3_; clear n0_ n1_ n2_ n3_; clear hb hbox hg) | ((with_reducible refine gate_callee (f := 79) rfl ?_); refine goesL_ (some 4) rfl rfl Try.func79 (by kernel_rfl) rfl #[.int .i64 1, .slice A0 l0.length c0] rfl (by (try simp only [List.map_toArray, List.map_cons, List.map_nil]); first | done | rfl | (simp only [List.length_drop, List.length_take]; rfl)) ?_; (with_reducible refine (fixed_most.calls k 1 _ _ l0 t363 t364 _ ?side1 ?side2 A2.out).mono ?_); (case side1 => repeat (first | exact (Kd.C_below HR0.out HB.out) | (with_reducible refine Kd.C_alloc ?_ _) | (with_reducible refine Kd.C_drewN ?_ _) | (with_reducible refine Kd.C_drew ?_))); (case side2 => exact HC0.out); rintro e w4 ⟨rfl, hb⟩; refine ⟨_, rfl, ?_⟩; have n0_ := Aside0.mk (blk_below (g := gb362) (o := .cells #[.int .i64 0, .bool false] 23 (0, 0)) (by (with_reducible repeat (first | refine blk_drewN ?_ _ | refine blk_drew ?_ | refine blk_alloc ?_ _)); exact BK362.out) hb); have n1_ := Aside0.mk (below_step (by repeat (first | (with_reducible first | exact HB.out | apply below_alloc | apply pw_below_drewN | apply below_drew1 | refine below_set ?_ GE362.out) | exact HB.out)) hb); clear BK362; clear HB; have BK362 := n0_; have HB := n1_; clear n0_ n1_; (try clear hb); (try clear hb2); (try clear hk); (try clear hi); have hcz5_0 : w4.cell? ⟨gb362, 0, none⟩ = some (.int .i64 0) := (blk_cell BK362.out 0).trans rfl; have hcz5_1 : w4.cell? ⟨gb362, 1, none⟩ = some (.bool false) := (blk_cell BK362.out 1).trans rfl; have hfz5_0 := blk_frozen BK362.out 0; have hfz5_1 := blk_frozen BK362.out 1))
  refine bodyPost_ret (results_cell_row rfl _ _ gb362 23 #[.int .i64 t363, .bool t364] (0, 0) _ rfl (by (with_reducible repeat (first | refine blk_drewN ?_ _ | refine blk_drew ?_ | refine blk_alloc ?_ _)); refine blk_put (cs := #[.int .i64 t363, .bool false]) ?_ 1 _ rfl; (with_reducible repeat (first | refine blk_drewN ?_ _ | refine blk_drew ?_ | refine blk_alloc ?_ _)); refine blk_put (cs := #[.int .i64 0, .bool false]) ?_ 0 _ rfl; (with_reducible repeat (first | refine blk_drewN ?_ _ | refine blk_drew ?_ | refine blk_alloc ?_ _)); exact BK362.out) Try.underlying23 rfl (by kernel_rfl)) rfl ?_
  exact ⟨by first | rfl | (simp [errW_none, errW_some] <;> rfl) | (simp [*, errW_none, errW_some] <;> rfl), by repeat (first | (with_reducible first | exact HB.out | apply below_alloc | apply pw_below_drewN | apply below_drew1 | refine below_set ?_ GE362.out) | exact HB.out)⟩
def fixed_Max.f (k : Nat) (l0 : List (S23)) : Option (Int × Bool) := (fixed_most.f k (-1) l0).bind fun bt366 => (some (bt366.1, bt366.2))
set_option maxHeartbeats 8000000 in
set_option maxRecDepth 100000 in
theorem fixed_Max.calls (k : Nat) (A0 : Option Addr) (c0 : Nat) (l0 : List (S23)) (r1 : Int) (r2 : Bool) (w : World) (hr0 : Kd.C k23 w A0 l0.length l0) (hc0 : l0.length ≤ c0) (h : fixed_Max.f k l0 = some (r1, r2)) :
    Calls Try.prog 30 #[.slice A0 l0.length c0] w fun e w' => e = .returned (.agg #[.int .i64 r1, .bool r2]) ∧ Below w.heap.size w w' := by
  have hu23 := Try.underlying23
  have HR0 := Aside0.mk hr0
  have HC0 := Aside0.mk hc0
  clear hr0 hc0
  have HB := Aside0.mk (Below.refl w.heap.size w)
  have H : ((fixed_most.f k (-1) l0).bind fun bt366 => (some (bt366.1, bt366.2))) = some (r1, r2) := h
  clear h
  replace H := Option.bind_eq_some_iff.mp H
  obtain ⟨⟨t366, t367⟩, A20, H⟩ := H
  replace H : (some (t366, t367)) = some (r1, r2) := H
  have A2 := Aside0.mk A20
  clear A20
  simp only [Option.some.injEq, Prod.mk.injEq] at H
  obtain ⟨rfl, rfl⟩ := H
  go_enter Try.func30, Try.ntmps30
  go_wp2_with (first | ((with_reducible refine gate_dst (N := 2) rfl ?_); refine box_event ?hg (N := 2) ?hd (cs := #[.int .i64 0, .bool false]) (t := 23) ?hr ?_; (case hd => rfl); (case hg => rfl); (case hr => first | (go_simp; done) | (go_simp; rfl)); intro gb365 hg w3 hbox hb; have n0_ := Aside0.mk (below_step (by repeat (first | (with_reducible first | exact HB.out | apply below_alloc | apply pw_below_drewN | apply below_drew1) | exact HB.out)) hb); have n1_ := Aside0.mk (hbox); have n2_ := Aside0.mk ((by rw [hg]; exact (below_size (by repeat (first | (with_reducible first | exact HB.out | apply below_alloc | apply pw_below_drewN | apply below_drew1) | exact HB.out))) : w.heap.size ≤ gb365)); have n3_ := Aside0.mk ((by rw [hg]; exact (below_size (by repeat (first | (with_reducible first | exact HB.out | apply below_alloc | apply pw_below_drewN | apply below_drew1) | exact HB.out))) : w.heap.size ≤ gb365)); clear HB; have HB := n0_; have BK365 := n1_; have GW365 := n2_; have GE365 := n3_; clear n0_ n1_ n2_ n3_; clear hb hbox hg) | ((with_reducible refine gate_callee (f := 79) rfl ?_); refine goesL_ (some 4) rfl rfl Try.func79 (by kernel_rfl) rfl #[.int .i64 (-1), .slice A0 l0.length c0] rfl (by (try simp only [List.map_toArray, List.map_cons, List.map_nil]); first | done | rfl | (simp only [List.length_drop, List.length_take]; rfl)) ?_; (with_reducible refine (fixed_most.calls k (-1) _ _ l0 t366 t367 _ ?side1 ?side2 A2.out).mono ?_); (case side1 => repeat (first | exact (Kd.C_below HR0.out HB.out) | (with_reducible refine Kd.C_alloc ?_ _) | (with_reducible refine Kd.C_drewN ?_ _) | (with_reducible refine Kd.C_drew ?_))); (case side2 => exact HC0.out); rintro e w4 ⟨rfl, hb⟩; refine ⟨_, rfl, ?_⟩; have n0_ := Aside0.mk (blk_below (g := gb365) (o := .cells #[.int .i64 0, .bool false] 23 (0, 0)) (by (with_reducible repeat (first | refine blk_drewN ?_ _ | refine blk_drew ?_ | refine blk_alloc ?_ _)); exact BK365.out) hb); have n1_ := Aside0.mk (below_step (by repeat (first | (with_reducible first | exact HB.out | apply below_alloc | apply pw_below_drewN | apply below_drew1 | refine below_set ?_ GE365.out) | exact HB.out)) hb); clear BK365; clear HB; have BK365 := n0_; have HB := n1_; clear n0_ n1_; (try clear hb); (try clear hb2); (try clear hk); (try clear hi); have hcz5_0 : w4.cell? ⟨gb365, 0, none⟩ = some (.int .i64 0) := (blk_cell BK365.out 0).trans rfl; have hcz5_1 : w4.cell? ⟨gb365, 1, none⟩ = some (.bool false) := (blk_cell BK365.out 1).trans rfl; have hfz5_0 := blk_frozen BK365.out 0; have hfz5_1 := blk_frozen BK365.out 1))
  refine bodyPost_ret (results_cell_row rfl _ _ gb365 23 #[.int .i64 t366, .bool t367] (0, 0) _ rfl (by (with_reducible repeat (first | refine blk_drewN ?_ _ | refine blk_drew ?_ | refine blk_alloc ?_ _)); refine blk_put (cs := #[.int .i64 t366, .bool false]) ?_ 1 _ rfl; (with_reducible repeat (first | refine blk_drewN ?_ _ | refine blk_drew ?_ | refine blk_alloc ?_ _)); refine blk_put (cs := #[.int .i64 0, .bool false]) ?_ 0 _ rfl; (with_reducible repeat (first | refine blk_drewN ?_ _ | refine blk_drew ?_ | refine blk_alloc ?_ _)); exact BK365.out) Try.underlying23 rfl (by kernel_rfl)) rfl ?_
  exact ⟨by first | rfl | (simp [errW_none, errW_some] <;> rfl) | (simp [*, errW_none, errW_some] <;> rfl), by repeat (first | (with_reducible first | exact HB.out | apply below_alloc | apply pw_below_drewN | apply below_drew1 | refine below_set ?_ GE365.out) | exact HB.out)⟩
def fixed_Clamp.f (k : Nat) (a0_0 : Int) (a0_1 : Bool) (a1_0 : Int) (a1_1 : Bool) (a2_0 : Int) (a2_1 : Bool) : Option (Int × Bool) := (fixed_Min.f k (([(⟨a0_0, a0_1⟩ : S23), (⟨a2_0, a2_1⟩ : S23)] : List (S23)))).bind fun bt375 => ((fixed_Max.f k (([(⟨a1_0, a1_1⟩ : S23), (⟨bt375.1, bt375.2⟩ : S23)] : List (S23)))).bind fun bt380 => (some (bt380.1, bt380.2)))
def fixed_Clamp.T1 : Bool × List (List Nat × List Nat) := (true, [([], []), ([], []), ([], []), ([1, 2], [1, 2]), ([3], [3]), ([0, 4], [0, 4]), ([5, 4], [5]), ([6, 6, 0, 1, 2, 3, 4, 5, 6], [6])])
def fixed_Clamp.B1 : List Nat := [0, 0, 0, 6, 14, 31, 63, 127]
theorem fixed_Clamp.tab1 : rtab .any (opsOf Try.f35 1) = fixed_Clamp.T1 := by kernel_rfl
theorem fixed_Clamp.bits1 : waitsOk fixed_Clamp.T1.2 fixed_Clamp.B1 = true := by kernel_rfl
set_option maxHeartbeats 8000000 in
set_option maxRecDepth 100000 in
theorem fixed_Clamp.calls (k : Nat) (a0_0 : Int) (a0_1 : Bool) (a1_0 : Int) (a1_1 : Bool) (a2_0 : Int) (a2_1 : Bool) (r1 : Int) (r2 : Bool) (w : World) (h : fixed_Clamp.f k a0_0 a0_1 a1_0 a1_1 a2_0 a2_1 = some (r1, r2)) :
    Calls Try.prog 35 #[.agg #[.int .i64 a0_0, .bool a0_1], .agg #[.int .i64 a1_0, .bool a1_1], .agg #[.int .i64 a2_0, .bool a2_1]] w fun e w' => e = .returned (.agg #[.int .i64 r1, .bool r2]) ∧ Below w.heap.size w w' := by
  have hu23 := Try.underlying23
  have HB := Aside0.mk (Below.refl w.heap.size w)
  have H : ((fixed_Min.f k (([(⟨a0_0, a0_1⟩ : S23), (⟨a2_0, a2_1⟩ : S23)] : List (S23)))).bind fun bt375 => ((fixed_Max.f k (([(⟨a1_0, a1_1⟩ : S23), (⟨bt375.1, bt375.2⟩ : S23)] : List (S23)))).bind fun bt380 => (some (bt380.1, bt380.2)))) = some (r1, r2) := h
  clear h
  obtain ⟨y372, hy372⟩ : ∃ y_ : List (S23), y_ = (([(⟨a0_0, a0_1⟩ : S23), (⟨a2_0, a2_1⟩ : S23)] : List (S23))) := ⟨_, rfl⟩
  replace H : ((fixed_Min.f k y372).bind fun bt375 => ((fixed_Max.f k (([(⟨a1_0, a1_1⟩ : S23), (⟨bt375.1, bt375.2⟩ : S23)] : List (S23)))).bind fun bt380 => (some (bt380.1, bt380.2)))) = some (r1, r2) := by first | (rw [hy372]; with_reducible exact H) | (have H2_ := (Option.bind_some _ _).symm.trans H; rw [hy372]; with_reducible exact H2_) | (have H2_ := (Option.bind_some _ _).symm.trans H; with_reducible exact H2_) | with_reducible exact H | (rw [hy372]; exact H) | exact H
  have Ny372 := Aside0.mk hy372
  clear hy372
  replace H := Option.bind_eq_some_iff.mp H
  obtain ⟨⟨t375, t376⟩, A40, H⟩ := H
  replace H : ((fixed_Max.f k (([(⟨a1_0, a1_1⟩ : S23), (⟨t375, t376⟩ : S23)] : List (S23)))).bind fun bt380 => (some (bt380.1, bt380.2))) = some (r1, r2) := H
  have A4 := Aside0.mk A40
  clear A40
  obtain ⟨y377, hy377⟩ : ∃ y_ : List (S23), y_ = (([(⟨a1_0, a1_1⟩ : S23), (⟨t375, t376⟩ : S23)] : List (S23))) := ⟨_, rfl⟩
  replace H : ((fixed_Max.f k y377).bind fun bt380 => (some (bt380.1, bt380.2))) = some (r1, r2) := by first | (rw [hy377]; with_reducible exact H) | (have H2_ := (Option.bind_some _ _).symm.trans H; rw [hy377]; with_reducible exact H2_) | (have H2_ := (Option.bind_some _ _).symm.trans H; with_reducible exact H2_) | with_reducible exact H | (rw [hy377]; exact H) | exact H
  have Ny377 := Aside0.mk hy377
  clear hy377
  replace H := Option.bind_eq_some_iff.mp H
  obtain ⟨⟨t380, t381⟩, A50, H⟩ := H
  replace H : (some (t380, t381)) = some (r1, r2) := H
  have A5 := Aside0.mk A50
  clear A50
  simp only [Option.some.injEq, Prod.mk.injEq] at H
  obtain ⟨rfl, rfl⟩ := H
  go_enter Try.func35, Try.ntmps35
  try go_wp2_with (first | ((with_reducible refine gate_dst (N := 3) rfl ?_); refine box_event ?hg (N := 3) ?hd (cs := #[.int .i64 a0_0, .bool a0_1]) (t := 23) ?hr ?_; (case hd => rfl); (case hg => rfl); (case hr => first | (go_simp; done) | (go_simp; rfl)); intro gb368 hg w6 hbox hb; have n0_ := Aside0.mk (below_step (by repeat (first | (with_reducible first | exact HB.out | apply below_alloc | apply pw_below_drewN | apply below_drew1) | exact HB.out)) hb); have n1_ := Aside0.mk (hbox); have n2_ := Aside0.mk ((by rw [hg]; exact (below_size (by repeat (first | (with_reducible first | exact HB.out | apply below_alloc | apply pw_below_drewN | apply below_drew1) | exact HB.out))) : w.heap.size ≤ gb368)); have n3_ := Aside0.mk ((by rw [hg]; exact (below_size (by repeat (first | (with_reducible first | exact HB.out | apply below_alloc | apply pw_below_drewN | apply below_drew1) | exact HB.out))) : w.heap.size ≤ gb368)); clear HB; have HB := n0_; have BK368 := n1_; have GW368 := n2_; have GE368 := n3_; clear n0_ n1_ n2_ n3_; clear hb hbox hg) | ((with_reducible refine gate_dst (N := 4) rfl ?_); refine box_event ?hg (N := 4) ?hd (cs := #[.int .i64 a1_0, .bool a1_1]) (t := 23) ?hr ?_; (case hd => rfl); (case hg => rfl); (case hr => first | (go_simp; done) | (go_simp; rfl)); intro gb369 hg w7 hbox hb; have n0_ := Aside0.mk (blk_below (g := gb368) (o := .cells #[.int .i64 a0_0, .bool a0_1] 23 (0, 0)) (by (with_reducible repeat (first | refine blk_drewN ?_ _ | refine blk_drew ?_ | refine blk_alloc ?_ _)); exact BK368.out) hb); have n1_ := Aside0.mk (below_step (by repeat (first | (with_reducible first | exact HB.out | apply below_alloc | apply pw_below_drewN | apply below_drew1 | refine below_set ?_ GE368.out) | exact HB.out)) hb); have n2_ := Aside0.mk (hbox); have n3_ := Aside0.mk ((by rw [hg]; exact (below_size (by repeat (first | (with_reducible first | exact HB.out | apply below_alloc | apply pw_below_drewN | apply below_drew1 | refine below_set ?_ GE368.out) | exact HB.out))) : w.heap.size ≤ gb369)); have n4_ := Aside0.mk ((by rw [hg]; exact (below_size (by repeat (first | (with_reducible first | exact HB.out | apply below_alloc | apply pw_below_drewN | apply below_drew1 | refine below_set ?_ GE368.out) | exact HB.out))) : w.heap.size ≤ gb369)); have n5_ := Aside0.mk ((by rw [hg]; exact Nat.ne_of_lt (blk_lt (g := gb368) (o := .cells #[.int .i64 a0_0, .bool a0_1] 23 (0, 0)) (by (with_reducible repeat (first | refine blk_drewN ?_ _ | refine blk_drew ?_ | refine blk_alloc ?_ _)); exact BK368.out)) : gb368 ≠ gb369)); have n6_ := Aside0.mk ((by rw [hg]; exact Nat.ne_of_gt (blk_lt (g := gb368) (o := .cells #[.int .i64 a0_0, .bool a0_1] 23 (0, 0)) (by (with_reducible repeat (first | refine blk_drewN ?_ _ | refine blk_drew ?_ | refine blk_alloc ?_ _)); exact BK368.out)) : gb369 ≠ gb368)); clear BK368; clear HB; have BK368 := n0_; have HB := n1_; have BK369 := n2_; have GW369 := n3_; have GE369 := n4_; have NB368_369 := n5_; have NB369_368 := n6_; clear n0_ n1_ n2_ n3_ n4_ n5_ n6_; clear hb hbox hg) | ((with_reducible refine gate_dst (N := 5) rfl ?_); refine box_event ?hg (N := 5) ?hd (cs := #[.int .i64 a2_0, .bool a2_1]) (t := 23) ?hr ?_; (case hd => rfl); (case hg => rfl); (case hr => first | (go_simp; done) | (go_simp; rfl)); intro gb370 hg w8 hbox hb; have n0_ := Aside0.mk (blk_below (g := gb368) (o := .cells #[.int .i64 a0_0, .bool a0_1] 23 (0, 0)) (by (with_reducible repeat (first | refine blk_drewN ?_ _ | refine blk_drew ?_ | refine blk_alloc ?_ _)); exact BK368.out) hb); have n1_ := Aside0.mk (blk_below (g := gb369) (o := .cells #[.int .i64 a1_0, .bool a1_1] 23 (0, 0)) (by (with_reducible repeat (first | refine blk_drewN ?_ _ | refine blk_drew ?_ | refine blk_alloc ?_ _)); exact BK369.out) hb); have n2_ := Aside0.mk (below_step (by repeat (first | (with_reducible first | exact HB.out | apply below_alloc | apply pw_below_drewN | apply below_drew1 | refine below_set ?_ GE368.out | refine below_set ?_ GE369.out) | exact HB.out)) hb); have n3_ := Aside0.mk (hbox); have n4_ := Aside0.mk ((by rw [hg]; exact (below_size (by repeat (first | (with_reducible first | exact HB.out | apply below_alloc | apply pw_below_drewN | apply below_drew1 | refine below_set ?_ GE368.out | refine below_set ?_ GE369.out) | exact HB.out))) : w.heap.size ≤ gb370)); have n5_ := Aside0.mk ((by rw [hg]; exact (below_size (by repeat (first | (with_reducible first | exact HB.out | apply below_alloc | apply pw_below_drewN | apply below_drew1 | refine below_set ?_ GE368.out | refine below_set ?_ GE369.out) | exact HB.out))) : w.heap.size ≤ gb370)); have n6_ := Aside0.mk ((by rw [hg]; exact Nat.ne_of_lt (blk_lt (g := gb368) (o := .cells #[.int .i64 a0_0, .bool a0_1] 23 (0, 0)) (by (with_reducible repeat (first | refine blk_drewN ?_ _ | refine blk_drew ?_ | refine blk_alloc ?_ _)); exact BK368.out)) : gb368 ≠ gb370)); have n7_ := Aside0.mk ((by rw [hg]; exact Nat.ne_of_gt (blk_lt (g := gb368) (o := .cells #[.int .i64 a0_0, .bool a0_1] 23 (0, 0)) (by (with_reducible repeat (first | refine blk_drewN ?_ _ | refine blk_drew ?_ | refine blk_alloc ?_ _)); exact BK368.out)) : gb370 ≠ gb368)); have n8_ := Aside0.mk ((by rw [hg]; exact Nat.ne_of_lt (blk_lt (g := gb369) (o := .cells #[.int .i64 a1_0, .bool a1_1] 23 (0, 0)) (by (with_reducible repeat (first | refine blk_drewN ?_ _ | refine blk_drew ?_ | refine blk_alloc ?_ _)); exact BK369.out)) : gb369 ≠ gb370)); have n9_ := Aside0.mk ((by rw [hg]; exact Nat.ne_of_gt (blk_lt (g := gb369) (o := .cells #[.int .i64 a1_0, .bool a1_1] 23 (0, 0)) (by (with_reducible repeat (first | refine blk_drewN ?_ _ | refine blk_drew ?_ | refine blk_alloc ?_ _)); exact BK369.out)) : gb370 ≠ gb369)); clear BK368; clear BK369; clear HB; have BK368 := n0_; have BK369 := n1_; have HB := n2_; have BK370 := n3_; have GW370 := n4_; have GE370 := n5_; have NB368_370 := n6_; have NB370_368 := n7_; have NB369_370 := n8_; have NB370_369 := n9_; clear n0_ n1_ n2_ n3_ n4_ n5_ n6_ n7_ n8_ n9_; clear hb hbox hg) | ((with_reducible refine gate_dst (N := 6) rfl ?_); refine box_event ?hg (N := 6) ?hd (cs := #[.int .i64 0, .bool false]) (t := 23) ?hr ?_; (case hd => rfl); (case hg => rfl); (case hr => first | (go_simp; done) | (go_simp; rfl)); intro gb371 hg w9 hbox hb; have n0_ := Aside0.mk (blk_below (g := gb368) (o := .cells #[.int .i64 a0_0, .bool a0_1] 23 (0, 0)) (by (with_reducible repeat (first | refine blk_drewN ?_ _ | refine blk_drew ?_ | refine blk_alloc ?_ _)); exact BK368.out) hb); have n1_ := Aside0.mk (blk_below (g := gb369) (o := .cells #[.int .i64 a1_0, .bool a1_1] 23 (0, 0)) (by (with_reducible repeat (first | refine blk_drewN ?_ _ | refine blk_drew ?_ | refine blk_alloc ?_ _)); exact BK369.out) hb); have n2_ := Aside0.mk (blk_below (g := gb370) (o := .cells #[.int .i64 a2_0, .bool a2_1] 23 (0, 0)) (by (with_reducible repeat (first | refine blk_drewN ?_ _ | refine blk_drew ?_ | refine blk_alloc ?_ _)); exact BK370.out) hb); have n3_ := Aside0.mk (below_step (by repeat (first | (with_reducible first | exact HB.out | apply below_alloc | apply pw_below_drewN | apply below_drew1 | refine below_set ?_ GE368.out | refine below_set ?_ GE369.out | refine below_set ?_ GE370.out) | exact HB.out)) hb); have n4_ := Aside0.mk (hbox); have n5_ := Aside0.mk ((by rw [hg]; exact (below_size (by repeat (first | (with_reducible first | exact HB.out | apply below_alloc | apply pw_below_drewN | apply below_drew1 | refine below_set ?_ GE368.out | refine below_set ?_ GE369.out | refine below_set ?_ GE370.out) | exact HB.out))) : w.heap.size ≤ gb371)); have n6_ := Aside0.mk ((by rw [hg]; exact (below_size (by repeat (first | (with_reducible first | exact HB.out | apply below_alloc | apply pw_below_drewN | apply below_drew1 | refine below_set ?_ GE368.out | refine below_set ?_ GE369.out | refine below_set ?_ GE370.out) | exact HB.out))) : w.heap.size ≤ gb371)); have n7_ := Aside0.mk ((by rw [hg]; exact Nat.ne_of_lt (blk_lt (g := gb368) (o := .cells #[.int .i64 a0_0, .bool a0_1] 23 (0, 0)) (by (with_reducible repeat (first | refine blk_drewN ?_ _ | refine blk_drew ?_ | refine blk_alloc ?_ _)); exact BK368.out)) : gb368 ≠ gb371)); have n8_ := Aside0.mk ((by rw [hg]; exact Nat.ne_of_gt (blk_lt (g := gb368) (o := .cells #[.int .i64 a0_0, .bool a0_1] 23 (0, 0)) (by (with_reducible repeat (first | refine blk_drewN ?_ _ | refine blk_drew ?_ | refine blk_alloc ?_ _)); exact BK368.out)) : gb371 ≠ gb368)); have n9_ := Aside0.mk ((by rw [hg]; exact Nat.ne_of_lt (blk_lt (g := gb369) (o := .cells #[.int .i64 a1_0, .bool a1_1] 23 (0, 0)) (by (with_reducible repeat (first | refine blk_drewN ?_ _ | refine blk_drew ?_ | refine blk_alloc ?_ _)); exact BK369.out)) : gb369 ≠ gb371)); have n10_ := Aside0.mk ((by rw [hg]; exact Nat.ne_of_gt (blk_lt (g := gb369) (o := .cells #[.int .i64 a1_0, .bool a1_1] 23 (0, 0)) (by (with_reducible repeat (first | refine blk_drewN ?_ _ | refine blk_drew ?_ | refine blk_alloc ?_ _)); exact BK369.out)) : gb371 ≠ gb369)); have n11_ := Aside0.mk ((by rw [hg]; exact Nat.ne_of_lt (blk_lt (g := gb370) (o := .cells #[.int .i64 a2_0, .bool a2_1] 23 (0, 0)) (by (with_reducible repeat (first | refine blk_drewN ?_ _ | refine blk_drew ?_ | refine blk_alloc ?_ _)); exact BK370.out)) : gb370 ≠ gb371)); have n12_ := Aside0.mk ((by rw [hg]; exact Nat.ne_of_gt (blk_lt (g := gb370) (o := .cells #[.int .i64 a2_0, .bool a2_1] 23 (0, 0)) (by (with_reducible repeat (first | refine blk_drewN ?_ _ | refine blk_drew ?_ | refine blk_alloc ?_ _)); exact BK370.out)) : gb371 ≠ gb370)); clear BK368; clear BK369; clear BK370; clear HB; have BK368 := n0_; have BK369 := n1_; have BK370 := n2_; have HB := n3_; have BK371 := n4_; have GW371 := n5_; have GE371 := n6_; have NB368_371 := n7_; have NB371_368 := n8_; have NB369_371 := n9_; have NB371_369 := n10_; have NB370_371 := n11_; have NB371_370 := n12_; clear n0_ n1_ n2_ n3_ n4_ n5_ n6_ n7_ n8_ n9_ n10_ n11_ n12_; clear hb hbox hg))
  have n0_ := Aside0.mk (blk_drew BK368.out)
  have n1_ := Aside0.mk (blk_drew BK369.out)
  have n2_ := Aside0.mk (blk_drew BK370.out)
  have n3_ := Aside0.mk (blk_drew BK371.out)
  have n4_ := Aside0.mk (below_drew1 HB.out)
  clear BK368
  clear BK369
  clear BK370
  clear BK371
  clear HB
  have BK368 := n0_
  have BK369 := n1_
  have BK370 := n2_
  have BK371 := n3_
  have HB := n4_
  clear n0_ n1_ n2_ n3_ n4_
  refine start_ (n := 8) (S := fun w' => w'.cell? ⟨gb369, 0, none⟩ = some (.int .i64 a1_0) ∧ w'.cell? ⟨gb369, 1, none⟩ = some (.bool a1_1) ∧ w'.cell? ⟨gb368, 0, none⟩ = some (.int .i64 a0_0) ∧ w'.cell? ⟨gb368, 1, none⟩ = some (.bool a0_1) ∧ w'.cell? ⟨gb370, 0, none⟩ = some (.int .i64 a2_0) ∧ w'.cell? ⟨gb370, 1, none⟩ = some (.bool a2_1)) (ds := []) #[false, false, false, false, false, false, false, false] (by kernel_rfl) rfl rfl ⟨(blk_cell BK369.out 0).trans rfl, (blk_cell BK369.out 1).trans rfl, (blk_cell BK368.out 0).trans rfl, (blk_cell BK368.out 1).trans rfl, (blk_cell BK370.out 0).trans rfl, (blk_cell BK370.out 1).trans rfl⟩ (fun hHeld => ?_); refine with_tabW fixed_Clamp.tab1 fixed_Clamp.bits1 (fun HT_ HW_ => ?_)
  generalize w9.drew = w10 at BK368 BK369 BK370 BK371 HB hHeld ⊢
  refine take_ (i := 0) (N := some 7) (v := ?_) (a' := ?_) #[true, false, false, false, false, false, false, false] rfl rfl (take_ofW HT_.out HW_.out (by kernel_rfl)) (fun _ _ _ h => h) (Or.inl ⟨by rfl, ?_⟩) hHeld ?_ ?_
  rotate_left
  · rintro w' ⟨s0, s1, s2, s3, s4, s5⟩
    go_simp
    with_reducible rfl
  rotate_left
  · simp only [Act.put, List.setIfInBounds_toArray, List.set_cons_zero, List.set_cons_succ, i64_w, i32_w]
    rfl
  refine take_ (i := 1) (N := some 8) (v := ?_) (a' := ?_) #[true, true, false, false, false, false, false, false] rfl rfl (take_ofW HT_.out HW_.out (by kernel_rfl)) (fun _ _ _ h => h) (Or.inl ⟨by rfl, ?_⟩) hHeld ?_ ?_
  rotate_left
  · rintro w' ⟨s0, s1, s2, s3, s4, s5⟩
    go_simp
    with_reducible rfl
  rotate_left
  · simp only [Act.put, List.setIfInBounds_toArray, List.set_cons_zero, List.set_cons_succ, i64_w, i32_w]
    rfl
  refine take_ (i := 2) (N := some 9) (v := ?_) (a' := ?_) #[true, true, true, false, false, false, false, false] rfl rfl (take_ofW HT_.out HW_.out (by kernel_rfl)) (fun _ _ _ h => h) (Or.inl ⟨by rfl, ?_⟩) hHeld ?_ ?_
  rotate_left
  · rintro w' ⟨s0, s1, s2, s3, s4, s5⟩
    go_simp
    with_reducible rfl
  rotate_left
  · simp only [Act.put, List.setIfInBounds_toArray, List.set_cons_zero, List.set_cons_succ, i64_w, i32_w]
    rfl
  refine one_ (i := 3) (N := some 10) #[true, true, true, true, false, false, false, false] rfl rfl (one_of HT_.out (by kernel_rfl)) (by decide) (fun K hK => ?_)
  refine Kd.R_lit_step k23 _ 23 ?hg (N := 10) ?hd (xs := ([(⟨a0_0, a0_1⟩ : S23), (⟨a2_0, a2_1⟩ : S23)] : List (S23))) (inner := [.int .i64 a0_0, .bool a0_1, .int .i64 a2_0, .bool a2_1]) (ok := fun _ => True) (okp := fun _ => True) ?hr ?hp (fun _ hk => hk) trivial (Below.refl _ _) (Nat.le_refl _) (by simp) ?_; (case hd => rfl); (case hg => rfl); (case hr => first | (go_simp; done) | (go_simp; rfl)); (case hp => exact (Reps.c2 (show Kd.M k23 _ _ _ (⟨a0_0, a0_1⟩ : S23) [.int .i64 a0_0, .bool a0_1] from (k23_mkM _ _ _ (⟨a0_0, a0_1⟩ : S23) )) (Reps.c2 (show Kd.M k23 _ _ _ (⟨a2_0, a2_1⟩ : S23) [.int .i64 a2_0, .bool a2_1] from (k23_mkM _ _ _ (⟨a2_0, a2_1⟩ : S23) )) (Reps.none _ _))))
  intro v373 w11 ho12 hb hg_ hnew_
  clear hg_ hnew_
  (first | rw [← Ny372.out] at ho12 | (simp only [Int.reduceToNat] at ho12; rw [← Ny372.out] at ho12))
  have n0_ := Aside0.mk (Kd.R_lower (Kd.R_newB (Kd.R_newB (Kd.R_newB (Kd.R_newB ho12 (g := gb368) (o := .cells #[.int .i64 a0_0, .bool a0_1] 23 (0, 0)) (by (with_reducible repeat (first | refine blk_drewN ?_ _ | refine blk_drew ?_ | refine blk_alloc ?_ _)); exact BK368.out)) (g := gb369) (o := .cells #[.int .i64 a1_0, .bool a1_1] 23 (0, 0)) (by (with_reducible repeat (first | refine blk_drewN ?_ _ | refine blk_drew ?_ | refine blk_alloc ?_ _)); exact BK369.out)) (g := gb370) (o := .cells #[.int .i64 a2_0, .bool a2_1] 23 (0, 0)) (by (with_reducible repeat (first | refine blk_drewN ?_ _ | refine blk_drew ?_ | refine blk_alloc ?_ _)); exact BK370.out)) (g := gb371) (o := .cells #[.int .i64 0, .bool false] 23 (0, 0)) (by (with_reducible repeat (first | refine blk_drewN ?_ _ | refine blk_drew ?_ | refine blk_alloc ?_ _)); exact BK371.out)) (below_size (by repeat (first | (with_reducible first | exact HB.out | apply below_alloc | apply pw_below_drewN | apply below_drew1 | refine below_set ?_ GE368.out | refine below_set ?_ GE369.out | refine below_set ?_ GE370.out | refine below_set ?_ GE371.out) | exact HB.out))))
  have n1_ := Aside0.mk (blk_below (g := gb368) (o := .cells #[.int .i64 a0_0, .bool a0_1] 23 (0, 0)) (by (with_reducible repeat (first | refine blk_drewN ?_ _ | refine blk_drew ?_ | refine blk_alloc ?_ _)); exact BK368.out) hb)
  have n2_ := Aside0.mk (blk_below (g := gb369) (o := .cells #[.int .i64 a1_0, .bool a1_1] 23 (0, 0)) (by (with_reducible repeat (first | refine blk_drewN ?_ _ | refine blk_drew ?_ | refine blk_alloc ?_ _)); exact BK369.out) hb)
  have n3_ := Aside0.mk (blk_below (g := gb370) (o := .cells #[.int .i64 a2_0, .bool a2_1] 23 (0, 0)) (by (with_reducible repeat (first | refine blk_drewN ?_ _ | refine blk_drew ?_ | refine blk_alloc ?_ _)); exact BK370.out) hb)
  have n4_ := Aside0.mk (blk_below (g := gb371) (o := .cells #[.int .i64 0, .bool false] 23 (0, 0)) (by (with_reducible repeat (first | refine blk_drewN ?_ _ | refine blk_drew ?_ | refine blk_alloc ?_ _)); exact BK371.out) hb)
  have n5_ := Aside0.mk (below_step (by repeat (first | (with_reducible first | exact HB.out | apply below_alloc | apply pw_below_drewN | apply below_drew1 | refine below_set ?_ GE368.out | refine below_set ?_ GE369.out | refine below_set ?_ GE370.out | refine below_set ?_ GE371.out) | exact HB.out)) hb)
  clear BK368
  clear BK369
  clear BK370
  clear BK371
  clear HB
  have HO374 := n0_
  have BK368 := n1_
  have BK369 := n2_
  have BK370 := n3_
  have BK371 := n4_
  have HB := n5_
  clear n0_ n1_ n2_ n3_ n4_ n5_
  clear hb ho12
  obtain ⟨Ao13, co13, eo13⟩ := Kd.R_slice HO374.out
  (first | subst eo13 | (injection eo13 with f1_ f2_ f3_; have f4_ := f1_.symm; have f5_ := f3_.symm; clear f1_ f2_ f3_; subst f4_; subst f5_))
  refine hK.out _ _ ⟨(blk_cell BK369.out 0).trans rfl, (blk_cell BK369.out 1).trans rfl, (blk_cell BK368.out 0).trans rfl, (blk_cell BK368.out 1).trans rfl, (blk_cell BK370.out 0).trans rfl, (blk_cell BK370.out 1).trans rfl⟩ (fun hHeld => ?_)
  clear hK K
  refine norm_ (a' := ?_) ?_ ?_
  rotate_left
  · show Act.put _ (some 10) _ = _
    simp only [Act.put, List.setIfInBounds_toArray, List.set_cons_zero, List.set_cons_succ, i64_w, i32_w]
    rfl
  refine one_ (i := 4) (N := some 11) #[true, true, true, true, true, false, false, false] rfl rfl (one_of HT_.out (by kernel_rfl)) (by decide) (fun K hK => ?_)
  refine goes_ Try.func28 (by kernel_rfl) rfl #[.slice Ao13 y372.length co13] (by rfl) rfl rfl (by (try simp only [List.map_toArray, List.map_cons, List.map_nil]); first | done | rfl | (simp only [List.length_drop, List.length_take]; rfl)) ?_
  with_reducible refine (fixed_Min.calls k _ _ y372 t375 t376 _ ?side1 ?side2 A4.out).mono ?_
  (case side1 => repeat (first | exact (Kd.R_reads' HO374.out).2.2 | (with_reducible refine Kd.C_alloc ?_ _) | (with_reducible refine Kd.C_drewN ?_ _) | (with_reducible refine Kd.C_drew ?_)))
  (case side2 => exact (Kd.R_reads' HO374.out).2.1)
  rintro e w14 ⟨rfl, hb⟩
  refine ⟨_, rfl, ?_⟩
  have n0_ := Aside0.mk (Kd.R_below (by (with_reducible repeat (first | apply Kd.R_alloc | apply Kd.R_drewN | apply Kd.R_drew)); exact HO374.out) hb)
  have n1_ := Aside0.mk (blk_below (g := gb368) (o := .cells #[.int .i64 a0_0, .bool a0_1] 23 (0, 0)) (by (with_reducible repeat (first | refine blk_drewN ?_ _ | refine blk_drew ?_ | refine blk_alloc ?_ _)); exact BK368.out) hb)
  have n2_ := Aside0.mk (blk_below (g := gb369) (o := .cells #[.int .i64 a1_0, .bool a1_1] 23 (0, 0)) (by (with_reducible repeat (first | refine blk_drewN ?_ _ | refine blk_drew ?_ | refine blk_alloc ?_ _)); exact BK369.out) hb)
  have n3_ := Aside0.mk (blk_below (g := gb370) (o := .cells #[.int .i64 a2_0, .bool a2_1] 23 (0, 0)) (by (with_reducible repeat (first | refine blk_drewN ?_ _ | refine blk_drew ?_ | refine blk_alloc ?_ _)); exact BK370.out) hb)
  have n4_ := Aside0.mk (blk_below (g := gb371) (o := .cells #[.int .i64 0, .bool false] 23 (0, 0)) (by (with_reducible repeat (first | refine blk_drewN ?_ _ | refine blk_drew ?_ | refine blk_alloc ?_ _)); exact BK371.out) hb)
  have n5_ := Aside0.mk (below_step (by repeat (first | (with_reducible first | exact HB.out | apply below_alloc | apply pw_below_drewN | apply below_drew1 | refine below_set ?_ GE368.out | refine below_set ?_ GE369.out | refine below_set ?_ GE370.out | refine below_set ?_ GE371.out) | exact HB.out)) hb)
  clear HO374
  clear BK368
  clear BK369
  clear BK370
  clear BK371
  clear HB
  have HO374 := n0_
  have BK368 := n1_
  have BK369 := n2_
  have BK370 := n3_
  have BK371 := n4_
  have HB := n5_
  clear n0_ n1_ n2_ n3_ n4_ n5_
  (try clear hb)
  (try clear hb2)
  (try clear hk)
  (try clear hi)
  refine hK.out _ _ ⟨(blk_cell BK369.out 0).trans rfl, (blk_cell BK369.out 1).trans rfl, (blk_cell BK368.out 0).trans rfl, (blk_cell BK368.out 1).trans rfl, (blk_cell BK370.out 0).trans rfl, (blk_cell BK370.out 1).trans rfl⟩ (fun hHeld => ?_)
  clear hK K
  refine norm_ (a' := ?_) ?_ ?_
  rotate_left
  · show Act.put _ (some 11) _ = _
    simp only [Act.put, List.setIfInBounds_toArray, List.set_cons_zero, List.set_cons_succ, i64_w, i32_w]
    rfl
  refine one_ (i := 5) (N := some 12) #[true, true, true, true, true, true, false, false] rfl rfl (one_of HT_.out (by kernel_rfl)) (by decide) (fun K hK => ?_)
  refine Kd.R_lit_step k23 _ 23 ?hg (N := 12) ?hd (xs := ([(⟨a1_0, a1_1⟩ : S23), (⟨t375, t376⟩ : S23)] : List (S23))) (inner := [.int .i64 a1_0, .bool a1_1, .int .i64 t375, .bool t376]) (ok := fun _ => True) (okp := fun _ => True) ?hr ?hp (fun _ hk => hk) trivial (Below.refl _ _) (Nat.le_refl _) (by simp) ?_; (case hd => rfl); (case hg => rfl); (case hr => first | (go_simp; done) | (go_simp; rfl)); (case hp => exact (Reps.c2 (show Kd.M k23 _ _ _ (⟨a1_0, a1_1⟩ : S23) [.int .i64 a1_0, .bool a1_1] from (k23_mkM _ _ _ (⟨a1_0, a1_1⟩ : S23) )) (Reps.c2 (show Kd.M k23 _ _ _ (⟨t375, t376⟩ : S23) [.int .i64 t375, .bool t376] from (k23_mkM _ _ _ (⟨t375, t376⟩ : S23) )) (Reps.none _ _))))
  intro v378 w15 ho16 hb hg_ hnew_
  clear hg_ hnew_
  (first | rw [← Ny377.out] at ho16 | (simp only [Int.reduceToNat] at ho16; rw [← Ny377.out] at ho16))
  have n0_ := Aside0.mk (Kd.R_elder' (by (with_reducible repeat (first | apply Kd.R_alloc | apply Kd.R_drewN | apply Kd.R_drew)); exact HO374.out) (Kd.R_base ho16) hb)
  have n1_ := Aside0.mk (Kd.R_lower (Kd.R_newB (Kd.R_newB (Kd.R_newB (Kd.R_newB (Kd.R_new' ho16 (Kd.R_lt (by (with_reducible repeat (first | apply Kd.R_alloc | apply Kd.R_drewN | apply Kd.R_drew)); exact HO374.out))) (g := gb368) (o := .cells #[.int .i64 a0_0, .bool a0_1] 23 (0, 0)) (by (with_reducible repeat (first | refine blk_drewN ?_ _ | refine blk_drew ?_ | refine blk_alloc ?_ _)); exact BK368.out)) (g := gb369) (o := .cells #[.int .i64 a1_0, .bool a1_1] 23 (0, 0)) (by (with_reducible repeat (first | refine blk_drewN ?_ _ | refine blk_drew ?_ | refine blk_alloc ?_ _)); exact BK369.out)) (g := gb370) (o := .cells #[.int .i64 a2_0, .bool a2_1] 23 (0, 0)) (by (with_reducible repeat (first | refine blk_drewN ?_ _ | refine blk_drew ?_ | refine blk_alloc ?_ _)); exact BK370.out)) (g := gb371) (o := .cells #[.int .i64 0, .bool false] 23 (0, 0)) (by (with_reducible repeat (first | refine blk_drewN ?_ _ | refine blk_drew ?_ | refine blk_alloc ?_ _)); exact BK371.out)) (below_size (by repeat (first | (with_reducible first | exact HB.out | apply below_alloc | apply pw_below_drewN | apply below_drew1 | refine below_set ?_ GE368.out | refine below_set ?_ GE369.out | refine below_set ?_ GE370.out | refine below_set ?_ GE371.out) | exact HB.out))))
  have n2_ := Aside0.mk (blk_below (g := gb368) (o := .cells #[.int .i64 a0_0, .bool a0_1] 23 (0, 0)) (by (with_reducible repeat (first | refine blk_drewN ?_ _ | refine blk_drew ?_ | refine blk_alloc ?_ _)); exact BK368.out) hb)
  have n3_ := Aside0.mk (blk_below (g := gb369) (o := .cells #[.int .i64 a1_0, .bool a1_1] 23 (0, 0)) (by (with_reducible repeat (first | refine blk_drewN ?_ _ | refine blk_drew ?_ | refine blk_alloc ?_ _)); exact BK369.out) hb)
  have n4_ := Aside0.mk (blk_below (g := gb370) (o := .cells #[.int .i64 a2_0, .bool a2_1] 23 (0, 0)) (by (with_reducible repeat (first | refine blk_drewN ?_ _ | refine blk_drew ?_ | refine blk_alloc ?_ _)); exact BK370.out) hb)
  have n5_ := Aside0.mk (blk_below (g := gb371) (o := .cells #[.int .i64 0, .bool false] 23 (0, 0)) (by (with_reducible repeat (first | refine blk_drewN ?_ _ | refine blk_drew ?_ | refine blk_alloc ?_ _)); exact BK371.out) hb)
  have n6_ := Aside0.mk (below_step (by repeat (first | (with_reducible first | exact HB.out | apply below_alloc | apply pw_below_drewN | apply below_drew1 | refine below_set ?_ GE368.out | refine below_set ?_ GE369.out | refine below_set ?_ GE370.out | refine below_set ?_ GE371.out) | exact HB.out)) hb)
  clear HO374
  clear BK368
  clear BK369
  clear BK370
  clear BK371
  clear HB
  have HO374 := n0_
  have HO379 := n1_
  have BK368 := n2_
  have BK369 := n3_
  have BK370 := n4_
  have BK371 := n5_
  have HB := n6_
  clear n0_ n1_ n2_ n3_ n4_ n5_ n6_
  clear hb ho16
  obtain ⟨Ao17, co17, eo17⟩ := Kd.R_slice HO379.out
  (first | subst eo17 | (injection eo17 with f1_ f2_ f3_; have f4_ := f1_.symm; have f5_ := f3_.symm; clear f1_ f2_ f3_; subst f4_; subst f5_))
  refine hK.out _ _ ⟨(blk_cell BK369.out 0).trans rfl, (blk_cell BK369.out 1).trans rfl, (blk_cell BK368.out 0).trans rfl, (blk_cell BK368.out 1).trans rfl, (blk_cell BK370.out 0).trans rfl, (blk_cell BK370.out 1).trans rfl⟩ (fun hHeld => ?_)
  clear hK K
  refine norm_ (a' := ?_) ?_ ?_
  rotate_left
  · show Act.put _ (some 12) _ = _
    simp only [Act.put, List.setIfInBounds_toArray, List.set_cons_zero, List.set_cons_succ, i64_w, i32_w]
    rfl
  refine one_ (i := 6) (N := some 13) #[true, true, true, true, true, true, true, false] rfl rfl (one_of HT_.out (by kernel_rfl)) (by decide) (fun K hK => ?_)
  refine goes_ Try.func30 (by kernel_rfl) rfl #[.slice Ao17 y377.length co17] (by rfl) rfl rfl (by (try simp only [List.map_toArray, List.map_cons, List.map_nil]); first | done | rfl | (simp only [List.length_drop, List.length_take]; rfl)) ?_
  with_reducible refine (fixed_Max.calls k _ _ y377 t380 t381 _ ?side1 ?side2 A5.out).mono ?_
  (case side1 => repeat (first | exact (Kd.R_reads' HO379.out).2.2 | (with_reducible refine Kd.C_alloc ?_ _) | (with_reducible refine Kd.C_drewN ?_ _) | (with_reducible refine Kd.C_drew ?_)))
  (case side2 => exact (Kd.R_reads' HO379.out).2.1)
  rintro e w18 ⟨rfl, hb⟩
  refine ⟨_, rfl, ?_⟩
  have n0_ := Aside0.mk (Kd.R_below (by (with_reducible repeat (first | apply Kd.R_alloc | apply Kd.R_drewN | apply Kd.R_drew)); exact HO374.out) hb)
  have n1_ := Aside0.mk (Kd.R_below (by (with_reducible repeat (first | apply Kd.R_alloc | apply Kd.R_drewN | apply Kd.R_drew)); exact HO379.out) hb)
  have n2_ := Aside0.mk (blk_below (g := gb368) (o := .cells #[.int .i64 a0_0, .bool a0_1] 23 (0, 0)) (by (with_reducible repeat (first | refine blk_drewN ?_ _ | refine blk_drew ?_ | refine blk_alloc ?_ _)); exact BK368.out) hb)
  have n3_ := Aside0.mk (blk_below (g := gb369) (o := .cells #[.int .i64 a1_0, .bool a1_1] 23 (0, 0)) (by (with_reducible repeat (first | refine blk_drewN ?_ _ | refine blk_drew ?_ | refine blk_alloc ?_ _)); exact BK369.out) hb)
  have n4_ := Aside0.mk (blk_below (g := gb370) (o := .cells #[.int .i64 a2_0, .bool a2_1] 23 (0, 0)) (by (with_reducible repeat (first | refine blk_drewN ?_ _ | refine blk_drew ?_ | refine blk_alloc ?_ _)); exact BK370.out) hb)
  have n5_ := Aside0.mk (blk_below (g := gb371) (o := .cells #[.int .i64 0, .bool false] 23 (0, 0)) (by (with_reducible repeat (first | refine blk_drewN ?_ _ | refine blk_drew ?_ | refine blk_alloc ?_ _)); exact BK371.out) hb)
  have n6_ := Aside0.mk (below_step (by repeat (first | (with_reducible first | exact HB.out | apply below_alloc | apply pw_below_drewN | apply below_drew1 | refine below_set ?_ GE368.out | refine below_set ?_ GE369.out | refine below_set ?_ GE370.out | refine below_set ?_ GE371.out) | exact HB.out)) hb)
  clear HO374
  clear HO379
  clear BK368
  clear BK369
  clear BK370
  clear BK371
  clear HB
  have HO374 := n0_
  have HO379 := n1_
  have BK368 := n2_
  have BK369 := n3_
  have BK370 := n4_
  have BK371 := n5_
  have HB := n6_
  clear n0_ n1_ n2_ n3_ n4_ n5_ n6_
  (try clear hb)
  (try clear hb2)
  (try clear hk)
  (try clear hi)
  refine hK.out _ _ ⟨(blk_cell BK369.out 0).trans rfl, (blk_cell BK369.out 1).trans rfl, (blk_cell BK368.out 0).trans rfl, (blk_cell BK368.out 1).trans rfl, (blk_cell BK370.out 0).trans rfl, (blk_cell BK370.out 1).trans rfl⟩ (fun hHeld => ?_)
  clear hK K
  refine norm_ (a' := ?_) ?_ ?_
  rotate_left
  · show Act.put _ (some 13) _ = _
    simp only [Act.put, List.setIfInBounds_toArray, List.set_cons_zero, List.set_cons_succ, i64_w, i32_w]
    rfl
  refine one_ (i := 7) (N := none) #[true, true, true, true, true, true, true, true] rfl rfl (one_of HT_.out (by kernel_rfl)) (by decide) (fun K hK => ?_)
  have hs19 : w18.cell? ⟨gb371, 0, none⟩ = some (.int .i64 0) := (blk_cell BK371.out 0).trans rfl
  have hfs19 := blk_frozen BK371.out 0
  have hns19_0 := NB368_371.out
  have hns19_1 := NB369_371.out
  have hns19_2 := NB370_371.out
  have hms19_0 := NB371_368.out
  have hms19_1 := NB371_369.out
  have hms19_2 := NB371_370.out
  have hs20 : w18.cell? ⟨gb371, 1, none⟩ = some (.bool false) := (blk_cell BK371.out 1).trans rfl
  have hfs20 := blk_frozen BK371.out 1
  have hns20_0 := NB368_371.out
  have hns20_1 := NB369_371.out
  have hns20_2 := NB370_371.out
  have hms20_0 := NB371_368.out
  have hms20_1 := NB371_369.out
  have hms20_2 := NB371_370.out
  refine skip_ (w1 := ?_) (by rfl) rfl ?_ ?_
  rotate_left
  · go_simp
    rfl
  refine hK.out _ _ ⟨((cell_far (p := ⟨gb371, _, none⟩) NB369_371.out _).trans (((cell_far (p := ⟨gb371, _, none⟩) NB369_371.out _).trans (hHeld.1)))), ((cell_far (p := ⟨gb371, _, none⟩) NB369_371.out _).trans (((cell_far (p := ⟨gb371, _, none⟩) NB369_371.out _).trans (hHeld.2.1)))), ((cell_far (p := ⟨gb371, _, none⟩) NB368_371.out _).trans (((cell_far (p := ⟨gb371, _, none⟩) NB368_371.out _).trans (hHeld.2.2.1)))), ((cell_far (p := ⟨gb371, _, none⟩) NB368_371.out _).trans (((cell_far (p := ⟨gb371, _, none⟩) NB368_371.out _).trans (hHeld.2.2.2.1)))), ((cell_far (p := ⟨gb371, _, none⟩) NB370_371.out _).trans (((cell_far (p := ⟨gb371, _, none⟩) NB370_371.out _).trans (hHeld.2.2.2.2.1)))), ((cell_far (p := ⟨gb371, _, none⟩) NB370_371.out _).trans (((cell_far (p := ⟨gb371, _, none⟩) NB370_371.out _).trans (hHeld.2.2.2.2.2))))⟩ (fun hHeld => ?_)
  clear hK K
  refine done_ (done_of HT_.out (by kernel_rfl)) ?_
  try go_wp2
  refine bodyPost_ret (results_cell_row rfl _ _ gb371 23 #[.int .i64 t380, .bool t381] (0, 0) _ rfl (by (with_reducible repeat (first | refine blk_drewN ?_ _ | refine blk_drew ?_ | refine blk_alloc ?_ _)); refine blk_put (cs := #[.int .i64 t380, .bool false]) ?_ 1 _ rfl; (with_reducible repeat (first | refine blk_drewN ?_ _ | refine blk_drew ?_ | refine blk_alloc ?_ _)); refine blk_put (cs := #[.int .i64 0, .bool false]) ?_ 0 _ rfl; (with_reducible repeat (first | refine blk_drewN ?_ _ | refine blk_drew ?_ | refine blk_alloc ?_ _)); exact BK371.out) Try.underlying23 rfl (by kernel_rfl)) rfl ?_
  exact ⟨by first | rfl | (simp [errW_none, errW_some] <;> rfl) | (simp [*, errW_none, errW_some] <;> rfl), by repeat (first | (with_reducible first | exact HB.out | apply below_alloc | apply pw_below_drewN | apply below_drew1 | refine below_set ?_ GE368.out | refine below_set ?_ GE369.out | refine below_set ?_ GE370.out | refine below_set ?_ GE371.out) | exact HB.out)⟩
def fixed_Wrap.f (a0_0 : Int) (a0_1 : Bool) : Option (Int × Bool) := (fixed_sound.f a0_0 a0_1).bind fun bt384 => (if (Int.tmod bt384.1 26986075409) > 13493037704 then (some (wrap64 ((Int.tmod bt384.1 26986075409) - 26986075409), bt384.2)) else (if (Int.tmod bt384.1 26986075409) < (-13493037704) then (some (wrap64 ((Int.tmod bt384.1 26986075409) + 26986075409), bt384.2)) else (some (Int.tmod bt384.1 26986075409, bt384.2))))
set_option maxHeartbeats 8000000 in
set_option maxRecDepth 100000 in
theorem fixed_Wrap.calls (a0_0 : Int) (a0_1 : Bool) (r1 : Int) (r2 : Bool) (w : World) (h : fixed_Wrap.f a0_0 a0_1 = some (r1, r2)) :
    Calls Try.prog 45 #[.agg #[.int .i64 a0_0, .bool a0_1]] w fun e w' => e = .returned (.agg #[.int .i64 r1, .bool r2]) ∧ Below w.heap.size w w' := by
  have hu23 := Try.underlying23
  have HB := Aside0.mk (Below.refl w.heap.size w)
  have H : ((fixed_sound.f a0_0 a0_1).bind fun bt384 => (if (Int.tmod bt384.1 26986075409) > 13493037704 then (some (wrap64 ((Int.tmod bt384.1 26986075409) - 26986075409), bt384.2)) else (if (Int.tmod bt384.1 26986075409) < (-13493037704) then (some (wrap64 ((Int.tmod bt384.1 26986075409) + 26986075409), bt384.2)) else (some (Int.tmod bt384.1 26986075409, bt384.2))))) = some (r1, r2) := h
  clear h
  replace H := Option.bind_eq_some_iff.mp H
  obtain ⟨⟨t384, t385⟩, A20, H⟩ := H
  replace H : (if (Int.tmod t384 26986075409) > 13493037704 then (some (wrap64 ((Int.tmod t384 26986075409) - 26986075409), t385)) else (if (Int.tmod t384 26986075409) < (-13493037704) then (some (wrap64 ((Int.tmod t384 26986075409) + 26986075409), t385)) else (some (Int.tmod t384 26986075409, t385)))) = some (r1, r2) := H
  have A2 := Aside0.mk A20
  clear A20
  by_cases c3 : (Int.tmod t384 26986075409) > 13493037704
  · rw [if_pos c3] at H
    have c3b0 : decide (13493037704 < (Int.tmod t384 26986075409)) = true := decide_eq_true c3
    clear c3
    simp only [Option.some.injEq, Prod.mk.injEq] at H
    obtain ⟨rfl, rfl⟩ := H
    go_enter Try.func45, Try.ntmps45
    go_wp2_with (first | ((with_reducible refine gate_dst (N := 1) rfl ?_); refine box_event ?hg (N := 1) ?hd (cs := #[.int .i64 a0_0, .bool a0_1]) (t := 23) ?hr ?_; (case hd => rfl); (case hg => rfl); (case hr => first | (go_simp; done) | (go_simp; rfl)); intro gb382 hg w4 hbox hb; have n0_ := Aside0.mk (below_step (by repeat (first | (with_reducible first | exact HB.out | apply below_alloc | apply pw_below_drewN | apply below_drew1) | exact HB.out)) hb); have n1_ := Aside0.mk (hbox); have n2_ := Aside0.mk ((by rw [hg]; exact (below_size (by repeat (first | (with_reducible first | exact HB.out | apply below_alloc | apply pw_below_drewN | apply below_drew1) | exact HB.out))) : w.heap.size ≤ gb382)); have n3_ := Aside0.mk ((by rw [hg]; exact (below_size (by repeat (first | (with_reducible first | exact HB.out | apply below_alloc | apply pw_below_drewN | apply below_drew1) | exact HB.out))) : w.heap.size ≤ gb382)); clear HB; have HB := n0_; have BK382 := n1_; have GW382 := n2_; have GE382 := n3_; clear n0_ n1_ n2_ n3_; clear hb hbox hg) | ((with_reducible refine gate_dst (N := 2) rfl ?_); refine box_event ?hg (N := 2) ?hd (cs := #[.int .i64 0, .bool false]) (t := 23) ?hr ?_; (case hd => rfl); (case hg => rfl); (case hr => first | (go_simp; done) | (go_simp; rfl)); intro gb383 hg w5 hbox hb; have n0_ := Aside0.mk (blk_below (g := gb382) (o := .cells #[.int .i64 a0_0, .bool a0_1] 23 (0, 0)) (by (with_reducible repeat (first | refine blk_drewN ?_ _ | refine blk_drew ?_ | refine blk_alloc ?_ _)); exact BK382.out) hb); have n1_ := Aside0.mk (below_step (by repeat (first | (with_reducible first | exact HB.out | apply below_alloc | apply pw_below_drewN | apply below_drew1 | refine below_set ?_ GE382.out) | exact HB.out)) hb); have n2_ := Aside0.mk (hbox); have n3_ := Aside0.mk ((by rw [hg]; exact (below_size (by repeat (first | (with_reducible first | exact HB.out | apply below_alloc | apply pw_below_drewN | apply below_drew1 | refine below_set ?_ GE382.out) | exact HB.out))) : w.heap.size ≤ gb383)); have n4_ := Aside0.mk ((by rw [hg]; exact (below_size (by repeat (first | (with_reducible first | exact HB.out | apply below_alloc | apply pw_below_drewN | apply below_drew1 | refine below_set ?_ GE382.out) | exact HB.out))) : w.heap.size ≤ gb383)); have n5_ := Aside0.mk ((by rw [hg]; exact Nat.ne_of_lt (blk_lt (g := gb382) (o := .cells #[.int .i64 a0_0, .bool a0_1] 23 (0, 0)) (by (with_reducible repeat (first | refine blk_drewN ?_ _ | refine blk_drew ?_ | refine blk_alloc ?_ _)); exact BK382.out)) : gb382 ≠ gb383)); have n6_ := Aside0.mk ((by rw [hg]; exact Nat.ne_of_gt (blk_lt (g := gb382) (o := .cells #[.int .i64 a0_0, .bool a0_1] 23 (0, 0)) (by (with_reducible repeat (first | refine blk_drewN ?_ _ | refine blk_drew ?_ | refine blk_alloc ?_ _)); exact BK382.out)) : gb383 ≠ gb382)); clear BK382; clear HB; have BK382 := n0_; have HB := n1_; have BK383 := n2_; have GW383 := n3_; have GE383 := n4_; have NB382_383 := n5_; have NB383_382 := n6_; clear n0_ n1_ n2_ n3_ n4_ n5_ n6_; clear hb hbox hg; have hnb6 := NB382_383.out; have hnc6 := NB383_382.out; have hcz7_0 : w5.cell? ⟨gb382, 0, none⟩ = some (.int .i64 a0_0) := (blk_cell BK382.out 0).trans rfl; have hcz7_1 : w5.cell? ⟨gb382, 1, none⟩ = some (.bool a0_1) := (blk_cell BK382.out 1).trans rfl; have hfz7_0 := blk_frozen BK382.out 0; have hfz7_1 := blk_frozen BK382.out 1) | ((with_reducible refine gate_callee (f := 72) rfl ?_); refine goesL_ (some 5) rfl rfl Try.func72 (by kernel_rfl) rfl #[.agg #[.int .i64 a0_0, .bool a0_1]] rfl (by (try simp only [List.map_toArray, List.map_cons, List.map_nil]); first | done | rfl | (simp only [List.length_drop, List.length_take]; rfl)) ?_; (with_reducible refine (fixed_sound.calls a0_0 a0_1 t384 t385 _ A2.out).mono ?_); rintro e w8 ⟨rfl, hb⟩; refine ⟨_, rfl, ?_⟩; have n0_ := Aside0.mk (blk_below (g := gb382) (o := .cells #[.int .i64 a0_0, .bool a0_1] 23 (0, 0)) (by (with_reducible repeat (first | refine blk_drewN ?_ _ | refine blk_drew ?_ | refine blk_alloc ?_ _)); exact BK382.out) hb); have n1_ := Aside0.mk (blk_below (g := gb383) (o := .cells #[.int .i64 0, .bool false] 23 (0, 0)) (by (with_reducible repeat (first | refine blk_drewN ?_ _ | refine blk_drew ?_ | refine blk_alloc ?_ _)); exact BK383.out) hb); have n2_ := Aside0.mk (below_step (by repeat (first | (with_reducible first | exact HB.out | apply below_alloc | apply pw_below_drewN | apply below_drew1 | refine below_set ?_ GE382.out | refine below_set ?_ GE383.out) | exact HB.out)) hb); clear BK382; clear BK383; clear HB; have BK382 := n0_; have BK383 := n1_; have HB := n2_; clear n0_ n1_ n2_; (try clear hb); (try clear hb2); (try clear hk); (try clear hi); have hcz9_0 : w8.cell? ⟨gb382, 0, none⟩ = some (.int .i64 a0_0) := (blk_cell BK382.out 0).trans rfl; have hcz9_1 : w8.cell? ⟨gb382, 1, none⟩ = some (.bool a0_1) := (blk_cell BK382.out 1).trans rfl; have hfz9_0 := blk_frozen BK382.out 0; have hfz9_1 := blk_frozen BK382.out 1; have hcz10_0 : w8.cell? ⟨gb383, 0, none⟩ = some (.int .i64 0) := (blk_cell BK383.out 0).trans rfl; have hcz10_1 : w8.cell? ⟨gb383, 1, none⟩ = some (.bool false) := (blk_cell BK383.out 1).trans rfl; have hfz10_0 := blk_frozen BK383.out 0; have hfz10_1 := blk_frozen BK383.out 1))
    refine bodyPost_ret (results_cell_row rfl _ _ gb383 23 #[.int .i64 (wrap64 ((Int.tmod t384 26986075409) - 26986075409)), .bool t385] (0, 0) _ rfl (by (with_reducible repeat (first | refine blk_drewN ?_ _ | refine blk_drew ?_ | refine blk_alloc ?_ _)); refine blk_put (cs := #[.int .i64 (wrap64 ((Int.tmod t384 26986075409) - 26986075409)), .bool false]) ?_ 1 _ rfl; (with_reducible repeat (first | refine blk_drewN ?_ _ | refine blk_drew ?_ | refine blk_alloc ?_ _)); refine blk_put (cs := #[.int .i64 0, .bool false]) ?_ 0 _ rfl; (with_reducible repeat (first | refine blk_drewN ?_ _ | refine blk_drew ?_ | refine blk_alloc ?_ _)); refine blk_far ?_ NB383_382.out _; (with_reducible repeat (first | refine blk_drewN ?_ _ | refine blk_drew ?_ | refine blk_alloc ?_ _)); refine blk_far ?_ NB383_382.out _; (with_reducible repeat (first | refine blk_drewN ?_ _ | refine blk_drew ?_ | refine blk_alloc ?_ _)); exact BK383.out) Try.underlying23 rfl (by kernel_rfl)) rfl ?_
    exact ⟨by first | rfl | (simp [errW_none, errW_some] <;> rfl) | (simp [*, errW_none, errW_some] <;> rfl), by repeat (first | (with_reducible first | exact HB.out | apply below_alloc | apply pw_below_drewN | apply below_drew1 | refine below_set ?_ GE382.out | refine below_set ?_ GE383.out) | exact HB.out)⟩
  · rw [if_neg c3] at H
    have c3b0 : decide (13493037704 < (Int.tmod t384 26986075409)) = false := decide_eq_false c3
    clear c3
    by_cases c11 : (Int.tmod t384 26986075409) < (-13493037704)
    · rw [if_pos c11] at H
      have c11b0 : decide ((Int.tmod t384 26986075409) < (-13493037704)) = true := decide_eq_true c11
      clear c11
      simp only [Option.some.injEq, Prod.mk.injEq] at H
      obtain ⟨rfl, rfl⟩ := H
      go_enter Try.func45, Try.ntmps45
      go_wp2_with (first | ((with_reducible refine gate_dst (N := 1) rfl ?_); refine box_event ?hg (N := 1) ?hd (cs := #[.int .i64 a0_0, .bool a0_1]) (t := 23) ?hr ?_; (case hd => rfl); (case hg => rfl); (case hr => first | (go_simp; done) | (go_simp; rfl)); intro gb382 hg w12 hbox hb; have n0_ := Aside0.mk (below_step (by repeat (first | (with_reducible first | exact HB.out | apply below_alloc | apply pw_below_drewN | apply below_drew1) | exact HB.out)) hb); have n1_ := Aside0.mk (hbox); have n2_ := Aside0.mk ((by rw [hg]; exact (below_size (by repeat (first | (with_reducible first | exact HB.out | apply below_alloc | apply pw_below_drewN | apply below_drew1) | exact HB.out))) : w.heap.size ≤ gb382)); have n3_ := Aside0.mk ((by rw [hg]; exact (below_size (by repeat (first | (with_reducible first | exact HB.out | apply below_alloc | apply pw_below_drewN | apply below_drew1) | exact HB.out))) : w.heap.size ≤ gb382)); clear HB; have HB := n0_; have BK382 := n1_; have GW382 := n2_; have GE382 := n3_; clear n0_ n1_ n2_ n3_; clear hb hbox hg) | ((with_reducible refine gate_dst (N := 2) rfl ?_); refine box_event ?hg (N := 2) ?hd (cs := #[.int .i64 0, .bool false]) (t := 23) ?hr ?_; (case hd => rfl); (case hg => rfl); (case hr => first | (go_simp; done) | (go_simp; rfl)); intro gb383 hg w13 hbox hb; have n0_ := Aside0.mk (blk_below (g := gb382) (o := .cells #[.int .i64 a0_0, .bool a0_1] 23 (0, 0)) (by (with_reducible repeat (first | refine blk_drewN ?_ _ | refine blk_drew ?_ | refine blk_alloc ?_ _)); exact BK382.out) hb); have n1_ := Aside0.mk (below_step (by repeat (first | (with_reducible first | exact HB.out | apply below_alloc | apply pw_below_drewN | apply below_drew1 | refine below_set ?_ GE382.out) | exact HB.out)) hb); have n2_ := Aside0.mk (hbox); have n3_ := Aside0.mk ((by rw [hg]; exact (below_size (by repeat (first | (with_reducible first | exact HB.out | apply below_alloc | apply pw_below_drewN | apply below_drew1 | refine below_set ?_ GE382.out) | exact HB.out))) : w.heap.size ≤ gb383)); have n4_ := Aside0.mk ((by rw [hg]; exact (below_size (by repeat (first | (with_reducible first | exact HB.out | apply below_alloc | apply pw_below_drewN | apply below_drew1 | refine below_set ?_ GE382.out) | exact HB.out))) : w.heap.size ≤ gb383)); have n5_ := Aside0.mk ((by rw [hg]; exact Nat.ne_of_lt (blk_lt (g := gb382) (o := .cells #[.int .i64 a0_0, .bool a0_1] 23 (0, 0)) (by (with_reducible repeat (first | refine blk_drewN ?_ _ | refine blk_drew ?_ | refine blk_alloc ?_ _)); exact BK382.out)) : gb382 ≠ gb383)); have n6_ := Aside0.mk ((by rw [hg]; exact Nat.ne_of_gt (blk_lt (g := gb382) (o := .cells #[.int .i64 a0_0, .bool a0_1] 23 (0, 0)) (by (with_reducible repeat (first | refine blk_drewN ?_ _ | refine blk_drew ?_ | refine blk_alloc ?_ _)); exact BK382.out)) : gb383 ≠ gb382)); clear BK382; clear HB; have BK382 := n0_; have HB := n1_; have BK383 := n2_; have GW383 := n3_; have GE383 := n4_; have NB382_383 := n5_; have NB383_382 := n6_; clear n0_ n1_ n2_ n3_ n4_ n5_ n6_; clear hb hbox hg; have hnb14 := NB382_383.out; have hnc14 := NB383_382.out; have hcz15_0 : w13.cell? ⟨gb382, 0, none⟩ = some (.int .i64 a0_0) := (blk_cell BK382.out 0).trans rfl; have hcz15_1 : w13.cell? ⟨gb382, 1, none⟩ = some (.bool a0_1) := (blk_cell BK382.out 1).trans rfl; have hfz15_0 := blk_frozen BK382.out 0; have hfz15_1 := blk_frozen BK382.out 1) | ((with_reducible refine gate_callee (f := 72) rfl ?_); refine goesL_ (some 5) rfl rfl Try.func72 (by kernel_rfl) rfl #[.agg #[.int .i64 a0_0, .bool a0_1]] rfl (by (try simp only [List.map_toArray, List.map_cons, List.map_nil]); first | done | rfl | (simp only [List.length_drop, List.length_take]; rfl)) ?_; (with_reducible refine (fixed_sound.calls a0_0 a0_1 t384 t385 _ A2.out).mono ?_); rintro e w16 ⟨rfl, hb⟩; refine ⟨_, rfl, ?_⟩; have n0_ := Aside0.mk (blk_below (g := gb382) (o := .cells #[.int .i64 a0_0, .bool a0_1] 23 (0, 0)) (by (with_reducible repeat (first | refine blk_drewN ?_ _ | refine blk_drew ?_ | refine blk_alloc ?_ _)); exact BK382.out) hb); have n1_ := Aside0.mk (blk_below (g := gb383) (o := .cells #[.int .i64 0, .bool false] 23 (0, 0)) (by (with_reducible repeat (first | refine blk_drewN ?_ _ | refine blk_drew ?_ | refine blk_alloc ?_ _)); exact BK383.out) hb); have n2_ := Aside0.mk (below_step (by repeat (first | (with_reducible first | exact HB.out | apply below_alloc | apply pw_below_drewN | apply below_drew1 | refine below_set ?_ GE382.out | refine below_set ?_ GE383.out) | exact HB.out)) hb); clear BK382; clear BK383; clear HB; have BK382 := n0_; have BK383 := n1_; have HB := n2_; clear n0_ n1_ n2_; (try clear hb); (try clear hb2); (try clear hk); (try clear hi); have hcz17_0 : w16.cell? ⟨gb382, 0, none⟩ = some (.int .i64 a0_0) := (blk_cell BK382.out 0).trans rfl; have hcz17_1 : w16.cell? ⟨gb382, 1, none⟩ = some (.bool a0_1) := (blk_cell BK382.out 1).trans rfl; have hfz17_0 := blk_frozen BK382.out 0; have hfz17_1 := blk_frozen BK382.out 1; have hcz18_0 : w16.cell? ⟨gb383, 0, none⟩ = some (.int .i64 0) := (blk_cell BK383.out 0).trans rfl; have hcz18_1 : w16.cell? ⟨gb383, 1, none⟩ = some (.bool false) := (blk_cell BK383.out 1).trans rfl; have hfz18_0 := blk_frozen BK383.out 0; have hfz18_1 := blk_frozen BK383.out 1))
      refine bodyPost_ret (results_cell_row rfl _ _ gb383 23 #[.int .i64 (wrap64 ((Int.tmod t384 26986075409) + 26986075409)), .bool t385] (0, 0) _ rfl (by (with_reducible repeat (first | refine blk_drewN ?_ _ | refine blk_drew ?_ | refine blk_alloc ?_ _)); refine blk_put (cs := #[.int .i64 (wrap64 ((Int.tmod t384 26986075409) + 26986075409)), .bool false]) ?_ 1 _ rfl; (with_reducible repeat (first | refine blk_drewN ?_ _ | refine blk_drew ?_ | refine blk_alloc ?_ _)); refine blk_put (cs := #[.int .i64 0, .bool false]) ?_ 0 _ rfl; (with_reducible repeat (first | refine blk_drewN ?_ _ | refine blk_drew ?_ | refine blk_alloc ?_ _)); refine blk_far ?_ NB383_382.out _; (with_reducible repeat (first | refine blk_drewN ?_ _ | refine blk_drew ?_ | refine blk_alloc ?_ _)); refine blk_far ?_ NB383_382.out _; (with_reducible repeat (first | refine blk_drewN ?_ _ | refine blk_drew ?_ | refine blk_alloc ?_ _)); exact BK383.out) Try.underlying23 rfl (by kernel_rfl)) rfl ?_
      exact ⟨by first | rfl | (simp [errW_none, errW_some] <;> rfl) | (simp [*, errW_none, errW_some] <;> rfl), by repeat (first | (with_reducible first | exact HB.out | apply below_alloc | apply pw_below_drewN | apply below_drew1 | refine below_set ?_ GE382.out | refine below_set ?_ GE383.out) | exact HB.out)⟩
    · rw [if_neg c11] at H
      have c11b0 : decide ((Int.tmod t384 26986075409) < (-13493037704)) = false := decide_eq_false c11
      clear c11
      simp only [Option.some.injEq, Prod.mk.injEq] at H
      obtain ⟨rfl, rfl⟩ := H
      go_enter Try.func45, Try.ntmps45
      go_wp2_with (first | ((with_reducible refine gate_dst (N := 1) rfl ?_); refine box_event ?hg (N := 1) ?hd (cs := #[.int .i64 a0_0, .bool a0_1]) (t := 23) ?hr ?_; (case hd => rfl); (case hg => rfl); (case hr => first | (go_simp; done) | (go_simp; rfl)); intro gb382 hg w19 hbox hb; have n0_ := Aside0.mk (below_step (by repeat (first | (with_reducible first | exact HB.out | apply below_alloc | apply pw_below_drewN | apply below_drew1) | exact HB.out)) hb); have n1_ := Aside0.mk (hbox); have n2_ := Aside0.mk ((by rw [hg]; exact (below_size (by repeat (first | (with_reducible first | exact HB.out | apply below_alloc | apply pw_below_drewN | apply below_drew1) | exact HB.out))) : w.heap.size ≤ gb382)); have n3_ := Aside0.mk ((by rw [hg]; exact (below_size (by repeat (first | (with_reducible first | exact HB.out | apply below_alloc | apply pw_below_drewN | apply below_drew1) | exact HB.out))) : w.heap.size ≤ gb382)); clear HB; have HB := n0_; have BK382 := n1_; have GW382 := n2_; have GE382 := n3_; clear n0_ n1_ n2_ n3_; clear hb hbox hg) | ((with_reducible refine gate_dst (N := 2) rfl ?_); refine box_event ?hg (N := 2) ?hd (cs := #[.int .i64 0, .bool false]) (t := 23) ?hr ?_; (case hd => rfl); (case hg => rfl); (case hr => first | (go_simp; done) | (go_simp; rfl)); intro gb383 hg w20 hbox hb; have n0_ := Aside0.mk (blk_below (g := gb382) (o := .cells #[.int .i64 a0_0, .bool a0_1] 23 (0, 0)) (by (with_reducible repeat (first | refine blk_drewN ?_ _ | refine blk_drew ?_ | refine blk_alloc ?_ _)); exact BK382.out) hb); have n1_ := Aside0.mk (below_step (by repeat (first | (with_reducible first | exact HB.out | apply below_alloc | apply pw_below_drewN | apply below_drew1 | refine below_set ?_ GE382.out) | exact HB.out)) hb); have n2_ := Aside0.mk (hbox); have n3_ := Aside0.mk ((by rw [hg]; exact (below_size (by repeat (first | (with_reducible first | exact HB.out | apply below_alloc | apply pw_below_drewN | apply below_drew1 | refine below_set ?_ GE382.out) | exact HB.out))) : w.heap.size ≤ gb383)); have n4_ := Aside0.mk ((by rw [hg]; exact (below_size (by repeat (first | (with_reducible first | exact HB.out | apply below_alloc | apply pw_below_drewN | apply below_drew1 | refine below_set ?_ GE382.out) | exact HB.out))) : w.heap.size ≤ gb383)); have n5_ := Aside0.mk ((by rw [hg]; exact Nat.ne_of_lt (blk_lt (g := gb382) (o := .cells #[.int .i64 a0_0, .bool a0_1] 23 (0, 0)) (by (with_reducible repeat (first | refine blk_drewN ?_ _ | refine blk_drew ?_ | refine blk_alloc ?_ _)); exact BK382.out)) : gb382 ≠ gb383)); have n6_ := Aside0.mk ((by rw [hg]; exact Nat.ne_of_gt (blk_lt (g := gb382) (o := .cells #[.int .i64 a0_0, .bool a0_1] 23 (0, 0)) (by (with_reducible repeat (first | refine blk_drewN ?_ _ | refine blk_drew ?_ | refine blk_alloc ?_ _)); exact BK382.out)) : gb383 ≠ gb382)); clear BK382; clear HB; have BK382 := n0_; have HB := n1_; have BK383 := n2_; have GW383 := n3_; have GE383 := n4_; have NB382_383 := n5_; have NB383_382 := n6_; clear n0_ n1_ n2_ n3_ n4_ n5_ n6_; clear hb hbox hg; have hnb21 := NB382_383.out; have hnc21 := NB383_382.out; have hcz22_0 : w20.cell? ⟨gb382, 0, none⟩ = some (.int .i64 a0_0) := (blk_cell BK382.out 0).trans rfl; have hcz22_1 : w20.cell? ⟨gb382, 1, none⟩ = some (.bool a0_1) := (blk_cell BK382.out 1).trans rfl; have hfz22_0 := blk_frozen BK382.out 0; have hfz22_1 := blk_frozen BK382.out 1) | ((with_reducible refine gate_callee (f := 72) rfl ?_); refine goesL_ (some 5) rfl rfl Try.func72 (by kernel_rfl) rfl #[.agg #[.int .i64 a0_0, .bool a0_1]] rfl (by (try simp only [List.map_toArray, List.map_cons, List.map_nil]); first | done | rfl | (simp only [List.length_drop, List.length_take]; rfl)) ?_; (with_reducible refine (fixed_sound.calls a0_0 a0_1 t384 t385 _ A2.out).mono ?_); rintro e w23 ⟨rfl, hb⟩; refine ⟨_, rfl, ?_⟩; have n0_ := Aside0.mk (blk_below (g := gb382) (o := .cells #[.int .i64 a0_0, .bool a0_1] 23 (0, 0)) (by (with_reducible repeat (first | refine blk_drewN ?_ _ | refine blk_drew ?_ | refine blk_alloc ?_ _)); exact BK382.out) hb); have n1_ := Aside0.mk (blk_below (g := gb383) (o := .cells #[.int .i64 0, .bool false] 23 (0, 0)) (by (with_reducible repeat (first | refine blk_drewN ?_ _ | refine blk_drew ?_ | refine blk_alloc ?_ _)); exact BK383.out) hb); have n2_ := Aside0.mk (below_step (by repeat (first | (with_reducible first | exact HB.out | apply below_alloc | apply pw_below_drewN | apply below_drew1 | refine below_set ?_ GE382.out | refine below_set ?_ GE383.out) | exact HB.out)) hb); clear BK382; clear BK383; clear HB; have BK382 := n0_; have BK383 := n1_; have HB := n2_; clear n0_ n1_ n2_; (try clear hb); (try clear hb2); (try clear hk); (try clear hi); have hcz24_0 : w23.cell? ⟨gb382, 0, none⟩ = some (.int .i64 a0_0) := (blk_cell BK382.out 0).trans rfl; have hcz24_1 : w23.cell? ⟨gb382, 1, none⟩ = some (.bool a0_1) := (blk_cell BK382.out 1).trans rfl; have hfz24_0 := blk_frozen BK382.out 0; have hfz24_1 := blk_frozen BK382.out 1; have hcz25_0 : w23.cell? ⟨gb383, 0, none⟩ = some (.int .i64 0) := (blk_cell BK383.out 0).trans rfl; have hcz25_1 : w23.cell? ⟨gb383, 1, none⟩ = some (.bool false) := (blk_cell BK383.out 1).trans rfl; have hfz25_0 := blk_frozen BK383.out 0; have hfz25_1 := blk_frozen BK383.out 1))
      refine bodyPost_ret (results_cell_row rfl _ _ gb383 23 #[.int .i64 (Int.tmod t384 26986075409), .bool t385] (0, 0) _ rfl (by (with_reducible repeat (first | refine blk_drewN ?_ _ | refine blk_drew ?_ | refine blk_alloc ?_ _)); refine blk_put (cs := #[.int .i64 (Int.tmod t384 26986075409), .bool false]) ?_ 1 _ rfl; (with_reducible repeat (first | refine blk_drewN ?_ _ | refine blk_drew ?_ | refine blk_alloc ?_ _)); refine blk_put (cs := #[.int .i64 0, .bool false]) ?_ 0 _ rfl; (with_reducible repeat (first | refine blk_drewN ?_ _ | refine blk_drew ?_ | refine blk_alloc ?_ _)); refine blk_far ?_ NB383_382.out _; (with_reducible repeat (first | refine blk_drewN ?_ _ | refine blk_drew ?_ | refine blk_alloc ?_ _)); refine blk_far ?_ NB383_382.out _; (with_reducible repeat (first | refine blk_drewN ?_ _ | refine blk_drew ?_ | refine blk_alloc ?_ _)); exact BK383.out) Try.underlying23 rfl (by kernel_rfl)) rfl ?_
      exact ⟨by first | rfl | (simp [errW_none, errW_some] <;> rfl) | (simp [*, errW_none, errW_some] <;> rfl), by repeat (first | (with_reducible first | exact HB.out | apply below_alloc | apply pw_below_drewN | apply below_drew1 | refine below_set ?_ GE382.out | refine below_set ?_ GE383.out) | exact HB.out)⟩
end Go.Proofs.Ytenpiaafkmfjfaa.B

end
section
namespace Go.Proofs.Ytenpiaafkmfjfaa.B
open Go.RowKit Go.Proofs.YtenpiaafkmfjfaaW.PrintWords Go.Proofs.YtenpiaafkmfjfaaW.PrintLast Go.Proofs.YtenpiaafkmfjfaaW.PrintMore
def minS (m v : Int) : Int := if v < m then v else m
def maxS (m v : Int) : Int := if v > m then v else m
def minL : List Int → Int
  | [] => 0
  | v :: l => l.foldl minS v
def maxL : List Int → Int
  | [] => 0
  | v :: l => l.foldl maxS v
theorem rd_i {vs : List Int} {i : Nat} (h : i < vs.length) : rd vs (i : Int) = vs[i] := by
  unfold rd
  rw [Int.toNat_natCast, List.getD_eq_getElem?_getD, List.getElem?_eq_getElem h]; rfl
theorem ext_loop (s : Int) (st : Int → Int → Int) (hst : ∀ m v : Int, (if wrap64 (sgn3 v m * s) < 0 then v else m) = st m v) (vs : List Int) (hl : vs.length ≤ 1000000) :
    ∀ (n i k : Nat) (m : Int), n + i = vs.length → n + 1 ≤ k → fixed_extreme_int64.l0 k s m vs vs.length i = some ((vs.drop i).foldl st m) := by
  intro n
  induction n with
  | zero =>
    intro i k m hm hk
    obtain ⟨k, rfl⟩ : ∃ z, k = z + 1 := ⟨k - 1, by omega⟩
    rw [fixed_extreme_int64.l0, if_neg (by omega), List.drop_of_length_le (by omega)]
    rfl
  | succ n ih =>
    intro i k m hm hk
    obtain ⟨k, rfl⟩ : ∃ z, k = z + 1 := ⟨k - 1, by omega⟩
    have hi : i < vs.length := by omega
    rw [fixed_extreme_int64.l0, if_pos (by omega), if_pos (by omega), if_pos (by omega), rd_i hi, compare_i, Option.bind_some, List.drop_eq_getElem_cons hi, List.foldl_cons, ← hst, wrap64_id (x := (i : Int) + 1) (by omega) (by omega), show (i : Int) + 1 = ((i + 1 : Nat) : Int) by omega]
    by_cases h : wrap64 (sgn3 vs[i] m * s) < 0
    · rw [if_pos h, if_pos h, ih (i + 1) k _ (by omega) (by omega)]
    · rw [if_neg h, if_neg h, ih (i + 1) k _ (by omega) (by omega)]
theorem sgn_cases (x y : Int) : (x < y ∧ sgn3 x y = -1) ∨ (x = y ∧ sgn3 x y = 0) ∨ (x > y ∧ sgn3 x y = 1) := by
  unfold sgn3
  by_cases h : x < y
  · rw [if_pos h]; exact Or.inl ⟨h, rfl⟩
  · rw [if_neg h]
    by_cases h2 : x = y
    · rw [if_pos h2]; exact Or.inr (Or.inl ⟨h2, rfl⟩)
    · rw [if_neg h2]; exact Or.inr (Or.inr ⟨by omega, rfl⟩)
theorem st_min (m v : Int) : (if wrap64 (sgn3 v m * 1) < 0 then v else m) = minS m v := by
  have := sgn_cases v m
  rw [wrap64_id (by omega) (by omega)]
  unfold minS
  by_cases h : v < m
  · rw [if_pos h, if_pos (by omega)]
  · rw [if_neg h, if_neg (by omega)]
theorem st_max (m v : Int) : (if wrap64 (sgn3 v m * (-1)) < 0 then v else m) = maxS m v := by
  have := sgn_cases v m
  rw [wrap64_id (by omega) (by omega)]
  unfold maxS
  by_cases h : v > m
  · rw [if_pos h, if_pos (by omega)]
  · rw [if_neg h, if_neg (by omega)]
theorem most_f (s : Int) (st : Int → Int → Int) (hst : ∀ m v : Int, (if wrap64 (sgn3 v m * s) < 0 then v else m) = st m v) (L : List Int → Int) (hL0 : L [] = 0) (hL : ∀ v l, L (v :: l) = l.foldl st v)
    (l : List S23) (hl : l.length ≤ 1000000) (k : Nat) (hk : l.length + 1 ≤ k) : fixed_most.f k s l = some (L (vals l), anyF l) := by
  unfold fixed_most.f fixed_values.f
  cases l with
  | nil => rw [if_pos (by simp)]; show some (0, false) = some (L [], false); rw [hL0]
  | cons x l =>
    have hlen : (vals (x :: l)).length = (x :: l).length := by unfold vals; simp
    rw [if_neg (by rw [List.length_cons]; omega), if_pos hl, Option.bind_some]
    dsimp only
    rw [if_pos (by rw [hlen, List.length_cons]; omega), if_pos (by rw [hlen, List.length_cons]; omega)]
    have e : vals (x :: l) = sv x.f0 :: vals l := rfl
    rw [e, hL]
    unfold fixed_extreme_int64.f
    have hl2 : (vals l).length = l.length := by unfold vals; simp
    have hl3 : (x :: l).length = l.length + 1 := rfl
    have := ext_loop s st hst (vals l) (by omega) (vals l).length 0 k (sv x.f0) (by omega) (by omega)
    rw [show ((0 : Nat) : Int) = 0 from rfl] at this
    rw [show rd (sv x.f0 :: vals l) 0 = sv x.f0 from rfl, show (sv x.f0 :: vals l).drop 1 = vals l from rfl, this, Option.bind_some]
    rfl
theorem min_f (l : List S23) (hl : l.length ≤ 1000000) (k : Nat) (hk : l.length + 1 ≤ k) : fixed_Min.f k l = some (minL (vals l), anyF l) := by
  unfold fixed_Min.f
  rw [most_f 1 minS st_min minL rfl (fun _ _ => rfl) l hl k hk, Option.bind_some]
theorem max_f (l : List S23) (hl : l.length ≤ 1000000) (k : Nat) (hk : l.length + 1 ≤ k) : fixed_Max.f k l = some (maxL (vals l), anyF l) := by
  unfold fixed_Max.f
  rw [most_f (-1) maxS st_max maxL rfl (fun _ _ => rfl) l hl k hk, Option.bind_some]
def clampV (x lo hi : Int) : Int := maxS lo (minS x hi)
theorem minS_or (m v : Int) : minS m v = m ∨ minS m v = v := by unfold minS; split; exact Or.inr rfl; exact Or.inl rfl
theorem clamp_f (k : Nat) (hk : 3 ≤ k) {a b c : Int} (fa fb fc : Bool) (ha : I64 a) (hc : I64 c) : fixed_Clamp.f k a fa b fb c fc = some (clampV (sv a) (sv b) (sv c), (sf b fb || (sf a fa || sf c fc))) := by
  have hs : Snd (minS (sv a) (sv c)) := by rcases minS_or (sv a) (sv c) with e | e <;> rw [e] <;> apply sv_i64 <;> assumption
  unfold fixed_Clamp.f
  rw [min_f _ (by simp) k (by simpa using hk), Option.bind_some]
  dsimp only
  rw [max_f _ (by simp) k (by simpa using hk), Option.bind_some]
  have e1 : vals [(⟨a, fa⟩ : S23), ⟨c, fc⟩] = [sv a, sv c] := rfl
  have e2 : anyF [(⟨a, fa⟩ : S23), ⟨c, fc⟩] = (sf a fa || sf c fc) := by simp [anyF]
  have e3 : minL [sv a, sv c] = minS (sv a) (sv c) := rfl
  rw [e1, e2, e3]
  have e4 : ∀ f, vals [(⟨b, fb⟩ : S23), ⟨minS (sv a) (sv c), f⟩] = [sv b, sv (minS (sv a) (sv c))] := fun _ => rfl
  have e5 : ∀ f, anyF [(⟨b, fb⟩ : S23), ⟨minS (sv a) (sv c), f⟩] = (sf b fb || f) := fun f => by simp [anyF, sf_id hs]
  rw [e4, e5, sv_id hs]
  rfl
end Go.Proofs.Ytenpiaafkmfjfaa.B

end
section
namespace Go.Proofs.Ytenpiaafkmfjfaa.B
open Go.RowKit Go.Proofs.YtenpiaafkmfjfaaW.PrintWords Go.Proofs.YtenpiaafkmfjfaaW.PrintLast Go.Proofs.YtenpiaafkmfjfaaW.PrintMore
attribute [local go_sem] max2_int min2_int max_two min_two max_three min_three max_four min_four
set_option linter.unusedVariables false
set_option linter.unusedSimpArgs false
mutual
def fixed_Sin.j0 : Nat → Int → Bool → Option (Int × Bool)
  | 0, _, _ => none
  | k + 1, x391000, x391001 => fixed_Sin.l0 k 0 x391000 x391001 x391000 x391001 x391000 x391001
def fixed_Sin.l0 : Nat → Int → Int → Bool → Int → Bool → Int → Bool → Option (Int × Bool)
  | 0, _, _, _, _, _, _, _ => none
  | k + 1, x28, x391000, x391001, x392000, x392001, x393000, x393001 => if x28 < 8 then ((fixed_Mul.f k x392000 x392001 x391000 x391001).bind fun bt399 => ((fixed_Mul.f k bt399.1 bt399.2 x391000 x391001).bind fun bt401 => ((fixed_Int.f k (wrap64 ((wrap64 (2 * (wrap64 (x28 + 1)))) * (wrap64 ((wrap64 (2 * (wrap64 (x28 + 1)))) + 1))))).bind fun bt403 => ((fixed_Div.f k bt401.1 bt401.2 bt403.1 bt403.2).bind fun bt405 => ((fixed_Neg.f bt405.1 bt405.2).bind fun bt407 => ((fixed_Add.f k x393000 x393001 bt407.1 bt407.2).bind fun bt409 => (fixed_Sin.l0 k (wrap64 (x28 + 1)) x391000 x391001 bt407.1 bt407.2 bt409.1 bt409.2))))))) else ((fixed_Int.f k (-1)).bind fun bt393 => ((fixed_Int.f k 1).bind fun bt395 => ((fixed_Clamp.f k x393000 x393001 bt393.1 bt393.2 bt395.1 bt395.2).bind fun bt397 => (some (bt397.1, bt397.2)))))
end
def fixed_Sin.f (k : Nat) (a0_0 : Int) (a0_1 : Bool) : Option (Int × Bool) := (fixed_Wrap.f a0_0 a0_1).bind fun bt388 => (if bt388.1 > 6746518852 then (fixed_Sin.j0 k (wrap64 (13493037704 - bt388.1)) bt388.2) else (if bt388.1 < (-6746518852) then (fixed_Sin.j0 k (wrap64 ((-13493037704) - bt388.1)) bt388.2) else (fixed_Sin.j0 k bt388.1 bt388.2)))
def fixed_Sin.T11 : Bool × List (List Nat × List Nat) := (true, [([], []), ([], []), ([0, 1], [0, 1]), ([], []), ([2, 3, 2], [2, 3]), ([], []), ([], []), ([6], [6]), ([5, 7], [5, 7]), ([8, 4], [8]), ([4, 9, 9], [4, 9]), ([10, 10], [10]), ([11, 11, 0, 1, 2, 3, 4, 5, 6, 7, 8, 9, 10, 11], [11])])
def fixed_Sin.B11 : List Nat := [0, 0, 3, 0, 15, 0, 0, 64, 224, 511, 1023, 2047, 4095]
theorem fixed_Sin.tab11 : rtab .any (opsOf Try.f46 11) = fixed_Sin.T11 := by kernel_rfl
theorem fixed_Sin.bits11 : waitsOk fixed_Sin.T11.2 fixed_Sin.B11 = true := by kernel_rfl
set_option maxHeartbeats 8000000 in
set_option maxRecDepth 100000 in
theorem fixed_Sin.calls (k : Nat) (a0_0 : Int) (a0_1 : Bool) (r1 : Int) (r2 : Bool) (w : World) (h : fixed_Sin.f k a0_0 a0_1 = some (r1, r2)) :
    Calls Try.prog 46 #[.agg #[.int .i64 a0_0, .bool a0_1]] w fun e w' => e = .returned (.agg #[.int .i64 r1, .bool r2]) ∧ Below w.heap.size w w' := by
  have hu23 := Try.underlying23
  have HB := Aside0.mk (Below.refl w.heap.size w)
  have H : ((fixed_Wrap.f a0_0 a0_1).bind fun bt388 => (if bt388.1 > 6746518852 then (fixed_Sin.j0 k (wrap64 (13493037704 - bt388.1)) bt388.2) else (if bt388.1 < (-6746518852) then (fixed_Sin.j0 k (wrap64 ((-13493037704) - bt388.1)) bt388.2) else (fixed_Sin.j0 k bt388.1 bt388.2)))) = some (r1, r2) := h
  clear h
  replace H := Option.bind_eq_some_iff.mp H
  obtain ⟨⟨t388, t389⟩, A20, H⟩ := H
  replace H : (if t388 > 6746518852 then (fixed_Sin.j0 k (wrap64 (13493037704 - t388)) t389) else (if t388 < (-6746518852) then (fixed_Sin.j0 k (wrap64 ((-13493037704) - t388)) t389) else (fixed_Sin.j0 k t388 t389))) = some (r1, r2) := H
  have A2 := Aside0.mk A20
  clear A20
  have HC3 := Aside0.mk H
  clear H
  go_enter Try.func46, Try.ntmps46
  go_upto_block 0 with (first | ((with_reducible refine gate_dst (N := 1) rfl ?_); refine box_event ?hg (N := 1) ?hd (cs := #[.int .i64 a0_0, .bool a0_1]) (t := 23) ?hr ?_; (case hd => rfl); (case hg => rfl); (case hr => first | (go_simp; done) | (go_simp; rfl)); intro gb386 hg w4 hbox hb; have n0_ := Aside0.mk (below_step (by repeat (first | (with_reducible first | exact HB.out | apply below_alloc | apply pw_below_drewN | apply below_drew1) | exact HB.out)) hb); have n1_ := Aside0.mk (hbox); have n2_ := Aside0.mk ((by rw [hg]; exact (below_size (by repeat (first | (with_reducible first | exact HB.out | apply below_alloc | apply pw_below_drewN | apply below_drew1) | exact HB.out))) : w.heap.size ≤ gb386)); have n3_ := Aside0.mk ((by rw [hg]; exact (below_size (by repeat (first | (with_reducible first | exact HB.out | apply below_alloc | apply pw_below_drewN | apply below_drew1) | exact HB.out))) : w.heap.size ≤ gb386)); clear HB; have HB := n0_; have BK386 := n1_; have GW386 := n2_; have GE386 := n3_; clear n0_ n1_ n2_ n3_; clear hb hbox hg) | ((with_reducible refine gate_dst (N := 2) rfl ?_); refine box_event ?hg (N := 2) ?hd (cs := #[.int .i64 0, .bool false]) (t := 23) ?hr ?_; (case hd => rfl); (case hg => rfl); (case hr => first | (go_simp; done) | (go_simp; rfl)); intro gb387 hg w5 hbox hb; have n0_ := Aside0.mk (blk_below (g := gb386) (o := .cells #[.int .i64 a0_0, .bool a0_1] 23 (0, 0)) (by (with_reducible repeat (first | refine blk_drewN ?_ _ | refine blk_drew ?_ | refine blk_alloc ?_ _)); exact BK386.out) hb); have n1_ := Aside0.mk (below_step (by repeat (first | (with_reducible first | exact HB.out | apply below_alloc | apply pw_below_drewN | apply below_drew1 | refine below_set ?_ GE386.out) | exact HB.out)) hb); have n2_ := Aside0.mk (hbox); have n3_ := Aside0.mk ((by rw [hg]; exact (below_size (by repeat (first | (with_reducible first | exact HB.out | apply below_alloc | apply pw_below_drewN | apply below_drew1 | refine below_set ?_ GE386.out) | exact HB.out))) : w.heap.size ≤ gb387)); have n4_ := Aside0.mk ((by rw [hg]; exact (below_size (by repeat (first | (with_reducible first | exact HB.out | apply below_alloc | apply pw_below_drewN | apply below_drew1 | refine below_set ?_ GE386.out) | exact HB.out))) : w.heap.size ≤ gb387)); have n5_ := Aside0.mk ((by rw [hg]; exact Nat.ne_of_lt (blk_lt (g := gb386) (o := .cells #[.int .i64 a0_0, .bool a0_1] 23 (0, 0)) (by (with_reducible repeat (first | refine blk_drewN ?_ _ | refine blk_drew ?_ | refine blk_alloc ?_ _)); exact BK386.out)) : gb386 ≠ gb387)); have n6_ := Aside0.mk ((by rw [hg]; exact Nat.ne_of_gt (blk_lt (g := gb386) (o := .cells #[.int .i64 a0_0, .bool a0_1] 23 (0, 0)) (by (with_reducible repeat (first | refine blk_drewN ?_ _ | refine blk_drew ?_ | refine blk_alloc ?_ _)); exact BK386.out)) : gb387 ≠ gb386)); clear BK386; clear HB; have BK386 := n0_; have HB := n1_; have BK387 := n2_; have GW387 := n3_; have GE387 := n4_; have NB386_387 := n5_; have NB387_386 := n6_; clear n0_ n1_ n2_ n3_ n4_ n5_ n6_; clear hb hbox hg; have hnb6 := NB386_387.out; have hnc6 := NB387_386.out; have hcz7_0 : w5.cell? ⟨gb386, 0, none⟩ = some (.int .i64 a0_0) := (blk_cell BK386.out 0).trans rfl; have hcz7_1 : w5.cell? ⟨gb386, 1, none⟩ = some (.bool a0_1) := (blk_cell BK386.out 1).trans rfl; have hfz7_0 := blk_frozen BK386.out 0; have hfz7_1 := blk_frozen BK386.out 1) | ((with_reducible refine gate_callee (f := 45) rfl ?_); refine goesL_ (some 9) rfl rfl Try.func45 (by kernel_rfl) rfl #[.agg #[.int .i64 a0_0, .bool a0_1]] rfl (by (try simp only [List.map_toArray, List.map_cons, List.map_nil]); first | done | rfl | (simp only [List.length_drop, List.length_take]; rfl)) ?_; (with_reducible refine (fixed_Wrap.calls a0_0 a0_1 t388 t389 _ A2.out).mono ?_); rintro e w8 ⟨rfl, hb⟩; refine ⟨_, rfl, ?_⟩; have n0_ := Aside0.mk (blk_below (g := gb386) (o := .cells #[.int .i64 a0_0, .bool a0_1] 23 (0, 0)) (by (with_reducible repeat (first | refine blk_drewN ?_ _ | refine blk_drew ?_ | refine blk_alloc ?_ _)); exact BK386.out) hb); have n1_ := Aside0.mk (blk_below (g := gb387) (o := .cells #[.int .i64 0, .bool false] 23 (0, 0)) (by (with_reducible repeat (first | refine blk_drewN ?_ _ | refine blk_drew ?_ | refine blk_alloc ?_ _)); exact BK387.out) hb); have n2_ := Aside0.mk (below_step (by repeat (first | (with_reducible first | exact HB.out | apply below_alloc | apply pw_below_drewN | apply below_drew1 | refine below_set ?_ GE386.out | refine below_set ?_ GE387.out) | exact HB.out)) hb); clear BK386; clear BK387; clear HB; have BK386 := n0_; have BK387 := n1_; have HB := n2_; clear n0_ n1_ n2_; (try clear hb); (try clear hb2); (try clear hk); (try clear hi)) | ((with_reducible refine gate_dst (N := 3) rfl ?_); refine box_event ?hg (N := 3) ?hd (cs := #[.int .i64 0, .bool false]) (t := 23) ?hr ?_; (case hd => rfl); (case hg => rfl); (case hr => first | (go_simp; done) | (go_simp; rfl)); intro gb390 hg w9 hbox hb; have n0_ := Aside0.mk (blk_below (g := gb386) (o := .cells #[.int .i64 a0_0, .bool a0_1] 23 (0, 0)) (by (with_reducible repeat (first | refine blk_drewN ?_ _ | refine blk_drew ?_ | refine blk_alloc ?_ _)); exact BK386.out) hb); have n1_ := Aside0.mk (blk_below (g := gb387) (o := .cells #[.int .i64 0, .bool false] 23 (0, 0)) (by (with_reducible repeat (first | refine blk_drewN ?_ _ | refine blk_drew ?_ | refine blk_alloc ?_ _)); exact BK387.out) hb); have n2_ := Aside0.mk (below_step (by repeat (first | (with_reducible first | exact HB.out | apply below_alloc | apply pw_below_drewN | apply below_drew1 | refine below_set ?_ GE386.out | refine below_set ?_ GE387.out) | exact HB.out)) hb); have n3_ := Aside0.mk (hbox); have n4_ := Aside0.mk ((by rw [hg]; exact (below_size (by repeat (first | (with_reducible first | exact HB.out | apply below_alloc | apply pw_below_drewN | apply below_drew1 | refine below_set ?_ GE386.out | refine below_set ?_ GE387.out) | exact HB.out))) : w.heap.size ≤ gb390)); have n5_ := Aside0.mk ((by rw [hg]; exact (below_size (by repeat (first | (with_reducible first | exact HB.out | apply below_alloc | apply pw_below_drewN | apply below_drew1 | refine below_set ?_ GE386.out | refine below_set ?_ GE387.out) | exact HB.out))) : w.heap.size ≤ gb390)); have n6_ := Aside0.mk ((by rw [hg]; exact Nat.ne_of_lt (blk_lt (g := gb386) (o := .cells #[.int .i64 a0_0, .bool a0_1] 23 (0, 0)) (by (with_reducible repeat (first | refine blk_drewN ?_ _ | refine blk_drew ?_ | refine blk_alloc ?_ _)); exact BK386.out)) : gb386 ≠ gb390)); have n7_ := Aside0.mk ((by rw [hg]; exact Nat.ne_of_gt (blk_lt (g := gb386) (o := .cells #[.int .i64 a0_0, .bool a0_1] 23 (0, 0)) (by (with_reducible repeat (first | refine blk_drewN ?_ _ | refine blk_drew ?_ | refine blk_alloc ?_ _)); exact BK386.out)) : gb390 ≠ gb386)); have n8_ := Aside0.mk ((by rw [hg]; exact Nat.ne_of_lt (blk_lt (g := gb387) (o := .cells #[.int .i64 0, .bool false] 23 (0, 0)) (by (with_reducible repeat (first | refine blk_drewN ?_ _ | refine blk_drew ?_ | refine blk_alloc ?_ _)); exact BK387.out)) : gb387 ≠ gb390)); have n9_ := Aside0.mk ((by rw [hg]; exact Nat.ne_of_gt (blk_lt (g := gb387) (o := .cells #[.int .i64 0, .bool false] 23 (0, 0)) (by (with_reducible repeat (first | refine blk_drewN ?_ _ | refine blk_drew ?_ | refine blk_alloc ?_ _)); exact BK387.out)) : gb390 ≠ gb387)); clear BK386; clear BK387; clear HB; have BK386 := n0_; have BK387 := n1_; have HB := n2_; have BK390 := n3_; have GW390 := n4_; have GE390 := n5_; have NB386_390 := n6_; have NB390_386 := n7_; have NB387_390 := n8_; have NB390_387 := n9_; clear n0_ n1_ n2_ n3_ n4_ n5_ n6_ n7_ n8_ n9_; clear hb hbox hg; have hnb10 := NB390_386.out; have hnc10 := NB386_390.out; have hnb11 := NB390_387.out; have hnc11 := NB387_390.out; have hcz12_0 : w9.cell? ⟨gb390, 0, none⟩ = some (.int .i64 0) := (blk_cell BK390.out 0).trans rfl; have hcz12_1 : w9.cell? ⟨gb390, 1, none⟩ = some (.bool false) := (blk_cell BK390.out 1).trans rfl; have hfz12_0 := blk_frozen BK390.out 0; have hfz12_1 := blk_frozen BK390.out 1))
  (try simp only [Act.put, List.setIfInBounds_toArray, List.set_cons_zero, List.set_cons_succ])
  go_cut [] (fun wc => ∃ (kq : Nat) (x391000_2 : Int), Aside0 (fixed_Sin.j0 kq x391000_2 t389 = some (r1, r2)) ∧ Aside0 (kq ≤ k) ∧ Aside0 (wc.heap[gb386]? = some (.cells #[.int .i64 a0_0, .bool a0_1] 23 (0, 0))) ∧ Aside0 (wc.heap[gb387]? = some (.cells #[.int .i64 0, .bool false] 23 (0, 0))) ∧ Aside0 (wc.heap[gb390]? = some (.cells #[.int .i64 x391000_2, .bool t389] 23 (0, 0))) ∧ Aside0 (Below w.heap.size w wc))
  case first =>
    have H := HC3.out
    clear HC3
    by_cases c13 : t388 > 6746518852
    · rw [if_pos c13] at H
      have c13b0 : decide (6746518852 < t388) = true := decide_eq_true c13
      clear c13
      (first | rw [c13b0] | (simp only [i64_w, i32_w]; rw [c13b0]) | skip)
      have H' := Aside0.mk H
      clear H
      have hnb14 := NB390_386.out
      have hnc14 := NB386_390.out
      have hnb15 := NB390_387.out
      have hnc15 := NB387_390.out
      have hcz16_0 : w9.cell? ⟨gb390, 0, none⟩ = some (.int .i64 0) := (blk_cell BK390.out 0).trans rfl
      have hcz16_1 : w9.cell? ⟨gb390, 1, none⟩ = some (.bool false) := (blk_cell BK390.out 1).trans rfl
      have hfz16_0 := blk_frozen BK390.out 0
      have hfz16_1 := blk_frozen BK390.out 1
      go_wp2
      go_meet
      case rel => exact ⟨_, (wrap64 (13493037704 - t388)), H', ⟨by first | omega | exact Nat.le_refl _⟩, ⟨by (with_reducible repeat (first | refine blk_drewN ?_ _ | refine blk_drew ?_ | refine blk_alloc ?_ _)); refine blk_far ?_ NB386_390.out _; (with_reducible repeat (first | refine blk_drewN ?_ _ | refine blk_drew ?_ | refine blk_alloc ?_ _)); refine blk_far ?_ NB386_390.out _; (with_reducible repeat (first | refine blk_drewN ?_ _ | refine blk_drew ?_ | refine blk_alloc ?_ _)); refine blk_far ?_ NB386_390.out _; (with_reducible repeat (first | refine blk_drewN ?_ _ | refine blk_drew ?_ | refine blk_alloc ?_ _)); exact BK386.out⟩, ⟨by (with_reducible repeat (first | refine blk_drewN ?_ _ | refine blk_drew ?_ | refine blk_alloc ?_ _)); refine blk_far ?_ NB387_390.out _; (with_reducible repeat (first | refine blk_drewN ?_ _ | refine blk_drew ?_ | refine blk_alloc ?_ _)); refine blk_far ?_ NB387_390.out _; (with_reducible repeat (first | refine blk_drewN ?_ _ | refine blk_drew ?_ | refine blk_alloc ?_ _)); refine blk_far ?_ NB387_390.out _; (with_reducible repeat (first | refine blk_drewN ?_ _ | refine blk_drew ?_ | refine blk_alloc ?_ _)); exact BK387.out⟩, ⟨by (with_reducible repeat (first | refine blk_drewN ?_ _ | refine blk_drew ?_ | refine blk_alloc ?_ _)); refine blk_put (cs := #[.int .i64 t388, .bool t389]) ?_ 0 _ rfl; (with_reducible repeat (first | refine blk_drewN ?_ _ | refine blk_drew ?_ | refine blk_alloc ?_ _)); refine blk_put (cs := #[.int .i64 t388, .bool false]) ?_ 1 _ rfl; (with_reducible repeat (first | refine blk_drewN ?_ _ | refine blk_drew ?_ | refine blk_alloc ?_ _)); refine blk_put (cs := #[.int .i64 0, .bool false]) ?_ 0 _ rfl; (with_reducible repeat (first | refine blk_drewN ?_ _ | refine blk_drew ?_ | refine blk_alloc ?_ _)); exact BK390.out⟩, ⟨by repeat (first | (with_reducible first | exact HB.out | apply below_alloc | apply pw_below_drewN | apply below_drew1 | refine below_set ?_ GE386.out | refine below_set ?_ GE387.out | refine below_set ?_ GE390.out) | exact HB.out)⟩⟩
    · rw [if_neg c13] at H
      have c13b0 : decide (6746518852 < t388) = false := decide_eq_false c13
      clear c13
      (first | rw [c13b0] | (simp only [i64_w, i32_w]; rw [c13b0]) | skip)
      by_cases c17 : t388 < (-6746518852)
      · rw [if_pos c17] at H
        have c17b0 : decide (t388 < (-6746518852)) = true := decide_eq_true c17
        clear c17
        have H' := Aside0.mk H
        clear H
        have hnb18 := NB390_386.out
        have hnc18 := NB386_390.out
        have hnb19 := NB390_387.out
        have hnc19 := NB387_390.out
        have hcz20_0 : w9.cell? ⟨gb390, 0, none⟩ = some (.int .i64 0) := (blk_cell BK390.out 0).trans rfl
        have hcz20_1 : w9.cell? ⟨gb390, 1, none⟩ = some (.bool false) := (blk_cell BK390.out 1).trans rfl
        have hfz20_0 := blk_frozen BK390.out 0
        have hfz20_1 := blk_frozen BK390.out 1
        go_wp2
        go_meet
        case rel => exact ⟨_, (wrap64 ((-13493037704) - t388)), H', ⟨by first | omega | exact Nat.le_refl _⟩, ⟨by (with_reducible repeat (first | refine blk_drewN ?_ _ | refine blk_drew ?_ | refine blk_alloc ?_ _)); refine blk_far ?_ NB386_390.out _; (with_reducible repeat (first | refine blk_drewN ?_ _ | refine blk_drew ?_ | refine blk_alloc ?_ _)); refine blk_far ?_ NB386_390.out _; (with_reducible repeat (first | refine blk_drewN ?_ _ | refine blk_drew ?_ | refine blk_alloc ?_ _)); refine blk_far ?_ NB386_390.out _; (with_reducible repeat (first | refine blk_drewN ?_ _ | refine blk_drew ?_ | refine blk_alloc ?_ _)); exact BK386.out⟩, ⟨by (with_reducible repeat (first | refine blk_drewN ?_ _ | refine blk_drew ?_ | refine blk_alloc ?_ _)); refine blk_far ?_ NB387_390.out _; (with_reducible repeat (first | refine blk_drewN ?_ _ | refine blk_drew ?_ | refine blk_alloc ?_ _)); refine blk_far ?_ NB387_390.out _; (with_reducible repeat (first | refine blk_drewN ?_ _ | refine blk_drew ?_ | refine blk_alloc ?_ _)); refine blk_far ?_ NB387_390.out _; (with_reducible repeat (first | refine blk_drewN ?_ _ | refine blk_drew ?_ | refine blk_alloc ?_ _)); exact BK387.out⟩, ⟨by (with_reducible repeat (first | refine blk_drewN ?_ _ | refine blk_drew ?_ | refine blk_alloc ?_ _)); refine blk_put (cs := #[.int .i64 t388, .bool t389]) ?_ 0 _ rfl; (with_reducible repeat (first | refine blk_drewN ?_ _ | refine blk_drew ?_ | refine blk_alloc ?_ _)); refine blk_put (cs := #[.int .i64 t388, .bool false]) ?_ 1 _ rfl; (with_reducible repeat (first | refine blk_drewN ?_ _ | refine blk_drew ?_ | refine blk_alloc ?_ _)); refine blk_put (cs := #[.int .i64 0, .bool false]) ?_ 0 _ rfl; (with_reducible repeat (first | refine blk_drewN ?_ _ | refine blk_drew ?_ | refine blk_alloc ?_ _)); exact BK390.out⟩, ⟨by repeat (first | (with_reducible first | exact HB.out | apply below_alloc | apply pw_below_drewN | apply below_drew1 | refine below_set ?_ GE386.out | refine below_set ?_ GE387.out | refine below_set ?_ GE390.out) | exact HB.out)⟩⟩
      · rw [if_neg c17] at H
        have c17b0 : decide (t388 < (-6746518852)) = false := decide_eq_false c17
        clear c17
        have H' := Aside0.mk H
        clear H
        have hnb21 := NB390_386.out
        have hnc21 := NB386_390.out
        have hnb22 := NB390_387.out
        have hnc22 := NB387_390.out
        have hcz23_0 : w9.cell? ⟨gb390, 0, none⟩ = some (.int .i64 0) := (blk_cell BK390.out 0).trans rfl
        have hcz23_1 : w9.cell? ⟨gb390, 1, none⟩ = some (.bool false) := (blk_cell BK390.out 1).trans rfl
        have hfz23_0 := blk_frozen BK390.out 0
        have hfz23_1 := blk_frozen BK390.out 1
        go_wp2
        go_meet
        case rel => exact ⟨_, (t388), H', ⟨by first | omega | exact Nat.le_refl _⟩, ⟨by (with_reducible repeat (first | refine blk_drewN ?_ _ | refine blk_drew ?_ | refine blk_alloc ?_ _)); refine blk_far ?_ NB386_390.out _; (with_reducible repeat (first | refine blk_drewN ?_ _ | refine blk_drew ?_ | refine blk_alloc ?_ _)); refine blk_far ?_ NB386_390.out _; (with_reducible repeat (first | refine blk_drewN ?_ _ | refine blk_drew ?_ | refine blk_alloc ?_ _)); exact BK386.out⟩, ⟨by (with_reducible repeat (first | refine blk_drewN ?_ _ | refine blk_drew ?_ | refine blk_alloc ?_ _)); refine blk_far ?_ NB387_390.out _; (with_reducible repeat (first | refine blk_drewN ?_ _ | refine blk_drew ?_ | refine blk_alloc ?_ _)); refine blk_far ?_ NB387_390.out _; (with_reducible repeat (first | refine blk_drewN ?_ _ | refine blk_drew ?_ | refine blk_alloc ?_ _)); exact BK387.out⟩, ⟨by (with_reducible repeat (first | refine blk_drewN ?_ _ | refine blk_drew ?_ | refine blk_alloc ?_ _)); refine blk_put (cs := #[.int .i64 t388, .bool false]) ?_ 1 _ rfl; (with_reducible repeat (first | refine blk_drewN ?_ _ | refine blk_drew ?_ | refine blk_alloc ?_ _)); refine blk_put (cs := #[.int .i64 0, .bool false]) ?_ 0 _ rfl; (with_reducible repeat (first | refine blk_drewN ?_ _ | refine blk_drew ?_ | refine blk_alloc ?_ _)); exact BK390.out⟩, ⟨by repeat (first | (with_reducible first | exact HB.out | apply below_alloc | apply pw_below_drewN | apply below_drew1 | refine below_set ?_ GE386.out | refine below_set ?_ GE387.out | refine below_set ?_ GE390.out) | exact HB.out)⟩⟩
  case rest =>
    clear HC3
    try clear c1
    try clear c2
    try clear p2
    try clear c4
    try clear c6
    try clear p6
    try clear c10
    try clear c11
    try clear c13
    try clear c13b0
    try clear c14
    try clear c15
    try clear c17
    try clear c17b0
    try clear c18
    try clear c19
    try clear c21
    try clear c22
    try clear hcz12_0
    try clear hcz12_1
    try clear hcz16_0
    try clear hcz16_1
    try clear hcz20_0
    try clear hcz20_1
    try clear hcz23_0
    try clear hcz23_1
    try clear hcz7_0
    try clear hcz7_1
    try clear hfz12_0
    try clear hfz12_1
    try clear hfz16_0
    try clear hfz16_1
    try clear hfz20_0
    try clear hfz20_1
    try clear hfz23_0
    try clear hfz23_1
    try clear hfz7_0
    try clear hfz7_1
    obtain ⟨kq, x391000_2, HA, HJ2, BK386, BK387, BK390, HB⟩ := hcut
    cases kq with
    | zero => exact absurd HA.out (by simp [fixed_Sin.j0])
    | succ kj2 =>
      have H := HA.out
      clear HA
      simp only [fixed_Sin.j0] at H
      have H' := Aside0.mk H
      clear H
      try go_wp2
      have n0_ := Aside0.mk (blk_drew BK386.out)
      have n1_ := Aside0.mk (blk_drew BK387.out)
      have n2_ := Aside0.mk (blk_drew BK390.out)
      have n3_ := Aside0.mk (below_drew1 HB.out)
      clear BK386
      clear BK387
      clear BK390
      clear HB
      have BK386 := n0_
      have BK387 := n1_
      have BK390 := n2_
      have HB := n3_
      clear n0_ n1_ n2_ n3_
      refine start_ (n := 6) (S := fun w' => w'.cell? ⟨gb390, 0, none⟩ = some (.int .i64 x391000_2) ∧ w'.cell? ⟨gb390, 1, none⟩ = some (.bool t389)) (ds := []) #[false, false, false, false, false, false] (by kernel_rfl) rfl rfl ⟨(blk_cell BK390.out 0).trans rfl, (blk_cell BK390.out 1).trans rfl⟩ (fun hHeld => ?_)
      generalize wc.drew = w24 at BK386 BK387 BK390 HB hHeld ⊢
      refine take_ (i := 0) (N := some 26) (v := ?_) (a' := ?_) #[true, false, false, false, false, false] rfl rfl (by kernel_rfl) (fun _ _ _ h => h) (Or.inl ⟨by rfl, ?_⟩) hHeld ?_ ?_
      rotate_left
      · rintro w' ⟨s0, s1⟩
        go_simp
        with_reducible rfl
      rotate_left
      · simp only [Act.put, List.setIfInBounds_toArray, List.set_cons_zero, List.set_cons_succ, i64_w, i32_w]
        rfl
      refine take_ (i := 1) (N := some 27) (v := ?_) (a' := ?_) #[true, true, false, false, false, false] rfl rfl (by kernel_rfl) (fun _ _ _ h => h) (Or.inl ⟨by rfl, ?_⟩) hHeld ?_ ?_
      rotate_left
      · rintro w' ⟨s0, s1⟩
        go_simp
        with_reducible rfl
      rotate_left
      · simp only [Act.put, List.setIfInBounds_toArray, List.set_cons_zero, List.set_cons_succ, i64_w, i32_w]
        rfl
      refine join_ (σ := Nat × Nat) 2 #[true, true, true, true, false, false] (fun s_ => [(4, .pointer (some ⟨s_.1, 0, none⟩)), (5, .pointer (some ⟨s_.2, 0, none⟩))]) (fun s_ w' => (w'.cell? ⟨gb390, 0, none⟩ = some (.int .i64 x391000_2) ∧ w'.cell? ⟨gb390, 1, none⟩ = some (.bool t389)) ∧ (w'.heap[gb386]? = some (.cells #[.int .i64 a0_0, .bool a0_1] 23 (0, 0))) ∧ (w'.heap[gb387]? = some (.cells #[.int .i64 0, .bool false] 23 (0, 0))) ∧ (w'.heap[gb390]? = some (.cells #[.int .i64 x391000_2, .bool t389] 23 (0, 0))) ∧ (w'.heap[s_.1]? = some (.cells #[.int .i64 0, .bool false] 23 (0, 0))) ∧ (w'.heap[s_.2]? = some (.cells #[.int .i64 0, .bool false] 23 (0, 0))) ∧ (w.heap.size ≤ s_.1) ∧ (w.heap.size ≤ s_.1) ∧ (gb386 ≠ s_.1) ∧ (s_.1 ≠ gb386) ∧ (gb387 ≠ s_.1) ∧ (s_.1 ≠ gb387) ∧ (gb390 ≠ s_.1) ∧ (s_.1 ≠ gb390) ∧ (s_.2 ≠ s_.1) ∧ (s_.1 ≠ s_.2) ∧ (w.heap.size ≤ s_.2) ∧ (w.heap.size ≤ s_.2) ∧ (gb386 ≠ s_.2) ∧ (s_.2 ≠ gb386) ∧ (gb387 ≠ s_.2) ∧ (s_.2 ≠ gb387) ∧ (gb390 ≠ s_.2) ∧ (s_.2 ≠ gb390) ∧ (Below w.heap.size w w')) ?_ ?_
      rotate_left
      · intro hCont
        refine two_ (i := 2) (j := 3) (Ni := some 4) (Nj := some 5) #[true, true, true, false, false, false] #[true, true, false, true, false, false] rfl rfl rfl rfl (by kernel_rfl) (by decide) (by decide) (fun K hK => ?_) (fun K hK => ?_)
        · skip
          refine box_step ?hg (N := 4) ?hd (cs := #[.int .i64 0, .bool false]) (t := 23) ?hr ?_; (case hd => rfl); (case hg => rfl); (case hr => first | (go_simp; done) | (go_simp; rfl))
          intro gb391 hg w25 hbox hb
          have n0_ := Aside0.mk (blk_below (g := gb386) (o := .cells #[.int .i64 a0_0, .bool a0_1] 23 (0, 0)) (by (with_reducible repeat (first | refine blk_drewN ?_ _ | refine blk_drew ?_ | refine blk_alloc ?_ _)); exact BK386.out) hb)
          have n1_ := Aside0.mk (blk_below (g := gb387) (o := .cells #[.int .i64 0, .bool false] 23 (0, 0)) (by (with_reducible repeat (first | refine blk_drewN ?_ _ | refine blk_drew ?_ | refine blk_alloc ?_ _)); exact BK387.out) hb)
          have n2_ := Aside0.mk (blk_below (g := gb390) (o := .cells #[.int .i64 x391000_2, .bool t389] 23 (0, 0)) (by (with_reducible repeat (first | refine blk_drewN ?_ _ | refine blk_drew ?_ | refine blk_alloc ?_ _)); exact BK390.out) hb)
          have n3_ := Aside0.mk (below_step (by repeat (first | (with_reducible first | exact HB.out | apply below_alloc | apply pw_below_drewN | apply below_drew1 | refine below_set ?_ GE386.out | refine below_set ?_ GE387.out | refine below_set ?_ GE390.out) | exact HB.out)) hb)
          have n4_ := Aside0.mk (hbox)
          have n5_ := Aside0.mk ((by rw [hg]; exact (below_size (by repeat (first | (with_reducible first | exact HB.out | apply below_alloc | apply pw_below_drewN | apply below_drew1 | refine below_set ?_ GE386.out | refine below_set ?_ GE387.out | refine below_set ?_ GE390.out) | exact HB.out))) : w.heap.size ≤ gb391))
          have n6_ := Aside0.mk ((by rw [hg]; exact (below_size (by repeat (first | (with_reducible first | exact HB.out | apply below_alloc | apply pw_below_drewN | apply below_drew1 | refine below_set ?_ GE386.out | refine below_set ?_ GE387.out | refine below_set ?_ GE390.out) | exact HB.out))) : w.heap.size ≤ gb391))
          have n7_ := Aside0.mk ((by rw [hg]; exact Nat.ne_of_lt (blk_lt (g := gb386) (o := .cells #[.int .i64 a0_0, .bool a0_1] 23 (0, 0)) (by (with_reducible repeat (first | refine blk_drewN ?_ _ | refine blk_drew ?_ | refine blk_alloc ?_ _)); exact BK386.out)) : gb386 ≠ gb391))
          have n8_ := Aside0.mk ((by rw [hg]; exact Nat.ne_of_gt (blk_lt (g := gb386) (o := .cells #[.int .i64 a0_0, .bool a0_1] 23 (0, 0)) (by (with_reducible repeat (first | refine blk_drewN ?_ _ | refine blk_drew ?_ | refine blk_alloc ?_ _)); exact BK386.out)) : gb391 ≠ gb386))
          have n9_ := Aside0.mk ((by rw [hg]; exact Nat.ne_of_lt (blk_lt (g := gb387) (o := .cells #[.int .i64 0, .bool false] 23 (0, 0)) (by (with_reducible repeat (first | refine blk_drewN ?_ _ | refine blk_drew ?_ | refine blk_alloc ?_ _)); exact BK387.out)) : gb387 ≠ gb391))
          have n10_ := Aside0.mk ((by rw [hg]; exact Nat.ne_of_gt (blk_lt (g := gb387) (o := .cells #[.int .i64 0, .bool false] 23 (0, 0)) (by (with_reducible repeat (first | refine blk_drewN ?_ _ | refine blk_drew ?_ | refine blk_alloc ?_ _)); exact BK387.out)) : gb391 ≠ gb387))
          have n11_ := Aside0.mk ((by rw [hg]; exact Nat.ne_of_lt (blk_lt (g := gb390) (o := .cells #[.int .i64 x391000_2, .bool t389] 23 (0, 0)) (by (with_reducible repeat (first | refine blk_drewN ?_ _ | refine blk_drew ?_ | refine blk_alloc ?_ _)); exact BK390.out)) : gb390 ≠ gb391))
          have n12_ := Aside0.mk ((by rw [hg]; exact Nat.ne_of_gt (blk_lt (g := gb390) (o := .cells #[.int .i64 x391000_2, .bool t389] 23 (0, 0)) (by (with_reducible repeat (first | refine blk_drewN ?_ _ | refine blk_drew ?_ | refine blk_alloc ?_ _)); exact BK390.out)) : gb391 ≠ gb390))
          clear BK386
          clear BK387
          clear BK390
          clear HB
          have BK386 := n0_
          have BK387 := n1_
          have BK390 := n2_
          have HB := n3_
          have BK391 := n4_
          have GW391 := n5_
          have GE391 := n6_
          have NB386_391 := n7_
          have NB391_386 := n8_
          have NB387_391 := n9_
          have NB391_387 := n10_
          have NB390_391 := n11_
          have NB391_390 := n12_
          clear n0_ n1_ n2_ n3_ n4_ n5_ n6_ n7_ n8_ n9_ n10_ n11_ n12_
          clear hb hbox hg
          refine hK.out _ _ ⟨(blk_cell BK390.out 0).trans rfl, (blk_cell BK390.out 1).trans rfl⟩ (fun hHeld => ?_)
          clear hK K
          refine norm_ (a' := ?_) ?_ ?_
          rotate_left
          · show Act.put _ (some 4) _ = _
            simp only [Act.put, List.setIfInBounds_toArray, List.set_cons_zero, List.set_cons_succ, i64_w, i32_w]
            rfl
          refine one_ (i := 3) (N := some 5) #[true, true, true, true, false, false] rfl rfl (by kernel_rfl) (by decide) (fun K hK => ?_)
          refine box_step ?hg (N := 5) ?hd (cs := #[.int .i64 0, .bool false]) (t := 23) ?hr ?_; (case hd => rfl); (case hg => rfl); (case hr => first | (go_simp; done) | (go_simp; rfl))
          intro gb392 hg w26 hbox hb
          have n0_ := Aside0.mk (blk_below (g := gb386) (o := .cells #[.int .i64 a0_0, .bool a0_1] 23 (0, 0)) (by (with_reducible repeat (first | refine blk_drewN ?_ _ | refine blk_drew ?_ | refine blk_alloc ?_ _)); exact BK386.out) hb)
          have n1_ := Aside0.mk (blk_below (g := gb387) (o := .cells #[.int .i64 0, .bool false] 23 (0, 0)) (by (with_reducible repeat (first | refine blk_drewN ?_ _ | refine blk_drew ?_ | refine blk_alloc ?_ _)); exact BK387.out) hb)
          have n2_ := Aside0.mk (blk_below (g := gb390) (o := .cells #[.int .i64 x391000_2, .bool t389] 23 (0, 0)) (by (with_reducible repeat (first | refine blk_drewN ?_ _ | refine blk_drew ?_ | refine blk_alloc ?_ _)); exact BK390.out) hb)
          have n3_ := Aside0.mk (blk_below (g := gb391) (o := .cells #[.int .i64 0, .bool false] 23 (0, 0)) (by (with_reducible repeat (first | refine blk_drewN ?_ _ | refine blk_drew ?_ | refine blk_alloc ?_ _)); exact BK391.out) hb)
          have n4_ := Aside0.mk (below_step (by repeat (first | (with_reducible first | exact HB.out | apply below_alloc | apply pw_below_drewN | apply below_drew1 | refine below_set ?_ GE386.out | refine below_set ?_ GE387.out | refine below_set ?_ GE390.out | refine below_set ?_ GE391.out) | exact HB.out)) hb)
          have n5_ := Aside0.mk (hbox)
          have n6_ := Aside0.mk ((by rw [hg]; exact (below_size (by repeat (first | (with_reducible first | exact HB.out | apply below_alloc | apply pw_below_drewN | apply below_drew1 | refine below_set ?_ GE386.out | refine below_set ?_ GE387.out | refine below_set ?_ GE390.out | refine below_set ?_ GE391.out) | exact HB.out))) : w.heap.size ≤ gb392))
          have n7_ := Aside0.mk ((by rw [hg]; exact (below_size (by repeat (first | (with_reducible first | exact HB.out | apply below_alloc | apply pw_below_drewN | apply below_drew1 | refine below_set ?_ GE386.out | refine below_set ?_ GE387.out | refine below_set ?_ GE390.out | refine below_set ?_ GE391.out) | exact HB.out))) : w.heap.size ≤ gb392))
          have n8_ := Aside0.mk ((by rw [hg]; exact Nat.ne_of_lt (blk_lt (g := gb386) (o := .cells #[.int .i64 a0_0, .bool a0_1] 23 (0, 0)) (by (with_reducible repeat (first | refine blk_drewN ?_ _ | refine blk_drew ?_ | refine blk_alloc ?_ _)); exact BK386.out)) : gb386 ≠ gb392))
          have n9_ := Aside0.mk ((by rw [hg]; exact Nat.ne_of_gt (blk_lt (g := gb386) (o := .cells #[.int .i64 a0_0, .bool a0_1] 23 (0, 0)) (by (with_reducible repeat (first | refine blk_drewN ?_ _ | refine blk_drew ?_ | refine blk_alloc ?_ _)); exact BK386.out)) : gb392 ≠ gb386))
          have n10_ := Aside0.mk ((by rw [hg]; exact Nat.ne_of_lt (blk_lt (g := gb387) (o := .cells #[.int .i64 0, .bool false] 23 (0, 0)) (by (with_reducible repeat (first | refine blk_drewN ?_ _ | refine blk_drew ?_ | refine blk_alloc ?_ _)); exact BK387.out)) : gb387 ≠ gb392))
          have n11_ := Aside0.mk ((by rw [hg]; exact Nat.ne_of_gt (blk_lt (g := gb387) (o := .cells #[.int .i64 0, .bool false] 23 (0, 0)) (by (with_reducible repeat (first | refine blk_drewN ?_ _ | refine blk_drew ?_ | refine blk_alloc ?_ _)); exact BK387.out)) : gb392 ≠ gb387))
          have n12_ := Aside0.mk ((by rw [hg]; exact Nat.ne_of_lt (blk_lt (g := gb390) (o := .cells #[.int .i64 x391000_2, .bool t389] 23 (0, 0)) (by (with_reducible repeat (first | refine blk_drewN ?_ _ | refine blk_drew ?_ | refine blk_alloc ?_ _)); exact BK390.out)) : gb390 ≠ gb392))
          have n13_ := Aside0.mk ((by rw [hg]; exact Nat.ne_of_gt (blk_lt (g := gb390) (o := .cells #[.int .i64 x391000_2, .bool t389] 23 (0, 0)) (by (with_reducible repeat (first | refine blk_drewN ?_ _ | refine blk_drew ?_ | refine blk_alloc ?_ _)); exact BK390.out)) : gb392 ≠ gb390))
          have n14_ := Aside0.mk ((by rw [hg]; exact Nat.ne_of_lt (blk_lt (g := gb391) (o := .cells #[.int .i64 0, .bool false] 23 (0, 0)) (by (with_reducible repeat (first | refine blk_drewN ?_ _ | refine blk_drew ?_ | refine blk_alloc ?_ _)); exact BK391.out)) : gb391 ≠ gb392))
          have n15_ := Aside0.mk ((by rw [hg]; exact Nat.ne_of_gt (blk_lt (g := gb391) (o := .cells #[.int .i64 0, .bool false] 23 (0, 0)) (by (with_reducible repeat (first | refine blk_drewN ?_ _ | refine blk_drew ?_ | refine blk_alloc ?_ _)); exact BK391.out)) : gb392 ≠ gb391))
          clear BK386
          clear BK387
          clear BK390
          clear BK391
          clear HB
          have BK386 := n0_
          have BK387 := n1_
          have BK390 := n2_
          have BK391 := n3_
          have HB := n4_
          have BK392 := n5_
          have GW392 := n6_
          have GE392 := n7_
          have NB386_392 := n8_
          have NB392_386 := n9_
          have NB387_392 := n10_
          have NB392_387 := n11_
          have NB390_392 := n12_
          have NB392_390 := n13_
          have NB391_392 := n14_
          have NB392_391 := n15_
          clear n0_ n1_ n2_ n3_ n4_ n5_ n6_ n7_ n8_ n9_ n10_ n11_ n12_ n13_ n14_ n15_
          clear hb hbox hg
          refine hK.out _ _ ⟨(blk_cell BK390.out 0).trans rfl, (blk_cell BK390.out 1).trans rfl⟩ (fun hHeld => ?_)
          clear hK K
          refine norm_ (a' := ?_) ?_ ?_
          rotate_left
          · show Act.put _ (some 5) _ = _
            simp only [Act.put, List.setIfInBounds_toArray, List.set_cons_zero, List.set_cons_succ, i64_w, i32_w]
            rfl
          exact norm_ (by simp only [putAll, Act.put, List.setIfInBounds_toArray, List.set_cons_zero, List.set_cons_succ]) (hCont (gb391, gb392) _ ⟨hHeld, (by (with_reducible repeat (first | refine blk_drewN ?_ _ | refine blk_drew ?_ | refine blk_alloc ?_ _)); exact BK386.out), (by (with_reducible repeat (first | refine blk_drewN ?_ _ | refine blk_drew ?_ | refine blk_alloc ?_ _)); exact BK387.out), (by (with_reducible repeat (first | refine blk_drewN ?_ _ | refine blk_drew ?_ | refine blk_alloc ?_ _)); exact BK390.out), (by (with_reducible repeat (first | refine blk_drewN ?_ _ | refine blk_drew ?_ | refine blk_alloc ?_ _)); exact BK391.out), (by (with_reducible repeat (first | refine blk_drewN ?_ _ | refine blk_drew ?_ | refine blk_alloc ?_ _)); exact BK392.out), GW391.out, GE391.out, NB386_391.out, NB391_386.out, NB387_391.out, NB391_387.out, NB390_391.out, NB391_390.out, NB392_391.out, NB391_392.out, GW392.out, GE392.out, NB386_392.out, NB392_386.out, NB387_392.out, NB392_387.out, NB390_392.out, NB392_390.out, (by repeat (first | (with_reducible first | exact HB.out | apply below_alloc | apply pw_below_drewN | apply below_drew1 | refine below_set ?_ GE386.out | refine below_set ?_ GE387.out | refine below_set ?_ GE390.out | refine below_set ?_ GE391.out | refine below_set ?_ GE392.out) | exact HB.out))⟩)
        · skip
          refine box_step ?hg (N := 5) ?hd (cs := #[.int .i64 0, .bool false]) (t := 23) ?hr ?_; (case hd => rfl); (case hg => rfl); (case hr => first | (go_simp; done) | (go_simp; rfl))
          intro gb392 hg w25 hbox hb
          have n0_ := Aside0.mk (blk_below (g := gb386) (o := .cells #[.int .i64 a0_0, .bool a0_1] 23 (0, 0)) (by (with_reducible repeat (first | refine blk_drewN ?_ _ | refine blk_drew ?_ | refine blk_alloc ?_ _)); exact BK386.out) hb)
          have n1_ := Aside0.mk (blk_below (g := gb387) (o := .cells #[.int .i64 0, .bool false] 23 (0, 0)) (by (with_reducible repeat (first | refine blk_drewN ?_ _ | refine blk_drew ?_ | refine blk_alloc ?_ _)); exact BK387.out) hb)
          have n2_ := Aside0.mk (blk_below (g := gb390) (o := .cells #[.int .i64 x391000_2, .bool t389] 23 (0, 0)) (by (with_reducible repeat (first | refine blk_drewN ?_ _ | refine blk_drew ?_ | refine blk_alloc ?_ _)); exact BK390.out) hb)
          have n3_ := Aside0.mk (below_step (by repeat (first | (with_reducible first | exact HB.out | apply below_alloc | apply pw_below_drewN | apply below_drew1 | refine below_set ?_ GE386.out | refine below_set ?_ GE387.out | refine below_set ?_ GE390.out) | exact HB.out)) hb)
          have n4_ := Aside0.mk (hbox)
          have n5_ := Aside0.mk ((by rw [hg]; exact (below_size (by repeat (first | (with_reducible first | exact HB.out | apply below_alloc | apply pw_below_drewN | apply below_drew1 | refine below_set ?_ GE386.out | refine below_set ?_ GE387.out | refine below_set ?_ GE390.out) | exact HB.out))) : w.heap.size ≤ gb392))
          have n6_ := Aside0.mk ((by rw [hg]; exact (below_size (by repeat (first | (with_reducible first | exact HB.out | apply below_alloc | apply pw_below_drewN | apply below_drew1 | refine below_set ?_ GE386.out | refine below_set ?_ GE387.out | refine below_set ?_ GE390.out) | exact HB.out))) : w.heap.size ≤ gb392))
          have n7_ := Aside0.mk ((by rw [hg]; exact Nat.ne_of_lt (blk_lt (g := gb386) (o := .cells #[.int .i64 a0_0, .bool a0_1] 23 (0, 0)) (by (with_reducible repeat (first | refine blk_drewN ?_ _ | refine blk_drew ?_ | refine blk_alloc ?_ _)); exact BK386.out)) : gb386 ≠ gb392))
          have n8_ := Aside0.mk ((by rw [hg]; exact Nat.ne_of_gt (blk_lt (g := gb386) (o := .cells #[.int .i64 a0_0, .bool a0_1] 23 (0, 0)) (by (with_reducible repeat (first | refine blk_drewN ?_ _ | refine blk_drew ?_ | refine blk_alloc ?_ _)); exact BK386.out)) : gb392 ≠ gb386))
          have n9_ := Aside0.mk ((by rw [hg]; exact Nat.ne_of_lt (blk_lt (g := gb387) (o := .cells #[.int .i64 0, .bool false] 23 (0, 0)) (by (with_reducible repeat (first | refine blk_drewN ?_ _ | refine blk_drew ?_ | refine blk_alloc ?_ _)); exact BK387.out)) : gb387 ≠ gb392))
          have n10_ := Aside0.mk ((by rw [hg]; exact Nat.ne_of_gt (blk_lt (g := gb387) (o := .cells #[.int .i64 0, .bool false] 23 (0, 0)) (by (with_reducible repeat (first | refine blk_drewN ?_ _ | refine blk_drew ?_ | refine blk_alloc ?_ _)); exact BK387.out)) : gb392 ≠ gb387))
          have n11_ := Aside0.mk ((by rw [hg]; exact Nat.ne_of_lt (blk_lt (g := gb390) (o := .cells #[.int .i64 x391000_2, .bool t389] 23 (0, 0)) (by (with_reducible repeat (first | refine blk_drewN ?_ _ | refine blk_drew ?_ | refine blk_alloc ?_ _)); exact BK390.out)) : gb390 ≠ gb392))
          have n12_ := Aside0.mk ((by rw [hg]; exact Nat.ne_of_gt (blk_lt (g := gb390) (o := .cells #[.int .i64 x391000_2, .bool t389] 23 (0, 0)) (by (with_reducible repeat (first | refine blk_drewN ?_ _ | refine blk_drew ?_ | refine blk_alloc ?_ _)); exact BK390.out)) : gb392 ≠ gb390))
          clear BK386
          clear BK387
          clear BK390
          clear HB
          have BK386 := n0_
          have BK387 := n1_
          have BK390 := n2_
          have HB := n3_
          have BK392 := n4_
          have GW392 := n5_
          have GE392 := n6_
          have NB386_392 := n7_
          have NB392_386 := n8_
          have NB387_392 := n9_
          have NB392_387 := n10_
          have NB390_392 := n11_
          have NB392_390 := n12_
          clear n0_ n1_ n2_ n3_ n4_ n5_ n6_ n7_ n8_ n9_ n10_ n11_ n12_
          clear hb hbox hg
          refine hK.out _ _ ⟨(blk_cell BK390.out 0).trans rfl, (blk_cell BK390.out 1).trans rfl⟩ (fun hHeld => ?_)
          clear hK K
          refine norm_ (a' := ?_) ?_ ?_
          rotate_left
          · show Act.put _ (some 5) _ = _
            simp only [Act.put, List.setIfInBounds_toArray, List.set_cons_zero, List.set_cons_succ, i64_w, i32_w]
            rfl
          refine one_ (i := 2) (N := some 4) #[true, true, true, true, false, false] rfl rfl (by kernel_rfl) (by decide) (fun K hK => ?_)
          refine box_step ?hg (N := 4) ?hd (cs := #[.int .i64 0, .bool false]) (t := 23) ?hr ?_; (case hd => rfl); (case hg => rfl); (case hr => first | (go_simp; done) | (go_simp; rfl))
          intro gb391 hg w26 hbox hb
          have n0_ := Aside0.mk (blk_below (g := gb386) (o := .cells #[.int .i64 a0_0, .bool a0_1] 23 (0, 0)) (by (with_reducible repeat (first | refine blk_drewN ?_ _ | refine blk_drew ?_ | refine blk_alloc ?_ _)); exact BK386.out) hb)
          have n1_ := Aside0.mk (blk_below (g := gb387) (o := .cells #[.int .i64 0, .bool false] 23 (0, 0)) (by (with_reducible repeat (first | refine blk_drewN ?_ _ | refine blk_drew ?_ | refine blk_alloc ?_ _)); exact BK387.out) hb)
          have n2_ := Aside0.mk (blk_below (g := gb390) (o := .cells #[.int .i64 x391000_2, .bool t389] 23 (0, 0)) (by (with_reducible repeat (first | refine blk_drewN ?_ _ | refine blk_drew ?_ | refine blk_alloc ?_ _)); exact BK390.out) hb)
          have n3_ := Aside0.mk (blk_below (g := gb392) (o := .cells #[.int .i64 0, .bool false] 23 (0, 0)) (by (with_reducible repeat (first | refine blk_drewN ?_ _ | refine blk_drew ?_ | refine blk_alloc ?_ _)); exact BK392.out) hb)
          have n4_ := Aside0.mk (below_step (by repeat (first | (with_reducible first | exact HB.out | apply below_alloc | apply pw_below_drewN | apply below_drew1 | refine below_set ?_ GE386.out | refine below_set ?_ GE387.out | refine below_set ?_ GE390.out | refine below_set ?_ GE392.out) | exact HB.out)) hb)
          have n5_ := Aside0.mk (hbox)
          have n6_ := Aside0.mk ((by rw [hg]; exact (below_size (by repeat (first | (with_reducible first | exact HB.out | apply below_alloc | apply pw_below_drewN | apply below_drew1 | refine below_set ?_ GE386.out | refine below_set ?_ GE387.out | refine below_set ?_ GE390.out | refine below_set ?_ GE392.out) | exact HB.out))) : w.heap.size ≤ gb391))
          have n7_ := Aside0.mk ((by rw [hg]; exact (below_size (by repeat (first | (with_reducible first | exact HB.out | apply below_alloc | apply pw_below_drewN | apply below_drew1 | refine below_set ?_ GE386.out | refine below_set ?_ GE387.out | refine below_set ?_ GE390.out | refine below_set ?_ GE392.out) | exact HB.out))) : w.heap.size ≤ gb391))
          have n8_ := Aside0.mk ((by rw [hg]; exact Nat.ne_of_lt (blk_lt (g := gb386) (o := .cells #[.int .i64 a0_0, .bool a0_1] 23 (0, 0)) (by (with_reducible repeat (first | refine blk_drewN ?_ _ | refine blk_drew ?_ | refine blk_alloc ?_ _)); exact BK386.out)) : gb386 ≠ gb391))
          have n9_ := Aside0.mk ((by rw [hg]; exact Nat.ne_of_gt (blk_lt (g := gb386) (o := .cells #[.int .i64 a0_0, .bool a0_1] 23 (0, 0)) (by (with_reducible repeat (first | refine blk_drewN ?_ _ | refine blk_drew ?_ | refine blk_alloc ?_ _)); exact BK386.out)) : gb391 ≠ gb386))
          have n10_ := Aside0.mk ((by rw [hg]; exact Nat.ne_of_lt (blk_lt (g := gb387) (o := .cells #[.int .i64 0, .bool false] 23 (0, 0)) (by (with_reducible repeat (first | refine blk_drewN ?_ _ | refine blk_drew ?_ | refine blk_alloc ?_ _)); exact BK387.out)) : gb387 ≠ gb391))
          have n11_ := Aside0.mk ((by rw [hg]; exact Nat.ne_of_gt (blk_lt (g := gb387) (o := .cells #[.int .i64 0, .bool false] 23 (0, 0)) (by (with_reducible repeat (first | refine blk_drewN ?_ _ | refine blk_drew ?_ | refine blk_alloc ?_ _)); exact BK387.out)) : gb391 ≠ gb387))
          have n12_ := Aside0.mk ((by rw [hg]; exact Nat.ne_of_lt (blk_lt (g := gb390) (o := .cells #[.int .i64 x391000_2, .bool t389] 23 (0, 0)) (by (with_reducible repeat (first | refine blk_drewN ?_ _ | refine blk_drew ?_ | refine blk_alloc ?_ _)); exact BK390.out)) : gb390 ≠ gb391))
          have n13_ := Aside0.mk ((by rw [hg]; exact Nat.ne_of_gt (blk_lt (g := gb390) (o := .cells #[.int .i64 x391000_2, .bool t389] 23 (0, 0)) (by (with_reducible repeat (first | refine blk_drewN ?_ _ | refine blk_drew ?_ | refine blk_alloc ?_ _)); exact BK390.out)) : gb391 ≠ gb390))
          have n14_ := Aside0.mk ((by rw [hg]; exact Nat.ne_of_lt (blk_lt (g := gb392) (o := .cells #[.int .i64 0, .bool false] 23 (0, 0)) (by (with_reducible repeat (first | refine blk_drewN ?_ _ | refine blk_drew ?_ | refine blk_alloc ?_ _)); exact BK392.out)) : gb392 ≠ gb391))
          have n15_ := Aside0.mk ((by rw [hg]; exact Nat.ne_of_gt (blk_lt (g := gb392) (o := .cells #[.int .i64 0, .bool false] 23 (0, 0)) (by (with_reducible repeat (first | refine blk_drewN ?_ _ | refine blk_drew ?_ | refine blk_alloc ?_ _)); exact BK392.out)) : gb391 ≠ gb392))
          clear BK386
          clear BK387
          clear BK390
          clear BK392
          clear HB
          have BK386 := n0_
          have BK387 := n1_
          have BK390 := n2_
          have BK392 := n3_
          have HB := n4_
          have BK391 := n5_
          have GW391 := n6_
          have GE391 := n7_
          have NB386_391 := n8_
          have NB391_386 := n9_
          have NB387_391 := n10_
          have NB391_387 := n11_
          have NB390_391 := n12_
          have NB391_390 := n13_
          have NB392_391 := n14_
          have NB391_392 := n15_
          clear n0_ n1_ n2_ n3_ n4_ n5_ n6_ n7_ n8_ n9_ n10_ n11_ n12_ n13_ n14_ n15_
          clear hb hbox hg
          refine hK.out _ _ ⟨(blk_cell BK390.out 0).trans rfl, (blk_cell BK390.out 1).trans rfl⟩ (fun hHeld => ?_)
          clear hK K
          refine norm_ (a' := ?_) ?_ ?_
          rotate_left
          · show Act.put _ (some 4) _ = _
            simp only [Act.put, List.setIfInBounds_toArray, List.set_cons_zero, List.set_cons_succ, i64_w, i32_w]
            rfl
          exact norm_ (by simp only [putAll, Act.put, List.setIfInBounds_toArray, List.set_cons_zero, List.set_cons_succ]) (hCont (gb391, gb392) _ ⟨hHeld, (by (with_reducible repeat (first | refine blk_drewN ?_ _ | refine blk_drew ?_ | refine blk_alloc ?_ _)); exact BK386.out), (by (with_reducible repeat (first | refine blk_drewN ?_ _ | refine blk_drew ?_ | refine blk_alloc ?_ _)); exact BK387.out), (by (with_reducible repeat (first | refine blk_drewN ?_ _ | refine blk_drew ?_ | refine blk_alloc ?_ _)); exact BK390.out), (by (with_reducible repeat (first | refine blk_drewN ?_ _ | refine blk_drew ?_ | refine blk_alloc ?_ _)); exact BK391.out), (by (with_reducible repeat (first | refine blk_drewN ?_ _ | refine blk_drew ?_ | refine blk_alloc ?_ _)); exact BK392.out), GW391.out, GE391.out, NB386_391.out, NB391_386.out, NB387_391.out, NB391_387.out, NB390_391.out, NB391_390.out, NB392_391.out, NB391_392.out, GW392.out, GE392.out, NB386_392.out, NB392_386.out, NB387_392.out, NB392_387.out, NB390_392.out, NB392_390.out, (by repeat (first | (with_reducible first | exact HB.out | apply below_alloc | apply pw_below_drewN | apply below_drew1 | refine below_set ?_ GE386.out | refine below_set ?_ GE387.out | refine below_set ?_ GE390.out | refine below_set ?_ GE392.out | refine below_set ?_ GE391.out) | exact HB.out))⟩)
      rintro ⟨gb391, gb392⟩ w27 ⟨hS_, h0_, h1_, h2_, h3_, h4_, h5_, h6_, h7_, h8_, h9_, h10_, h11_, h12_, h13_, h14_, h15_, h16_, h17_, h18_, h19_, h20_, h21_, h22_, h23_⟩
      have n0_ : Aside0 (w27.heap[gb386]? = some (.cells #[.int .i64 a0_0, .bool a0_1] 23 (0, 0))) := ⟨h0_⟩
      have n1_ : Aside0 (w27.heap[gb387]? = some (.cells #[.int .i64 0, .bool false] 23 (0, 0))) := ⟨h1_⟩
      have n2_ : Aside0 (w27.heap[gb390]? = some (.cells #[.int .i64 x391000_2, .bool t389] 23 (0, 0))) := ⟨h2_⟩
      have n3_ : Aside0 (w27.heap[gb391]? = some (.cells #[.int .i64 0, .bool false] 23 (0, 0))) := ⟨h3_⟩
      have n4_ : Aside0 (w27.heap[gb392]? = some (.cells #[.int .i64 0, .bool false] 23 (0, 0))) := ⟨h4_⟩
      have n5_ : Aside0 (w.heap.size ≤ gb391) := ⟨h5_⟩
      have n6_ : Aside0 (w.heap.size ≤ gb391) := ⟨h6_⟩
      have n7_ : Aside0 (gb386 ≠ gb391) := ⟨h7_⟩
      have n8_ : Aside0 (gb391 ≠ gb386) := ⟨h8_⟩
      have n9_ : Aside0 (gb387 ≠ gb391) := ⟨h9_⟩
      have n10_ : Aside0 (gb391 ≠ gb387) := ⟨h10_⟩
      have n11_ : Aside0 (gb390 ≠ gb391) := ⟨h11_⟩
      have n12_ : Aside0 (gb391 ≠ gb390) := ⟨h12_⟩
      have n13_ : Aside0 (gb392 ≠ gb391) := ⟨h13_⟩
      have n14_ : Aside0 (gb391 ≠ gb392) := ⟨h14_⟩
      have n15_ : Aside0 (w.heap.size ≤ gb392) := ⟨h15_⟩
      have n16_ : Aside0 (w.heap.size ≤ gb392) := ⟨h16_⟩
      have n17_ : Aside0 (gb386 ≠ gb392) := ⟨h17_⟩
      have n18_ : Aside0 (gb392 ≠ gb386) := ⟨h18_⟩
      have n19_ : Aside0 (gb387 ≠ gb392) := ⟨h19_⟩
      have n20_ : Aside0 (gb392 ≠ gb387) := ⟨h20_⟩
      have n21_ : Aside0 (gb390 ≠ gb392) := ⟨h21_⟩
      have n22_ : Aside0 (gb392 ≠ gb390) := ⟨h22_⟩
      have n23_ : Aside0 (Below w.heap.size w w27) := ⟨h23_⟩
      clear BK386
      clear BK387
      clear BK390
      clear HB
      clear h0_ h1_ h2_ h3_ h4_ h5_ h6_ h7_ h8_ h9_ h10_ h11_ h12_ h13_ h14_ h15_ h16_ h17_ h18_ h19_ h20_ h21_ h22_ h23_
      have BK386 := n0_
      have BK387 := n1_
      have BK390 := n2_
      have BK391 := n3_
      have BK392 := n4_
      have GW391 := n5_
      have GE391 := n6_
      have NB386_391 := n7_
      have NB391_386 := n8_
      have NB387_391 := n9_
      have NB391_387 := n10_
      have NB390_391 := n11_
      have NB391_390 := n12_
      have NB392_391 := n13_
      have NB391_392 := n14_
      have GW392 := n15_
      have GE392 := n16_
      have NB386_392 := n17_
      have NB392_386 := n18_
      have NB387_392 := n19_
      have NB392_387 := n20_
      have NB390_392 := n21_
      have NB392_390 := n22_
      have HB := n23_
      clear n0_ n1_ n2_ n3_ n4_ n5_ n6_ n7_ n8_ n9_ n10_ n11_ n12_ n13_ n14_ n15_ n16_ n17_ n18_ n19_ n20_ n21_ n22_ n23_
      have hHeld : w27.cell? ⟨gb390, 0, none⟩ = some (.int .i64 x391000_2) ∧ w27.cell? ⟨gb390, 1, none⟩ = some (.bool t389) := hS_
      refine norm_ (a' := ?_) ?_ ?_
      rotate_left
      · simp only [putAll, Act.put, List.setIfInBounds_toArray, List.set_cons_zero, List.set_cons_succ]
        rfl
      refine one_ (i := 4) (N := none) #[true, true, true, true, true, false] rfl rfl (by kernel_rfl) (by decide) (fun K hK => ?_)
      have hs28 : w27.cell? ⟨gb391, 0, none⟩ = some (.int .i64 0) := (blk_cell BK391.out 0).trans rfl
      have hfs28 := blk_frozen BK391.out 0
      have hns28_0 := NB386_391.out
      have hns28_1 := NB387_391.out
      have hns28_2 := NB390_391.out
      have hns28_4 := NB392_391.out
      have hms28_0 := NB391_386.out
      have hms28_1 := NB391_387.out
      have hms28_2 := NB391_390.out
      have hms28_4 := NB391_392.out
      have hs29 : w27.cell? ⟨gb391, 1, none⟩ = some (.bool false) := (blk_cell BK391.out 1).trans rfl
      have hfs29 := blk_frozen BK391.out 1
      have hns29_0 := NB386_391.out
      have hns29_1 := NB387_391.out
      have hns29_2 := NB390_391.out
      have hns29_4 := NB392_391.out
      have hms29_0 := NB391_386.out
      have hms29_1 := NB391_387.out
      have hms29_2 := NB391_390.out
      have hms29_4 := NB391_392.out
      refine skip_ (w1 := ?_) (by rfl) rfl ?_ ?_
      rotate_left
      · go_simp
        rfl
      refine hK.out _ _ ⟨((cell_far (p := ⟨gb391, _, none⟩) NB390_391.out _).trans (((cell_far (p := ⟨gb391, _, none⟩) NB390_391.out _).trans (hHeld.1)))), ((cell_far (p := ⟨gb391, _, none⟩) NB390_391.out _).trans (((cell_far (p := ⟨gb391, _, none⟩) NB390_391.out _).trans (hHeld.2))))⟩ (fun hHeld => ?_)
      clear hK K
      refine one_ (i := 5) (N := none) #[true, true, true, true, true, true] rfl rfl (by kernel_rfl) (by decide) (fun K hK => ?_)
      have hs30 : w27.cell? ⟨gb392, 0, none⟩ = some (.int .i64 0) := (blk_cell BK392.out 0).trans rfl
      have hfs30 := blk_frozen BK392.out 0
      have hns30_0 := NB386_392.out
      have hns30_1 := NB387_392.out
      have hns30_2 := NB390_392.out
      have hns30_3 := NB391_392.out
      have hms30_0 := NB392_386.out
      have hms30_1 := NB392_387.out
      have hms30_2 := NB392_390.out
      have hms30_3 := NB392_391.out
      have hs31 : w27.cell? ⟨gb392, 1, none⟩ = some (.bool false) := (blk_cell BK392.out 1).trans rfl
      have hfs31 := blk_frozen BK392.out 1
      have hns31_0 := NB386_392.out
      have hns31_1 := NB387_392.out
      have hns31_2 := NB390_392.out
      have hns31_3 := NB391_392.out
      have hms31_0 := NB392_386.out
      have hms31_1 := NB392_387.out
      have hms31_2 := NB392_390.out
      have hms31_3 := NB392_391.out
      refine skip_ (w1 := ?_) (by rfl) rfl ?_ ?_
      rotate_left
      · go_simp
        rfl
      refine hK.out _ _ ⟨((cell_far (p := ⟨gb392, _, none⟩) NB390_392.out _).trans (((cell_far (p := ⟨gb392, _, none⟩) NB390_392.out _).trans (hHeld.1)))), ((cell_far (p := ⟨gb392, _, none⟩) NB390_392.out _).trans (((cell_far (p := ⟨gb392, _, none⟩) NB390_392.out _).trans (hHeld.2))))⟩ (fun hHeld => ?_)
      clear hK K
      refine done_ (by kernel_rfl) ?_
      try go_wp2
      go_loopg [28] kj2 (fun kq v28 w' => ∃ (x28_2 : Int) (x392000_2 : Int) (x392001_2 : Bool) (x393000_2 : Int) (x393001_2 : Bool), v28 = .int .i64 x28_2 ∧ Aside0 (fixed_Sin.l0 kq x28_2 x391000_2 t389 x392000_2 x392001_2 x393000_2 x393001_2 = some (r1, r2)) ∧ Aside0 (kq ≤ kj2) ∧ Aside0 (w'.heap[gb386]? = some (.cells #[.int .i64 a0_0, .bool a0_1] 23 (0, 0))) ∧ Aside0 (w'.heap[gb387]? = some (.cells #[.int .i64 0, .bool false] 23 (0, 0))) ∧ Aside0 (w'.heap[gb390]? = some (.cells #[.int .i64 x391000_2, .bool t389] 23 (0, 0))) ∧ Aside0 (w'.heap[gb391]? = some (.cells #[.int .i64 x392000_2, .bool x392001_2] 23 (0, 0))) ∧ Aside0 (w'.heap[gb392]? = some (.cells #[.int .i64 x393000_2, .bool x393001_2] 23 (0, 0))) ∧ Aside0 (Below w.heap.size w w'))
      case atStart => exact ⟨(0), (x391000_2), (t389), (x391000_2), (t389), (by first | rfl | (simp; done) | (simp [*]; done)), H', ⟨Nat.le_refl _⟩, ⟨by (with_reducible repeat (first | refine blk_drewN ?_ _ | refine blk_drew ?_ | refine blk_alloc ?_ _)); refine blk_far ?_ NB386_392.out _; (with_reducible repeat (first | refine blk_drewN ?_ _ | refine blk_drew ?_ | refine blk_alloc ?_ _)); refine blk_far ?_ NB386_392.out _; (with_reducible repeat (first | refine blk_drewN ?_ _ | refine blk_drew ?_ | refine blk_alloc ?_ _)); refine blk_far ?_ NB386_391.out _; (with_reducible repeat (first | refine blk_drewN ?_ _ | refine blk_drew ?_ | refine blk_alloc ?_ _)); refine blk_far ?_ NB386_391.out _; (with_reducible repeat (first | refine blk_drewN ?_ _ | refine blk_drew ?_ | refine blk_alloc ?_ _)); exact BK386.out⟩, ⟨by (with_reducible repeat (first | refine blk_drewN ?_ _ | refine blk_drew ?_ | refine blk_alloc ?_ _)); refine blk_far ?_ NB387_392.out _; (with_reducible repeat (first | refine blk_drewN ?_ _ | refine blk_drew ?_ | refine blk_alloc ?_ _)); refine blk_far ?_ NB387_392.out _; (with_reducible repeat (first | refine blk_drewN ?_ _ | refine blk_drew ?_ | refine blk_alloc ?_ _)); refine blk_far ?_ NB387_391.out _; (with_reducible repeat (first | refine blk_drewN ?_ _ | refine blk_drew ?_ | refine blk_alloc ?_ _)); refine blk_far ?_ NB387_391.out _; (with_reducible repeat (first | refine blk_drewN ?_ _ | refine blk_drew ?_ | refine blk_alloc ?_ _)); exact BK387.out⟩, ⟨by (with_reducible repeat (first | refine blk_drewN ?_ _ | refine blk_drew ?_ | refine blk_alloc ?_ _)); refine blk_far ?_ NB390_392.out _; (with_reducible repeat (first | refine blk_drewN ?_ _ | refine blk_drew ?_ | refine blk_alloc ?_ _)); refine blk_far ?_ NB390_392.out _; (with_reducible repeat (first | refine blk_drewN ?_ _ | refine blk_drew ?_ | refine blk_alloc ?_ _)); refine blk_far ?_ NB390_391.out _; (with_reducible repeat (first | refine blk_drewN ?_ _ | refine blk_drew ?_ | refine blk_alloc ?_ _)); refine blk_far ?_ NB390_391.out _; (with_reducible repeat (first | refine blk_drewN ?_ _ | refine blk_drew ?_ | refine blk_alloc ?_ _)); exact BK390.out⟩, ⟨by (with_reducible repeat (first | refine blk_drewN ?_ _ | refine blk_drew ?_ | refine blk_alloc ?_ _)); refine blk_far ?_ NB391_392.out _; (with_reducible repeat (first | refine blk_drewN ?_ _ | refine blk_drew ?_ | refine blk_alloc ?_ _)); refine blk_far ?_ NB391_392.out _; (with_reducible repeat (first | refine blk_drewN ?_ _ | refine blk_drew ?_ | refine blk_alloc ?_ _)); refine blk_put (cs := #[.int .i64 x391000_2, .bool false]) ?_ 1 _ rfl; (with_reducible repeat (first | refine blk_drewN ?_ _ | refine blk_drew ?_ | refine blk_alloc ?_ _)); refine blk_put (cs := #[.int .i64 0, .bool false]) ?_ 0 _ rfl; (with_reducible repeat (first | refine blk_drewN ?_ _ | refine blk_drew ?_ | refine blk_alloc ?_ _)); exact BK391.out⟩, ⟨by (with_reducible repeat (first | refine blk_drewN ?_ _ | refine blk_drew ?_ | refine blk_alloc ?_ _)); refine blk_put (cs := #[.int .i64 x391000_2, .bool false]) ?_ 1 _ rfl; (with_reducible repeat (first | refine blk_drewN ?_ _ | refine blk_drew ?_ | refine blk_alloc ?_ _)); refine blk_put (cs := #[.int .i64 0, .bool false]) ?_ 0 _ rfl; (with_reducible repeat (first | refine blk_drewN ?_ _ | refine blk_drew ?_ | refine blk_alloc ?_ _)); refine blk_far ?_ NB392_391.out _; (with_reducible repeat (first | refine blk_drewN ?_ _ | refine blk_drew ?_ | refine blk_alloc ?_ _)); refine blk_far ?_ NB392_391.out _; (with_reducible repeat (first | refine blk_drewN ?_ _ | refine blk_drew ?_ | refine blk_alloc ?_ _)); exact BK392.out⟩, ⟨by repeat (first | (with_reducible first | exact HB.out | apply below_alloc | apply pw_below_drewN | apply below_drew1 | refine below_set ?_ GE386.out | refine below_set ?_ GE387.out | refine below_set ?_ GE390.out | refine below_set ?_ GE391.out | refine below_set ?_ GE392.out) | exact HB.out)⟩⟩
      case round =>
        clear H'
        try clear c1
        try clear c2
        try clear p2
        try clear c4
        try clear c6
        try clear p6
        try clear c10
        try clear c11
        try clear c13
        try clear c13b0
        try clear c14
        try clear c15
        try clear c17
        try clear c17b0
        try clear c18
        try clear c19
        try clear c21
        try clear c22
        try clear hcz12_0
        try clear hcz12_1
        try clear hcz16_0
        try clear hcz16_1
        try clear hcz20_0
        try clear hcz20_1
        try clear hcz23_0
        try clear hcz23_1
        try clear hcz7_0
        try clear hcz7_1
        try clear hfz12_0
        try clear hfz12_1
        try clear hfz16_0
        try clear hfz16_1
        try clear hfz20_0
        try clear hfz20_1
        try clear hfz23_0
        try clear hfz23_1
        try clear hfz7_0
        try clear hfz7_1
        try clear p2
        try clear p6
        obtain ⟨x28_2, x392000_2, x392001_2, x393000_2, x393001_2, rfl, HA, HK2, BK386, BK387, BK390, BK391, BK392, HB⟩ := hrel
        cases gk with
        | zero => exact absurd HA.out (by simp [fixed_Sin.l0])
        | succ k2 =>
          have H := HA.out
          clear HA
          simp only [fixed_Sin.l0] at H
          by_cases c32 : x28_2 < 8
          · rw [if_pos c32] at H
            have c32b0 : decide (x28_2 < 8) = true := decide_eq_true c32
            clear c32
            replace H := Option.bind_eq_some_iff.mp H
            obtain ⟨⟨t399, t400⟩, A330, H⟩ := H
            replace H : ((fixed_Mul.f k2 t399 t400 x391000_2 t389).bind fun bt401 => ((fixed_Int.f k2 (wrap64 ((wrap64 (2 * (wrap64 (x28_2 + 1)))) * (wrap64 ((wrap64 (2 * (wrap64 (x28_2 + 1)))) + 1))))).bind fun bt403 => ((fixed_Div.f k2 bt401.1 bt401.2 bt403.1 bt403.2).bind fun bt405 => ((fixed_Neg.f bt405.1 bt405.2).bind fun bt407 => ((fixed_Add.f k2 x393000_2 x393001_2 bt407.1 bt407.2).bind fun bt409 => (fixed_Sin.l0 k2 (wrap64 (x28_2 + 1)) x391000_2 t389 bt407.1 bt407.2 bt409.1 bt409.2)))))) = some (r1, r2) := H
            have A33 := Aside0.mk A330
            clear A330
            replace H := Option.bind_eq_some_iff.mp H
            obtain ⟨⟨t401, t402⟩, A340, H⟩ := H
            replace H : ((fixed_Int.f k2 (wrap64 ((wrap64 (2 * (wrap64 (x28_2 + 1)))) * (wrap64 ((wrap64 (2 * (wrap64 (x28_2 + 1)))) + 1))))).bind fun bt403 => ((fixed_Div.f k2 t401 t402 bt403.1 bt403.2).bind fun bt405 => ((fixed_Neg.f bt405.1 bt405.2).bind fun bt407 => ((fixed_Add.f k2 x393000_2 x393001_2 bt407.1 bt407.2).bind fun bt409 => (fixed_Sin.l0 k2 (wrap64 (x28_2 + 1)) x391000_2 t389 bt407.1 bt407.2 bt409.1 bt409.2))))) = some (r1, r2) := H
            have A34 := Aside0.mk A340
            clear A340
            replace H := Option.bind_eq_some_iff.mp H
            obtain ⟨⟨t403, t404⟩, A350, H⟩ := H
            replace H : ((fixed_Div.f k2 t401 t402 t403 t404).bind fun bt405 => ((fixed_Neg.f bt405.1 bt405.2).bind fun bt407 => ((fixed_Add.f k2 x393000_2 x393001_2 bt407.1 bt407.2).bind fun bt409 => (fixed_Sin.l0 k2 (wrap64 (x28_2 + 1)) x391000_2 t389 bt407.1 bt407.2 bt409.1 bt409.2)))) = some (r1, r2) := H
            have A35 := Aside0.mk A350
            clear A350
            replace H := Option.bind_eq_some_iff.mp H
            obtain ⟨⟨t405, t406⟩, A360, H⟩ := H
            replace H : ((fixed_Neg.f t405 t406).bind fun bt407 => ((fixed_Add.f k2 x393000_2 x393001_2 bt407.1 bt407.2).bind fun bt409 => (fixed_Sin.l0 k2 (wrap64 (x28_2 + 1)) x391000_2 t389 bt407.1 bt407.2 bt409.1 bt409.2))) = some (r1, r2) := H
            have A36 := Aside0.mk A360
            clear A360
            replace H := Option.bind_eq_some_iff.mp H
            obtain ⟨⟨t407, t408⟩, A370, H⟩ := H
            replace H : ((fixed_Add.f k2 x393000_2 x393001_2 t407 t408).bind fun bt409 => (fixed_Sin.l0 k2 (wrap64 (x28_2 + 1)) x391000_2 t389 t407 t408 bt409.1 bt409.2)) = some (r1, r2) := H
            have A37 := Aside0.mk A370
            clear A370
            replace H := Option.bind_eq_some_iff.mp H
            obtain ⟨⟨t409, t410⟩, A380, H⟩ := H
            replace H : (fixed_Sin.l0 k2 (wrap64 (x28_2 + 1)) x391000_2 t389 t407 t408 t409 t410) = some (r1, r2) := H
            have A38 := Aside0.mk A380
            clear A380
            have H' := Aside0.mk H
            clear H
            try go_wp2
            have n0_ := Aside0.mk (blk_drew BK386.out)
            have n1_ := Aside0.mk (blk_drew BK387.out)
            have n2_ := Aside0.mk (blk_drew BK390.out)
            have n3_ := Aside0.mk (blk_drew BK391.out)
            have n4_ := Aside0.mk (blk_drew BK392.out)
            have n5_ := Aside0.mk (below_drew1 HB.out)
            clear BK386
            clear BK387
            clear BK390
            clear BK391
            clear BK392
            clear HB
            have BK386 := n0_
            have BK387 := n1_
            have BK390 := n2_
            have BK391 := n3_
            have BK392 := n4_
            have HB := n5_
            clear n0_ n1_ n2_ n3_ n4_ n5_
            refine start_ (n := 13) (S := fun w' => w'.cell? ⟨gb391, 0, none⟩ = some (.int .i64 x392000_2) ∧ w'.cell? ⟨gb391, 1, none⟩ = some (.bool x392001_2) ∧ w'.cell? ⟨gb390, 0, none⟩ = some (.int .i64 x391000_2) ∧ w'.cell? ⟨gb390, 1, none⟩ = some (.bool t389)) (ds := [12]) #[false, false, false, false, false, false, false, false, false, false, false, false, false] (by kernel_rfl) rfl rfl ⟨(blk_cell BK391.out 0).trans rfl, (blk_cell BK391.out 1).trans rfl, (blk_cell BK390.out 0).trans rfl, (blk_cell BK390.out 1).trans rfl⟩ (fun hHeld => ?_); refine with_tabW fixed_Sin.tab11 fixed_Sin.bits11 (fun HT_ HW_ => ?_)
            generalize wr.drew = w39 at BK386 BK387 BK390 BK391 BK392 HB hHeld ⊢
            refine pure_ (i := 5) (N := some 39) (v := ?_) (a' := ?_) #[false, false, false, false, false, true, false, false, false, false, false, false, false] rfl rfl (any_of HT_.out (by kernel_rfl)) (fun _ _ _ h => h) (Or.inl ⟨by rfl, ?_⟩) ?_ ?_
            rotate_left
            · intro w'
              go_simp
              with_reducible rfl
            rotate_left
            · simp only [Act.put, List.setIfInBounds_toArray, List.set_cons_zero, List.set_cons_succ, i64_w, i32_w]
              rfl
            refine pure_ (i := 6) (N := some 40) (v := ?_) (a' := ?_) #[false, false, false, false, false, true, true, false, false, false, false, false, false] rfl rfl (any_of HT_.out (by kernel_rfl)) (fun _ _ _ h => h) (Or.inl ⟨by rfl, ?_⟩) ?_ ?_
            rotate_left
            · intro w'
              go_simp
              with_reducible rfl
            rotate_left
            · simp only [Act.put, List.setIfInBounds_toArray, List.set_cons_zero, List.set_cons_succ, i64_w, i32_w]
              rfl
            refine pure_ (i := 7) (N := some 41) (v := ?_) (a' := ?_) #[false, false, false, false, false, true, true, true, false, false, false, false, false] rfl rfl (any_of HT_.out (by kernel_rfl)) (fun _ _ _ h => h) (Or.inl ⟨by rfl, ?_⟩) ?_ ?_
            rotate_left
            · intro w'
              go_simp
              with_reducible rfl
            rotate_left
            · simp only [Act.put, List.setIfInBounds_toArray, List.set_cons_zero, List.set_cons_succ, i64_w, i32_w]
              rfl
            refine pure_ (i := 8) (N := some 42) (v := ?_) (a' := ?_) #[false, false, false, false, false, true, true, true, true, false, false, false, false] rfl rfl (any_of HT_.out (by kernel_rfl)) (fun _ _ _ h => h) (Or.inl ⟨by rfl, ?_⟩) ?_ ?_
            rotate_left
            · intro w'
              go_simp
              with_reducible rfl
            rotate_left
            · simp only [Act.put, List.setIfInBounds_toArray, List.set_cons_zero, List.set_cons_succ, i64_w, i32_w]
              rfl
            refine take_ (i := 0) (N := some 34) (v := ?_) (a' := ?_) #[true, false, false, false, false, true, true, true, true, false, false, false, false] rfl rfl (take_ofW HT_.out HW_.out (by kernel_rfl)) (fun _ _ _ h => h) (Or.inl ⟨by rfl, ?_⟩) hHeld ?_ ?_
            rotate_left
            · rintro w' ⟨s0, s1, s2, s3⟩
              go_simp
              with_reducible rfl
            rotate_left
            · simp only [Act.put, List.setIfInBounds_toArray, List.set_cons_zero, List.set_cons_succ, i64_w, i32_w]
              rfl
            refine take_ (i := 1) (N := some 35) (v := ?_) (a' := ?_) #[true, true, false, false, false, true, true, true, true, false, false, false, false] rfl rfl (take_ofW HT_.out HW_.out (by kernel_rfl)) (fun _ _ _ h => h) (Or.inl ⟨by rfl, ?_⟩) hHeld ?_ ?_
            rotate_left
            · rintro w' ⟨s0, s1, s2, s3⟩
              go_simp
              with_reducible rfl
            rotate_left
            · simp only [Act.put, List.setIfInBounds_toArray, List.set_cons_zero, List.set_cons_succ, i64_w, i32_w]
              rfl
            refine take_ (i := 3) (N := some 37) (v := ?_) (a' := ?_) #[true, true, false, true, false, true, true, true, true, false, false, false, false] rfl rfl (take_ofW HT_.out HW_.out (by kernel_rfl)) (fun _ _ _ h => h) (Or.inl ⟨by rfl, ?_⟩) hHeld ?_ ?_
            rotate_left
            · rintro w' ⟨s0, s1, s2, s3⟩
              go_simp
              with_reducible rfl
            rotate_left
            · simp only [Act.put, List.setIfInBounds_toArray, List.set_cons_zero, List.set_cons_succ, i64_w, i32_w]
              rfl
            refine one_ (i := 2) (N := some 36) #[true, true, true, true, false, true, true, true, true, false, false, false, false] rfl rfl (one_of HT_.out (by kernel_rfl)) (by decide) (fun K hK => ?_)
            refine goes_ Try.func39 (by kernel_rfl) rfl #[.agg #[.int .i64 x392000_2, .bool x392001_2], .agg #[.int .i64 x391000_2, .bool t389]] (by rfl) rfl rfl (by (try simp only [List.map_toArray, List.map_cons, List.map_nil]); first | done | rfl | (simp only [List.length_drop, List.length_take]; rfl)) ?_
            with_reducible refine (fixed_Mul.calls k2 x392000_2 x392001_2 x391000_2 t389 t399 t400 _ A33.out).mono ?_
            rintro e w40 ⟨rfl, hb⟩
            refine ⟨_, rfl, ?_⟩
            have n0_ := Aside0.mk (blk_below (g := gb386) (o := .cells #[.int .i64 a0_0, .bool a0_1] 23 (0, 0)) (by (with_reducible repeat (first | refine blk_drewN ?_ _ | refine blk_drew ?_ | refine blk_alloc ?_ _)); exact BK386.out) hb)
            have n1_ := Aside0.mk (blk_below (g := gb387) (o := .cells #[.int .i64 0, .bool false] 23 (0, 0)) (by (with_reducible repeat (first | refine blk_drewN ?_ _ | refine blk_drew ?_ | refine blk_alloc ?_ _)); exact BK387.out) hb)
            have n2_ := Aside0.mk (blk_below (g := gb390) (o := .cells #[.int .i64 x391000_2, .bool t389] 23 (0, 0)) (by (with_reducible repeat (first | refine blk_drewN ?_ _ | refine blk_drew ?_ | refine blk_alloc ?_ _)); exact BK390.out) hb)
            have n3_ := Aside0.mk (blk_below (g := gb391) (o := .cells #[.int .i64 x392000_2, .bool x392001_2] 23 (0, 0)) (by (with_reducible repeat (first | refine blk_drewN ?_ _ | refine blk_drew ?_ | refine blk_alloc ?_ _)); exact BK391.out) hb)
            have n4_ := Aside0.mk (blk_below (g := gb392) (o := .cells #[.int .i64 x393000_2, .bool x393001_2] 23 (0, 0)) (by (with_reducible repeat (first | refine blk_drewN ?_ _ | refine blk_drew ?_ | refine blk_alloc ?_ _)); exact BK392.out) hb)
            have n5_ := Aside0.mk (below_step (by repeat (first | (with_reducible first | exact HB.out | apply below_alloc | apply pw_below_drewN | apply below_drew1 | refine below_set ?_ GE386.out | refine below_set ?_ GE387.out | refine below_set ?_ GE390.out | refine below_set ?_ GE391.out | refine below_set ?_ GE392.out) | exact HB.out)) hb)
            clear BK386
            clear BK387
            clear BK390
            clear BK391
            clear BK392
            clear HB
            have BK386 := n0_
            have BK387 := n1_
            have BK390 := n2_
            have BK391 := n3_
            have BK392 := n4_
            have HB := n5_
            clear n0_ n1_ n2_ n3_ n4_ n5_
            (try clear hb)
            (try clear hb2)
            (try clear hk)
            (try clear hi)
            refine hK.out _ _ ⟨(blk_cell BK391.out 0).trans rfl, (blk_cell BK391.out 1).trans rfl, (blk_cell BK390.out 0).trans rfl, (blk_cell BK390.out 1).trans rfl⟩ (fun hHeld => ?_)
            clear hK K
            refine norm_ (a' := ?_) ?_ ?_
            rotate_left
            · show Act.put _ (some 36) _ = _
              simp only [Act.put, List.setIfInBounds_toArray, List.set_cons_zero, List.set_cons_succ, i64_w, i32_w]
              rfl
            refine one_ (i := 4) (N := some 38) #[true, true, true, true, true, true, true, true, true, false, false, false, false] rfl rfl (one_of HT_.out (by kernel_rfl)) (by decide) (fun K hK => ?_)
            refine goes_ Try.func39 (by kernel_rfl) rfl #[.agg #[.int .i64 t399, .bool t400], .agg #[.int .i64 x391000_2, .bool t389]] (by rfl) rfl rfl (by (try simp only [List.map_toArray, List.map_cons, List.map_nil]); first | done | rfl | (simp only [List.length_drop, List.length_take]; rfl)) ?_
            with_reducible refine (fixed_Mul.calls k2 t399 t400 x391000_2 t389 t401 t402 _ A34.out).mono ?_
            rintro e w41 ⟨rfl, hb⟩
            refine ⟨_, rfl, ?_⟩
            have n0_ := Aside0.mk (blk_below (g := gb386) (o := .cells #[.int .i64 a0_0, .bool a0_1] 23 (0, 0)) (by (with_reducible repeat (first | refine blk_drewN ?_ _ | refine blk_drew ?_ | refine blk_alloc ?_ _)); exact BK386.out) hb)
            have n1_ := Aside0.mk (blk_below (g := gb387) (o := .cells #[.int .i64 0, .bool false] 23 (0, 0)) (by (with_reducible repeat (first | refine blk_drewN ?_ _ | refine blk_drew ?_ | refine blk_alloc ?_ _)); exact BK387.out) hb)
            have n2_ := Aside0.mk (blk_below (g := gb390) (o := .cells #[.int .i64 x391000_2, .bool t389] 23 (0, 0)) (by (with_reducible repeat (first | refine blk_drewN ?_ _ | refine blk_drew ?_ | refine blk_alloc ?_ _)); exact BK390.out) hb)
            have n3_ := Aside0.mk (blk_below (g := gb391) (o := .cells #[.int .i64 x392000_2, .bool x392001_2] 23 (0, 0)) (by (with_reducible repeat (first | refine blk_drewN ?_ _ | refine blk_drew ?_ | refine blk_alloc ?_ _)); exact BK391.out) hb)
            have n4_ := Aside0.mk (blk_below (g := gb392) (o := .cells #[.int .i64 x393000_2, .bool x393001_2] 23 (0, 0)) (by (with_reducible repeat (first | refine blk_drewN ?_ _ | refine blk_drew ?_ | refine blk_alloc ?_ _)); exact BK392.out) hb)
            have n5_ := Aside0.mk (below_step (by repeat (first | (with_reducible first | exact HB.out | apply below_alloc | apply pw_below_drewN | apply below_drew1 | refine below_set ?_ GE386.out | refine below_set ?_ GE387.out | refine below_set ?_ GE390.out | refine below_set ?_ GE391.out | refine below_set ?_ GE392.out) | exact HB.out)) hb)
            clear BK386
            clear BK387
            clear BK390
            clear BK391
            clear BK392
            clear HB
            have BK386 := n0_
            have BK387 := n1_
            have BK390 := n2_
            have BK391 := n3_
            have BK392 := n4_
            have HB := n5_
            clear n0_ n1_ n2_ n3_ n4_ n5_
            (try clear hb)
            (try clear hb2)
            (try clear hk)
            (try clear hi)
            refine hK.out _ _ ⟨(blk_cell BK391.out 0).trans rfl, (blk_cell BK391.out 1).trans rfl, (blk_cell BK390.out 0).trans rfl, (blk_cell BK390.out 1).trans rfl⟩ (fun hHeld => ?_)
            clear hK K
            refine norm_ (a' := ?_) ?_ ?_
            rotate_left
            · show Act.put _ (some 38) _ = _
              simp only [Act.put, List.setIfInBounds_toArray, List.set_cons_zero, List.set_cons_succ, i64_w, i32_w]
              rfl
            refine one_ (i := 9) (N := some 43) #[true, true, true, true, true, true, true, true, true, true, false, false, false] rfl rfl (one_of HT_.out (by kernel_rfl)) (by decide) (fun K hK => ?_)
            refine goes_ Try.func49 (by kernel_rfl) rfl #[.int .i64 (wrap64 ((wrap64 (2 * (wrap64 (x28_2 + 1)))) * (wrap64 ((wrap64 (2 * (wrap64 (x28_2 + 1)))) + 1))))] (by rfl) rfl rfl (by (try simp only [List.map_toArray, List.map_cons, List.map_nil]); first | done | rfl | (simp only [List.length_drop, List.length_take]; rfl)) ?_
            with_reducible refine (fixed_Int.calls k2 (wrap64 ((wrap64 (2 * (wrap64 (x28_2 + 1)))) * (wrap64 ((wrap64 (2 * (wrap64 (x28_2 + 1)))) + 1)))) t403 t404 _ A35.out).mono ?_
            rintro e w42 ⟨rfl, hb⟩
            refine ⟨_, rfl, ?_⟩
            have n0_ := Aside0.mk (blk_below (g := gb386) (o := .cells #[.int .i64 a0_0, .bool a0_1] 23 (0, 0)) (by (with_reducible repeat (first | refine blk_drewN ?_ _ | refine blk_drew ?_ | refine blk_alloc ?_ _)); exact BK386.out) hb)
            have n1_ := Aside0.mk (blk_below (g := gb387) (o := .cells #[.int .i64 0, .bool false] 23 (0, 0)) (by (with_reducible repeat (first | refine blk_drewN ?_ _ | refine blk_drew ?_ | refine blk_alloc ?_ _)); exact BK387.out) hb)
            have n2_ := Aside0.mk (blk_below (g := gb390) (o := .cells #[.int .i64 x391000_2, .bool t389] 23 (0, 0)) (by (with_reducible repeat (first | refine blk_drewN ?_ _ | refine blk_drew ?_ | refine blk_alloc ?_ _)); exact BK390.out) hb)
            have n3_ := Aside0.mk (blk_below (g := gb391) (o := .cells #[.int .i64 x392000_2, .bool x392001_2] 23 (0, 0)) (by (with_reducible repeat (first | refine blk_drewN ?_ _ | refine blk_drew ?_ | refine blk_alloc ?_ _)); exact BK391.out) hb)
            have n4_ := Aside0.mk (blk_below (g := gb392) (o := .cells #[.int .i64 x393000_2, .bool x393001_2] 23 (0, 0)) (by (with_reducible repeat (first | refine blk_drewN ?_ _ | refine blk_drew ?_ | refine blk_alloc ?_ _)); exact BK392.out) hb)
            have n5_ := Aside0.mk (below_step (by repeat (first | (with_reducible first | exact HB.out | apply below_alloc | apply pw_below_drewN | apply below_drew1 | refine below_set ?_ GE386.out | refine below_set ?_ GE387.out | refine below_set ?_ GE390.out | refine below_set ?_ GE391.out | refine below_set ?_ GE392.out) | exact HB.out)) hb)
            clear BK386
            clear BK387
            clear BK390
            clear BK391
            clear BK392
            clear HB
            have BK386 := n0_
            have BK387 := n1_
            have BK390 := n2_
            have BK391 := n3_
            have BK392 := n4_
            have HB := n5_
            clear n0_ n1_ n2_ n3_ n4_ n5_
            (try clear hb)
            (try clear hb2)
            (try clear hk)
            (try clear hi)
            refine hK.out _ _ ⟨(blk_cell BK391.out 0).trans rfl, (blk_cell BK391.out 1).trans rfl, (blk_cell BK390.out 0).trans rfl, (blk_cell BK390.out 1).trans rfl⟩ (fun hHeld => ?_)
            clear hK K
            refine norm_ (a' := ?_) ?_ ?_
            rotate_left
            · show Act.put _ (some 43) _ = _
              simp only [Act.put, List.setIfInBounds_toArray, List.set_cons_zero, List.set_cons_succ, i64_w, i32_w]
              rfl
            refine one_ (i := 10) (N := some 44) #[true, true, true, true, true, true, true, true, true, true, true, false, false] rfl rfl (one_of HT_.out (by kernel_rfl)) (by decide) (fun K hK => ?_)
            refine goes_ Try.func40 (by kernel_rfl) rfl #[.agg #[.int .i64 t401, .bool t402], .agg #[.int .i64 t403, .bool t404]] (by rfl) rfl rfl (by (try simp only [List.map_toArray, List.map_cons, List.map_nil]); first | done | rfl | (simp only [List.length_drop, List.length_take]; rfl)) ?_
            with_reducible refine (fixed_Div.calls k2 t401 t402 t403 t404 t405 t406 _ A36.out).mono ?_
            rintro e w43 ⟨rfl, hb⟩
            refine ⟨_, rfl, ?_⟩
            have n0_ := Aside0.mk (blk_below (g := gb386) (o := .cells #[.int .i64 a0_0, .bool a0_1] 23 (0, 0)) (by (with_reducible repeat (first | refine blk_drewN ?_ _ | refine blk_drew ?_ | refine blk_alloc ?_ _)); exact BK386.out) hb)
            have n1_ := Aside0.mk (blk_below (g := gb387) (o := .cells #[.int .i64 0, .bool false] 23 (0, 0)) (by (with_reducible repeat (first | refine blk_drewN ?_ _ | refine blk_drew ?_ | refine blk_alloc ?_ _)); exact BK387.out) hb)
            have n2_ := Aside0.mk (blk_below (g := gb390) (o := .cells #[.int .i64 x391000_2, .bool t389] 23 (0, 0)) (by (with_reducible repeat (first | refine blk_drewN ?_ _ | refine blk_drew ?_ | refine blk_alloc ?_ _)); exact BK390.out) hb)
            have n3_ := Aside0.mk (blk_below (g := gb391) (o := .cells #[.int .i64 x392000_2, .bool x392001_2] 23 (0, 0)) (by (with_reducible repeat (first | refine blk_drewN ?_ _ | refine blk_drew ?_ | refine blk_alloc ?_ _)); exact BK391.out) hb)
            have n4_ := Aside0.mk (blk_below (g := gb392) (o := .cells #[.int .i64 x393000_2, .bool x393001_2] 23 (0, 0)) (by (with_reducible repeat (first | refine blk_drewN ?_ _ | refine blk_drew ?_ | refine blk_alloc ?_ _)); exact BK392.out) hb)
            have n5_ := Aside0.mk (below_step (by repeat (first | (with_reducible first | exact HB.out | apply below_alloc | apply pw_below_drewN | apply below_drew1 | refine below_set ?_ GE386.out | refine below_set ?_ GE387.out | refine below_set ?_ GE390.out | refine below_set ?_ GE391.out | refine below_set ?_ GE392.out) | exact HB.out)) hb)
            clear BK386
            clear BK387
            clear BK390
            clear BK391
            clear BK392
            clear HB
            have BK386 := n0_
            have BK387 := n1_
            have BK390 := n2_
            have BK391 := n3_
            have BK392 := n4_
            have HB := n5_
            clear n0_ n1_ n2_ n3_ n4_ n5_
            (try clear hb)
            (try clear hb2)
            (try clear hk)
            (try clear hi)
            refine hK.out _ _ ⟨(blk_cell BK391.out 0).trans rfl, (blk_cell BK391.out 1).trans rfl, (blk_cell BK390.out 0).trans rfl, (blk_cell BK390.out 1).trans rfl⟩ (fun hHeld => ?_)
            clear hK K
            refine norm_ (a' := ?_) ?_ ?_
            rotate_left
            · show Act.put _ (some 44) _ = _
              simp only [Act.put, List.setIfInBounds_toArray, List.set_cons_zero, List.set_cons_succ, i64_w, i32_w]
              rfl
            refine one_ (i := 11) (N := some 45) #[true, true, true, true, true, true, true, true, true, true, true, true, false] rfl rfl (one_of HT_.out (by kernel_rfl)) (by decide) (fun K hK => ?_)
            refine goes_ Try.func41 (by kernel_rfl) rfl #[.agg #[.int .i64 t405, .bool t406]] (by rfl) rfl rfl (by (try simp only [List.map_toArray, List.map_cons, List.map_nil]); first | done | rfl | (simp only [List.length_drop, List.length_take]; rfl)) ?_
            with_reducible refine (fixed_Neg.calls t405 t406 t407 t408 _ A37.out).mono ?_
            rintro e w44 ⟨rfl, hb⟩
            refine ⟨_, rfl, ?_⟩
            have n0_ := Aside0.mk (blk_below (g := gb386) (o := .cells #[.int .i64 a0_0, .bool a0_1] 23 (0, 0)) (by (with_reducible repeat (first | refine blk_drewN ?_ _ | refine blk_drew ?_ | refine blk_alloc ?_ _)); exact BK386.out) hb)
            have n1_ := Aside0.mk (blk_below (g := gb387) (o := .cells #[.int .i64 0, .bool false] 23 (0, 0)) (by (with_reducible repeat (first | refine blk_drewN ?_ _ | refine blk_drew ?_ | refine blk_alloc ?_ _)); exact BK387.out) hb)
            have n2_ := Aside0.mk (blk_below (g := gb390) (o := .cells #[.int .i64 x391000_2, .bool t389] 23 (0, 0)) (by (with_reducible repeat (first | refine blk_drewN ?_ _ | refine blk_drew ?_ | refine blk_alloc ?_ _)); exact BK390.out) hb)
            have n3_ := Aside0.mk (blk_below (g := gb391) (o := .cells #[.int .i64 x392000_2, .bool x392001_2] 23 (0, 0)) (by (with_reducible repeat (first | refine blk_drewN ?_ _ | refine blk_drew ?_ | refine blk_alloc ?_ _)); exact BK391.out) hb)
            have n4_ := Aside0.mk (blk_below (g := gb392) (o := .cells #[.int .i64 x393000_2, .bool x393001_2] 23 (0, 0)) (by (with_reducible repeat (first | refine blk_drewN ?_ _ | refine blk_drew ?_ | refine blk_alloc ?_ _)); exact BK392.out) hb)
            have n5_ := Aside0.mk (below_step (by repeat (first | (with_reducible first | exact HB.out | apply below_alloc | apply pw_below_drewN | apply below_drew1 | refine below_set ?_ GE386.out | refine below_set ?_ GE387.out | refine below_set ?_ GE390.out | refine below_set ?_ GE391.out | refine below_set ?_ GE392.out) | exact HB.out)) hb)
            clear BK386
            clear BK387
            clear BK390
            clear BK391
            clear BK392
            clear HB
            have BK386 := n0_
            have BK387 := n1_
            have BK390 := n2_
            have BK391 := n3_
            have BK392 := n4_
            have HB := n5_
            clear n0_ n1_ n2_ n3_ n4_ n5_
            (try clear hb)
            (try clear hb2)
            (try clear hk)
            (try clear hi)
            refine hK.out _ _ ⟨(blk_cell BK391.out 0).trans rfl, (blk_cell BK391.out 1).trans rfl, (blk_cell BK390.out 0).trans rfl, (blk_cell BK390.out 1).trans rfl⟩ (fun hHeld => ?_)
            clear hK K
            refine norm_ (a' := ?_) ?_ ?_
            rotate_left
            · show Act.put _ (some 45) _ = _
              simp only [Act.put, List.setIfInBounds_toArray, List.set_cons_zero, List.set_cons_succ, i64_w, i32_w]
              rfl
            refine last_ (i := 12) (N := none) #[true, true, true, true, true, true, true, true, true, true, true, true, true] rfl rfl (one_of HT_.out (by kernel_rfl)) (by decide) (fun K hK => ?_)
            have hs45 : w44.cell? ⟨gb391, 0, none⟩ = some (.int .i64 x392000_2) := (blk_cell BK391.out 0).trans rfl
            have hfs45 := blk_frozen BK391.out 0
            have hns45_0 := NB386_391.out
            have hns45_1 := NB387_391.out
            have hns45_2 := NB390_391.out
            have hns45_4 := NB392_391.out
            have hms45_0 := NB391_386.out
            have hms45_1 := NB391_387.out
            have hms45_2 := NB391_390.out
            have hms45_4 := NB391_392.out
            have hs46 : w44.cell? ⟨gb391, 1, none⟩ = some (.bool x392001_2) := (blk_cell BK391.out 1).trans rfl
            have hfs46 := blk_frozen BK391.out 1
            have hns46_0 := NB386_391.out
            have hns46_1 := NB387_391.out
            have hns46_2 := NB390_391.out
            have hns46_4 := NB392_391.out
            have hms46_0 := NB391_386.out
            have hms46_1 := NB391_387.out
            have hms46_2 := NB391_390.out
            have hms46_4 := NB391_392.out
            refine skip_ (w1 := ?_) (by rfl) rfl ?_ ?_
            rotate_left
            · go_simp
              rfl
            refine hK.out _ _ ?_
            clear hK K
            refine done_ (done_of HT_.out (by kernel_rfl)) ?_
            have hnb47 := NB392_386.out
            have hnc47 := NB386_392.out
            have hnb48 := NB392_387.out
            have hnc48 := NB387_392.out
            have hnb49 := NB392_390.out
            have hnc49 := NB390_392.out
            have hnb50 := NB392_391.out
            have hnc50 := NB391_392.out
            have hcz51_0 : w44.cell? ⟨gb392, 0, none⟩ = some (.int .i64 x393000_2) := (blk_cell BK392.out 0).trans rfl
            have hcz51_1 : w44.cell? ⟨gb392, 1, none⟩ = some (.bool x393001_2) := (blk_cell BK392.out 1).trans rfl
            have hfz51_0 := blk_frozen BK392.out 0
            have hfz51_1 := blk_frozen BK392.out 1
            have hnb52 := NB391_386.out
            have hnc52 := NB386_391.out
            have hnb53 := NB391_387.out
            have hnc53 := NB387_391.out
            have hnb54 := NB391_390.out
            have hnc54 := NB390_391.out
            have hcz55_0 : w44.cell? ⟨gb391, 0, none⟩ = some (.int .i64 x392000_2) := (blk_cell BK391.out 0).trans rfl
            have hcz55_1 : w44.cell? ⟨gb391, 1, none⟩ = some (.bool x392001_2) := (blk_cell BK391.out 1).trans rfl
            have hfz55_0 := blk_frozen BK391.out 0
            have hfz55_1 := blk_frozen BK391.out 1
            try go_wp2_with (first | ((with_reducible refine gate_callee (f := 25) rfl ?_); refine goesL_ (some 48) rfl rfl Try.func25 (by kernel_rfl) rfl #[.agg #[.int .i64 x393000_2, .bool x393001_2], .agg #[.int .i64 t407, .bool t408]] rfl (by (try simp only [List.map_toArray, List.map_cons, List.map_nil]); first | done | rfl | (simp only [List.length_drop, List.length_take]; rfl)) ?_; (with_reducible refine (fixed_Add.calls k2 x393000_2 x393001_2 t407 t408 t409 t410 _ A38.out).mono ?_); rintro e w56 ⟨rfl, hb⟩; refine ⟨_, rfl, ?_⟩; have n0_ := Aside0.mk (blk_below (g := gb386) (o := .cells #[.int .i64 a0_0, .bool a0_1] 23 (0, 0)) (by (with_reducible repeat (first | refine blk_drewN ?_ _ | refine blk_drew ?_ | refine blk_alloc ?_ _)); refine blk_far ?_ NB386_391.out _; (with_reducible repeat (first | refine blk_drewN ?_ _ | refine blk_drew ?_ | refine blk_alloc ?_ _)); refine blk_far ?_ NB386_391.out _; (with_reducible repeat (first | refine blk_drewN ?_ _ | refine blk_drew ?_ | refine blk_alloc ?_ _)); exact BK386.out) hb); have n1_ := Aside0.mk (blk_below (g := gb387) (o := .cells #[.int .i64 0, .bool false] 23 (0, 0)) (by (with_reducible repeat (first | refine blk_drewN ?_ _ | refine blk_drew ?_ | refine blk_alloc ?_ _)); refine blk_far ?_ NB387_391.out _; (with_reducible repeat (first | refine blk_drewN ?_ _ | refine blk_drew ?_ | refine blk_alloc ?_ _)); refine blk_far ?_ NB387_391.out _; (with_reducible repeat (first | refine blk_drewN ?_ _ | refine blk_drew ?_ | refine blk_alloc ?_ _)); exact BK387.out) hb); have n2_ := Aside0.mk (blk_below (g := gb390) (o := .cells #[.int .i64 x391000_2, .bool t389] 23 (0, 0)) (by (with_reducible repeat (first | refine blk_drewN ?_ _ | refine blk_drew ?_ | refine blk_alloc ?_ _)); refine blk_far ?_ NB390_391.out _; (with_reducible repeat (first | refine blk_drewN ?_ _ | refine blk_drew ?_ | refine blk_alloc ?_ _)); refine blk_far ?_ NB390_391.out _; (with_reducible repeat (first | refine blk_drewN ?_ _ | refine blk_drew ?_ | refine blk_alloc ?_ _)); exact BK390.out) hb); have n3_ := Aside0.mk (blk_below (g := gb391) (o := .cells #[.int .i64 t407, .bool t408] 23 (0, 0)) (by (with_reducible repeat (first | refine blk_drewN ?_ _ | refine blk_drew ?_ | refine blk_alloc ?_ _)); refine blk_put (cs := #[.int .i64 t407, .bool x392001_2]) ?_ 1 _ rfl; (with_reducible repeat (first | refine blk_drewN ?_ _ | refine blk_drew ?_ | refine blk_alloc ?_ _)); refine blk_put (cs := #[.int .i64 x392000_2, .bool x392001_2]) ?_ 0 _ rfl; (with_reducible repeat (first | refine blk_drewN ?_ _ | refine blk_drew ?_ | refine blk_alloc ?_ _)); exact BK391.out) hb); have n4_ := Aside0.mk (blk_below (g := gb392) (o := .cells #[.int .i64 x393000_2, .bool x393001_2] 23 (0, 0)) (by (with_reducible repeat (first | refine blk_drewN ?_ _ | refine blk_drew ?_ | refine blk_alloc ?_ _)); refine blk_far ?_ NB392_391.out _; (with_reducible repeat (first | refine blk_drewN ?_ _ | refine blk_drew ?_ | refine blk_alloc ?_ _)); refine blk_far ?_ NB392_391.out _; (with_reducible repeat (first | refine blk_drewN ?_ _ | refine blk_drew ?_ | refine blk_alloc ?_ _)); exact BK392.out) hb); have n5_ := Aside0.mk (below_step (by repeat (first | (with_reducible first | exact HB.out | apply below_alloc | apply pw_below_drewN | apply below_drew1 | refine below_set ?_ GE386.out | refine below_set ?_ GE387.out | refine below_set ?_ GE390.out | refine below_set ?_ GE391.out | refine below_set ?_ GE392.out) | exact HB.out)) hb); clear BK386; clear BK387; clear BK390; clear BK391; clear BK392; clear HB; have BK386 := n0_; have BK387 := n1_; have BK390 := n2_; have BK391 := n3_; have BK392 := n4_; have HB := n5_; clear n0_ n1_ n2_ n3_ n4_ n5_; (try clear hb); (try clear hb2); (try clear hk); (try clear hi); have hcz57_0 : w56.cell? ⟨gb392, 0, none⟩ = some (.int .i64 x393000_2) := (blk_cell BK392.out 0).trans rfl; have hcz57_1 : w56.cell? ⟨gb392, 1, none⟩ = some (.bool x393001_2) := (blk_cell BK392.out 1).trans rfl; have hfz57_0 := blk_frozen BK392.out 0; have hfz57_1 := blk_frozen BK392.out 1))
            go_roundg k2
            case measure => have := HJ2.out; have := HK2.out; omega
            case rel => exact ⟨(wrap64 (x28_2 + 1)), (t407), (t408), (t409), (t410), (by first | rfl | (simp; done) | (simp [*]; done)), H', ⟨by have := HJ2.out; have := HK2.out; omega⟩, ⟨by (with_reducible repeat (first | refine blk_drewN ?_ _ | refine blk_drew ?_ | refine blk_alloc ?_ _)); refine blk_far ?_ NB386_392.out _; (with_reducible repeat (first | refine blk_drewN ?_ _ | refine blk_drew ?_ | refine blk_alloc ?_ _)); refine blk_far ?_ NB386_392.out _; (with_reducible repeat (first | refine blk_drewN ?_ _ | refine blk_drew ?_ | refine blk_alloc ?_ _)); exact BK386.out⟩, ⟨by (with_reducible repeat (first | refine blk_drewN ?_ _ | refine blk_drew ?_ | refine blk_alloc ?_ _)); refine blk_far ?_ NB387_392.out _; (with_reducible repeat (first | refine blk_drewN ?_ _ | refine blk_drew ?_ | refine blk_alloc ?_ _)); refine blk_far ?_ NB387_392.out _; (with_reducible repeat (first | refine blk_drewN ?_ _ | refine blk_drew ?_ | refine blk_alloc ?_ _)); exact BK387.out⟩, ⟨by (with_reducible repeat (first | refine blk_drewN ?_ _ | refine blk_drew ?_ | refine blk_alloc ?_ _)); refine blk_far ?_ NB390_392.out _; (with_reducible repeat (first | refine blk_drewN ?_ _ | refine blk_drew ?_ | refine blk_alloc ?_ _)); refine blk_far ?_ NB390_392.out _; (with_reducible repeat (first | refine blk_drewN ?_ _ | refine blk_drew ?_ | refine blk_alloc ?_ _)); exact BK390.out⟩, ⟨by (with_reducible repeat (first | refine blk_drewN ?_ _ | refine blk_drew ?_ | refine blk_alloc ?_ _)); refine blk_far ?_ NB391_392.out _; (with_reducible repeat (first | refine blk_drewN ?_ _ | refine blk_drew ?_ | refine blk_alloc ?_ _)); refine blk_far ?_ NB391_392.out _; (with_reducible repeat (first | refine blk_drewN ?_ _ | refine blk_drew ?_ | refine blk_alloc ?_ _)); exact BK391.out⟩, ⟨by (with_reducible repeat (first | refine blk_drewN ?_ _ | refine blk_drew ?_ | refine blk_alloc ?_ _)); refine blk_put (cs := #[.int .i64 t409, .bool x393001_2]) ?_ 1 _ rfl; (with_reducible repeat (first | refine blk_drewN ?_ _ | refine blk_drew ?_ | refine blk_alloc ?_ _)); refine blk_put (cs := #[.int .i64 x393000_2, .bool x393001_2]) ?_ 0 _ rfl; (with_reducible repeat (first | refine blk_drewN ?_ _ | refine blk_drew ?_ | refine blk_alloc ?_ _)); exact BK392.out⟩, ⟨by repeat (first | (with_reducible first | exact HB.out | apply below_alloc | apply pw_below_drewN | apply below_drew1 | refine below_set ?_ GE386.out | refine below_set ?_ GE387.out | refine below_set ?_ GE390.out | refine below_set ?_ GE391.out | refine below_set ?_ GE392.out) | exact HB.out)⟩⟩
          · rw [if_neg c32] at H
            have c32b0 : decide (x28_2 < 8) = false := decide_eq_false c32
            clear c32
            replace H := Option.bind_eq_some_iff.mp H
            obtain ⟨⟨t393, t394⟩, A580, H⟩ := H
            replace H : ((fixed_Int.f k2 1).bind fun bt395 => ((fixed_Clamp.f k2 x393000_2 x393001_2 t393 t394 bt395.1 bt395.2).bind fun bt397 => (some (bt397.1, bt397.2)))) = some (r1, r2) := H
            have A58 := Aside0.mk A580
            clear A580
            replace H := Option.bind_eq_some_iff.mp H
            obtain ⟨⟨t395, t396⟩, A590, H⟩ := H
            replace H : ((fixed_Clamp.f k2 x393000_2 x393001_2 t393 t394 t395 t396).bind fun bt397 => (some (bt397.1, bt397.2))) = some (r1, r2) := H
            have A59 := Aside0.mk A590
            clear A590
            replace H := Option.bind_eq_some_iff.mp H
            obtain ⟨⟨t397, t398⟩, A600, H⟩ := H
            replace H : (some (t397, t398)) = some (r1, r2) := H
            have A60 := Aside0.mk A600
            clear A600
            simp only [Option.some.injEq, Prod.mk.injEq] at H
            obtain ⟨rfl, rfl⟩ := H
            try go_wp2
            have n0_ := Aside0.mk (blk_drew BK386.out)
            have n1_ := Aside0.mk (blk_drew BK387.out)
            have n2_ := Aside0.mk (blk_drew BK390.out)
            have n3_ := Aside0.mk (blk_drew BK391.out)
            have n4_ := Aside0.mk (blk_drew BK392.out)
            have n5_ := Aside0.mk (below_drew1 HB.out)
            clear BK386
            clear BK387
            clear BK390
            clear BK391
            clear BK392
            clear HB
            have BK386 := n0_
            have BK387 := n1_
            have BK390 := n2_
            have BK391 := n3_
            have BK392 := n4_
            have HB := n5_
            clear n0_ n1_ n2_ n3_ n4_ n5_
            refine start_ (n := 5) (S := fun w' => w'.cell? ⟨gb392, 0, none⟩ = some (.int .i64 x393000_2) ∧ w'.cell? ⟨gb392, 1, none⟩ = some (.bool x393001_2)) (ds := []) #[false, false, false, false, false] (by kernel_rfl) rfl rfl ⟨(blk_cell BK392.out 0).trans rfl, (blk_cell BK392.out 1).trans rfl⟩ (fun hHeld => ?_)
            generalize wr.drew = w61 at BK386 BK387 BK390 BK391 BK392 HB hHeld ⊢
            refine take_ (i := 0) (N := some 50) (v := ?_) (a' := ?_) #[true, false, false, false, false] rfl rfl (by kernel_rfl) (fun _ _ _ h => h) (Or.inl ⟨by rfl, ?_⟩) hHeld ?_ ?_
            rotate_left
            · rintro w' ⟨s0, s1⟩
              go_simp
              with_reducible rfl
            rotate_left
            · simp only [Act.put, List.setIfInBounds_toArray, List.set_cons_zero, List.set_cons_succ, i64_w, i32_w]
              rfl
            refine one_ (i := 1) (N := some 51) #[true, true, false, false, false] rfl rfl (by kernel_rfl) (by decide) (fun K hK => ?_)
            refine goes_ Try.func49 (by kernel_rfl) rfl #[.int .i64 (-1)] (by rfl) rfl rfl (by (try simp only [List.map_toArray, List.map_cons, List.map_nil]); first | done | rfl | (simp only [List.length_drop, List.length_take]; rfl)) ?_
            with_reducible refine (fixed_Int.calls k2 (-1) t393 t394 _ A58.out).mono ?_
            rintro e w62 ⟨rfl, hb⟩
            refine ⟨_, rfl, ?_⟩
            have n0_ := Aside0.mk (blk_below (g := gb386) (o := .cells #[.int .i64 a0_0, .bool a0_1] 23 (0, 0)) (by (with_reducible repeat (first | refine blk_drewN ?_ _ | refine blk_drew ?_ | refine blk_alloc ?_ _)); exact BK386.out) hb)
            have n1_ := Aside0.mk (blk_below (g := gb387) (o := .cells #[.int .i64 0, .bool false] 23 (0, 0)) (by (with_reducible repeat (first | refine blk_drewN ?_ _ | refine blk_drew ?_ | refine blk_alloc ?_ _)); exact BK387.out) hb)
            have n2_ := Aside0.mk (blk_below (g := gb390) (o := .cells #[.int .i64 x391000_2, .bool t389] 23 (0, 0)) (by (with_reducible repeat (first | refine blk_drewN ?_ _ | refine blk_drew ?_ | refine blk_alloc ?_ _)); exact BK390.out) hb)
            have n3_ := Aside0.mk (blk_below (g := gb391) (o := .cells #[.int .i64 x392000_2, .bool x392001_2] 23 (0, 0)) (by (with_reducible repeat (first | refine blk_drewN ?_ _ | refine blk_drew ?_ | refine blk_alloc ?_ _)); exact BK391.out) hb)
            have n4_ := Aside0.mk (blk_below (g := gb392) (o := .cells #[.int .i64 x393000_2, .bool x393001_2] 23 (0, 0)) (by (with_reducible repeat (first | refine blk_drewN ?_ _ | refine blk_drew ?_ | refine blk_alloc ?_ _)); exact BK392.out) hb)
            have n5_ := Aside0.mk (below_step (by repeat (first | (with_reducible first | exact HB.out | apply below_alloc | apply pw_below_drewN | apply below_drew1 | refine below_set ?_ GE386.out | refine below_set ?_ GE387.out | refine below_set ?_ GE390.out | refine below_set ?_ GE391.out | refine below_set ?_ GE392.out) | exact HB.out)) hb)
            clear BK386
            clear BK387
            clear BK390
            clear BK391
            clear BK392
            clear HB
            have BK386 := n0_
            have BK387 := n1_
            have BK390 := n2_
            have BK391 := n3_
            have BK392 := n4_
            have HB := n5_
            clear n0_ n1_ n2_ n3_ n4_ n5_
            (try clear hb)
            (try clear hb2)
            (try clear hk)
            (try clear hi)
            refine hK.out _ _ ⟨(blk_cell BK392.out 0).trans rfl, (blk_cell BK392.out 1).trans rfl⟩ (fun hHeld => ?_)
            clear hK K
            refine norm_ (a' := ?_) ?_ ?_
            rotate_left
            · show Act.put _ (some 51) _ = _
              simp only [Act.put, List.setIfInBounds_toArray, List.set_cons_zero, List.set_cons_succ, i64_w, i32_w]
              rfl
            refine one_ (i := 2) (N := some 52) #[true, true, true, false, false] rfl rfl (by kernel_rfl) (by decide) (fun K hK => ?_)
            refine goes_ Try.func49 (by kernel_rfl) rfl #[.int .i64 1] (by rfl) rfl rfl (by (try simp only [List.map_toArray, List.map_cons, List.map_nil]); first | done | rfl | (simp only [List.length_drop, List.length_take]; rfl)) ?_
            with_reducible refine (fixed_Int.calls k2 1 t395 t396 _ A59.out).mono ?_
            rintro e w63 ⟨rfl, hb⟩
            refine ⟨_, rfl, ?_⟩
            have n0_ := Aside0.mk (blk_below (g := gb386) (o := .cells #[.int .i64 a0_0, .bool a0_1] 23 (0, 0)) (by (with_reducible repeat (first | refine blk_drewN ?_ _ | refine blk_drew ?_ | refine blk_alloc ?_ _)); exact BK386.out) hb)
            have n1_ := Aside0.mk (blk_below (g := gb387) (o := .cells #[.int .i64 0, .bool false] 23 (0, 0)) (by (with_reducible repeat (first | refine blk_drewN ?_ _ | refine blk_drew ?_ | refine blk_alloc ?_ _)); exact BK387.out) hb)
            have n2_ := Aside0.mk (blk_below (g := gb390) (o := .cells #[.int .i64 x391000_2, .bool t389] 23 (0, 0)) (by (with_reducible repeat (first | refine blk_drewN ?_ _ | refine blk_drew ?_ | refine blk_alloc ?_ _)); exact BK390.out) hb)
            have n3_ := Aside0.mk (blk_below (g := gb391) (o := .cells #[.int .i64 x392000_2, .bool x392001_2] 23 (0, 0)) (by (with_reducible repeat (first | refine blk_drewN ?_ _ | refine blk_drew ?_ | refine blk_alloc ?_ _)); exact BK391.out) hb)
            have n4_ := Aside0.mk (blk_below (g := gb392) (o := .cells #[.int .i64 x393000_2, .bool x393001_2] 23 (0, 0)) (by (with_reducible repeat (first | refine blk_drewN ?_ _ | refine blk_drew ?_ | refine blk_alloc ?_ _)); exact BK392.out) hb)
            have n5_ := Aside0.mk (below_step (by repeat (first | (with_reducible first | exact HB.out | apply below_alloc | apply pw_below_drewN | apply below_drew1 | refine below_set ?_ GE386.out | refine below_set ?_ GE387.out | refine below_set ?_ GE390.out | refine below_set ?_ GE391.out | refine below_set ?_ GE392.out) | exact HB.out)) hb)
            clear BK386
            clear BK387
            clear BK390
            clear BK391
            clear BK392
            clear HB
            have BK386 := n0_
            have BK387 := n1_
            have BK390 := n2_
            have BK391 := n3_
            have BK392 := n4_
            have HB := n5_
            clear n0_ n1_ n2_ n3_ n4_ n5_
            (try clear hb)
            (try clear hb2)
            (try clear hk)
            (try clear hi)
            refine hK.out _ _ ⟨(blk_cell BK392.out 0).trans rfl, (blk_cell BK392.out 1).trans rfl⟩ (fun hHeld => ?_)
            clear hK K
            refine norm_ (a' := ?_) ?_ ?_
            rotate_left
            · show Act.put _ (some 52) _ = _
              simp only [Act.put, List.setIfInBounds_toArray, List.set_cons_zero, List.set_cons_succ, i64_w, i32_w]
              rfl
            refine one_ (i := 3) (N := some 53) #[true, true, true, true, false] rfl rfl (by kernel_rfl) (by decide) (fun K hK => ?_)
            refine goes_ Try.func35 (by kernel_rfl) rfl #[.agg #[.int .i64 x393000_2, .bool x393001_2], .agg #[.int .i64 t393, .bool t394], .agg #[.int .i64 t395, .bool t396]] (by rfl) rfl rfl (by (try simp only [List.map_toArray, List.map_cons, List.map_nil]); first | done | rfl | (simp only [List.length_drop, List.length_take]; rfl)) ?_
            with_reducible refine (fixed_Clamp.calls k2 x393000_2 x393001_2 t393 t394 t395 t396 t397 t398 _ A60.out).mono ?_
            rintro e w64 ⟨rfl, hb⟩
            refine ⟨_, rfl, ?_⟩
            have n0_ := Aside0.mk (blk_below (g := gb386) (o := .cells #[.int .i64 a0_0, .bool a0_1] 23 (0, 0)) (by (with_reducible repeat (first | refine blk_drewN ?_ _ | refine blk_drew ?_ | refine blk_alloc ?_ _)); exact BK386.out) hb)
            have n1_ := Aside0.mk (blk_below (g := gb387) (o := .cells #[.int .i64 0, .bool false] 23 (0, 0)) (by (with_reducible repeat (first | refine blk_drewN ?_ _ | refine blk_drew ?_ | refine blk_alloc ?_ _)); exact BK387.out) hb)
            have n2_ := Aside0.mk (blk_below (g := gb390) (o := .cells #[.int .i64 x391000_2, .bool t389] 23 (0, 0)) (by (with_reducible repeat (first | refine blk_drewN ?_ _ | refine blk_drew ?_ | refine blk_alloc ?_ _)); exact BK390.out) hb)
            have n3_ := Aside0.mk (blk_below (g := gb391) (o := .cells #[.int .i64 x392000_2, .bool x392001_2] 23 (0, 0)) (by (with_reducible repeat (first | refine blk_drewN ?_ _ | refine blk_drew ?_ | refine blk_alloc ?_ _)); exact BK391.out) hb)
            have n4_ := Aside0.mk (blk_below (g := gb392) (o := .cells #[.int .i64 x393000_2, .bool x393001_2] 23 (0, 0)) (by (with_reducible repeat (first | refine blk_drewN ?_ _ | refine blk_drew ?_ | refine blk_alloc ?_ _)); exact BK392.out) hb)
            have n5_ := Aside0.mk (below_step (by repeat (first | (with_reducible first | exact HB.out | apply below_alloc | apply pw_below_drewN | apply below_drew1 | refine below_set ?_ GE386.out | refine below_set ?_ GE387.out | refine below_set ?_ GE390.out | refine below_set ?_ GE391.out | refine below_set ?_ GE392.out) | exact HB.out)) hb)
            clear BK386
            clear BK387
            clear BK390
            clear BK391
            clear BK392
            clear HB
            have BK386 := n0_
            have BK387 := n1_
            have BK390 := n2_
            have BK391 := n3_
            have BK392 := n4_
            have HB := n5_
            clear n0_ n1_ n2_ n3_ n4_ n5_
            (try clear hb)
            (try clear hb2)
            (try clear hk)
            (try clear hi)
            refine hK.out _ _ ⟨(blk_cell BK392.out 0).trans rfl, (blk_cell BK392.out 1).trans rfl⟩ (fun hHeld => ?_)
            clear hK K
            refine norm_ (a' := ?_) ?_ ?_
            rotate_left
            · show Act.put _ (some 53) _ = _
              simp only [Act.put, List.setIfInBounds_toArray, List.set_cons_zero, List.set_cons_succ, i64_w, i32_w]
              rfl
            refine one_ (i := 4) (N := none) #[true, true, true, true, true] rfl rfl (by kernel_rfl) (by decide) (fun K hK => ?_)
            have hs65 : w64.cell? ⟨gb387, 0, none⟩ = some (.int .i64 0) := (blk_cell BK387.out 0).trans rfl
            have hfs65 := blk_frozen BK387.out 0
            have hns65_0 := NB386_387.out
            have hns65_2 := NB390_387.out
            have hns65_3 := NB391_387.out
            have hns65_4 := NB392_387.out
            have hms65_0 := NB387_386.out
            have hms65_2 := NB387_390.out
            have hms65_3 := NB387_391.out
            have hms65_4 := NB387_392.out
            have hs66 : w64.cell? ⟨gb387, 1, none⟩ = some (.bool false) := (blk_cell BK387.out 1).trans rfl
            have hfs66 := blk_frozen BK387.out 1
            have hns66_0 := NB386_387.out
            have hns66_2 := NB390_387.out
            have hns66_3 := NB391_387.out
            have hns66_4 := NB392_387.out
            have hms66_0 := NB387_386.out
            have hms66_2 := NB387_390.out
            have hms66_3 := NB387_391.out
            have hms66_4 := NB387_392.out
            refine skip_ (w1 := ?_) (by rfl) rfl ?_ ?_
            rotate_left
            · go_simp
              rfl
            refine hK.out _ _ ⟨((cell_far (p := ⟨gb387, _, none⟩) NB392_387.out _).trans (((cell_far (p := ⟨gb387, _, none⟩) NB392_387.out _).trans (hHeld.1)))), ((cell_far (p := ⟨gb387, _, none⟩) NB392_387.out _).trans (((cell_far (p := ⟨gb387, _, none⟩) NB392_387.out _).trans (hHeld.2))))⟩ (fun hHeld => ?_)
            clear hK K
            refine done_ (by kernel_rfl) ?_
            try go_wp2
            refine bodyPost_ret (results_cell_row rfl _ _ gb387 23 #[.int .i64 t397, .bool t398] (0, 0) _ rfl (by (with_reducible repeat (first | refine blk_drewN ?_ _ | refine blk_drew ?_ | refine blk_alloc ?_ _)); refine blk_put (cs := #[.int .i64 t397, .bool false]) ?_ 1 _ rfl; (with_reducible repeat (first | refine blk_drewN ?_ _ | refine blk_drew ?_ | refine blk_alloc ?_ _)); refine blk_put (cs := #[.int .i64 0, .bool false]) ?_ 0 _ rfl; (with_reducible repeat (first | refine blk_drewN ?_ _ | refine blk_drew ?_ | refine blk_alloc ?_ _)); exact BK387.out) Try.underlying23 rfl (by kernel_rfl)) rfl ?_
            exact ⟨by first | rfl | (simp [errW_none, errW_some] <;> rfl) | (simp [*, errW_none, errW_some] <;> rfl), by repeat (first | (with_reducible first | exact HB.out | apply below_alloc | apply pw_below_drewN | apply below_drew1 | refine below_set ?_ GE386.out | refine below_set ?_ GE387.out | refine below_set ?_ GE390.out | refine below_set ?_ GE391.out | refine below_set ?_ GE392.out) | exact HB.out)⟩
end Go.Proofs.Ytenpiaafkmfjfaa.B

end
section
namespace Go.Proofs.Ytenpiaafkmfjfaa.B
open Go.RowKit Go.Proofs.YtenpiaafkmfjfaaW.PrintWords Go.Proofs.YtenpiaafkmfjfaaW.PrintLast Go.Proofs.YtenpiaafkmfjfaaW.PrintMore
def RowD (w : World) (g : Nat) (l : List Nat) : Prop :=
  ∃ (cs : Array Value) (m : Nat), w.heap[g]? = some (.cells cs 5 (m, m + 1)) ∧ l.length ≤ m ∧ m = cs.size ∧ ∀ (j d : Nat), l[j]? = some d → cs[j]? = some (Value.int .u8 (48 + d : Nat))
theorem RowD.cell {w : World} {g : Nat} {l : List Nat} (h : RowD w g l) (j : Nat) (d : Nat) (hj : l[j]? = some d) : w.cell? ⟨g, j, none⟩ = some (.int .u8 (48 + d : Nat)) := by
  obtain ⟨cs, m, hb, _, _, hc⟩ := h
  rw [cell_of_row w g j cs 5 (m, m + 1) hb]
  exact hc j d hj
theorem RowD.free {w : World} {g : Nat} {l : List Nat} (h : RowD w g l) (j : Nat) (hj : j < l.length) : w.frozen? ⟨g, j, none⟩ = false := by
  obtain ⟨cs, m, hb, hm, _, _⟩ := h
  simp [World.frozen?, hb]
  omega
theorem RowD.set {w : World} {g : Nat} {l : List Nat} (h : RowD w g l) (j : Nat) (hj : j < l.length) (d : Nat) : RowD (w.setCell ⟨g, j, none⟩ (.int .u8 (48 + d : Nat))) g (l.set j d) := by
  obtain ⟨cs, m, hb, hm, hs, hc⟩ := h
  refine ⟨cs.setIfInBounds j (.int .u8 (48 + d : Nat)), m, by simp [World.setCell, Array.getElem?_modify, hb], by simpa using hm, by simpa using hs, fun i e hi => ?_⟩
  by_cases hij : j = i
  · subst hij
    rw [List.getElem?_set_self hj] at hi
    obtain rfl := Option.some.inj hi
    rw [Array.getElem?_setIfInBounds_self_of_lt (by omega)]
  · rw [List.getElem?_set_ne hij] at hi
    rw [Array.getElem?_setIfInBounds_ne hij]
    exact hc i e hi
end Go.Proofs.Ytenpiaafkmfjfaa.B

end
section
namespace Go.Proofs.Ytenpiaafkmfjfaa.B
open Go.RowKit Go.Proofs.YtenpiaafkmfjfaaW.PrintWords Go.Proofs.YtenpiaafkmfjfaaW.PrintLast Go.Proofs.YtenpiaafkmfjfaaW.PrintMore
attribute [local go_sem] max2_int min2_int max_two min_two max_three min_three max_four min_four
set_option linter.unusedVariables false
set_option linter.unusedSimpArgs false
def fixed_Cos.f (k : Nat) (a0_0 : Int) (a0_1 : Bool) : Option (Int × Bool) := (fixed_Wrap.f a0_0 a0_1).bind fun bt413 => ((fixed_Of.f 6746518852).bind fun bt415 => ((fixed_Add.f k bt413.1 bt413.2 bt415.1 bt415.2).bind fun bt417 => ((fixed_Sin.f k bt417.1 bt417.2).bind fun bt419 => (some (bt419.1, bt419.2)))))
set_option maxHeartbeats 8000000 in
set_option maxRecDepth 100000 in
theorem fixed_Cos.calls (k : Nat) (a0_0 : Int) (a0_1 : Bool) (r1 : Int) (r2 : Bool) (w : World) (h : fixed_Cos.f k a0_0 a0_1 = some (r1, r2)) :
    Calls Try.prog 47 #[.agg #[.int .i64 a0_0, .bool a0_1]] w fun e w' => e = .returned (.agg #[.int .i64 r1, .bool r2]) ∧ Below w.heap.size w w' := by
  have hu23 := Try.underlying23
  have HB := Aside0.mk (Below.refl w.heap.size w)
  have H : ((fixed_Wrap.f a0_0 a0_1).bind fun bt413 => ((fixed_Of.f 6746518852).bind fun bt415 => ((fixed_Add.f k bt413.1 bt413.2 bt415.1 bt415.2).bind fun bt417 => ((fixed_Sin.f k bt417.1 bt417.2).bind fun bt419 => (some (bt419.1, bt419.2)))))) = some (r1, r2) := h
  clear h
  replace H := Option.bind_eq_some_iff.mp H
  obtain ⟨⟨t413, t414⟩, A20, H⟩ := H
  replace H : ((fixed_Of.f 6746518852).bind fun bt415 => ((fixed_Add.f k t413 t414 bt415.1 bt415.2).bind fun bt417 => ((fixed_Sin.f k bt417.1 bt417.2).bind fun bt419 => (some (bt419.1, bt419.2))))) = some (r1, r2) := H
  have A2 := Aside0.mk A20
  clear A20
  replace H := Option.bind_eq_some_iff.mp H
  obtain ⟨⟨t415, t416⟩, A30, H⟩ := H
  replace H : ((fixed_Add.f k t413 t414 t415 t416).bind fun bt417 => ((fixed_Sin.f k bt417.1 bt417.2).bind fun bt419 => (some (bt419.1, bt419.2)))) = some (r1, r2) := H
  have A3 := Aside0.mk A30
  clear A30
  replace H := Option.bind_eq_some_iff.mp H
  obtain ⟨⟨t417, t418⟩, A40, H⟩ := H
  replace H : ((fixed_Sin.f k t417 t418).bind fun bt419 => (some (bt419.1, bt419.2))) = some (r1, r2) := H
  have A4 := Aside0.mk A40
  clear A40
  replace H := Option.bind_eq_some_iff.mp H
  obtain ⟨⟨t419, t420⟩, A50, H⟩ := H
  replace H : (some (t419, t420)) = some (r1, r2) := H
  have A5 := Aside0.mk A50
  clear A50
  simp only [Option.some.injEq, Prod.mk.injEq] at H
  obtain ⟨rfl, rfl⟩ := H
  go_enter Try.func47, Try.ntmps47
  go_wp2_with (first | ((with_reducible refine gate_dst (N := 1) rfl ?_); refine box_event ?hg (N := 1) ?hd (cs := #[.int .i64 a0_0, .bool a0_1]) (t := 23) ?hr ?_; (case hd => rfl); (case hg => rfl); (case hr => first | (go_simp; done) | (go_simp; rfl)); intro gb411 hg w6 hbox hb; have n0_ := Aside0.mk (below_step (by repeat (first | (with_reducible first | exact HB.out | apply below_alloc | apply pw_below_drewN | apply below_drew1) | exact HB.out)) hb); have n1_ := Aside0.mk (hbox); have n2_ := Aside0.mk ((by rw [hg]; exact (below_size (by repeat (first | (with_reducible first | exact HB.out | apply below_alloc | apply pw_below_drewN | apply below_drew1) | exact HB.out))) : w.heap.size ≤ gb411)); have n3_ := Aside0.mk ((by rw [hg]; exact (below_size (by repeat (first | (with_reducible first | exact HB.out | apply below_alloc | apply pw_below_drewN | apply below_drew1) | exact HB.out))) : w.heap.size ≤ gb411)); clear HB; have HB := n0_; have BK411 := n1_; have GW411 := n2_; have GE411 := n3_; clear n0_ n1_ n2_ n3_; clear hb hbox hg) | ((with_reducible refine gate_dst (N := 2) rfl ?_); refine box_event ?hg (N := 2) ?hd (cs := #[.int .i64 0, .bool false]) (t := 23) ?hr ?_; (case hd => rfl); (case hg => rfl); (case hr => first | (go_simp; done) | (go_simp; rfl)); intro gb412 hg w7 hbox hb; have n0_ := Aside0.mk (blk_below (g := gb411) (o := .cells #[.int .i64 a0_0, .bool a0_1] 23 (0, 0)) (by (with_reducible repeat (first | refine blk_drewN ?_ _ | refine blk_drew ?_ | refine blk_alloc ?_ _)); exact BK411.out) hb); have n1_ := Aside0.mk (below_step (by repeat (first | (with_reducible first | exact HB.out | apply below_alloc | apply pw_below_drewN | apply below_drew1 | refine below_set ?_ GE411.out) | exact HB.out)) hb); have n2_ := Aside0.mk (hbox); have n3_ := Aside0.mk ((by rw [hg]; exact (below_size (by repeat (first | (with_reducible first | exact HB.out | apply below_alloc | apply pw_below_drewN | apply below_drew1 | refine below_set ?_ GE411.out) | exact HB.out))) : w.heap.size ≤ gb412)); have n4_ := Aside0.mk ((by rw [hg]; exact (below_size (by repeat (first | (with_reducible first | exact HB.out | apply below_alloc | apply pw_below_drewN | apply below_drew1 | refine below_set ?_ GE411.out) | exact HB.out))) : w.heap.size ≤ gb412)); have n5_ := Aside0.mk ((by rw [hg]; exact Nat.ne_of_lt (blk_lt (g := gb411) (o := .cells #[.int .i64 a0_0, .bool a0_1] 23 (0, 0)) (by (with_reducible repeat (first | refine blk_drewN ?_ _ | refine blk_drew ?_ | refine blk_alloc ?_ _)); exact BK411.out)) : gb411 ≠ gb412)); have n6_ := Aside0.mk ((by rw [hg]; exact Nat.ne_of_gt (blk_lt (g := gb411) (o := .cells #[.int .i64 a0_0, .bool a0_1] 23 (0, 0)) (by (with_reducible repeat (first | refine blk_drewN ?_ _ | refine blk_drew ?_ | refine blk_alloc ?_ _)); exact BK411.out)) : gb412 ≠ gb411)); clear BK411; clear HB; have BK411 := n0_; have HB := n1_; have BK412 := n2_; have GW412 := n3_; have GE412 := n4_; have NB411_412 := n5_; have NB412_411 := n6_; clear n0_ n1_ n2_ n3_ n4_ n5_ n6_; clear hb hbox hg; have hnb8 := NB411_412.out; have hnc8 := NB412_411.out; have hcz9_0 : w7.cell? ⟨gb411, 0, none⟩ = some (.int .i64 a0_0) := (blk_cell BK411.out 0).trans rfl; have hcz9_1 : w7.cell? ⟨gb411, 1, none⟩ = some (.bool a0_1) := (blk_cell BK411.out 1).trans rfl; have hfz9_0 := blk_frozen BK411.out 0; have hfz9_1 := blk_frozen BK411.out 1) | ((with_reducible refine gate_callee (f := 45) rfl ?_); refine goesL_ (some 4) rfl rfl Try.func45 (by kernel_rfl) rfl #[.agg #[.int .i64 a0_0, .bool a0_1]] rfl (by (try simp only [List.map_toArray, List.map_cons, List.map_nil]); first | done | rfl | (simp only [List.length_drop, List.length_take]; rfl)) ?_; (with_reducible refine (fixed_Wrap.calls a0_0 a0_1 t413 t414 _ A2.out).mono ?_); rintro e w10 ⟨rfl, hb⟩; refine ⟨_, rfl, ?_⟩; have n0_ := Aside0.mk (blk_below (g := gb411) (o := .cells #[.int .i64 a0_0, .bool a0_1] 23 (0, 0)) (by (with_reducible repeat (first | refine blk_drewN ?_ _ | refine blk_drew ?_ | refine blk_alloc ?_ _)); exact BK411.out) hb); have n1_ := Aside0.mk (blk_below (g := gb412) (o := .cells #[.int .i64 0, .bool false] 23 (0, 0)) (by (with_reducible repeat (first | refine blk_drewN ?_ _ | refine blk_drew ?_ | refine blk_alloc ?_ _)); exact BK412.out) hb); have n2_ := Aside0.mk (below_step (by repeat (first | (with_reducible first | exact HB.out | apply below_alloc | apply pw_below_drewN | apply below_drew1 | refine below_set ?_ GE411.out | refine below_set ?_ GE412.out) | exact HB.out)) hb); clear BK411; clear BK412; clear HB; have BK411 := n0_; have BK412 := n1_; have HB := n2_; clear n0_ n1_ n2_; (try clear hb); (try clear hb2); (try clear hk); (try clear hi)) | ((with_reducible refine gate_callee (f := 53) rfl ?_); refine goesL_ (some 5) rfl rfl Try.func53 (by kernel_rfl) rfl #[.int .i64 6746518852] rfl (by (try simp only [List.map_toArray, List.map_cons, List.map_nil]); first | done | rfl | (simp only [List.length_drop, List.length_take]; rfl)) ?_; (with_reducible refine (fixed_Of.calls 6746518852 t415 t416 _ A3.out).mono ?_); rintro e w11 ⟨rfl, hb⟩; refine ⟨_, rfl, ?_⟩; have n0_ := Aside0.mk (blk_below (g := gb411) (o := .cells #[.int .i64 a0_0, .bool a0_1] 23 (0, 0)) (by (with_reducible repeat (first | refine blk_drewN ?_ _ | refine blk_drew ?_ | refine blk_alloc ?_ _)); exact BK411.out) hb); have n1_ := Aside0.mk (blk_below (g := gb412) (o := .cells #[.int .i64 0, .bool false] 23 (0, 0)) (by (with_reducible repeat (first | refine blk_drewN ?_ _ | refine blk_drew ?_ | refine blk_alloc ?_ _)); exact BK412.out) hb); have n2_ := Aside0.mk (below_step (by repeat (first | (with_reducible first | exact HB.out | apply below_alloc | apply pw_below_drewN | apply below_drew1 | refine below_set ?_ GE411.out | refine below_set ?_ GE412.out) | exact HB.out)) hb); clear BK411; clear BK412; clear HB; have BK411 := n0_; have BK412 := n1_; have HB := n2_; clear n0_ n1_ n2_; (try clear hb); (try clear hb2); (try clear hk); (try clear hi)) | ((with_reducible refine gate_callee (f := 25) rfl ?_); refine goesL_ (some 6) rfl rfl Try.func25 (by kernel_rfl) rfl #[.agg #[.int .i64 t413, .bool t414], .agg #[.int .i64 t415, .bool t416]] rfl (by (try simp only [List.map_toArray, List.map_cons, List.map_nil]); first | done | rfl | (simp only [List.length_drop, List.length_take]; rfl)) ?_; (with_reducible refine (fixed_Add.calls k t413 t414 t415 t416 t417 t418 _ A4.out).mono ?_); rintro e w12 ⟨rfl, hb⟩; refine ⟨_, rfl, ?_⟩; have n0_ := Aside0.mk (blk_below (g := gb411) (o := .cells #[.int .i64 a0_0, .bool a0_1] 23 (0, 0)) (by (with_reducible repeat (first | refine blk_drewN ?_ _ | refine blk_drew ?_ | refine blk_alloc ?_ _)); exact BK411.out) hb); have n1_ := Aside0.mk (blk_below (g := gb412) (o := .cells #[.int .i64 0, .bool false] 23 (0, 0)) (by (with_reducible repeat (first | refine blk_drewN ?_ _ | refine blk_drew ?_ | refine blk_alloc ?_ _)); exact BK412.out) hb); have n2_ := Aside0.mk (below_step (by repeat (first | (with_reducible first | exact HB.out | apply below_alloc | apply pw_below_drewN | apply below_drew1 | refine below_set ?_ GE411.out | refine below_set ?_ GE412.out) | exact HB.out)) hb); clear BK411; clear BK412; clear HB; have BK411 := n0_; have BK412 := n1_; have HB := n2_; clear n0_ n1_ n2_; (try clear hb); (try clear hb2); (try clear hk); (try clear hi)) | ((with_reducible refine gate_callee (f := 46) rfl ?_); refine goesL_ (some 7) rfl rfl Try.func46 (by kernel_rfl) rfl #[.agg #[.int .i64 t417, .bool t418]] rfl (by (try simp only [List.map_toArray, List.map_cons, List.map_nil]); first | done | rfl | (simp only [List.length_drop, List.length_take]; rfl)) ?_; (with_reducible refine (fixed_Sin.calls k t417 t418 t419 t420 _ A5.out).mono ?_); rintro e w13 ⟨rfl, hb⟩; refine ⟨_, rfl, ?_⟩; have n0_ := Aside0.mk (blk_below (g := gb411) (o := .cells #[.int .i64 a0_0, .bool a0_1] 23 (0, 0)) (by (with_reducible repeat (first | refine blk_drewN ?_ _ | refine blk_drew ?_ | refine blk_alloc ?_ _)); exact BK411.out) hb); have n1_ := Aside0.mk (blk_below (g := gb412) (o := .cells #[.int .i64 0, .bool false] 23 (0, 0)) (by (with_reducible repeat (first | refine blk_drewN ?_ _ | refine blk_drew ?_ | refine blk_alloc ?_ _)); exact BK412.out) hb); have n2_ := Aside0.mk (below_step (by repeat (first | (with_reducible first | exact HB.out | apply below_alloc | apply pw_below_drewN | apply below_drew1 | refine below_set ?_ GE411.out | refine below_set ?_ GE412.out) | exact HB.out)) hb); clear BK411; clear BK412; clear HB; have BK411 := n0_; have BK412 := n1_; have HB := n2_; clear n0_ n1_ n2_; (try clear hb); (try clear hb2); (try clear hk); (try clear hi); have hcz14_0 : w13.cell? ⟨gb412, 0, none⟩ = some (.int .i64 0) := (blk_cell BK412.out 0).trans rfl; have hcz14_1 : w13.cell? ⟨gb412, 1, none⟩ = some (.bool false) := (blk_cell BK412.out 1).trans rfl; have hfz14_0 := blk_frozen BK412.out 0; have hfz14_1 := blk_frozen BK412.out 1))
  refine bodyPost_ret (results_cell_row rfl _ _ gb412 23 #[.int .i64 t419, .bool t420] (0, 0) _ rfl (by (with_reducible repeat (first | refine blk_drewN ?_ _ | refine blk_drew ?_ | refine blk_alloc ?_ _)); refine blk_put (cs := #[.int .i64 t419, .bool false]) ?_ 1 _ rfl; (with_reducible repeat (first | refine blk_drewN ?_ _ | refine blk_drew ?_ | refine blk_alloc ?_ _)); refine blk_put (cs := #[.int .i64 0, .bool false]) ?_ 0 _ rfl; (with_reducible repeat (first | refine blk_drewN ?_ _ | refine blk_drew ?_ | refine blk_alloc ?_ _)); exact BK412.out) Try.underlying23 rfl (by kernel_rfl)) rfl ?_
  exact ⟨by first | rfl | (simp [errW_none, errW_some] <;> rfl) | (simp [*, errW_none, errW_some] <;> rfl), by repeat (first | (with_reducible first | exact HB.out | apply below_alloc | apply pw_below_drewN | apply below_drew1 | refine below_set ?_ GE411.out | refine below_set ?_ GE412.out) | exact HB.out)⟩
end Go.Proofs.Ytenpiaafkmfjfaa.B

end
section
namespace Go.Proofs.Ytenpiaafkmfjfaa.B
open Go.RowKit Go.Proofs.YtenpiaafkmfjfaaW.PrintWords Go.Proofs.YtenpiaafkmfjfaaW.PrintLast Go.Proofs.YtenpiaafkmfjfaaW.PrintMore
def mulP (p q : Int × Bool) : Int × Bool := (fitV ((p.1 * q.1).tdiv 4294967296), fitF ((p.1 * q.1).tdiv 4294967296) (p.2 || q.2))
def divP (p q : Int × Bool) : Int × Bool := (fitV ((p.1 * 4294967296).tdiv q.1), fitF ((p.1 * 4294967296).tdiv q.1) (p.2 || q.2))
def negP (p : Int × Bool) : Int × Bool := (-p.1, p.2)
def addP (p q : Int × Bool) : Int × Bool := (fitV (p.1 + q.1), fitF (p.1 + q.1) (p.2 || q.2))
def intP (n : Int) : Int × Bool := (n * 4294967296, false)
theorem mul_p (k : Nat) (hk : 3 ≤ k) {p q : Int × Bool} (hp : Snd p.1) (hq : Snd q.1) : fixed_Mul.f k p.1 p.2 q.1 q.2 = some (mulP p q) := by
  rw [mul_f k hk p.2 q.2 hp.i64 hq.i64, sv_id hp, sv_id hq, sf_id hp, sf_id hq]; rfl
theorem div_p (k : Nat) (hk : 14 ≤ k) {p q : Int × Bool} (hp : Snd p.1) (hq : Snd q.1) (h0 : q.1 ≠ 0) : fixed_Div.f k p.1 p.2 q.1 q.2 = some (divP p q) := by
  rw [div_f k hk p.2 q.2 hp.i64 hq.i64 (by rw [sv_id hq]; exact h0), sv_id hp, sv_id hq, sf_id hp, sf_id hq]; rfl
theorem neg_p {p : Int × Bool} (hp : Snd p.1) : fixed_Neg.f p.1 p.2 = some (negP p) := by
  rw [neg_f p.2 hp.i64, sv_id hp, sf_id hp]; rfl
theorem add_p (k : Nat) (hk : 7 ≤ k) {p q : Int × Bool} (hp : Snd p.1) (hq : Snd q.1) : fixed_Add.f k p.1 p.2 q.1 q.2 = some (addP p q) := by
  rw [add_f k hk p.2 q.2 hp.i64 hq.i64, sv_id hp, sv_id hq, sf_id hp, sf_id hq]; rfl
theorem int_p (k : Nat) (hk : 1 ≤ k) {n : Int} (h : -2147483647 ≤ n ∧ n ≤ 2147483647) : fixed_Int.f k n = some (intP n) := by
  rw [int_f k hk (by unfold I64; omega), fitV_id (by unfold Snd; omega), fitF_id (by unfold Snd; omega)]; rfl
theorem mulP_snd (p q : Int × Bool) : Snd (mulP p q).1 := fitV_snd _
theorem divP_snd (p q : Int × Bool) : Snd (divP p q).1 := fitV_snd _
theorem addP_snd (p q : Int × Bool) : Snd (addP p q).1 := fitV_snd _
theorem negP_snd {p : Int × Bool} (h : Snd p.1) : Snd (negP p).1 := h.neg
theorem intP_snd {n : Int} (h : -2147483647 ≤ n ∧ n ≤ 2147483647) : Snd (intP n).1 := by unfold intP Snd; dsimp only; omega
def stepP (x t : Int × Bool) (i : Int) : Int × Bool := negP (divP (mulP (mulP t x) x) (intP (2 * i * (2 * i + 1))))
def sinL (x : Int × Bool) : Nat → Int → Int × Bool → Int × Bool → Int × Bool
  | 0, _, _, s => s
  | n + 1, i, t, s => sinL x n (i + 1) (stepP x t i) (addP s (stepP x t i))
theorem stepP_snd (x t : Int × Bool) (i : Int) : Snd (stepP x t i).1 := negP_snd (divP_snd _ _)
def clampP (s : Int × Bool) : Int × Bool := (clampV s.1 (-4294967296) 4294967296, s.2)
theorem clamp_p (k : Nat) (hk : 3 ≤ k) {s : Int × Bool} (hs : Snd s.1) : fixed_Clamp.f k s.1 s.2 (-4294967296) false 4294967296 false = some (clampP s) := by
  have h1 : Snd (-4294967296) := by unfold Snd; omega
  have h2 : Snd 4294967296 := by unfold Snd; omega
  rw [clamp_f k hk _ _ _ hs.i64 h2.i64, sv_id hs, sv_id h1, sv_id h2, sf_id hs, sf_id h1, sf_id h2]
  unfold clampP
  simp
theorem sin_l0 (x : Int × Bool) (hx : Snd x.1) : ∀ (n : Nat) (i : Int) (k : Nat) (t s : Int × Bool), i + n = 8 → 0 ≤ i → n + 20 ≤ k → Snd t.1 → Snd s.1 →
    fixed_Sin.l0 k i x.1 x.2 t.1 t.2 s.1 s.2 = some (clampP (sinL x n (i + 1) t s)) := by
  intro n
  induction n with
  | zero =>
    intro i k t s hi h0 hk ht hs
    obtain ⟨k, rfl⟩ : ∃ z, k = z + 1 := ⟨k - 1, by omega⟩
    rw [fixed_Sin.l0, if_neg (by omega), int_p k (by omega) (by omega), Option.bind_some, int_p k (by omega) (by omega), Option.bind_some]
    show (fixed_Clamp.f k s.1 s.2 (-1 * 4294967296) false (1 * 4294967296) false).bind _ = _
    rw [show (-1 * 4294967296 : Int) = -4294967296 from rfl, show (1 * 4294967296 : Int) = 4294967296 from rfl, clamp_p k (by omega) hs, Option.bind_some]
    rfl
  | succ n ih =>
    intro i k t s hi h0 hk ht hs
    obtain ⟨k, rfl⟩ : ∃ z, k = z + 1 := ⟨k - 1, by omega⟩
    have e : wrap64 (wrap64 (2 * wrap64 (i + 1)) * wrap64 (wrap64 (2 * wrap64 (i + 1)) + 1)) = 2 * (i + 1) * (2 * (i + 1) + 1) := by
      have : 2 * (i + 1) * (2 * (i + 1) + 1) ≤ 16 * 17 := mul_bound (by omega) (by omega) (by omega) (by omega)
      have h2 := Int.mul_nonneg (show 0 ≤ 2 * (i + 1) by omega) (show 0 ≤ 2 * (i + 1) + 1 by omega)
      rw [wrap64_id (x := i + 1) (by omega) (by omega), wrap64_id (x := 2 * (i + 1)) (by omega) (by omega), wrap64_id (x := 2 * (i + 1) + 1) (by omega) (by omega), wrap64_id (by omega) (by omega)]
    have hb : 2 * (i + 1) * (2 * (i + 1) + 1) ≤ 16 * 17 := mul_bound (by omega) (by omega) (by omega) (by omega)
    have hb1 : 1 ≤ 2 * (i + 1) * (2 * (i + 1) + 1) := by
      have := mul_bound (a := 1) (b := 1) (A := 2 * (i + 1)) (B := 2 * (i + 1) + 1) (by omega) (by omega) (by omega) (by omega)
      omega
    rw [fixed_Sin.l0, if_pos (by omega), mul_p k (by omega) ht hx, Option.bind_some, mul_p k (by omega) (mulP_snd _ _) hx, Option.bind_some, e, int_p k (by omega) (by omega), Option.bind_some,
      div_p k (by omega) (mulP_snd _ _) (intP_snd (by omega)) (by unfold intP; dsimp only; omega), Option.bind_some, neg_p (divP_snd _ _), Option.bind_some, add_p k (by omega) hs (negP_snd (divP_snd _ _)), Option.bind_some, wrap64_id (x := i + 1) (by omega) (by omega)]
    exact ih (i + 1) k (stepP x t (i + 1)) (addP s (stepP x t (i + 1))) (by omega) (by omega) (by omega) (stepP_snd _ _ _) (addP_snd _ _)
def wrapV (v : Int) : Int := if v.tmod 26986075409 > 13493037704 then v.tmod 26986075409 - 26986075409 else if v.tmod 26986075409 < -13493037704 then v.tmod 26986075409 + 26986075409 else v.tmod 26986075409
theorem tmod_range (v : Int) : -26986075408 ≤ v.tmod 26986075409 ∧ v.tmod 26986075409 ≤ 26986075408 := by
  have h1 := Int.tmod_lt_of_pos v (show (0 : Int) < 26986075409 by decide)
  have h2 : -26986075409 < v.tmod 26986075409 := by
    have := Int.tmod_lt_of_pos (-v) (show (0 : Int) < 26986075409 by decide)
    rw [Int.neg_tmod] at this
    omega
  omega
theorem wrapV_range (v : Int) : -13493037704 ≤ wrapV v ∧ wrapV v ≤ 13493037704 := by
  have := tmod_range v
  unfold wrapV
  split
  · omega
  · split <;> omega
theorem wrap_f (v : Int) (f : Bool) : fixed_Wrap.f v f = some (wrapV (sv v), sf v f) := by
  have := tmod_range (sv v)
  unfold fixed_Wrap.f wrapV
  rw [sound_f, Option.bind_some]
  dsimp only
  by_cases h : (sv v).tmod 26986075409 > 13493037704
  · rw [if_pos h, if_pos h, wrap64_id (by omega) (by omega)]
  · rw [if_neg h, if_neg h]
    by_cases h2 : (sv v).tmod 26986075409 < -13493037704
    · rw [if_pos h2, if_pos h2, wrap64_id (by omega) (by omega)]
    · rw [if_neg h2, if_neg h2]
def foldV (w : Int) : Int := if w > 6746518852 then 13493037704 - w else if w < -6746518852 then -13493037704 - w else w
theorem foldV_snd (v : Int) : Snd (foldV (wrapV v)) := by
  have := wrapV_range v
  unfold foldV Snd
  split
  · omega
  · split <;> omega
def sinP (v : Int) (f : Bool) : Int × Bool := clampP (sinL (foldV (wrapV (sv v)), sf v f) 8 1 (foldV (wrapV (sv v)), sf v f) (foldV (wrapV (sv v)), sf v f))
theorem sin_f (k : Nat) (hk : 40 ≤ k) (v : Int) (f : Bool) : fixed_Sin.f k v f = some (sinP v f) := by
  obtain ⟨k, rfl⟩ : ∃ z, k = z + 1 := ⟨k - 1, by omega⟩
  have hr := wrapV_range (sv v)
  have hs := foldV_snd (sv v)
  have key := sin_l0 (foldV (wrapV (sv v)), sf v f) hs 8 0 k (foldV (wrapV (sv v)), sf v f) (foldV (wrapV (sv v)), sf v f) (by omega) (by omega) (by omega) hs hs
  have key2 : fixed_Sin.j0 (k + 1) (foldV (wrapV (sv v))) (sf v f) = some (sinP v f) := by rw [fixed_Sin.j0]; exact key
  unfold fixed_Sin.f
  rw [wrap_f, Option.bind_some]
  dsimp only
  unfold foldV at key2
  by_cases h : wrapV (sv v) > 6746518852
  · rw [if_pos h, wrap64_id (by omega) (by omega)]
    rw [if_pos h] at key2; exact key2
  · rw [if_neg h]
    rw [if_neg h] at key2
    by_cases h2 : wrapV (sv v) < -6746518852
    · rw [if_pos h2, wrap64_id (by omega) (by omega)]
      rw [if_pos h2] at key2; exact key2
    · rw [if_neg h2]
      rw [if_neg h2] at key2; exact key2
def cosP (v : Int) (f : Bool) : Int × Bool := sinP (wrapV (sv v) + 6746518852) (sf v f)
theorem cos_f (k : Nat) (hk : 40 ≤ k) (v : Int) (f : Bool) : fixed_Cos.f k v f = some (cosP v f) := by
  have hr := wrapV_range (sv v)
  have h1 : Snd 6746518852 := by unfold Snd; omega
  have h2 : Snd (wrapV (sv v)) := by unfold Snd; omega
  have h3 : Snd (wrapV (sv v) + 6746518852) := by unfold Snd; omega
  unfold fixed_Cos.f fixed_Of.f
  rw [wrap_f, Option.bind_some, sound_f, Option.bind_some, Option.bind_some]
  dsimp only
  rw [sv_id h1, sf_id h1, add_f k (by omega) (sf v f) false h2.i64 h1.i64, sv_id h2, sv_id h1, sf_id h2, sf_id h1, fitV_id h3, fitF_id h3, Option.bind_some, Bool.or_false]
  dsimp only
  rw [sin_f k hk, Option.bind_some]
  rfl
end Go.Proofs.Ytenpiaafkmfjfaa.B

end
section
namespace Go.Proofs.Ytenpiaafkmfjfaa.B
open Go.RowKit
def ev (x : Int) : List Int → Int
  | [] => 0
  | c :: l => c + x * ev x l
def padd : List Int → List Int → List Int
  | [], b => b
  | a :: l, [] => a :: l
  | a :: l, b :: m => (a + b) :: padd l m
def pscale (c : Int) (l : List Int) : List Int := l.map fun x => c * x
def pmul : List Int → List Int → List Int
  | [], _ => []
  | a :: l, b => padd (pscale a b) (0 :: pmul l b)
def pcomp : List Int → List Int → List Int
  | [], _ => []
  | a :: l, p => padd [a] (pmul p (pcomp l p))
theorem ev_padd (x : Int) : ∀ a b : List Int, ev x (padd a b) = ev x a + ev x b
  | [], b => by simp [padd, ev]
  | a :: l, [] => by simp [padd, ev]
  | a :: l, b :: m => by
    simp only [padd, ev, ev_padd x l m, Int.mul_add]
    omega
theorem ev_pscale (x c : Int) : ∀ l : List Int, ev x (pscale c l) = c * ev x l
  | [] => by simp [pscale, ev]
  | a :: l => by
    have := ev_pscale x c l
    unfold pscale at *
    simp only [List.map_cons, ev, this, Int.mul_add]
    rw [Int.mul_left_comm]
theorem ev_pmul (x : Int) : ∀ a b : List Int, ev x (pmul a b) = ev x a * ev x b
  | [], b => by simp [pmul, ev]
  | a :: l, b => by
    simp only [pmul, ev_padd, ev_pscale, ev, ev_pmul x l b, Int.add_mul, Int.zero_add, Int.mul_assoc]
theorem ev_pcomp (x : Int) (p : List Int) : ∀ l : List Int, ev x (pcomp l p) = ev (ev x p) l
  | [] => by simp [pcomp, ev]
  | a :: l => by
    simp only [pcomp, ev_padd, ev_pmul, ev, ev_pcomp x p l]
    omega
def evA (X : Nat) : List Int → Nat
  | [] => 0
  | c :: l => c.natAbs + X * evA X l
theorem ev_abs (x : Int) (X : Nat) (hx : x.natAbs ≤ X) : ∀ l : List Int, (ev x l).natAbs ≤ evA X l
  | [] => by simp [ev, evA]
  | c :: l => by
    have h := ev_abs x X hx l
    have h2 : (x * ev x l).natAbs ≤ X * evA X l := by rw [Int.natAbs_mul]; exact Nat.mul_le_mul hx h
    simp only [ev, evA]
    omega
def od : List Int → List Int
  | [] => []
  | c :: l => 0 :: c :: od l
def sumV (x : Int) : Int → List Int → Int
  | _, [] => 0
  | p, c :: l => c * p + sumV x (p * x * x) l
theorem ev_od (x : Int) : ∀ (l : List Int) (p : Int), p * ev x (od l) = sumV x (p * x) l
  | [], p => by simp [od, ev, sumV]
  | c :: l, p => by
    have := ev_od x l (p * x * x)
    simp only [od, ev, sumV, Int.zero_add]
    rw [← this, Int.mul_add, Int.mul_add, Int.mul_comm c (p * x)]
    simp only [Int.mul_assoc]
def co0 : Int := 4768988719006436111262234168778648423474656980035636955663595829178822894077063921902894844467270927543474141934655026171951583604355055887615953102486438762529161216000
def co1 : Int := 43087899414213674021824125643264255072305462219207007284242456456798725817691141891220050084051744617156383553793407931128471747317646658681962496000
def co2 : Int := 116789985381818398160573898299231102288065772677584217151319844983904676864291965346766500211691480339536943806187305008155852800
def co3 : Int := 150742804613711681364039825115385279235570281032314673924162220557576589258871909346252821120275293038182400
def co4 : Int := 113496997394961198577319469229027706569291890953579835547744303126809085079968756531200
def co5 : Int := 55933495975544804015926845529165017287291580706094561614752645120
def co6 : Int := 19436928798524005033027957576502600238366720
def co7 : Int := 5017514388048998039552
def co8 : Int := 1
def sinN : List Int := od [co0, -co1, co2, -co3, co4, -co5, co6, -co7, co8]
def restN (q : Int) : List Int := padd (padd (pmul sinN sinN) (pmul (pcomp sinN [q, -1]) (pcomp sinN [q, -1]))) [-(co0 * 4294967296 * (co0 * 4294967296))]
theorem rest_ev (q a : Int) : ev a (restN q) = ev a sinN * ev a sinN + ev (q - a) sinN * ev (q - a) sinN - co0 * 4294967296 * (co0 * 4294967296) := by
  unfold restN
  simp only [ev_padd, ev_pmul, ev_pcomp]
  have e : ev a [q, -1] = q - a := by simp only [ev]; omega
  rw [e]
  simp only [ev]
  omega
theorem rest_small0 : evA 6746518852 (restN 6746518852) ≤ 1099511627776 * (co0 * co0).natAbs := by decide +kernel
theorem rest_small1 : evA 6746518852 (restN 6746518851) ≤ 1099511627776 * (co0 * co0).natAbs := by decide +kernel
end Go.Proofs.Ytenpiaafkmfjfaa.B

end
section
namespace Go.Proofs.Ytenpiaafkmfjfaa.B
open Go.RowKit
def nx (x u n : Int) : Int := u * x / 4294967296 * x / 4294967296 / n
set_option linter.unusedVariables false in
theorem nx_range {x u n : Int} (hx0 : 0 ≤ x) (hx : x ≤ 6746518852) (hu0 : 0 ≤ u) (hu : u ≤ 6746518852) (hn : 6 ≤ n) : 0 ≤ nx x u n ∧ nx x u n ≤ 6746518852 ∧ u * x ≤ 45515516620409979904 ∧ 0 ≤ u * x ∧ 0 ≤ u * x / 4294967296 * x ∧ u * x / 4294967296 * x ≤ 71496081137664000000 := by
  have h0 := Int.mul_nonneg hu0 hx0
  have h1 := mul_bound hu0 hx0 hu hx
  have h2 : 0 ≤ u * x / 4294967296 := by omega
  have h3 : u * x / 4294967296 ≤ 10597407848 := by omega
  have h4 := Int.mul_nonneg h2 hx0
  have h5 := mul_bound h2 hx0 h3 hx
  unfold nx
  generalize u * x = p at *
  generalize p / 4294967296 * x = q at *
  have h6 : 0 ≤ q / 4294967296 := by omega
  have h7 : q / 4294967296 ≤ 16646508000 := by omega
  refine ⟨Int.ediv_nonneg h6 (by omega), ?_, by omega, h0, h4, by omega⟩
  have : q / 4294967296 / n ≤ 2774418000 := Int.le_of_lt_add_one (Int.ediv_lt_of_lt_mul (by omega) (by omega))
  omega
theorem tdiv_same {a n : Int} : (a * 4294967296).tdiv (n * 4294967296) = a.tdiv n := Int.mul_tdiv_mul_of_pos_left a n (by decide)
theorem step_pos {x t : Int × Bool} {u i : Int} (n : Int) (hi : 2 * i * (2 * i + 1) = n) (hx0 : 0 ≤ x.1) (hx : x.1 ≤ 6746518852) (hu0 : 0 ≤ u) (hu : u ≤ 6746518852) (hn : 6 ≤ n) (ht : t.1 = u) : (stepP x t i).1 = -(nx x.1 u n) := by
  obtain ⟨n0, n1, m1, m0, p0, p1⟩ := nx_range hx0 hx hu0 hu hn
  unfold stepP negP divP mulP intP
  dsimp only
  rw [hi]
  rw [ht, Int.tdiv_eq_ediv_of_nonneg m0, fitV_id (x := u * x.1 / 4294967296) (by unfold Snd; omega), Int.tdiv_eq_ediv_of_nonneg p0, fitV_id (x := u * x.1 / 4294967296 * x.1 / 4294967296) (by unfold Snd; omega), tdiv_same, Int.tdiv_eq_ediv_of_nonneg (by omega)]
  unfold nx at n0 n1 ⊢
  rw [fitV_id (by unfold Snd; omega)]
theorem step_neg {x t : Int × Bool} {u i : Int} (n : Int) (hi : 2 * i * (2 * i + 1) = n) (hx0 : 0 ≤ x.1) (hx : x.1 ≤ 6746518852) (hu0 : 0 ≤ u) (hu : u ≤ 6746518852) (hn : 6 ≤ n) (ht : t.1 = -u) : (stepP x t i).1 = nx x.1 u n := by
  obtain ⟨n0, n1, m1, m0, p0, p1⟩ := nx_range hx0 hx hu0 hu hn
  unfold stepP negP divP mulP intP
  dsimp only
  rw [hi]
  rw [ht, Int.neg_mul, Int.neg_tdiv, Int.tdiv_eq_ediv_of_nonneg m0, fitV_id (x := -(u * x.1 / 4294967296)) (by unfold Snd; omega), Int.neg_mul, Int.neg_tdiv, Int.tdiv_eq_ediv_of_nonneg p0, fitV_id (x := -(u * x.1 / 4294967296 * x.1 / 4294967296)) (by unfold Snd; omega), tdiv_same, Int.neg_tdiv, Int.tdiv_eq_ediv_of_nonneg (by omega)]
  unfold nx at n0 n1 ⊢
  rw [fitV_id (by unfold Snd; omega), Int.neg_neg]
theorem add_val {s t : Int × Bool} {a b : Int} (hs : s.1 = a) (ht : t.1 = b) (h : -9223372036854775807 ≤ a + b ∧ a + b ≤ 9223372036854775807) : (addP s t).1 = a + b := by
  unfold addP
  dsimp only
  rw [hs, ht, fitV_id h]
def rawS (x : Int) : Int :=
  x - nx x x 6 + nx x (nx x x 6) 20 - nx x (nx x (nx x x 6) 20) 42 + nx x (nx x (nx x (nx x x 6) 20) 42) 72 - nx x (nx x (nx x (nx x (nx x x 6) 20) 42) 72) 110 + nx x (nx x (nx x (nx x (nx x (nx x x 6) 20) 42) 72) 110) 156
   - nx x (nx x (nx x (nx x (nx x (nx x (nx x x 6) 20) 42) 72) 110) 156) 210 + nx x (nx x (nx x (nx x (nx x (nx x (nx x (nx x x 6) 20) 42) 72) 110) 156) 210) 272
theorem sinL_val (x : Int × Bool) (hx0 : 0 ≤ x.1) (hx : x.1 ≤ 6746518852) : (sinL x 8 1 x x).1 = rawS x.1 := by
  simp only [sinL]
  obtain ⟨a1, b1, _⟩ := nx_range hx0 hx hx0 hx (show (6 : Int) ≤ 6 by decide)
  obtain ⟨a2, b2, _⟩ := nx_range hx0 hx a1 b1 (show (6 : Int) ≤ 20 by decide)
  obtain ⟨a3, b3, _⟩ := nx_range hx0 hx a2 b2 (show (6 : Int) ≤ 42 by decide)
  obtain ⟨a4, b4, _⟩ := nx_range hx0 hx a3 b3 (show (6 : Int) ≤ 72 by decide)
  obtain ⟨a5, b5, _⟩ := nx_range hx0 hx a4 b4 (show (6 : Int) ≤ 110 by decide)
  obtain ⟨a6, b6, _⟩ := nx_range hx0 hx a5 b5 (show (6 : Int) ≤ 156 by decide)
  obtain ⟨a7, b7, _⟩ := nx_range hx0 hx a6 b6 (show (6 : Int) ≤ 210 by decide)
  obtain ⟨a8, b8, _⟩ := nx_range hx0 hx a7 b7 (show (6 : Int) ≤ 272 by decide)
  have t1 := step_pos (i := 1) 6 (by decide) hx0 hx hx0 hx (by decide) (rfl : x.1 = x.1)
  have t2 := step_neg (i := 1 + 1) 20 (by decide) hx0 hx a1 b1 (by decide) t1
  have t3 := step_pos (i := 1 + 1 + 1) 42 (by decide) hx0 hx a2 b2 (by decide) t2
  have t4 := step_neg (i := 1 + 1 + 1 + 1) 72 (by decide) hx0 hx a3 b3 (by decide) t3
  have t5 := step_pos (i := 1 + 1 + 1 + 1 + 1) 110 (by decide) hx0 hx a4 b4 (by decide) t4
  have t6 := step_neg (i := 1 + 1 + 1 + 1 + 1 + 1) 156 (by decide) hx0 hx a5 b5 (by decide) t5
  have t7 := step_pos (i := 1 + 1 + 1 + 1 + 1 + 1 + 1) 210 (by decide) hx0 hx a6 b6 (by decide) t6
  have t8 := step_neg (i := 1 + 1 + 1 + 1 + 1 + 1 + 1 + 1) 272 (by decide) hx0 hx a7 b7 (by decide) t7
  have s1 := add_val (rfl : x.1 = x.1) t1 (by omega)
  have s2 := add_val s1 t2 (by omega)
  have s3 := add_val s2 t3 (by omega)
  have s4 := add_val s3 t4 (by omega)
  have s5 := add_val s4 t5 (by omega)
  have s6 := add_val s5 t6 (by omega)
  have s7 := add_val s6 t7 (by omega)
  have s8 := add_val s7 t8 (by omega)
  rw [s8]
  unfold rawS
  omega
end Go.Proofs.Ytenpiaafkmfjfaa.B

end
section
namespace Go.Proofs.Ytenpiaafkmfjfaa.B
open Go.RowKit
theorem step_err {x u n V V' K : Int} (hx0 : 0 ≤ x) (hx : x ≤ 6746518852) (hn : 6 ≤ n) (hK : 0 < K)
    (hV : V' * (n * 18446744073709551616) = V * (x * x)) (h1 : K * u ≤ V) (h2 : V ≤ K * u + 3 * K) : K * nx x u n ≤ V' ∧ V' ≤ K * nx x u n + 3 * K := by
  have hxx : x * x ≤ 45515516620409979904 := by have := mul_bound hx0 hx0 hx hx; omega
  have hxx0 := Int.mul_nonneg hx0 hx0
  have d1 := Int.mul_ediv_add_emod (u * x) 4294967296
  have d1a := Int.emod_nonneg (u * x) (show (4294967296 : Int) ≠ 0 by decide)
  have d1b := Int.emod_lt_of_pos (u * x) (show (0 : Int) < 4294967296 by decide)
  have d2 := Int.mul_ediv_add_emod (u * x / 4294967296 * x) 4294967296
  have d2a := Int.emod_nonneg (u * x / 4294967296 * x) (show (4294967296 : Int) ≠ 0 by decide)
  have d2b := Int.emod_lt_of_pos (u * x / 4294967296 * x) (show (0 : Int) < 4294967296 by decide)
  have d3 := Int.mul_ediv_add_emod (u * x / 4294967296 * x / 4294967296) n
  have d3a := Int.emod_nonneg (u * x / 4294967296 * x / 4294967296) (show n ≠ 0 by omega)
  have d3b := Int.emod_lt_of_pos (u * x / 4294967296 * x / 4294967296) (show 0 < n by omega)
  have hnx : nx x u n = u * x / 4294967296 * x / 4294967296 / n := rfl
  rw [← hnx] at d3
  generalize nx x u n = r at *
  generalize hp2 : u * x / 4294967296 * x / 4294967296 = p2 at *
  have e1 : u * x / 4294967296 * x * 4294967296 = u * (x * x) - u * x % 4294967296 * x := by
    have : u * x * x = (4294967296 * (u * x / 4294967296) + u * x % 4294967296) * x := by rw [d1]
    rw [Int.add_mul, Int.mul_assoc u x x, Int.mul_assoc] at this
    omega
  have e2a : 0 ≤ u * x % 4294967296 * x := Int.mul_nonneg d1a hx0
  have e2b : u * x % 4294967296 * x ≤ 4294967296 * 6746518852 := mul_bound d1a hx0 (by omega) hx
  generalize u * x % 4294967296 * x = m1 at *
  generalize u * x / 4294967296 * x = q at *
  have up : r * (n * 18446744073709551616) ≤ u * (x * x) := by
    have : r * (n * 18446744073709551616) = n * r * 18446744073709551616 := by rw [← Int.mul_assoc, Int.mul_comm r n]
    omega
  have lo : u * (x * x) ≤ r * (n * 18446744073709551616) + (n * 18446744073709551616 + 47422955475386564608) := by
    have : r * (n * 18446744073709551616) = n * r * 18446744073709551616 := by rw [← Int.mul_assoc, Int.mul_comm r n]
    omega
  have hw : 0 < n * 18446744073709551616 := by omega
  refine ⟨?_, ?_⟩
  · apply Int.le_of_mul_le_mul_right _ hw
    have a1 : K * (r * (n * 18446744073709551616)) ≤ K * (u * (x * x)) := Int.mul_le_mul_of_nonneg_left up (by omega)
    have a2 : K * u * (x * x) ≤ V * (x * x) := Int.mul_le_mul_of_nonneg_right h1 hxx0
    rw [hV, Int.mul_assoc]
    rw [Int.mul_assoc] at a2
    omega
  · apply Int.le_of_mul_le_mul_right _ hw
    have a1 : K * (u * (x * x)) ≤ K * (r * (n * 18446744073709551616) + (n * 18446744073709551616 + 47422955475386564608)) := Int.mul_le_mul_of_nonneg_left lo (by omega)
    have a2 : V * (x * x) ≤ (K * u + 3 * K) * (x * x) := Int.mul_le_mul_of_nonneg_right h2 hxx0
    have a3 : 3 * K * (x * x) ≤ 3 * K * 45515516620409979904 := Int.mul_le_mul_of_nonneg_left hxx (by omega)
    have a4 : K * (n * 18446744073709551616 + 47422955475386564608 + 136546549861229939712) ≤ K * (3 * (n * 18446744073709551616)) := Int.mul_le_mul_of_nonneg_left (by omega) (by omega)
    rw [hV]
    rw [Int.add_mul, Int.mul_assoc K u] at a2
    rw [Int.mul_add] at a1
    rw [Int.mul_add] at a4
    rw [Int.add_mul, Int.mul_assoc K r]
    have a5 : 3 * K * (n * 18446744073709551616) = K * (3 * (n * 18446744073709551616)) := by rw [Int.mul_comm 3 K, Int.mul_assoc]
    have a6 : 3 * K * 45515516620409979904 = K * 136546549861229939712 := by omega
    rw [a5]
    omega
theorem vstep {x p c c' n : Int} (h : c' * (n * 18446744073709551616) = c) : c' * (p * x * x) * (n * 18446744073709551616) = c * p * (x * x) := by
  rw [← h, Int.mul_assoc p x x, Int.mul_right_comm c' (p * (x * x)), Int.mul_assoc (c' * (n * 18446744073709551616)) p]
theorem co_pos : 0 < co0 := by decide +kernel
theorem raw_err {x : Int} (hx0 : 0 ≤ x) (hx : x ≤ 6746518852) : -(12 * co0) ≤ co0 * rawS x - ev x sinN ∧ co0 * rawS x - ev x sinN ≤ 12 * co0 := by
  have hK := co_pos
  have e1 := step_err (u := x) (n := 6) hx0 hx (by decide) hK (vstep (p := x) (c := co0) (c' := co1) (by decide +kernel)) (Int.le_refl _) (by omega)
  have e2 := step_err (n := 20) hx0 hx (by decide) hK (vstep (c := co1) (c' := co2) (by decide +kernel)) e1.1 e1.2
  have e3 := step_err (n := 42) hx0 hx (by decide) hK (vstep (c := co2) (c' := co3) (by decide +kernel)) e2.1 e2.2
  have e4 := step_err (n := 72) hx0 hx (by decide) hK (vstep (c := co3) (c' := co4) (by decide +kernel)) e3.1 e3.2
  have e5 := step_err (n := 110) hx0 hx (by decide) hK (vstep (c := co4) (c' := co5) (by decide +kernel)) e4.1 e4.2
  have e6 := step_err (n := 156) hx0 hx (by decide) hK (vstep (c := co5) (c' := co6) (by decide +kernel)) e5.1 e5.2
  have e7 := step_err (n := 210) hx0 hx (by decide) hK (vstep (c := co6) (c' := co7) (by decide +kernel)) e6.1 e6.2
  have e8 := step_err (n := 272) hx0 hx (by decide) hK (vstep (c := co7) (c' := co8) (by decide +kernel)) e7.1 e7.2
  have hev : ev x sinN = co0 * x + (-co1 * (x * x * x) + (co2 * (x * x * x * x * x) + (-co3 * (x * x * x * x * x * x * x) + (co4 * (x * x * x * x * x * x * x * x * x) + (-co5 * (x * x * x * x * x * x * x * x * x * x * x) + (co6 * (x * x * x * x * x * x * x * x * x * x * x * x * x) + (-co7 * (x * x * x * x * x * x * x * x * x * x * x * x * x * x * x) + (co8 * (x * x * x * x * x * x * x * x * x * x * x * x * x * x * x * x * x) + 0)))))))) := by
    have := ev_od x [co0, -co1, co2, -co3, co4, -co5, co6, -co7, co8] 1
    rw [Int.one_mul, Int.one_mul] at this
    unfold sinN
    rw [this]
    simp only [sumV]
  rw [hev]
  unfold rawS
  simp only [Int.mul_add, Int.mul_sub, Int.neg_mul]
  omega
end Go.Proofs.Ytenpiaafkmfjfaa.B

end
section
namespace Go.Proofs.Ytenpiaafkmfjfaa.B
open Go.RowKit
theorem mmc (a b c d : Int) : a * b * (c * d) = a * c * (b * d) := by rw [Int.mul_assoc, Int.mul_left_comm b c d, ← Int.mul_assoc]
theorem fitV_neg (x : Int) : fitV (-x) = -fitV x := by
  have a := fitv_cases x
  have b := fitv_cases (-x)
  omega
theorem fitF_neg (x : Int) (f : Bool) : fitF (-x) f = fitF x f := by
  unfold fitF
  by_cases h1 : 9223372036854775807 < x
  · rw [if_pos h1, if_neg (by omega), if_pos (by omega)]
  · rw [if_neg h1]
    by_cases h2 : x < -9223372036854775807
    · rw [if_pos h2, if_pos (by omega)]
    · rw [if_neg h2, if_neg (by omega), if_neg (by omega)]
theorem mulP_neg_l (p q : Int × Bool) : mulP (negP p) q = negP (mulP p q) := by
  unfold mulP negP
  dsimp only
  rw [Int.neg_mul, Int.neg_tdiv, fitV_neg, fitF_neg]
theorem mulP_neg_r (p q : Int × Bool) : mulP p (negP q) = negP (mulP p q) := by
  unfold mulP negP
  dsimp only
  rw [Int.mul_neg, Int.neg_tdiv, fitV_neg, fitF_neg]
theorem negP_negP (p : Int × Bool) : negP (negP p) = p := by unfold negP; simp
theorem divP_neg (p q : Int × Bool) : divP (negP p) q = negP (divP p q) := by
  unfold divP negP
  dsimp only
  rw [Int.neg_mul, Int.neg_tdiv, fitV_neg, fitF_neg]
theorem addP_neg (p q : Int × Bool) : addP (negP p) (negP q) = negP (addP p q) := by
  unfold addP negP
  dsimp only
  rw [← Int.neg_add, fitV_neg, fitF_neg]
theorem stepP_neg (x t : Int × Bool) (i : Int) : stepP (negP x) (negP t) i = negP (stepP x t i) := by
  unfold stepP
  rw [show mulP (negP t) (negP x) = mulP t x by rw [mulP_neg_l, mulP_neg_r, negP_negP], mulP_neg_r, divP_neg]
theorem sinL_neg (x : Int × Bool) : ∀ (n : Nat) (i : Int) (t s : Int × Bool), sinL (negP x) n i (negP t) (negP s) = negP (sinL x n i t s)
  | 0, _, _, _ => rfl
  | n + 1, i, t, s => by
    simp only [sinL, stepP_neg, addP_neg]
    exact sinL_neg x n (i + 1) _ _
theorem clamp_cases (x : Int) : (4294967296 < x ∧ clampV x (-4294967296) 4294967296 = 4294967296) ∨ (x < -4294967296 ∧ clampV x (-4294967296) 4294967296 = -4294967296) ∨ (-4294967296 ≤ x ∧ x ≤ 4294967296 ∧ clampV x (-4294967296) 4294967296 = x) := by
  unfold clampV maxS minS
  by_cases h : 4294967296 < x
  · rw [if_pos h, if_pos (by decide)]; omega
  · rw [if_neg h]
    by_cases h2 : x > -4294967296
    · rw [if_pos h2]; omega
    · rw [if_neg h2]; omega
theorem clampP_neg (s : Int × Bool) : clampP (negP s) = negP (clampP s) := by
  have a := clamp_cases s.1
  have b := clamp_cases (-s.1)
  unfold clampP negP
  dsimp only
  rw [show clampV (-s.1) (-4294967296) 4294967296 = -(clampV s.1 (-4294967296) 4294967296) by omega]
def sinA (y : Int) (f : Bool) : Int × Bool := clampP (sinL (y, f) 8 1 (y, f) (y, f))
theorem sinA_neg (y : Int) (f : Bool) : sinA (-y) f = negP (sinA y f) := by
  unfold sinA
  have : ((-y, f) : Int × Bool) = negP (y, f) := rfl
  rw [this, sinL_neg, clampP_neg]
theorem sinP_eq (v : Int) (f : Bool) : sinP v f = sinA (foldV (wrapV (sv v))) (sf v f) := rfl
theorem sinA_val (y : Int) (f : Bool) (h0 : 0 ≤ y) (h1 : y ≤ 6746518852) : (sinA y f).1 = clampV (rawS y) (-4294967296) 4294967296 := by
  unfold sinA clampP
  dsimp only
  rw [sinL_val (y, f) h0 h1]
theorem sinA_sq (y : Int) (f : Bool) (h1 : y.natAbs ≤ 6746518852) : (sinA y f).1 * (sinA y f).1 = clampV (rawS (y.natAbs : Int)) (-4294967296) 4294967296 * clampV (rawS (y.natAbs : Int)) (-4294967296) 4294967296 := by
  rcases Int.natAbs_eq y with h | h
  · rw [← sinA_val (y.natAbs : Int) f (by omega) (by omega), ← h]
  · rw [← sinA_val (y.natAbs : Int) f (by omega) (by omega)]
    have e : (sinA y f).1 = -(sinA (y.natAbs : Int) f).1 := by
      conv => lhs; rw [h]
      rw [sinA_neg]; rfl
    rw [e, Int.neg_mul_neg]
theorem sinA_one (y : Int) (f : Bool) : -4294967296 ≤ (sinA y f).1 ∧ (sinA y f).1 ≤ 4294967296 := by
  have := clamp_cases (sinL (y, f) 8 1 (y, f) (y, f)).1
  unfold sinA clampP
  dsimp only
  omega
theorem rawS_range {x : Int} (hx0 : 0 ≤ x) (hx : x ≤ 6746518852) : -68719476736 ≤ rawS x ∧ rawS x ≤ 68719476736 := by
  obtain ⟨a1, b1, _⟩ := nx_range hx0 hx hx0 hx (show (6 : Int) ≤ 6 by decide)
  obtain ⟨a2, b2, _⟩ := nx_range hx0 hx a1 b1 (show (6 : Int) ≤ 20 by decide)
  obtain ⟨a3, b3, _⟩ := nx_range hx0 hx a2 b2 (show (6 : Int) ≤ 42 by decide)
  obtain ⟨a4, b4, _⟩ := nx_range hx0 hx a3 b3 (show (6 : Int) ≤ 72 by decide)
  obtain ⟨a5, b5, _⟩ := nx_range hx0 hx a4 b4 (show (6 : Int) ≤ 110 by decide)
  obtain ⟨a6, b6, _⟩ := nx_range hx0 hx a5 b5 (show (6 : Int) ≤ 156 by decide)
  obtain ⟨a7, b7, _⟩ := nx_range hx0 hx a6 b6 (show (6 : Int) ≤ 210 by decide)
  obtain ⟨a8, b8, _⟩ := nx_range hx0 hx a7 b7 (show (6 : Int) ≤ 272 by decide)
  unfold rawS
  omega
theorem sq_err {K X N : Int} (hK : 0 < K) (hX : -68719476736 ≤ X ∧ X ≤ 68719476736) (h : -(12 * K) ≤ K * X - N ∧ K * X - N ≤ 12 * K) :
    -(K * K * 1649267441952) ≤ K * K * (X * X) - N * N ∧ K * K * (X * X) - N * N ≤ K * K * 1649267441952 := by
  have h1 : (K * X - N).natAbs ≤ (12 * K).natAbs := by omega
  have kx1 : K * X ≤ K * 68719476736 := Int.mul_le_mul_of_nonneg_left hX.2 (by omega)
  have kx2 : K * (-68719476736) ≤ K * X := Int.mul_le_mul_of_nonneg_left hX.1 (by omega)
  have h2 : (K * X + N).natAbs ≤ (137438953484 * K).natAbs := by omega
  have h3 := Nat.mul_le_mul h1 h2
  rw [← Int.natAbs_mul, ← Int.natAbs_mul] at h3
  have e1 : (K * X - N) * (K * X + N) = K * K * (X * X) - N * N := by
    rw [Int.sub_mul, Int.mul_add, Int.mul_add, Int.mul_comm N (K * X), mmc K X K X]
    omega
  have e2 : 12 * K * (137438953484 * K) = K * K * 1649267441808 := by
    rw [mmc, Int.mul_comm]
    rfl
  rw [e1, e2] at h3
  have hkk := Int.mul_pos hK hK
  omega
theorem circle_raw {a b : Int} (ha0 : 0 ≤ a) (ha : a ≤ 6746518852) (hb0 : 0 ≤ b) (hb : b ≤ 6746518852) (hab : a + b = 6746518852 ∨ a + b = 6746518851) :
    -8796093022208 ≤ rawS a * rawS a + rawS b * rawS b - 18446744073709551616 ∧ rawS a * rawS a + rawS b * rawS b - 18446744073709551616 ≤ 8796093022208 := by
  have hK := co_pos
  have sa := sq_err hK (rawS_range ha0 ha) (raw_err ha0 ha)
  have sb := sq_err hK (rawS_range hb0 hb) (raw_err hb0 hb)
  have hr : (ev a sinN * ev a sinN + ev b sinN * ev b sinN - co0 * 4294967296 * (co0 * 4294967296)).natAbs ≤ 1099511627776 * (co0 * co0).natAbs := by
    rcases hab with h | h
    · have := rest_ev 6746518852 a
      rw [show (6746518852 : Int) - a = b by omega] at this
      rw [← this]
      exact Nat.le_trans (ev_abs a 6746518852 (by omega) _) rest_small0
    · have := rest_ev 6746518851 a
      rw [show (6746518851 : Int) - a = b by omega] at this
      rw [← this]
      exact Nat.le_trans (ev_abs a 6746518852 (by omega) _) rest_small1
  have ek : co0 * 4294967296 * (co0 * 4294967296) = co0 * co0 * 18446744073709551616 := by rw [mmc]; rfl
  rw [ek] at hr
  have hkk := Int.mul_pos hK hK
  generalize rawS a * rawS a = X at *
  generalize rawS b * rawS b = Y at *
  generalize ev a sinN * ev a sinN = P at *
  generalize ev b sinN * ev b sinN = R at *
  generalize co0 * co0 = J at *
  have l1 : J * (X + Y - 18446744073709551616) = J * X + J * Y - J * 18446744073709551616 := by rw [Int.mul_sub, Int.mul_add]
  refine ⟨?_, ?_⟩
  · apply Int.le_of_mul_le_mul_left _ hkk
    rw [l1]; omega
  · apply Int.le_of_mul_le_mul_left _ hkk
    rw [l1]; omega
end Go.Proofs.Ytenpiaafkmfjfaa.B

end
