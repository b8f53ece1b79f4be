/- FixedTurns: part 6 of the proof. -/
import Derived.Test.YtenpiaafkmfjfaaQFixedTurns5
section
namespace Go.Proofs.Ytenpiaafkmfjfaa.B
open Go.RowKit Go.Proofs.YtenpiaafkmfjfaaW.PrintWords Go.Proofs.YtenpiaafkmfjfaaW.PrintLast
set_option linter.unusedVariables false
set_option linter.unusedSimpArgs false
def r_Min.l0 : Nat → List (S23) → Int → Int → Option (Int × Bool)
  | 0, _, _, _ => none
  | k + 1, x0, x3, x5 => if x5 < (x0.length : Int) then (if 0 ≤ x5 then ((r_whole.f ((rd_T23 x0 x5).f0) ((rd_T23 x0 x5).f1)).bind fun bt679 => (if bt679.1 < x3 then (r_Min.l0 k x0 bt679.1 (wrap64 (x5 + 1))) else (r_Min.l0 k x0 x3 (wrap64 (x5 + 1))))) else (none)) else ((r_flagged.f k x0).bind fun t681 => (some (x3, t681)))
def r_Min.f (k : Nat) (l0 : List (S23)) : Option (Int × Bool) := if (l0.length : Int) = 0 then (some (0, false)) else (if 0 < (l0.length : Int) then ((r_whole.f ((rd_T23 l0 0).f0) ((rd_T23 l0 0).f1)).bind fun bt676 => (r_Min.l0 k l0 bt676.1 1)) else (none))
set_option maxHeartbeats 8000000 in
set_option maxRecDepth 100000 in
theorem r_Min.calls (k : Nat) (A0 : Option Addr) (c0 : Nat) (l0 : List (S23)) (r1 : Int) (r2 : Bool) (w : World) (hr0 : Kd.C k23 w A0 l0.length l0) (hc0 : l0.length ≤ c0) (h : r_Min.f k l0 = some (r1, r2)) :
    Calls Try.prog 29 #[.slice A0 l0.length c0] w fun e w' => e = .returned (.agg #[.int .i64 r1, .bool r2]) ∧ Below w.heap.size w w' := by
  have hu23 := Try.underlying23
  have HR0 := Aside0.mk hr0
  have HC0 := Aside0.mk hc0
  clear hr0 hc0
  have HB := Aside0.mk (Below.refl w.heap.size w)
  have H : (if (l0.length : Int) = 0 then (some (0, false)) else (if 0 < (l0.length : Int) then ((r_whole.f ((rd_T23 l0 0).f0) ((rd_T23 l0 0).f1)).bind fun bt676 => (r_Min.l0 k l0 bt676.1 1)) else (none))) = some (r1, r2) := h
  clear h
  by_cases c2 : (l0.length : Int) = 0
  · rw [if_pos c2] at H
    have c2b0 : ((l0.length : Int) == 0) = true := beq_iff_eq.mpr c2
    have c2b1 : ((l0.length : Int) != 0) = false := bne_eq_false_iff_eq.mpr c2
    clear c2
    simp only [Option.some.injEq, Prod.mk.injEq] at H
    obtain ⟨rfl, rfl⟩ := H
    go_enter Try.func29, Try.ntmps29
    go_wp2_with (first | ((with_reducible refine zzt (N := 2) rfl ?_); refine zzp ?hg (N := 2) ?hd (cs := #[.int .i64 0, .bool false]) (t := 23) ?hr ?_; (case hd => rfl); (case hg => rfl); (case hr => first | (go_simp; done) | (go_simp; rfl)); intro gb674 hg w3 hbox hb; have n0_ := Aside0.mk (zzl (by repeat (first | (with_reducible first | exact HB.out | apply zzf | apply zza | apply zzg) | exact HB.out)) hb); have n1_ := Aside0.mk (hbox); have n3_ := Aside0.mk ((by rw [hg]; exact (zzk (by repeat (first | (with_reducible first | exact HB.out | apply zzf | apply zza | apply zzg) | exact HB.out))) : w.heap.size ≤ gb674)); clear HB; have HB := n0_; have BK674 := n1_; have GE674 := n3_; clear n0_ n1_ n3_; clear hb hbox hg; have hcz4_0 : w3.cell? ⟨gb674, 0, none⟩ = some (.int .i64 0) := (zzi BK674.out 0).trans rfl; have hcz4_1 : w3.cell? ⟨gb674, 1, none⟩ = some (.bool false) := (zzi BK674.out 1).trans rfl; have hfz4_0 := zzh BK674.out 0; have hfz4_1 := zzh BK674.out 1))
    refine bodyPost_ret (results_cell_row rfl _ _ gb674 23 #[.int .i64 0, .bool false] (0, 0) _ rfl (by (with_reducible repeat first | apply zzc | apply zzd | apply zzb); refine zzo (cs := #[.int .i64 0, .bool false]) ?_ 1 _ rfl; (with_reducible repeat first | apply zzc | apply zzd | apply zzb); refine zzo (cs := #[.int .i64 0, .bool false]) ?_ 0 _ rfl; (with_reducible repeat first | apply zzc | apply zzd | apply zzb); exact BK674.out) Try.underlying23 rfl (by kernel_rfl)) rfl ?_
    exact ⟨by first | rfl | (simp [zzn, zzm] <;> rfl) | (simp [*, zzn, zzm] <;> rfl), by repeat (first | (with_reducible first | exact HB.out | apply zzf | apply zza | apply zzg | refine zze ?_ GE674.out) | exact HB.out)⟩
  · rw [if_neg c2] at H
    have c2b0 : ((l0.length : Int) == 0) = false := beq_eq_false_iff_ne.mpr c2
    have c2b1 : ((l0.length : Int) != 0) = true := bne_iff_ne.mpr c2
    have c2b2 : ¬ (l0 = []) := fun h_ => c2 (by rw [h_]; rfl)
    by_cases c5 : 0 < (l0.length : Int)
    · rw [if_pos c5] at H
      have c5b0 : decide (0 < (l0.length : Int)) = true := decide_eq_true c5
      have c5b1 : decide (0 < l0.length) = true := decide_eq_true (by omega)
      clear c5
      replace H := Option.bind_eq_some_iff.mp H
      obtain ⟨⟨t676, t677⟩, A60, H⟩ := H
      replace H : (r_Min.l0 k l0 t676 1) = some (r1, r2) := H
      have A6 := Aside0.mk A60
      clear A60
      have H' := Aside0.mk H
      clear H
      go_enter Try.func29, Try.ntmps29
      go_wp2_with (first | ((with_reducible refine zzt (N := 2) rfl ?_); refine zzp ?hg (N := 2) ?hd (cs := #[.int .i64 0, .bool false]) (t := 23) ?hr ?_; (case hd => rfl); (case hg => rfl); (case hr => first | (go_simp; done) | (go_simp; rfl)); intro gb674 hg w7 hbox hb; have n0_ := Aside0.mk (zzl (by repeat (first | (with_reducible first | exact HB.out | apply zzf | apply zza | apply zzg) | exact HB.out)) hb); have n1_ := Aside0.mk (hbox); have n3_ := Aside0.mk ((by rw [hg]; exact (zzk (by repeat (first | (with_reducible first | exact HB.out | apply zzf | apply zza | apply zzg) | exact HB.out))) : w.heap.size ≤ gb674)); clear HB; have HB := n0_; have BK674 := n1_; have GE674 := n3_; clear n0_ n1_ n3_; clear hb hbox hg; have p675 : 0 ≤ (0 : Int) := (by omega); have q675 : 0 < (l0.length : Int) := of_decide_eq_true (by first | (with_reducible assumption) | assumption); obtain ⟨ad675, e675, hx675_0, hx675_1⟩ := at_T23 HR0.out 0 p675 q675; cases e675; have qi675 : (0 < l0.length) = True := eq_true (by omega); (try rw [show ((0 : Int)).toNat = 0 from rfl] at hx675_0); (try rw [show 0 * 2 = 0 from rfl] at hx675_0); (try rw [Addr.add_zero'] at hx675_0); (try rw [show ((0 : Int)).toNat = 0 from rfl] at hx675_1); (try rw [show 0 * 2 = 0 from rfl] at hx675_1); (try rw [Addr.add_zero'] at hx675_1); replace hx675_0 := (HB.out.cell (World.block_lt_of_cell? w _ hx675_0)).trans hx675_0; replace hx675_1 := (HB.out.cell (World.block_lt_of_cell? w _ hx675_1)).trans hx675_1; replace p675 := eq_true p675; replace q675 := eq_true q675) | ((with_reducible refine zzq (f := 73) rfl ?_); refine goesL_ (some 16) rfl rfl Try.func73 (by kernel_rfl) rfl #[.agg #[.int .i64 ((rd_T23 l0 0).f0), .bool ((rd_T23 l0 0).f1)]] rfl (by (try simp only [List.map_toArray, List.map_cons, List.map_nil]); first | done | rfl | (simp only [List.length_drop, List.length_take]; rfl)) ?_; (with_reducible refine (r_whole.calls ((rd_T23 l0 0).f0) ((rd_T23 l0 0).f1) t676 t677 _ A6.out).mono ?_); rintro e w8 ⟨rfl, hb⟩; refine ⟨_, rfl, ?_⟩; have n0_ := Aside0.mk (zzj (g := gb674) (o := .cells #[.int .i64 0, .bool false] 23 (0, 0)) (by (with_reducible repeat first | apply zzc | apply zzd | apply zzb); exact BK674.out) hb); have n1_ := Aside0.mk (zzl (by repeat (first | (with_reducible first | exact HB.out | apply zzf | apply zza | apply zzg | refine zze ?_ GE674.out) | exact HB.out)) hb); clear BK674; clear HB; have BK674 := n0_; have HB := n1_; clear n0_ n1_; (try clear hi)))
      go_loopg [3, 5] k (fun kq v3 v5 w' => ∃ (x3_1 : Int) (x5_1 : Int), v3 = .int .i64 x3_1 ∧ v5 = .int .i64 x5_1 ∧ Aside0 (r_Min.l0 kq l0 x3_1 x5_1 = some (r1, r2)) ∧ Aside0 (kq ≤ k) ∧ Aside0 (w'.heap[gb674]? = some (.cells #[.int .i64 0, .bool false] 23 (0, 0))) ∧ Aside0 (Below w.heap.size w w'))
      case atStart => exact ⟨(t676), (1), (by first | rfl | (simp; done) | (simp [*]; done)), (by first | rfl | (simp; done) | (simp [*]; done)), H', ⟨Nat.le_refl _⟩, ⟨by (with_reducible repeat first | apply zzc | apply zzd | apply zzb); exact BK674.out⟩, ⟨by repeat (first | (with_reducible first | exact HB.out | apply zzf | apply zza | apply zzg | refine zze ?_ GE674.out) | exact HB.out)⟩⟩
      case round =>
        clear H'
        obtain ⟨x3_1, x5_1, rfl, rfl, HA, HK1, BK674, HB⟩ := hrel
        cases gk with
        | zero => exact absurd HA.out (by simp [r_Min.l0])
        | succ k1 =>
          have H := HA.out
          clear HA
          simp only [r_Min.l0] at H
          by_cases c9 : x5_1 < (l0.length : Int)
          · rw [if_pos c9] at H
            have c9b0 : decide (x5_1 < (l0.length : Int)) = true := decide_eq_true c9
            clear c9
            by_cases c10 : 0 ≤ x5_1
            · rw [if_pos c10] at H
              have c10b0 : decide (0 ≤ x5_1) = true := decide_eq_true c10
              clear c10
              replace H := Option.bind_eq_some_iff.mp H
              obtain ⟨⟨t679, t680⟩, A110, H⟩ := H
              replace H : (if t679 < x3_1 then (r_Min.l0 k1 l0 t679 (wrap64 (x5_1 + 1))) else (r_Min.l0 k1 l0 x3_1 (wrap64 (x5_1 + 1)))) = some (r1, r2) := H
              have A11 := Aside0.mk A110
              clear A110
              by_cases c12 : t679 < x3_1
              · rw [if_pos c12] at H
                have c12b0 : decide (t679 < x3_1) = true := decide_eq_true c12
                clear c12
                have H' := Aside0.mk H
                clear H
                have p678 : 0 ≤ (x5_1 : Int) := of_decide_eq_true (by first | (with_reducible assumption) | assumption)
                have q678 : x5_1 < (l0.length : Int) := of_decide_eq_true (by first | (with_reducible assumption) | assumption)
                obtain ⟨ad678, e678, hx678_0, hx678_1⟩ := at_T23 HR0.out x5_1 p678 q678
                obtain rfl : ad675 = ad678 := (by injection e678)
                replace hx678_0 := (HB.out.cell (World.block_lt_of_cell? w _ hx678_0)).trans hx678_0
                replace hx678_1 := (HB.out.cell (World.block_lt_of_cell? w _ hx678_1)).trans hx678_1
                replace p678 := eq_true p678
                replace q678 := eq_true q678
                go_wp2_with (first | ((with_reducible refine zzq (f := 73) rfl ?_); refine goesL_ (some 30) rfl rfl Try.func73 (by kernel_rfl) rfl #[.agg #[.int .i64 ((rd_T23 l0 x5_1).f0), .bool ((rd_T23 l0 x5_1).f1)]] rfl (by (try simp only [List.map_toArray, List.map_cons, List.map_nil]); first | done | rfl | (simp only [List.length_drop, List.length_take]; rfl)) ?_; (with_reducible refine (r_whole.calls ((rd_T23 l0 x5_1).f0) ((rd_T23 l0 x5_1).f1) t679 t680 _ A11.out).mono ?_); rintro e w13 ⟨rfl, hb⟩; refine ⟨_, rfl, ?_⟩; have n0_ := Aside0.mk (zzj (g := gb674) (o := .cells #[.int .i64 0, .bool false] 23 (0, 0)) (by (with_reducible repeat first | apply zzc | apply zzd | apply zzb); exact BK674.out) hb); have n1_ := Aside0.mk (zzl (by repeat (first | (with_reducible first | exact HB.out | apply zzf | apply zza | apply zzg | refine zze ?_ GE674.out) | exact HB.out)) hb); clear BK674; clear HB; have BK674 := n0_; have HB := n1_; clear n0_ n1_; (try clear hi)))
                go_roundg k1
                case measure => have := HK1.out; omega
                case rel => exact ⟨(t679), (wrap64 (x5_1 + 1)), (by first | rfl | (simp; done) | (simp [*]; done)), (by first | rfl | (simp; done) | (simp [*]; done)), H', ⟨by have := HK1.out; omega⟩, ⟨by (with_reducible repeat first | apply zzc | apply zzd | apply zzb); exact BK674.out⟩, ⟨by repeat (first | (with_reducible first | exact HB.out | apply zzf | apply zza | apply zzg | refine zze ?_ GE674.out) | exact HB.out)⟩⟩
              · rw [if_neg c12] at H
                have c12b0 : decide (t679 < x3_1) = false := decide_eq_false c12
                clear c12
                have H' := Aside0.mk H
                clear H
                have p678 : 0 ≤ (x5_1 : Int) := of_decide_eq_true (by first | (with_reducible assumption) | assumption)
                have q678 : x5_1 < (l0.length : Int) := of_decide_eq_true (by first | (with_reducible assumption) | assumption)
                obtain ⟨ad678, e678, hx678_0, hx678_1⟩ := at_T23 HR0.out x5_1 p678 q678
                obtain rfl : ad675 = ad678 := (by injection e678)
                replace hx678_0 := (HB.out.cell (World.block_lt_of_cell? w _ hx678_0)).trans hx678_0
                replace hx678_1 := (HB.out.cell (World.block_lt_of_cell? w _ hx678_1)).trans hx678_1
                replace p678 := eq_true p678
                replace q678 := eq_true q678
                go_wp2_with (first | ((with_reducible refine zzq (f := 73) rfl ?_); refine goesL_ (some 30) rfl rfl Try.func73 (by kernel_rfl) rfl #[.agg #[.int .i64 ((rd_T23 l0 x5_1).f0), .bool ((rd_T23 l0 x5_1).f1)]] rfl (by (try simp only [List.map_toArray, List.map_cons, List.map_nil]); first | done | rfl | (simp only [List.length_drop, List.length_take]; rfl)) ?_; (with_reducible refine (r_whole.calls ((rd_T23 l0 x5_1).f0) ((rd_T23 l0 x5_1).f1) t679 t680 _ A11.out).mono ?_); rintro e w14 ⟨rfl, hb⟩; refine ⟨_, rfl, ?_⟩; have n0_ := Aside0.mk (zzj (g := gb674) (o := .cells #[.int .i64 0, .bool false] 23 (0, 0)) (by (with_reducible repeat first | apply zzc | apply zzd | apply zzb); exact BK674.out) hb); have n1_ := Aside0.mk (zzl (by repeat (first | (with_reducible first | exact HB.out | apply zzf | apply zza | apply zzg | refine zze ?_ GE674.out) | exact HB.out)) hb); clear BK674; clear HB; have BK674 := n0_; have HB := n1_; clear n0_ n1_; (try clear hi)))
                go_roundg k1
                case measure => have := HK1.out; omega
                case rel => exact ⟨(x3_1), (wrap64 (x5_1 + 1)), (by first | rfl | (simp; done) | (simp [*]; done)), (by first | rfl | (simp; done) | (simp [*]; done)), H', ⟨by have := HK1.out; omega⟩, ⟨by (with_reducible repeat first | apply zzc | apply zzd | apply zzb); exact BK674.out⟩, ⟨by repeat (first | (with_reducible first | exact HB.out | apply zzf | apply zza | apply zzg | refine zze ?_ GE674.out) | exact HB.out)⟩⟩
            · rw [if_neg c10] at H
              exact absurd H (by simp)
          · rw [if_neg c9] at H
            have c9b0 : decide (x5_1 < (l0.length : Int)) = false := decide_eq_false c9
            clear c9
            replace H := Option.bind_eq_some_iff.mp H
            obtain ⟨t681, A150, H⟩ := H
            replace H : (some (x3_1, t681)) = some (r1, r2) := H
            have A15 := Aside0.mk A150
            clear A150
            simp only [Option.some.injEq, Prod.mk.injEq] at H
            obtain ⟨rfl, rfl⟩ := H
            go_wp2_with (first | ((with_reducible refine zzq (f := 80) rfl ?_); refine goesL_ (some 39) rfl rfl Try.func80 (by kernel_rfl) rfl #[.slice (some ad675) l0.length c0] rfl (by (try simp only [List.map_toArray, List.map_cons, List.map_nil]); first | done | rfl | (simp only [List.length_drop, List.length_take]; rfl)) ?_; (with_reducible refine (r_flagged.calls k1 _ _ l0 t681 _ ?side1 ?side2 A15.out).mono ?_); (case side1 => repeat (first | exact (Kd.C_below HR0.out HB.out) | (with_reducible refine Kd.C_alloc ?_ _) | (with_reducible refine Kd.C_drewN ?_ _) | (with_reducible refine Kd.C_drew ?_))); (case side2 => exact HC0.out); rintro e w16 ⟨rfl, hb⟩; refine ⟨_, rfl, ?_⟩; have n0_ := Aside0.mk (zzj (g := gb674) (o := .cells #[.int .i64 0, .bool false] 23 (0, 0)) (by (with_reducible repeat first | apply zzc | apply zzd | apply zzb); exact BK674.out) hb); have n1_ := Aside0.mk (zzl (by repeat (first | (with_reducible first | exact HB.out | apply zzf | apply zza | apply zzg | refine zze ?_ GE674.out) | exact HB.out)) hb); clear BK674; clear HB; have BK674 := n0_; have HB := n1_; clear n0_ n1_; have hcz17_0 : w16.cell? ⟨gb674, 0, none⟩ = some (.int .i64 0) := (zzi BK674.out 0).trans rfl; have hcz17_1 : w16.cell? ⟨gb674, 1, none⟩ = some (.bool false) := (zzi BK674.out 1).trans rfl; have hfz17_0 := zzh BK674.out 0; have hfz17_1 := zzh BK674.out 1))
            refine bodyPost_ret (results_cell_row rfl _ _ gb674 23 #[.int .i64 x3_1, .bool t681] (0, 0) _ rfl (by (with_reducible repeat first | apply zzc | apply zzd | apply zzb); refine zzo (cs := #[.int .i64 x3_1, .bool false]) ?_ 1 _ rfl; (with_reducible repeat first | apply zzc | apply zzd | apply zzb); refine zzo (cs := #[.int .i64 0, .bool false]) ?_ 0 _ rfl; (with_reducible repeat first | apply zzc | apply zzd | apply zzb); exact BK674.out) Try.underlying23 rfl (by kernel_rfl)) rfl ?_
            exact ⟨by first | rfl | (simp [zzn, zzm] <;> rfl) | (simp [*, zzn, zzm] <;> rfl), by repeat (first | (with_reducible first | exact HB.out | apply zzf | apply zza | apply zzg | refine zze ?_ GE674.out) | exact HB.out)⟩
    · rw [if_neg c5] at H
      exact absurd H (by simp)
def r_Max.l0 : Nat → List (S23) → Int → Int → Option (Int × Bool)
  | 0, _, _, _ => none
  | k + 1, x0, x3, x5 => if x5 < (x0.length : Int) then (if 0 ≤ x5 then ((r_whole.f ((rd_T23 x0 x5).f0) ((rd_T23 x0 x5).f1)).bind fun bt687 => (if bt687.1 > x3 then (r_Max.l0 k x0 bt687.1 (wrap64 (x5 + 1))) else (r_Max.l0 k x0 x3 (wrap64 (x5 + 1))))) else (none)) else ((r_flagged.f k x0).bind fun t689 => (some (x3, t689)))
def r_Max.f (k : Nat) (l0 : List (S23)) : Option (Int × Bool) := if (l0.length : Int) = 0 then (some (0, false)) else (if 0 < (l0.length : Int) then ((r_whole.f ((rd_T23 l0 0).f0) ((rd_T23 l0 0).f1)).bind fun bt684 => (r_Max.l0 k l0 bt684.1 1)) else (none))
set_option maxHeartbeats 8000000 in
set_option maxRecDepth 100000 in
theorem r_Max.calls (k : Nat) (A0 : Option Addr) (c0 : Nat) (l0 : List (S23)) (r1 : Int) (r2 : Bool) (w : World) (hr0 : Kd.C k23 w A0 l0.length l0) (hc0 : l0.length ≤ c0) (h : r_Max.f k l0 = some (r1, r2)) :
    Calls Try.prog 31 #[.slice A0 l0.length c0] w fun e w' => e = .returned (.agg #[.int .i64 r1, .bool r2]) ∧ Below w.heap.size w w' := by
  have hu23 := Try.underlying23
  have HR0 := Aside0.mk hr0
  have HC0 := Aside0.mk hc0
  clear hr0 hc0
  have HB := Aside0.mk (Below.refl w.heap.size w)
  have H : (if (l0.length : Int) = 0 then (some (0, false)) else (if 0 < (l0.length : Int) then ((r_whole.f ((rd_T23 l0 0).f0) ((rd_T23 l0 0).f1)).bind fun bt684 => (r_Max.l0 k l0 bt684.1 1)) else (none))) = some (r1, r2) := h
  clear h
  by_cases c2 : (l0.length : Int) = 0
  · rw [if_pos c2] at H
    have c2b0 : ((l0.length : Int) == 0) = true := beq_iff_eq.mpr c2
    have c2b1 : ((l0.length : Int) != 0) = false := bne_eq_false_iff_eq.mpr c2
    clear c2
    simp only [Option.some.injEq, Prod.mk.injEq] at H
    obtain ⟨rfl, rfl⟩ := H
    go_enter Try.func31, Try.ntmps31
    go_wp2_with (first | ((with_reducible refine zzt (N := 2) rfl ?_); refine zzp ?hg (N := 2) ?hd (cs := #[.int .i64 0, .bool false]) (t := 23) ?hr ?_; (case hd => rfl); (case hg => rfl); (case hr => first | (go_simp; done) | (go_simp; rfl)); intro gb682 hg w3 hbox hb; have n0_ := Aside0.mk (zzl (by repeat (first | (with_reducible first | exact HB.out | apply zzf | apply zza | apply zzg) | exact HB.out)) hb); have n1_ := Aside0.mk (hbox); have n3_ := Aside0.mk ((by rw [hg]; exact (zzk (by repeat (first | (with_reducible first | exact HB.out | apply zzf | apply zza | apply zzg) | exact HB.out))) : w.heap.size ≤ gb682)); clear HB; have HB := n0_; have BK682 := n1_; have GE682 := n3_; clear n0_ n1_ n3_; clear hb hbox hg; have hcz4_0 : w3.cell? ⟨gb682, 0, none⟩ = some (.int .i64 0) := (zzi BK682.out 0).trans rfl; have hcz4_1 : w3.cell? ⟨gb682, 1, none⟩ = some (.bool false) := (zzi BK682.out 1).trans rfl; have hfz4_0 := zzh BK682.out 0; have hfz4_1 := zzh BK682.out 1))
    refine bodyPost_ret (results_cell_row rfl _ _ gb682 23 #[.int .i64 0, .bool false] (0, 0) _ rfl (by (with_reducible repeat first | apply zzc | apply zzd | apply zzb); refine zzo (cs := #[.int .i64 0, .bool false]) ?_ 1 _ rfl; (with_reducible repeat first | apply zzc | apply zzd | apply zzb); refine zzo (cs := #[.int .i64 0, .bool false]) ?_ 0 _ rfl; (with_reducible repeat first | apply zzc | apply zzd | apply zzb); exact BK682.out) Try.underlying23 rfl (by kernel_rfl)) rfl ?_
    exact ⟨by first | rfl | (simp [zzn, zzm] <;> rfl) | (simp [*, zzn, zzm] <;> rfl), by repeat (first | (with_reducible first | exact HB.out | apply zzf | apply zza | apply zzg | refine zze ?_ GE682.out) | exact HB.out)⟩
  · rw [if_neg c2] at H
    have c2b0 : ((l0.length : Int) == 0) = false := beq_eq_false_iff_ne.mpr c2
    have c2b1 : ((l0.length : Int) != 0) = true := bne_iff_ne.mpr c2
    have c2b2 : ¬ (l0 = []) := fun h_ => c2 (by rw [h_]; rfl)
    by_cases c5 : 0 < (l0.length : Int)
    · rw [if_pos c5] at H
      have c5b0 : decide (0 < (l0.length : Int)) = true := decide_eq_true c5
      have c5b1 : decide (0 < l0.length) = true := decide_eq_true (by omega)
      clear c5
      replace H := Option.bind_eq_some_iff.mp H
      obtain ⟨⟨t684, t685⟩, A60, H⟩ := H
      replace H : (r_Max.l0 k l0 t684 1) = some (r1, r2) := H
      have A6 := Aside0.mk A60
      clear A60
      have H' := Aside0.mk H
      clear H
      go_enter Try.func31, Try.ntmps31
      go_wp2_with (first | ((with_reducible refine zzt (N := 2) rfl ?_); refine zzp ?hg (N := 2) ?hd (cs := #[.int .i64 0, .bool false]) (t := 23) ?hr ?_; (case hd => rfl); (case hg => rfl); (case hr => first | (go_simp; done) | (go_simp; rfl)); intro gb682 hg w7 hbox hb; have n0_ := Aside0.mk (zzl (by repeat (first | (with_reducible first | exact HB.out | apply zzf | apply zza | apply zzg) | exact HB.out)) hb); have n1_ := Aside0.mk (hbox); have n3_ := Aside0.mk ((by rw [hg]; exact (zzk (by repeat (first | (with_reducible first | exact HB.out | apply zzf | apply zza | apply zzg) | exact HB.out))) : w.heap.size ≤ gb682)); clear HB; have HB := n0_; have BK682 := n1_; have GE682 := n3_; clear n0_ n1_ n3_; clear hb hbox hg; have p683 : 0 ≤ (0 : Int) := (by omega); have q683 : 0 < (l0.length : Int) := of_decide_eq_true (by first | (with_reducible assumption) | assumption); obtain ⟨ad683, e683, hx683_0, hx683_1⟩ := at_T23 HR0.out 0 p683 q683; cases e683; have qi683 : (0 < l0.length) = True := eq_true (by omega); (try rw [show ((0 : Int)).toNat = 0 from rfl] at hx683_0); (try rw [show 0 * 2 = 0 from rfl] at hx683_0); (try rw [Addr.add_zero'] at hx683_0); (try rw [show ((0 : Int)).toNat = 0 from rfl] at hx683_1); (try rw [show 0 * 2 = 0 from rfl] at hx683_1); (try rw [Addr.add_zero'] at hx683_1); replace hx683_0 := (HB.out.cell (World.block_lt_of_cell? w _ hx683_0)).trans hx683_0; replace hx683_1 := (HB.out.cell (World.block_lt_of_cell? w _ hx683_1)).trans hx683_1; replace p683 := eq_true p683; replace q683 := eq_true q683) | ((with_reducible refine zzq (f := 73) rfl ?_); refine goesL_ (some 16) rfl rfl Try.func73 (by kernel_rfl) rfl #[.agg #[.int .i64 ((rd_T23 l0 0).f0), .bool ((rd_T23 l0 0).f1)]] rfl (by (try simp only [List.map_toArray, List.map_cons, List.map_nil]); first | done | rfl | (simp only [List.length_drop, List.length_take]; rfl)) ?_; (with_reducible refine (r_whole.calls ((rd_T23 l0 0).f0) ((rd_T23 l0 0).f1) t684 t685 _ A6.out).mono ?_); rintro e w8 ⟨rfl, hb⟩; refine ⟨_, rfl, ?_⟩; have n0_ := Aside0.mk (zzj (g := gb682) (o := .cells #[.int .i64 0, .bool false] 23 (0, 0)) (by (with_reducible repeat first | apply zzc | apply zzd | apply zzb); exact BK682.out) hb); have n1_ := Aside0.mk (zzl (by repeat (first | (with_reducible first | exact HB.out | apply zzf | apply zza | apply zzg | refine zze ?_ GE682.out) | exact HB.out)) hb); clear BK682; clear HB; have BK682 := n0_; have HB := n1_; clear n0_ n1_; (try clear hi)))
      go_loopg [3, 5] k (fun kq v3 v5 w' => ∃ (x3_1 : Int) (x5_1 : Int), v3 = .int .i64 x3_1 ∧ v5 = .int .i64 x5_1 ∧ Aside0 (r_Max.l0 kq l0 x3_1 x5_1 = some (r1, r2)) ∧ Aside0 (kq ≤ k) ∧ Aside0 (w'.heap[gb682]? = some (.cells #[.int .i64 0, .bool false] 23 (0, 0))) ∧ Aside0 (Below w.heap.size w w'))
      case atStart => exact ⟨(t684), (1), (by first | rfl | (simp; done) | (simp [*]; done)), (by first | rfl | (simp; done) | (simp [*]; done)), H', ⟨Nat.le_refl _⟩, ⟨by (with_reducible repeat first | apply zzc | apply zzd | apply zzb); exact BK682.out⟩, ⟨by repeat (first | (with_reducible first | exact HB.out | apply zzf | apply zza | apply zzg | refine zze ?_ GE682.out) | exact HB.out)⟩⟩
      case round =>
        clear H'
        obtain ⟨x3_1, x5_1, rfl, rfl, HA, HK1, BK682, HB⟩ := hrel
        cases gk with
        | zero => exact absurd HA.out (by simp [r_Max.l0])
        | succ k1 =>
          have H := HA.out
          clear HA
          simp only [r_Max.l0] at H
          by_cases c9 : x5_1 < (l0.length : Int)
          · rw [if_pos c9] at H
            have c9b0 : decide (x5_1 < (l0.length : Int)) = true := decide_eq_true c9
            clear c9
            by_cases c10 : 0 ≤ x5_1
            · rw [if_pos c10] at H
              have c10b0 : decide (0 ≤ x5_1) = true := decide_eq_true c10
              clear c10
              replace H := Option.bind_eq_some_iff.mp H
              obtain ⟨⟨t687, t688⟩, A110, H⟩ := H
              replace H : (if t687 > x3_1 then (r_Max.l0 k1 l0 t687 (wrap64 (x5_1 + 1))) else (r_Max.l0 k1 l0 x3_1 (wrap64 (x5_1 + 1)))) = some (r1, r2) := H
              have A11 := Aside0.mk A110
              clear A110
              by_cases c12 : t687 > x3_1
              · rw [if_pos c12] at H
                have c12b0 : decide (x3_1 < t687) = true := decide_eq_true c12
                clear c12
                have H' := Aside0.mk H
                clear H
                have p686 : 0 ≤ (x5_1 : Int) := of_decide_eq_true (by first | (with_reducible assumption) | assumption)
                have q686 : x5_1 < (l0.length : Int) := of_decide_eq_true (by first | (with_reducible assumption) | assumption)
                obtain ⟨ad686, e686, hx686_0, hx686_1⟩ := at_T23 HR0.out x5_1 p686 q686
                obtain rfl : ad683 = ad686 := (by injection e686)
                replace hx686_0 := (HB.out.cell (World.block_lt_of_cell? w _ hx686_0)).trans hx686_0
                replace hx686_1 := (HB.out.cell (World.block_lt_of_cell? w _ hx686_1)).trans hx686_1
                replace p686 := eq_true p686
                replace q686 := eq_true q686
                go_wp2_with (first | ((with_reducible refine zzq (f := 73) rfl ?_); refine goesL_ (some 30) rfl rfl Try.func73 (by kernel_rfl) rfl #[.agg #[.int .i64 ((rd_T23 l0 x5_1).f0), .bool ((rd_T23 l0 x5_1).f1)]] rfl (by (try simp only [List.map_toArray, List.map_cons, List.map_nil]); first | done | rfl | (simp only [List.length_drop, List.length_take]; rfl)) ?_; (with_reducible refine (r_whole.calls ((rd_T23 l0 x5_1).f0) ((rd_T23 l0 x5_1).f1) t687 t688 _ A11.out).mono ?_); rintro e w13 ⟨rfl, hb⟩; refine ⟨_, rfl, ?_⟩; have n0_ := Aside0.mk (zzj (g := gb682) (o := .cells #[.int .i64 0, .bool false] 23 (0, 0)) (by (with_reducible repeat first | apply zzc | apply zzd | apply zzb); exact BK682.out) hb); have n1_ := Aside0.mk (zzl (by repeat (first | (with_reducible first | exact HB.out | apply zzf | apply zza | apply zzg | refine zze ?_ GE682.out) | exact HB.out)) hb); clear BK682; clear HB; have BK682 := n0_; have HB := n1_; clear n0_ n1_; (try clear hi)))
                go_roundg k1
                case measure => have := HK1.out; omega
                case rel => exact ⟨(t687), (wrap64 (x5_1 + 1)), (by first | rfl | (simp; done) | (simp [*]; done)), (by first | rfl | (simp; done) | (simp [*]; done)), H', ⟨by have := HK1.out; omega⟩, ⟨by (with_reducible repeat first | apply zzc | apply zzd | apply zzb); exact BK682.out⟩, ⟨by repeat (first | (with_reducible first | exact HB.out | apply zzf | apply zza | apply zzg | refine zze ?_ GE682.out) | exact HB.out)⟩⟩
              · rw [if_neg c12] at H
                have c12b0 : decide (x3_1 < t687) = false := decide_eq_false c12
                clear c12
                have H' := Aside0.mk H
                clear H
                have p686 : 0 ≤ (x5_1 : Int) := of_decide_eq_true (by first | (with_reducible assumption) | assumption)
                have q686 : x5_1 < (l0.length : Int) := of_decide_eq_true (by first | (with_reducible assumption) | assumption)
                obtain ⟨ad686, e686, hx686_0, hx686_1⟩ := at_T23 HR0.out x5_1 p686 q686
                obtain rfl : ad683 = ad686 := (by injection e686)
                replace hx686_0 := (HB.out.cell (World.block_lt_of_cell? w _ hx686_0)).trans hx686_0
                replace hx686_1 := (HB.out.cell (World.block_lt_of_cell? w _ hx686_1)).trans hx686_1
                replace p686 := eq_true p686
                replace q686 := eq_true q686
                go_wp2_with (first | ((with_reducible refine zzq (f := 73) rfl ?_); refine goesL_ (some 30) rfl rfl Try.func73 (by kernel_rfl) rfl #[.agg #[.int .i64 ((rd_T23 l0 x5_1).f0), .bool ((rd_T23 l0 x5_1).f1)]] rfl (by (try simp only [List.map_toArray, List.map_cons, List.map_nil]); first | done | rfl | (simp only [List.length_drop, List.length_take]; rfl)) ?_; (with_reducible refine (r_whole.calls ((rd_T23 l0 x5_1).f0) ((rd_T23 l0 x5_1).f1) t687 t688 _ A11.out).mono ?_); rintro e w14 ⟨rfl, hb⟩; refine ⟨_, rfl, ?_⟩; have n0_ := Aside0.mk (zzj (g := gb682) (o := .cells #[.int .i64 0, .bool false] 23 (0, 0)) (by (with_reducible repeat first | apply zzc | apply zzd | apply zzb); exact BK682.out) hb); have n1_ := Aside0.mk (zzl (by repeat (first | (with_reducible first | exact HB.out | apply zzf | apply zza | apply zzg | refine zze ?_ GE682.out) | exact HB.out)) hb); clear BK682; clear HB; have BK682 := n0_; have HB := n1_; clear n0_ n1_; (try clear hi)))
                go_roundg k1
                case measure => have := HK1.out; omega
                case rel => exact ⟨(x3_1), (wrap64 (x5_1 + 1)), (by first | rfl | (simp; done) | (simp [*]; done)), (by first | rfl | (simp; done) | (simp [*]; done)), H', ⟨by have := HK1.out; omega⟩, ⟨by (with_reducible repeat first | apply zzc | apply zzd | apply zzb); exact BK682.out⟩, ⟨by repeat (first | (with_reducible first | exact HB.out | apply zzf | apply zza | apply zzg | refine zze ?_ GE682.out) | exact HB.out)⟩⟩
            · rw [if_neg c10] at H
              exact absurd H (by simp)
          · rw [if_neg c9] at H
            have c9b0 : decide (x5_1 < (l0.length : Int)) = false := decide_eq_false c9
            clear c9
            replace H := Option.bind_eq_some_iff.mp H
            obtain ⟨t689, A150, H⟩ := H
            replace H : (some (x3_1, t689)) = some (r1, r2) := H
            have A15 := Aside0.mk A150
            clear A150
            simp only [Option.some.injEq, Prod.mk.injEq] at H
            obtain ⟨rfl, rfl⟩ := H
            go_wp2_with (first | ((with_reducible refine zzq (f := 80) rfl ?_); refine goesL_ (some 39) rfl rfl Try.func80 (by kernel_rfl) rfl #[.slice (some ad683) l0.length c0] rfl (by (try simp only [List.map_toArray, List.map_cons, List.map_nil]); first | done | rfl | (simp only [List.length_drop, List.length_take]; rfl)) ?_; (with_reducible refine (r_flagged.calls k1 _ _ l0 t689 _ ?side1 ?side2 A15.out).mono ?_); (case side1 => repeat (first | exact (Kd.C_below HR0.out HB.out) | (with_reducible refine Kd.C_alloc ?_ _) | (with_reducible refine Kd.C_drewN ?_ _) | (with_reducible refine Kd.C_drew ?_))); (case side2 => exact HC0.out); rintro e w16 ⟨rfl, hb⟩; refine ⟨_, rfl, ?_⟩; have n0_ := Aside0.mk (zzj (g := gb682) (o := .cells #[.int .i64 0, .bool false] 23 (0, 0)) (by (with_reducible repeat first | apply zzc | apply zzd | apply zzb); exact BK682.out) hb); have n1_ := Aside0.mk (zzl (by repeat (first | (with_reducible first | exact HB.out | apply zzf | apply zza | apply zzg | refine zze ?_ GE682.out) | exact HB.out)) hb); clear BK682; clear HB; have BK682 := n0_; have HB := n1_; clear n0_ n1_; have hcz17_0 : w16.cell? ⟨gb682, 0, none⟩ = some (.int .i64 0) := (zzi BK682.out 0).trans rfl; have hcz17_1 : w16.cell? ⟨gb682, 1, none⟩ = some (.bool false) := (zzi BK682.out 1).trans rfl; have hfz17_0 := zzh BK682.out 0; have hfz17_1 := zzh BK682.out 1))
            refine bodyPost_ret (results_cell_row rfl _ _ gb682 23 #[.int .i64 x3_1, .bool t689] (0, 0) _ rfl (by (with_reducible repeat first | apply zzc | apply zzd | apply zzb); refine zzo (cs := #[.int .i64 x3_1, .bool false]) ?_ 1 _ rfl; (with_reducible repeat first | apply zzc | apply zzd | apply zzb); refine zzo (cs := #[.int .i64 0, .bool false]) ?_ 0 _ rfl; (with_reducible repeat first | apply zzc | apply zzd | apply zzb); exact BK682.out) Try.underlying23 rfl (by kernel_rfl)) rfl ?_
            exact ⟨by first | rfl | (simp [zzn, zzm] <;> rfl) | (simp [*, zzn, zzm] <;> rfl), by repeat (first | (with_reducible first | exact HB.out | apply zzf | apply zza | apply zzg | refine zze ?_ GE682.out) | exact HB.out)⟩
    · rw [if_neg c5] at H
      exact absurd H (by simp)
end Go.Proofs.Ytenpiaafkmfjfaa.B

end
section
namespace Go.Proofs.Ytenpiaafkmfjfaa.B
open Go.RowKit Go.Proofs.YtenpiaafkmfjfaaW.PrintWords Go.Proofs.YtenpiaafkmfjfaaW.PrintLast
set_option linter.unusedVariables false
set_option linter.unusedSimpArgs false
def r_Clamp.f (k : Nat) (a0_0 : Int) (a0_1 : Bool) (a1_0 : Int) (a1_1 : Bool) (a2_0 : Int) (a2_1 : Bool) : Option (Int × Bool) := (r_Min.f k (([(⟨a0_0, a0_1⟩ : S23), (⟨a2_0, a2_1⟩ : S23)] : List (S23)))).bind fun bt697 => ((r_Max.f k (([(⟨a1_0, a1_1⟩ : S23), (⟨bt697.1, bt697.2⟩ : S23)] : List (S23)))).bind fun bt702 => (some (bt702.1, bt702.2)))
def r_Clamp.T1 : Bool × List (List Nat × List Nat) := (true, [([], []), ([], []), ([], []), ([1, 2], [1, 2]), ([3], [3]), ([0, 4], [0, 4]), ([5, 4], [5]), ([6, 6, 0, 1, 2, 3, 4, 5, 6], [6])])
def r_Clamp.B1 : List Nat := [0, 0, 0, 6, 14, 31, 63, 127]
theorem r_Clamp.tab1 : rtab .any (opsOf Try.f36 1) = r_Clamp.T1 := by kernel_rfl
theorem r_Clamp.bits1 : waitsOk r_Clamp.T1.2 r_Clamp.B1 = true := by kernel_rfl
set_option maxHeartbeats 8000000 in
set_option maxRecDepth 100000 in
theorem r_Clamp.calls (k : Nat) (a0_0 : Int) (a0_1 : Bool) (a1_0 : Int) (a1_1 : Bool) (a2_0 : Int) (a2_1 : Bool) (r1 : Int) (r2 : Bool) (w : World) (h : r_Clamp.f k a0_0 a0_1 a1_0 a1_1 a2_0 a2_1 = some (r1, r2)) :
    Calls Try.prog 36 #[.agg #[.int .i64 a0_0, .bool a0_1], .agg #[.int .i64 a1_0, .bool a1_1], .agg #[.int .i64 a2_0, .bool a2_1]] w fun e w' => e = .returned (.agg #[.int .i64 r1, .bool r2]) ∧ Below w.heap.size w w' := by
  have hu23 := Try.underlying23
  have HB := Aside0.mk (Below.refl w.heap.size w)
  have H : ((r_Min.f k (([(⟨a0_0, a0_1⟩ : S23), (⟨a2_0, a2_1⟩ : S23)] : List (S23)))).bind fun bt697 => ((r_Max.f k (([(⟨a1_0, a1_1⟩ : S23), (⟨bt697.1, bt697.2⟩ : S23)] : List (S23)))).bind fun bt702 => (some (bt702.1, bt702.2)))) = some (r1, r2) := h
  clear h
  obtain ⟨y694, hy694⟩ : ∃ y_ : List (S23), y_ = (([(⟨a0_0, a0_1⟩ : S23), (⟨a2_0, a2_1⟩ : S23)] : List (S23))) := ⟨_, rfl⟩
  replace H : ((r_Min.f k y694).bind fun bt697 => ((r_Max.f k (([(⟨a1_0, a1_1⟩ : S23), (⟨bt697.1, bt697.2⟩ : S23)] : List (S23)))).bind fun bt702 => (some (bt702.1, bt702.2)))) = some (r1, r2) := by first | (rw [hy694]; with_reducible exact H) | (have H2_ := (Option.bind_some _ _).symm.trans H; rw [hy694]; with_reducible exact H2_) | (have H2_ := (Option.bind_some _ _).symm.trans H; with_reducible exact H2_) | with_reducible exact H | (rw [hy694]; exact H) | exact H
  have Ny694 := Aside0.mk hy694
  clear hy694
  replace H := Option.bind_eq_some_iff.mp H
  obtain ⟨⟨t697, t698⟩, A40, H⟩ := H
  replace H : ((r_Max.f k (([(⟨a1_0, a1_1⟩ : S23), (⟨t697, t698⟩ : S23)] : List (S23)))).bind fun bt702 => (some (bt702.1, bt702.2))) = some (r1, r2) := H
  have A4 := Aside0.mk A40
  clear A40
  obtain ⟨y699, hy699⟩ : ∃ y_ : List (S23), y_ = (([(⟨a1_0, a1_1⟩ : S23), (⟨t697, t698⟩ : S23)] : List (S23))) := ⟨_, rfl⟩
  replace H : ((r_Max.f k y699).bind fun bt702 => (some (bt702.1, bt702.2))) = some (r1, r2) := by first | (rw [hy699]; with_reducible exact H) | (have H2_ := (Option.bind_some _ _).symm.trans H; rw [hy699]; with_reducible exact H2_) | (have H2_ := (Option.bind_some _ _).symm.trans H; with_reducible exact H2_) | with_reducible exact H | (rw [hy699]; exact H) | exact H
  have Ny699 := Aside0.mk hy699
  clear hy699
  replace H := Option.bind_eq_some_iff.mp H
  obtain ⟨⟨t702, t703⟩, A50, H⟩ := H
  replace H : (some (t702, t703)) = some (r1, r2) := H
  have A5 := Aside0.mk A50
  clear A50
  simp only [Option.some.injEq, Prod.mk.injEq] at H
  obtain ⟨rfl, rfl⟩ := H
  go_enter Try.func36, Try.ntmps36
  try go_wp2_with (first | ((with_reducible refine zzt (N := 3) rfl ?_); refine zzp ?hg (N := 3) ?hd (cs := #[.int .i64 a0_0, .bool a0_1]) (t := 23) ?hr ?_; (case hd => rfl); (case hg => rfl); (case hr => first | (go_simp; done) | (go_simp; rfl)); intro gb690 hg w6 hbox hb; have n0_ := Aside0.mk (zzl (by repeat (first | (with_reducible first | exact HB.out | apply zzf | apply zza | apply zzg) | exact HB.out)) hb); have n1_ := Aside0.mk (hbox); have n3_ := Aside0.mk ((by rw [hg]; exact (zzk (by repeat (first | (with_reducible first | exact HB.out | apply zzf | apply zza | apply zzg) | exact HB.out))) : w.heap.size ≤ gb690)); clear HB; have HB := n0_; have BK690 := n1_; have GE690 := n3_; clear n0_ n1_ n3_; clear hb hbox hg) | ((with_reducible refine zzt (N := 4) rfl ?_); refine zzp ?hg (N := 4) ?hd (cs := #[.int .i64 a1_0, .bool a1_1]) (t := 23) ?hr ?_; (case hd => rfl); (case hg => rfl); (case hr => first | (go_simp; done) | (go_simp; rfl)); intro gb691 hg w7 hbox hb; have n0_ := Aside0.mk (zzj (g := gb690) (o := .cells #[.int .i64 a0_0, .bool a0_1] 23 (0, 0)) (by (with_reducible repeat first | apply zzc | apply zzd | apply zzb); exact BK690.out) hb); have n1_ := Aside0.mk (zzl (by repeat (first | (with_reducible first | exact HB.out | apply zzf | apply zza | apply zzg | refine zze ?_ GE690.out) | exact HB.out)) hb); have n2_ := Aside0.mk (hbox); have n4_ := Aside0.mk ((by rw [hg]; exact (zzk (by repeat (first | (with_reducible first | exact HB.out | apply zzf | apply zza | apply zzg | refine zze ?_ GE690.out) | exact HB.out))) : w.heap.size ≤ gb691)); clear BK690; clear HB; have BK690 := n0_; have HB := n1_; have BK691 := n2_; have GE691 := n4_; clear n0_ n1_ n2_ n4_; clear hb hbox hg) | ((with_reducible refine zzt (N := 5) rfl ?_); refine zzp ?hg (N := 5) ?hd (cs := #[.int .i64 a2_0, .bool a2_1]) (t := 23) ?hr ?_; (case hd => rfl); (case hg => rfl); (case hr => first | (go_simp; done) | (go_simp; rfl)); intro gb692 hg w8 hbox hb; have n0_ := Aside0.mk (zzj (g := gb690) (o := .cells #[.int .i64 a0_0, .bool a0_1] 23 (0, 0)) (by (with_reducible repeat first | apply zzc | apply zzd | apply zzb); exact BK690.out) hb); have n1_ := Aside0.mk (zzj (g := gb691) (o := .cells #[.int .i64 a1_0, .bool a1_1] 23 (0, 0)) (by (with_reducible repeat first | apply zzc | apply zzd | apply zzb); exact BK691.out) hb); have n2_ := Aside0.mk (zzl (by repeat (first | (with_reducible first | exact HB.out | apply zzf | apply zza | apply zzg | refine zze ?_ GE690.out | refine zze ?_ GE691.out) | exact HB.out)) hb); have n3_ := Aside0.mk (hbox); have n5_ := Aside0.mk ((by rw [hg]; exact (zzk (by repeat (first | (with_reducible first | exact HB.out | apply zzf | apply zza | apply zzg | refine zze ?_ GE690.out | refine zze ?_ GE691.out) | exact HB.out))) : w.heap.size ≤ gb692)); clear BK690; clear BK691; clear HB; have BK690 := n0_; have BK691 := n1_; have HB := n2_; have BK692 := n3_; have GE692 := n5_; clear n0_ n1_ n2_ n3_ n5_; clear hb hbox hg) | ((with_reducible refine zzt (N := 6) rfl ?_); refine zzp ?hg (N := 6) ?hd (cs := #[.int .i64 0, .bool false]) (t := 23) ?hr ?_; (case hd => rfl); (case hg => rfl); (case hr => first | (go_simp; done) | (go_simp; rfl)); intro gb693 hg w9 hbox hb; have n0_ := Aside0.mk (zzj (g := gb690) (o := .cells #[.int .i64 a0_0, .bool a0_1] 23 (0, 0)) (by (with_reducible repeat first | apply zzc | apply zzd | apply zzb); exact BK690.out) hb); have n1_ := Aside0.mk (zzj (g := gb691) (o := .cells #[.int .i64 a1_0, .bool a1_1] 23 (0, 0)) (by (with_reducible repeat first | apply zzc | apply zzd | apply zzb); exact BK691.out) hb); have n2_ := Aside0.mk (zzj (g := gb692) (o := .cells #[.int .i64 a2_0, .bool a2_1] 23 (0, 0)) (by (with_reducible repeat first | apply zzc | apply zzd | apply zzb); exact BK692.out) hb); have n3_ := Aside0.mk (zzl (by repeat (first | (with_reducible first | exact HB.out | apply zzf | apply zza | apply zzg | refine zze ?_ GE690.out | refine zze ?_ GE691.out | refine zze ?_ GE692.out) | exact HB.out)) hb); have n4_ := Aside0.mk (hbox); have n6_ := Aside0.mk ((by rw [hg]; exact (zzk (by repeat (first | (with_reducible first | exact HB.out | apply zzf | apply zza | apply zzg | refine zze ?_ GE690.out | refine zze ?_ GE691.out | refine zze ?_ GE692.out) | exact HB.out))) : w.heap.size ≤ gb693)); have n7_ := Aside0.mk ((by rw [hg]; exact Nat.ne_of_lt (zzr (g := gb690) (o := .cells #[.int .i64 a0_0, .bool a0_1] 23 (0, 0)) (by (with_reducible repeat first | apply zzc | apply zzd | apply zzb); exact BK690.out)) : gb690 ≠ gb693)); have n8_ := Aside0.mk ((by rw [hg]; exact Nat.ne_of_gt (zzr (g := gb690) (o := .cells #[.int .i64 a0_0, .bool a0_1] 23 (0, 0)) (by (with_reducible repeat first | apply zzc | apply zzd | apply zzb); exact BK690.out)) : gb693 ≠ gb690)); have n9_ := Aside0.mk ((by rw [hg]; exact Nat.ne_of_lt (zzr (g := gb691) (o := .cells #[.int .i64 a1_0, .bool a1_1] 23 (0, 0)) (by (with_reducible repeat first | apply zzc | apply zzd | apply zzb); exact BK691.out)) : gb691 ≠ gb693)); have n10_ := Aside0.mk ((by rw [hg]; exact Nat.ne_of_gt (zzr (g := gb691) (o := .cells #[.int .i64 a1_0, .bool a1_1] 23 (0, 0)) (by (with_reducible repeat first | apply zzc | apply zzd | apply zzb); exact BK691.out)) : gb693 ≠ gb691)); have n11_ := Aside0.mk ((by rw [hg]; exact Nat.ne_of_lt (zzr (g := gb692) (o := .cells #[.int .i64 a2_0, .bool a2_1] 23 (0, 0)) (by (with_reducible repeat first | apply zzc | apply zzd | apply zzb); exact BK692.out)) : gb692 ≠ gb693)); have n12_ := Aside0.mk ((by rw [hg]; exact Nat.ne_of_gt (zzr (g := gb692) (o := .cells #[.int .i64 a2_0, .bool a2_1] 23 (0, 0)) (by (with_reducible repeat first | apply zzc | apply zzd | apply zzb); exact BK692.out)) : gb693 ≠ gb692)); clear BK690; clear BK691; clear BK692; clear HB; have BK690 := n0_; have BK691 := n1_; have BK692 := n2_; have HB := n3_; have BK693 := n4_; have GE693 := n6_; have NB690_693 := n7_; have NB693_690 := n8_; have NB691_693 := n9_; have NB693_691 := n10_; have NB692_693 := n11_; have NB693_692 := n12_; clear n0_ n1_ n2_ n3_ n4_ n6_ n7_ n8_ n9_ n10_ n11_ n12_; clear hb hbox hg))
  have n0_ := Aside0.mk (zzd BK690.out)
  have n1_ := Aside0.mk (zzd BK691.out)
  have n2_ := Aside0.mk (zzd BK692.out)
  have n3_ := Aside0.mk (zzd BK693.out)
  have n4_ := Aside0.mk (zzg HB.out)
  clear BK690
  clear BK691
  clear BK692
  clear BK693
  clear HB
  have BK690 := n0_
  have BK691 := n1_
  have BK692 := n2_
  have BK693 := n3_
  have HB := n4_
  clear n0_ n1_ n2_ n3_ n4_
  refine start_ (n := 8) (S := fun w' => w'.cell? ⟨gb691, 0, none⟩ = some (.int .i64 a1_0) ∧ w'.cell? ⟨gb691, 1, none⟩ = some (.bool a1_1) ∧ w'.cell? ⟨gb690, 0, none⟩ = some (.int .i64 a0_0) ∧ w'.cell? ⟨gb690, 1, none⟩ = some (.bool a0_1) ∧ w'.cell? ⟨gb692, 0, none⟩ = some (.int .i64 a2_0) ∧ w'.cell? ⟨gb692, 1, none⟩ = some (.bool a2_1)) (ds := []) #[false, false, false, false, false, false, false, false] (by kernel_rfl) rfl rfl ⟨(zzi BK691.out 0).trans rfl, (zzi BK691.out 1).trans rfl, (zzi BK690.out 0).trans rfl, (zzi BK690.out 1).trans rfl, (zzi BK692.out 0).trans rfl, (zzi BK692.out 1).trans rfl⟩ (fun hHeld => ?_); refine with_tabW r_Clamp.tab1 r_Clamp.bits1 (fun HT_ HW_ => ?_)
  generalize w9.drew = w10 at BK690 BK691 BK692 BK693 HB hHeld ⊢
  refine take_ (i := 0) (N := some 7) (v := ?_) (a' := ?_) #[true, false, false, false, false, false, false, false] rfl rfl (take_ofW HT_.out HW_.out (by kernel_rfl)) (fun _ _ _ h => h) (Or.inl ⟨by rfl, ?_⟩) hHeld ?_ ?_
  rotate_left
  · rintro w' ⟨s0, s1, s2, s3, s4, s5⟩
    go_simp
    with_reducible rfl
  rotate_left
  · simp only [Act.put, List.setIfInBounds_toArray, List.set_cons_zero, List.set_cons_succ, i64_w, i32_w]
    rfl
  refine take_ (i := 1) (N := some 8) (v := ?_) (a' := ?_) #[true, true, false, false, false, false, false, false] rfl rfl (take_ofW HT_.out HW_.out (by kernel_rfl)) (fun _ _ _ h => h) (Or.inl ⟨by rfl, ?_⟩) hHeld ?_ ?_
  rotate_left
  · rintro w' ⟨s0, s1, s2, s3, s4, s5⟩
    go_simp
    with_reducible rfl
  rotate_left
  · simp only [Act.put, List.setIfInBounds_toArray, List.set_cons_zero, List.set_cons_succ, i64_w, i32_w]
    rfl
  refine take_ (i := 2) (N := some 9) (v := ?_) (a' := ?_) #[true, true, true, false, false, false, false, false] rfl rfl (take_ofW HT_.out HW_.out (by kernel_rfl)) (fun _ _ _ h => h) (Or.inl ⟨by rfl, ?_⟩) hHeld ?_ ?_
  rotate_left
  · rintro w' ⟨s0, s1, s2, s3, s4, s5⟩
    go_simp
    with_reducible rfl
  rotate_left
  · simp only [Act.put, List.setIfInBounds_toArray, List.set_cons_zero, List.set_cons_succ, i64_w, i32_w]
    rfl
  refine one_ (i := 3) (N := some 10) #[true, true, true, true, false, false, false, false] rfl rfl (one_of HT_.out (by kernel_rfl)) (by decide) (fun K hK => ?_)
  refine Kd.R_lit_step k23 _ 23 ?hg (N := 10) ?hd (xs := ([(⟨a0_0, a0_1⟩ : S23), (⟨a2_0, a2_1⟩ : S23)] : List (S23))) (inner := [.int .i64 a0_0, .bool a0_1, .int .i64 a2_0, .bool a2_1]) (ok := fun _ => True) (okp := fun _ => True) ?hr ?hp (fun _ hk => hk) trivial (Below.refl _ _) (Nat.le_refl _) (by simp) ?_; (case hd => rfl); (case hg => rfl); (case hr => first | (go_simp; done) | (go_simp; rfl)); (case hp => exact (Reps.c2 (show Kd.M k23 _ _ _ (⟨a0_0, a0_1⟩ : S23) [.int .i64 a0_0, .bool a0_1] from (k23_mkM _ _ _ (⟨a0_0, a0_1⟩ : S23) )) (Reps.c2 (show Kd.M k23 _ _ _ (⟨a2_0, a2_1⟩ : S23) [.int .i64 a2_0, .bool a2_1] from (k23_mkM _ _ _ (⟨a2_0, a2_1⟩ : S23) )) (Reps.none _ _))))
  intro v695 w11 ho12 hb hg_ hnew_
  clear hg_ hnew_
  (first | rw [← Ny694.out] at ho12 | (simp only [Int.reduceToNat] at ho12; rw [← Ny694.out] at ho12))
  have n0_ := Aside0.mk (Kd.R_lower (Kd.R_newB (Kd.R_newB (Kd.R_newB (Kd.R_newB ho12 (g := gb690) (o := .cells #[.int .i64 a0_0, .bool a0_1] 23 (0, 0)) (by (with_reducible repeat first | apply zzc | apply zzd | apply zzb); exact BK690.out)) (g := gb691) (o := .cells #[.int .i64 a1_0, .bool a1_1] 23 (0, 0)) (by (with_reducible repeat first | apply zzc | apply zzd | apply zzb); exact BK691.out)) (g := gb692) (o := .cells #[.int .i64 a2_0, .bool a2_1] 23 (0, 0)) (by (with_reducible repeat first | apply zzc | apply zzd | apply zzb); exact BK692.out)) (g := gb693) (o := .cells #[.int .i64 0, .bool false] 23 (0, 0)) (by (with_reducible repeat first | apply zzc | apply zzd | apply zzb); exact BK693.out)) (zzk (by repeat (first | (with_reducible first | exact HB.out | apply zzf | apply zza | apply zzg | refine zze ?_ GE690.out | refine zze ?_ GE691.out | refine zze ?_ GE692.out | refine zze ?_ GE693.out) | exact HB.out))))
  have n1_ := Aside0.mk (zzj (g := gb690) (o := .cells #[.int .i64 a0_0, .bool a0_1] 23 (0, 0)) (by (with_reducible repeat first | apply zzc | apply zzd | apply zzb); exact BK690.out) hb)
  have n2_ := Aside0.mk (zzj (g := gb691) (o := .cells #[.int .i64 a1_0, .bool a1_1] 23 (0, 0)) (by (with_reducible repeat first | apply zzc | apply zzd | apply zzb); exact BK691.out) hb)
  have n3_ := Aside0.mk (zzj (g := gb692) (o := .cells #[.int .i64 a2_0, .bool a2_1] 23 (0, 0)) (by (with_reducible repeat first | apply zzc | apply zzd | apply zzb); exact BK692.out) hb)
  have n4_ := Aside0.mk (zzj (g := gb693) (o := .cells #[.int .i64 0, .bool false] 23 (0, 0)) (by (with_reducible repeat first | apply zzc | apply zzd | apply zzb); exact BK693.out) hb)
  have n5_ := Aside0.mk (zzl (by repeat (first | (with_reducible first | exact HB.out | apply zzf | apply zza | apply zzg | refine zze ?_ GE690.out | refine zze ?_ GE691.out | refine zze ?_ GE692.out | refine zze ?_ GE693.out) | exact HB.out)) hb)
  clear BK690
  clear BK691
  clear BK692
  clear BK693
  clear HB
  have HO696 := n0_
  have BK690 := n1_
  have BK691 := n2_
  have BK692 := n3_
  have BK693 := n4_
  have HB := n5_
  clear n0_ n1_ n2_ n3_ n4_ n5_
  clear hb ho12
  obtain ⟨Ao13, co13, eo13⟩ := Kd.R_slice HO696.out
  (first | subst eo13 | (injection eo13 with f1_ f2_ f3_; have f4_ := f1_.symm; have f5_ := f3_.symm; clear f1_ f2_ f3_; subst f4_; subst f5_))
  refine hK.out _ _ ⟨(zzi BK691.out 0).trans rfl, (zzi BK691.out 1).trans rfl, (zzi BK690.out 0).trans rfl, (zzi BK690.out 1).trans rfl, (zzi BK692.out 0).trans rfl, (zzi BK692.out 1).trans rfl⟩ (fun hHeld => ?_)
  clear hK K
  refine norm_ (a' := ?_) ?_ ?_
  rotate_left
  · show Act.put _ (some 10) _ = _
    simp only [Act.put, List.setIfInBounds_toArray, List.set_cons_zero, List.set_cons_succ, i64_w, i32_w]
    rfl
  refine one_ (i := 4) (N := some 11) #[true, true, true, true, true, false, false, false] rfl rfl (one_of HT_.out (by kernel_rfl)) (by decide) (fun K hK => ?_)
  refine goes_ Try.func29 (by kernel_rfl) rfl #[.slice Ao13 y694.length co13] (by rfl) rfl rfl (by (try simp only [List.map_toArray, List.map_cons, List.map_nil]); first | done | rfl | (simp only [List.length_drop, List.length_take]; rfl)) ?_
  with_reducible refine (r_Min.calls k _ _ y694 t697 t698 _ ?side1 ?side2 A4.out).mono ?_
  (case side1 => repeat (first | exact (Kd.R_reads' HO696.out).2.2 | (with_reducible refine Kd.C_alloc ?_ _) | (with_reducible refine Kd.C_drewN ?_ _) | (with_reducible refine Kd.C_drew ?_)))
  (case side2 => exact (Kd.R_reads' HO696.out).2.1)
  rintro e w14 ⟨rfl, hb⟩
  refine ⟨_, rfl, ?_⟩
  have n0_ := Aside0.mk (Kd.R_below (by (with_reducible repeat (first | apply Kd.R_alloc | apply Kd.R_drewN | apply Kd.R_drew)); exact HO696.out) hb)
  have n1_ := Aside0.mk (zzj (g := gb690) (o := .cells #[.int .i64 a0_0, .bool a0_1] 23 (0, 0)) (by (with_reducible repeat first | apply zzc | apply zzd | apply zzb); exact BK690.out) hb)
  have n2_ := Aside0.mk (zzj (g := gb691) (o := .cells #[.int .i64 a1_0, .bool a1_1] 23 (0, 0)) (by (with_reducible repeat first | apply zzc | apply zzd | apply zzb); exact BK691.out) hb)
  have n3_ := Aside0.mk (zzj (g := gb692) (o := .cells #[.int .i64 a2_0, .bool a2_1] 23 (0, 0)) (by (with_reducible repeat first | apply zzc | apply zzd | apply zzb); exact BK692.out) hb)
  have n4_ := Aside0.mk (zzj (g := gb693) (o := .cells #[.int .i64 0, .bool false] 23 (0, 0)) (by (with_reducible repeat first | apply zzc | apply zzd | apply zzb); exact BK693.out) hb)
  have n5_ := Aside0.mk (zzl (by repeat (first | (with_reducible first | exact HB.out | apply zzf | apply zza | apply zzg | refine zze ?_ GE690.out | refine zze ?_ GE691.out | refine zze ?_ GE692.out | refine zze ?_ GE693.out) | exact HB.out)) hb)
  clear HO696
  clear BK690
  clear BK691
  clear BK692
  clear BK693
  clear HB
  have HO696 := n0_
  have BK690 := n1_
  have BK691 := n2_
  have BK692 := n3_
  have BK693 := n4_
  have HB := n5_
  clear n0_ n1_ n2_ n3_ n4_ n5_
  (try clear hb)
  (try clear hb2)
  (try clear hk)
  (try clear hi)
  refine hK.out _ _ ⟨(zzi BK691.out 0).trans rfl, (zzi BK691.out 1).trans rfl, (zzi BK690.out 0).trans rfl, (zzi BK690.out 1).trans rfl, (zzi BK692.out 0).trans rfl, (zzi BK692.out 1).trans rfl⟩ (fun hHeld => ?_)
  clear hK K
  refine norm_ (a' := ?_) ?_ ?_
  rotate_left
  · show Act.put _ (some 11) _ = _
    simp only [Act.put, List.setIfInBounds_toArray, List.set_cons_zero, List.set_cons_succ, i64_w, i32_w]
    rfl
  refine one_ (i := 5) (N := some 12) #[true, true, true, true, true, true, false, false] rfl rfl (one_of HT_.out (by kernel_rfl)) (by decide) (fun K hK => ?_)
  refine Kd.R_lit_step k23 _ 23 ?hg (N := 12) ?hd (xs := ([(⟨a1_0, a1_1⟩ : S23), (⟨t697, t698⟩ : S23)] : List (S23))) (inner := [.int .i64 a1_0, .bool a1_1, .int .i64 t697, .bool t698]) (ok := fun _ => True) (okp := fun _ => True) ?hr ?hp (fun _ hk => hk) trivial (Below.refl _ _) (Nat.le_refl _) (by simp) ?_; (case hd => rfl); (case hg => rfl); (case hr => first | (go_simp; done) | (go_simp; rfl)); (case hp => exact (Reps.c2 (show Kd.M k23 _ _ _ (⟨a1_0, a1_1⟩ : S23) [.int .i64 a1_0, .bool a1_1] from (k23_mkM _ _ _ (⟨a1_0, a1_1⟩ : S23) )) (Reps.c2 (show Kd.M k23 _ _ _ (⟨t697, t698⟩ : S23) [.int .i64 t697, .bool t698] from (k23_mkM _ _ _ (⟨t697, t698⟩ : S23) )) (Reps.none _ _))))
  intro v700 w15 ho16 hb hg_ hnew_
  clear hg_ hnew_
  (first | rw [← Ny699.out] at ho16 | (simp only [Int.reduceToNat] at ho16; rw [← Ny699.out] at ho16))
  have n1_ := Aside0.mk (Kd.R_lower (Kd.R_newB (Kd.R_newB (Kd.R_newB (Kd.R_newB (Kd.R_new' ho16 (Kd.R_lt (by (with_reducible repeat (first | apply Kd.R_alloc | apply Kd.R_drewN | apply Kd.R_drew)); exact HO696.out))) (g := gb690) (o := .cells #[.int .i64 a0_0, .bool a0_1] 23 (0, 0)) (by (with_reducible repeat first | apply zzc | apply zzd | apply zzb); exact BK690.out)) (g := gb691) (o := .cells #[.int .i64 a1_0, .bool a1_1] 23 (0, 0)) (by (with_reducible repeat first | apply zzc | apply zzd | apply zzb); exact BK691.out)) (g := gb692) (o := .cells #[.int .i64 a2_0, .bool a2_1] 23 (0, 0)) (by (with_reducible repeat first | apply zzc | apply zzd | apply zzb); exact BK692.out)) (g := gb693) (o := .cells #[.int .i64 0, .bool false] 23 (0, 0)) (by (with_reducible repeat first | apply zzc | apply zzd | apply zzb); exact BK693.out)) (zzk (by repeat (first | (with_reducible first | exact HB.out | apply zzf | apply zza | apply zzg | refine zze ?_ GE690.out | refine zze ?_ GE691.out | refine zze ?_ GE692.out | refine zze ?_ GE693.out) | exact HB.out))))
  have n2_ := Aside0.mk (zzj (g := gb690) (o := .cells #[.int .i64 a0_0, .bool a0_1] 23 (0, 0)) (by (with_reducible repeat first | apply zzc | apply zzd | apply zzb); exact BK690.out) hb)
  have n3_ := Aside0.mk (zzj (g := gb691) (o := .cells #[.int .i64 a1_0, .bool a1_1] 23 (0, 0)) (by (with_reducible repeat first | apply zzc | apply zzd | apply zzb); exact BK691.out) hb)
  have n4_ := Aside0.mk (zzj (g := gb692) (o := .cells #[.int .i64 a2_0, .bool a2_1] 23 (0, 0)) (by (with_reducible repeat first | apply zzc | apply zzd | apply zzb); exact BK692.out) hb)
  have n5_ := Aside0.mk (zzj (g := gb693) (o := .cells #[.int .i64 0, .bool false] 23 (0, 0)) (by (with_reducible repeat first | apply zzc | apply zzd | apply zzb); exact BK693.out) hb)
  have n6_ := Aside0.mk (zzl (by repeat (first | (with_reducible first | exact HB.out | apply zzf | apply zza | apply zzg | refine zze ?_ GE690.out | refine zze ?_ GE691.out | refine zze ?_ GE692.out | refine zze ?_ GE693.out) | exact HB.out)) hb)
  clear BK690
  clear BK691
  clear BK692
  clear BK693
  clear HB
  have HO701 := n1_
  have BK690 := n2_
  have BK691 := n3_
  have BK692 := n4_
  have BK693 := n5_
  have HB := n6_
  clear n1_ n2_ n3_ n4_ n5_ n6_
  clear hb ho16
  obtain ⟨Ao17, co17, eo17⟩ := Kd.R_slice HO701.out
  (first | subst eo17 | (injection eo17 with f1_ f2_ f3_; have f4_ := f1_.symm; have f5_ := f3_.symm; clear f1_ f2_ f3_; subst f4_; subst f5_))
  refine hK.out _ _ ⟨(zzi BK691.out 0).trans rfl, (zzi BK691.out 1).trans rfl, (zzi BK690.out 0).trans rfl, (zzi BK690.out 1).trans rfl, (zzi BK692.out 0).trans rfl, (zzi BK692.out 1).trans rfl⟩ (fun hHeld => ?_)
  clear hK K
  refine norm_ (a' := ?_) ?_ ?_
  rotate_left
  · show Act.put _ (some 12) _ = _
    simp only [Act.put, List.setIfInBounds_toArray, List.set_cons_zero, List.set_cons_succ, i64_w, i32_w]
    rfl
  refine one_ (i := 6) (N := some 13) #[true, true, true, true, true, true, true, false] rfl rfl (one_of HT_.out (by kernel_rfl)) (by decide) (fun K hK => ?_)
  refine goes_ Try.func31 (by kernel_rfl) rfl #[.slice Ao17 y699.length co17] (by rfl) rfl rfl (by (try simp only [List.map_toArray, List.map_cons, List.map_nil]); first | done | rfl | (simp only [List.length_drop, List.length_take]; rfl)) ?_
  with_reducible refine (r_Max.calls k _ _ y699 t702 t703 _ ?side1 ?side2 A5.out).mono ?_
  (case side1 => repeat (first | exact (Kd.R_reads' HO701.out).2.2 | (with_reducible refine Kd.C_alloc ?_ _) | (with_reducible refine Kd.C_drewN ?_ _) | (with_reducible refine Kd.C_drew ?_)))
  (case side2 => exact (Kd.R_reads' HO701.out).2.1)
  rintro e w18 ⟨rfl, hb⟩
  refine ⟨_, rfl, ?_⟩
  have n2_ := Aside0.mk (zzj (g := gb690) (o := .cells #[.int .i64 a0_0, .bool a0_1] 23 (0, 0)) (by (with_reducible repeat first | apply zzc | apply zzd | apply zzb); exact BK690.out) hb)
  have n3_ := Aside0.mk (zzj (g := gb691) (o := .cells #[.int .i64 a1_0, .bool a1_1] 23 (0, 0)) (by (with_reducible repeat first | apply zzc | apply zzd | apply zzb); exact BK691.out) hb)
  have n4_ := Aside0.mk (zzj (g := gb692) (o := .cells #[.int .i64 a2_0, .bool a2_1] 23 (0, 0)) (by (with_reducible repeat first | apply zzc | apply zzd | apply zzb); exact BK692.out) hb)
  have n5_ := Aside0.mk (zzj (g := gb693) (o := .cells #[.int .i64 0, .bool false] 23 (0, 0)) (by (with_reducible repeat first | apply zzc | apply zzd | apply zzb); exact BK693.out) hb)
  have n6_ := Aside0.mk (zzl (by repeat (first | (with_reducible first | exact HB.out | apply zzf | apply zza | apply zzg | refine zze ?_ GE690.out | refine zze ?_ GE691.out | refine zze ?_ GE692.out | refine zze ?_ GE693.out) | exact HB.out)) hb)
  clear BK690
  clear BK691
  clear BK692
  clear BK693
  clear HB
  have BK690 := n2_
  have BK691 := n3_
  have BK692 := n4_
  have BK693 := n5_
  have HB := n6_
  clear n2_ n3_ n4_ n5_ n6_
  (try clear hb)
  (try clear hb2)
  (try clear hk)
  (try clear hi)
  refine hK.out _ _ ⟨(zzi BK691.out 0).trans rfl, (zzi BK691.out 1).trans rfl, (zzi BK690.out 0).trans rfl, (zzi BK690.out 1).trans rfl, (zzi BK692.out 0).trans rfl, (zzi BK692.out 1).trans rfl⟩ (fun hHeld => ?_)
  clear hK K
  refine norm_ (a' := ?_) ?_ ?_
  rotate_left
  · show Act.put _ (some 13) _ = _
    simp only [Act.put, List.setIfInBounds_toArray, List.set_cons_zero, List.set_cons_succ, i64_w, i32_w]
    rfl
  refine one_ (i := 7) (N := none) #[true, true, true, true, true, true, true, true] rfl rfl (one_of HT_.out (by kernel_rfl)) (by decide) (fun K hK => ?_)
  have hs19 : w18.cell? ⟨gb693, 0, none⟩ = some (.int .i64 0) := (zzi BK693.out 0).trans rfl
  have hfs19 := zzh BK693.out 0
  have hns19_0 := NB690_693.out
  have hns19_1 := NB691_693.out
  have hns19_2 := NB692_693.out
  have hms19_0 := NB693_690.out
  have hms19_1 := NB693_691.out
  have hms19_2 := NB693_692.out
  have hs20 : w18.cell? ⟨gb693, 1, none⟩ = some (.bool false) := (zzi BK693.out 1).trans rfl
  have hfs20 := zzh BK693.out 1
  have hns20_0 := NB690_693.out
  have hns20_1 := NB691_693.out
  have hns20_2 := NB692_693.out
  have hms20_0 := NB693_690.out
  have hms20_1 := NB693_691.out
  have hms20_2 := NB693_692.out
  refine skip_ (w1 := ?_) (by rfl) rfl ?_ ?_
  rotate_left
  · go_simp
    rfl
  refine hK.out _ _ ⟨((cell_far (p := ⟨gb693, _, none⟩) NB691_693.out _).trans (((cell_far (p := ⟨gb693, _, none⟩) NB691_693.out _).trans (hHeld.1)))), ((cell_far (p := ⟨gb693, _, none⟩) NB691_693.out _).trans (((cell_far (p := ⟨gb693, _, none⟩) NB691_693.out _).trans (hHeld.2.1)))), ((cell_far (p := ⟨gb693, _, none⟩) NB690_693.out _).trans (((cell_far (p := ⟨gb693, _, none⟩) NB690_693.out _).trans (hHeld.2.2.1)))), ((cell_far (p := ⟨gb693, _, none⟩) NB690_693.out _).trans (((cell_far (p := ⟨gb693, _, none⟩) NB690_693.out _).trans (hHeld.2.2.2.1)))), ((cell_far (p := ⟨gb693, _, none⟩) NB692_693.out _).trans (((cell_far (p := ⟨gb693, _, none⟩) NB692_693.out _).trans (hHeld.2.2.2.2.1)))), ((cell_far (p := ⟨gb693, _, none⟩) NB692_693.out _).trans (((cell_far (p := ⟨gb693, _, none⟩) NB692_693.out _).trans (hHeld.2.2.2.2.2))))⟩ (fun hHeld => ?_)
  clear hK K
  refine done_ (done_of HT_.out (by kernel_rfl)) ?_
  try go_wp2
  refine bodyPost_ret (results_cell_row rfl _ _ gb693 23 #[.int .i64 t702, .bool t703] (0, 0) _ rfl (by (with_reducible repeat first | apply zzc | apply zzd | apply zzb); refine zzo (cs := #[.int .i64 t702, .bool false]) ?_ 1 _ rfl; (with_reducible repeat first | apply zzc | apply zzd | apply zzb); refine zzo (cs := #[.int .i64 0, .bool false]) ?_ 0 _ rfl; (with_reducible repeat first | apply zzc | apply zzd | apply zzb); exact BK693.out) Try.underlying23 rfl (by kernel_rfl)) rfl ?_
  exact ⟨by first | rfl | (simp [zzn, zzm] <;> rfl) | (simp [*, zzn, zzm] <;> rfl), by repeat (first | (with_reducible first | exact HB.out | apply zzf | apply zza | apply zzg | refine zze ?_ GE690.out | refine zze ?_ GE691.out | refine zze ?_ GE692.out | refine zze ?_ GE693.out) | exact HB.out)⟩
def r_Wrap.f (a0_0 : Int) (a0_1 : Bool) : Option (Int × Bool) := (r_whole.f a0_0 a0_1).bind fun bt706 => (if (Int.tmod bt706.1 26986075409) > 13493037704 then (if (wrap64 ((Int.tmod bt706.1 26986075409) - 26986075409)) < (-13493037704) then (some (wrap64 ((wrap64 ((Int.tmod bt706.1 26986075409) - 26986075409)) + 26986075409), bt706.2)) else (some (wrap64 ((Int.tmod bt706.1 26986075409) - 26986075409), bt706.2))) else (if (Int.tmod bt706.1 26986075409) < (-13493037704) then (some (wrap64 ((Int.tmod bt706.1 26986075409) + 26986075409), bt706.2)) else (some (Int.tmod bt706.1 26986075409, bt706.2))))
set_option maxHeartbeats 8000000 in
set_option maxRecDepth 100000 in
theorem r_Wrap.calls (a0_0 : Int) (a0_1 : Bool) (r1 : Int) (r2 : Bool) (w : World) (h : r_Wrap.f a0_0 a0_1 = some (r1, r2)) :
    Calls Try.prog 69 #[.agg #[.int .i64 a0_0, .bool a0_1]] w fun e w' => e = .returned (.agg #[.int .i64 r1, .bool r2]) ∧ Below w.heap.size w w' := by
  have hu23 := Try.underlying23
  have HB := Aside0.mk (Below.refl w.heap.size w)
  have H : ((r_whole.f a0_0 a0_1).bind fun bt706 => (if (Int.tmod bt706.1 26986075409) > 13493037704 then (if (wrap64 ((Int.tmod bt706.1 26986075409) - 26986075409)) < (-13493037704) then (some (wrap64 ((wrap64 ((Int.tmod bt706.1 26986075409) - 26986075409)) + 26986075409), bt706.2)) else (some (wrap64 ((Int.tmod bt706.1 26986075409) - 26986075409), bt706.2))) else (if (Int.tmod bt706.1 26986075409) < (-13493037704) then (some (wrap64 ((Int.tmod bt706.1 26986075409) + 26986075409), bt706.2)) else (some (Int.tmod bt706.1 26986075409, bt706.2))))) = some (r1, r2) := h
  clear h
  replace H := Option.bind_eq_some_iff.mp H
  obtain ⟨⟨t706, t707⟩, A20, H⟩ := H
  replace H : (if (Int.tmod t706 26986075409) > 13493037704 then (if (wrap64 ((Int.tmod t706 26986075409) - 26986075409)) < (-13493037704) then (some (wrap64 ((wrap64 ((Int.tmod t706 26986075409) - 26986075409)) + 26986075409), t707)) else (some (wrap64 ((Int.tmod t706 26986075409) - 26986075409), t707))) else (if (Int.tmod t706 26986075409) < (-13493037704) then (some (wrap64 ((Int.tmod t706 26986075409) + 26986075409), t707)) else (some (Int.tmod t706 26986075409, t707)))) = some (r1, r2) := H
  have A2 := Aside0.mk A20
  clear A20
  by_cases c3 : (Int.tmod t706 26986075409) > 13493037704
  · rw [if_pos c3] at H
    have c3b0 : decide (13493037704 < (Int.tmod t706 26986075409)) = true := decide_eq_true c3
    clear c3
    by_cases c4 : (wrap64 ((Int.tmod t706 26986075409) - 26986075409)) < (-13493037704)
    · rw [if_pos c4] at H
      have c4b0 : decide ((wrap64 ((Int.tmod t706 26986075409) - 26986075409)) < (-13493037704)) = true := decide_eq_true c4
      clear c4
      simp only [Option.some.injEq, Prod.mk.injEq] at H
      obtain ⟨rfl, rfl⟩ := H
      go_enter Try.func69, Try.ntmps69
      go_wp2_with (first | ((with_reducible refine zzt (N := 1) rfl ?_); refine zzp ?hg (N := 1) ?hd (cs := #[.int .i64 a0_0, .bool a0_1]) (t := 23) ?hr ?_; (case hd => rfl); (case hg => rfl); (case hr => first | (go_simp; done) | (go_simp; rfl)); intro gb704 hg w5 hbox hb; have n0_ := Aside0.mk (zzl (by repeat (first | (with_reducible first | exact HB.out | apply zzf | apply zza | apply zzg) | exact HB.out)) hb); have n1_ := Aside0.mk (hbox); have n3_ := Aside0.mk ((by rw [hg]; exact (zzk (by repeat (first | (with_reducible first | exact HB.out | apply zzf | apply zza | apply zzg) | exact HB.out))) : w.heap.size ≤ gb704)); clear HB; have HB := n0_; have BK704 := n1_; have GE704 := n3_; clear n0_ n1_ n3_; clear hb hbox hg) | ((with_reducible refine zzt (N := 2) rfl ?_); refine zzp ?hg (N := 2) ?hd (cs := #[.int .i64 0, .bool false]) (t := 23) ?hr ?_; (case hd => rfl); (case hg => rfl); (case hr => first | (go_simp; done) | (go_simp; rfl)); intro gb705 hg w6 hbox hb; have n0_ := Aside0.mk (zzj (g := gb704) (o := .cells #[.int .i64 a0_0, .bool a0_1] 23 (0, 0)) (by (with_reducible repeat first | apply zzc | apply zzd | apply zzb); exact BK704.out) hb); have n1_ := Aside0.mk (zzl (by repeat (first | (with_reducible first | exact HB.out | apply zzf | apply zza | apply zzg | refine zze ?_ GE704.out) | exact HB.out)) hb); have n2_ := Aside0.mk (hbox); have n4_ := Aside0.mk ((by rw [hg]; exact (zzk (by repeat (first | (with_reducible first | exact HB.out | apply zzf | apply zza | apply zzg | refine zze ?_ GE704.out) | exact HB.out))) : w.heap.size ≤ gb705)); have n5_ := Aside0.mk ((by rw [hg]; exact Nat.ne_of_lt (zzr (g := gb704) (o := .cells #[.int .i64 a0_0, .bool a0_1] 23 (0, 0)) (by (with_reducible repeat first | apply zzc | apply zzd | apply zzb); exact BK704.out)) : gb704 ≠ gb705)); have n6_ := Aside0.mk ((by rw [hg]; exact Nat.ne_of_gt (zzr (g := gb704) (o := .cells #[.int .i64 a0_0, .bool a0_1] 23 (0, 0)) (by (with_reducible repeat first | apply zzc | apply zzd | apply zzb); exact BK704.out)) : gb705 ≠ gb704)); clear BK704; clear HB; have BK704 := n0_; have HB := n1_; have BK705 := n2_; have GE705 := n4_; have NB704_705 := n5_; have NB705_704 := n6_; clear n0_ n1_ n2_ n4_ n5_ n6_; clear hb hbox hg; have hnb7 := NB704_705.out; have hnc7 := NB705_704.out; have hcz8_0 : w6.cell? ⟨gb704, 0, none⟩ = some (.int .i64 a0_0) := (zzi BK704.out 0).trans rfl; have hcz8_1 : w6.cell? ⟨gb704, 1, none⟩ = some (.bool a0_1) := (zzi BK704.out 1).trans rfl; have hfz8_0 := zzh BK704.out 0; have hfz8_1 := zzh BK704.out 1) | ((with_reducible refine zzq (f := 73) rfl ?_); refine goesL_ (some 8) rfl rfl Try.func73 (by kernel_rfl) rfl #[.agg #[.int .i64 a0_0, .bool a0_1]] rfl (by (try simp only [List.map_toArray, List.map_cons, List.map_nil]); first | done | rfl | (simp only [List.length_drop, List.length_take]; rfl)) ?_; (with_reducible refine (r_whole.calls a0_0 a0_1 t706 t707 _ A2.out).mono ?_); rintro e w9 ⟨rfl, hb⟩; refine ⟨_, rfl, ?_⟩; have n0_ := Aside0.mk (zzj (g := gb704) (o := .cells #[.int .i64 a0_0, .bool a0_1] 23 (0, 0)) (by (with_reducible repeat first | apply zzc | apply zzd | apply zzb); exact BK704.out) hb); have n1_ := Aside0.mk (zzj (g := gb705) (o := .cells #[.int .i64 0, .bool false] 23 (0, 0)) (by (with_reducible repeat first | apply zzc | apply zzd | apply zzb); exact BK705.out) hb); have n2_ := Aside0.mk (zzl (by repeat (first | (with_reducible first | exact HB.out | apply zzf | apply zza | apply zzg | refine zze ?_ GE704.out | refine zze ?_ GE705.out) | exact HB.out)) hb); clear BK704; clear BK705; clear HB; have BK704 := n0_; have BK705 := n1_; have HB := n2_; clear n0_ n1_ n2_; have hcz10_0 : w9.cell? ⟨gb705, 0, none⟩ = some (.int .i64 0) := (zzi BK705.out 0).trans rfl; have hcz10_1 : w9.cell? ⟨gb705, 1, none⟩ = some (.bool false) := (zzi BK705.out 1).trans rfl; have hfz10_0 := zzh BK705.out 0; have hfz10_1 := zzh BK705.out 1))
      refine bodyPost_ret (results_cell_row rfl _ _ gb705 23 #[.int .i64 (wrap64 ((wrap64 ((Int.tmod t706 26986075409) - 26986075409)) + 26986075409)), .bool t707] (0, 0) _ rfl (by (with_reducible repeat first | apply zzc | apply zzd | apply zzb); refine zzo (cs := #[.int .i64 (wrap64 ((wrap64 ((Int.tmod t706 26986075409) - 26986075409)) + 26986075409)), .bool false]) ?_ 1 _ rfl; (with_reducible repeat first | apply zzc | apply zzd | apply zzb); refine zzo (cs := #[.int .i64 0, .bool false]) ?_ 0 _ rfl; (with_reducible repeat first | apply zzc | apply zzd | apply zzb); exact BK705.out) Try.underlying23 rfl (by kernel_rfl)) rfl ?_
      exact ⟨by first | rfl | (simp [zzn, zzm] <;> rfl) | (simp [*, zzn, zzm] <;> rfl), by repeat (first | (with_reducible first | exact HB.out | apply zzf | apply zza | apply zzg | refine zze ?_ GE704.out | refine zze ?_ GE705.out) | exact HB.out)⟩
    · rw [if_neg c4] at H
      have c4b0 : decide ((wrap64 ((Int.tmod t706 26986075409) - 26986075409)) < (-13493037704)) = false := decide_eq_false c4
      clear c4
      simp only [Option.some.injEq, Prod.mk.injEq] at H
      obtain ⟨rfl, rfl⟩ := H
      go_enter Try.func69, Try.ntmps69
      go_wp2_with (first | ((with_reducible refine zzt (N := 1) rfl ?_); refine zzp ?hg (N := 1) ?hd (cs := #[.int .i64 a0_0, .bool a0_1]) (t := 23) ?hr ?_; (case hd => rfl); (case hg => rfl); (case hr => first | (go_simp; done) | (go_simp; rfl)); intro gb704 hg w11 hbox hb; have n0_ := Aside0.mk (zzl (by repeat (first | (with_reducible first | exact HB.out | apply zzf | apply zza | apply zzg) | exact HB.out)) hb); have n1_ := Aside0.mk (hbox); have n3_ := Aside0.mk ((by rw [hg]; exact (zzk (by repeat (first | (with_reducible first | exact HB.out | apply zzf | apply zza | apply zzg) | exact HB.out))) : w.heap.size ≤ gb704)); clear HB; have HB := n0_; have BK704 := n1_; have GE704 := n3_; clear n0_ n1_ n3_; clear hb hbox hg) | ((with_reducible refine zzt (N := 2) rfl ?_); refine zzp ?hg (N := 2) ?hd (cs := #[.int .i64 0, .bool false]) (t := 23) ?hr ?_; (case hd => rfl); (case hg => rfl); (case hr => first | (go_simp; done) | (go_simp; rfl)); intro gb705 hg w12 hbox hb; have n0_ := Aside0.mk (zzj (g := gb704) (o := .cells #[.int .i64 a0_0, .bool a0_1] 23 (0, 0)) (by (with_reducible repeat first | apply zzc | apply zzd | apply zzb); exact BK704.out) hb); have n1_ := Aside0.mk (zzl (by repeat (first | (with_reducible first | exact HB.out | apply zzf | apply zza | apply zzg | refine zze ?_ GE704.out) | exact HB.out)) hb); have n2_ := Aside0.mk (hbox); have n4_ := Aside0.mk ((by rw [hg]; exact (zzk (by repeat (first | (with_reducible first | exact HB.out | apply zzf | apply zza | apply zzg | refine zze ?_ GE704.out) | exact HB.out))) : w.heap.size ≤ gb705)); have n5_ := Aside0.mk ((by rw [hg]; exact Nat.ne_of_lt (zzr (g := gb704) (o := .cells #[.int .i64 a0_0, .bool a0_1] 23 (0, 0)) (by (with_reducible repeat first | apply zzc | apply zzd | apply zzb); exact BK704.out)) : gb704 ≠ gb705)); have n6_ := Aside0.mk ((by rw [hg]; exact Nat.ne_of_gt (zzr (g := gb704) (o := .cells #[.int .i64 a0_0, .bool a0_1] 23 (0, 0)) (by (with_reducible repeat first | apply zzc | apply zzd | apply zzb); exact BK704.out)) : gb705 ≠ gb704)); clear BK704; clear HB; have BK704 := n0_; have HB := n1_; have BK705 := n2_; have GE705 := n4_; have NB704_705 := n5_; have NB705_704 := n6_; clear n0_ n1_ n2_ n4_ n5_ n6_; clear hb hbox hg; have hnb13 := NB704_705.out; have hnc13 := NB705_704.out; have hcz14_0 : w12.cell? ⟨gb704, 0, none⟩ = some (.int .i64 a0_0) := (zzi BK704.out 0).trans rfl; have hcz14_1 : w12.cell? ⟨gb704, 1, none⟩ = some (.bool a0_1) := (zzi BK704.out 1).trans rfl; have hfz14_0 := zzh BK704.out 0; have hfz14_1 := zzh BK704.out 1) | ((with_reducible refine zzq (f := 73) rfl ?_); refine goesL_ (some 8) rfl rfl Try.func73 (by kernel_rfl) rfl #[.agg #[.int .i64 a0_0, .bool a0_1]] rfl (by (try simp only [List.map_toArray, List.map_cons, List.map_nil]); first | done | rfl | (simp only [List.length_drop, List.length_take]; rfl)) ?_; (with_reducible refine (r_whole.calls a0_0 a0_1 t706 t707 _ A2.out).mono ?_); rintro e w15 ⟨rfl, hb⟩; refine ⟨_, rfl, ?_⟩; have n0_ := Aside0.mk (zzj (g := gb704) (o := .cells #[.int .i64 a0_0, .bool a0_1] 23 (0, 0)) (by (with_reducible repeat first | apply zzc | apply zzd | apply zzb); exact BK704.out) hb); have n1_ := Aside0.mk (zzj (g := gb705) (o := .cells #[.int .i64 0, .bool false] 23 (0, 0)) (by (with_reducible repeat first | apply zzc | apply zzd | apply zzb); exact BK705.out) hb); have n2_ := Aside0.mk (zzl (by repeat (first | (with_reducible first | exact HB.out | apply zzf | apply zza | apply zzg | refine zze ?_ GE704.out | refine zze ?_ GE705.out) | exact HB.out)) hb); clear BK704; clear BK705; clear HB; have BK704 := n0_; have BK705 := n1_; have HB := n2_; clear n0_ n1_ n2_; have hcz16_0 : w15.cell? ⟨gb705, 0, none⟩ = some (.int .i64 0) := (zzi BK705.out 0).trans rfl; have hcz16_1 : w15.cell? ⟨gb705, 1, none⟩ = some (.bool false) := (zzi BK705.out 1).trans rfl; have hfz16_0 := zzh BK705.out 0; have hfz16_1 := zzh BK705.out 1))
      refine bodyPost_ret (results_cell_row rfl _ _ gb705 23 #[.int .i64 (wrap64 ((Int.tmod t706 26986075409) - 26986075409)), .bool t707] (0, 0) _ rfl (by (with_reducible repeat first | apply zzc | apply zzd | apply zzb); refine zzo (cs := #[.int .i64 (wrap64 ((Int.tmod t706 26986075409) - 26986075409)), .bool false]) ?_ 1 _ rfl; (with_reducible repeat first | apply zzc | apply zzd | apply zzb); refine zzo (cs := #[.int .i64 0, .bool false]) ?_ 0 _ rfl; (with_reducible repeat first | apply zzc | apply zzd | apply zzb); exact BK705.out) Try.underlying23 rfl (by kernel_rfl)) rfl ?_
      exact ⟨by first | rfl | (simp [zzn, zzm] <;> rfl) | (simp [*, zzn, zzm] <;> rfl), by repeat (first | (with_reducible first | exact HB.out | apply zzf | apply zza | apply zzg | refine zze ?_ GE704.out | refine zze ?_ GE705.out) | exact HB.out)⟩
  · rw [if_neg c3] at H
    have c3b0 : decide (13493037704 < (Int.tmod t706 26986075409)) = false := decide_eq_false c3
    clear c3
    by_cases c17 : (Int.tmod t706 26986075409) < (-13493037704)
    · rw [if_pos c17] at H
      have c17b0 : decide ((Int.tmod t706 26986075409) < (-13493037704)) = true := decide_eq_true c17
      clear c17
      simp only [Option.some.injEq, Prod.mk.injEq] at H
      obtain ⟨rfl, rfl⟩ := H
      go_enter Try.func69, Try.ntmps69
      go_wp2_with (first | ((with_reducible refine zzt (N := 1) rfl ?_); refine zzp ?hg (N := 1) ?hd (cs := #[.int .i64 a0_0, .bool a0_1]) (t := 23) ?hr ?_; (case hd => rfl); (case hg => rfl); (case hr => first | (go_simp; done) | (go_simp; rfl)); intro gb704 hg w18 hbox hb; have n0_ := Aside0.mk (zzl (by repeat (first | (with_reducible first | exact HB.out | apply zzf | apply zza | apply zzg) | exact HB.out)) hb); have n1_ := Aside0.mk (hbox); have n3_ := Aside0.mk ((by rw [hg]; exact (zzk (by repeat (first | (with_reducible first | exact HB.out | apply zzf | apply zza | apply zzg) | exact HB.out))) : w.heap.size ≤ gb704)); clear HB; have HB := n0_; have BK704 := n1_; have GE704 := n3_; clear n0_ n1_ n3_; clear hb hbox hg) | ((with_reducible refine zzt (N := 2) rfl ?_); refine zzp ?hg (N := 2) ?hd (cs := #[.int .i64 0, .bool false]) (t := 23) ?hr ?_; (case hd => rfl); (case hg => rfl); (case hr => first | (go_simp; done) | (go_simp; rfl)); intro gb705 hg w19 hbox hb; have n0_ := Aside0.mk (zzj (g := gb704) (o := .cells #[.int .i64 a0_0, .bool a0_1] 23 (0, 0)) (by (with_reducible repeat first | apply zzc | apply zzd | apply zzb); exact BK704.out) hb); have n1_ := Aside0.mk (zzl (by repeat (first | (with_reducible first | exact HB.out | apply zzf | apply zza | apply zzg | refine zze ?_ GE704.out) | exact HB.out)) hb); have n2_ := Aside0.mk (hbox); have n4_ := Aside0.mk ((by rw [hg]; exact (zzk (by repeat (first | (with_reducible first | exact HB.out | apply zzf | apply zza | apply zzg | refine zze ?_ GE704.out) | exact HB.out))) : w.heap.size ≤ gb705)); have n5_ := Aside0.mk ((by rw [hg]; exact Nat.ne_of_lt (zzr (g := gb704) (o := .cells #[.int .i64 a0_0, .bool a0_1] 23 (0, 0)) (by (with_reducible repeat first | apply zzc | apply zzd | apply zzb); exact BK704.out)) : gb704 ≠ gb705)); have n6_ := Aside0.mk ((by rw [hg]; exact Nat.ne_of_gt (zzr (g := gb704) (o := .cells #[.int .i64 a0_0, .bool a0_1] 23 (0, 0)) (by (with_reducible repeat first | apply zzc | apply zzd | apply zzb); exact BK704.out)) : gb705 ≠ gb704)); clear BK704; clear HB; have BK704 := n0_; have HB := n1_; have BK705 := n2_; have GE705 := n4_; have NB704_705 := n5_; have NB705_704 := n6_; clear n0_ n1_ n2_ n4_ n5_ n6_; clear hb hbox hg; have hnb20 := NB704_705.out; have hnc20 := NB705_704.out; have hcz21_0 : w19.cell? ⟨gb704, 0, none⟩ = some (.int .i64 a0_0) := (zzi BK704.out 0).trans rfl; have hcz21_1 : w19.cell? ⟨gb704, 1, none⟩ = some (.bool a0_1) := (zzi BK704.out 1).trans rfl; have hfz21_0 := zzh BK704.out 0; have hfz21_1 := zzh BK704.out 1) | ((with_reducible refine zzq (f := 73) rfl ?_); refine goesL_ (some 8) rfl rfl Try.func73 (by kernel_rfl) rfl #[.agg #[.int .i64 a0_0, .bool a0_1]] rfl (by (try simp only [List.map_toArray, List.map_cons, List.map_nil]); first | done | rfl | (simp only [List.length_drop, List.length_take]; rfl)) ?_; (with_reducible refine (r_whole.calls a0_0 a0_1 t706 t707 _ A2.out).mono ?_); rintro e w22 ⟨rfl, hb⟩; refine ⟨_, rfl, ?_⟩; have n0_ := Aside0.mk (zzj (g := gb704) (o := .cells #[.int .i64 a0_0, .bool a0_1] 23 (0, 0)) (by (with_reducible repeat first | apply zzc | apply zzd | apply zzb); exact BK704.out) hb); have n1_ := Aside0.mk (zzj (g := gb705) (o := .cells #[.int .i64 0, .bool false] 23 (0, 0)) (by (with_reducible repeat first | apply zzc | apply zzd | apply zzb); exact BK705.out) hb); have n2_ := Aside0.mk (zzl (by repeat (first | (with_reducible first | exact HB.out | apply zzf | apply zza | apply zzg | refine zze ?_ GE704.out | refine zze ?_ GE705.out) | exact HB.out)) hb); clear BK704; clear BK705; clear HB; have BK704 := n0_; have BK705 := n1_; have HB := n2_; clear n0_ n1_ n2_; have hcz23_0 : w22.cell? ⟨gb705, 0, none⟩ = some (.int .i64 0) := (zzi BK705.out 0).trans rfl; have hcz23_1 : w22.cell? ⟨gb705, 1, none⟩ = some (.bool false) := (zzi BK705.out 1).trans rfl; have hfz23_0 := zzh BK705.out 0; have hfz23_1 := zzh BK705.out 1))
      refine bodyPost_ret (results_cell_row rfl _ _ gb705 23 #[.int .i64 (wrap64 ((Int.tmod t706 26986075409) + 26986075409)), .bool t707] (0, 0) _ rfl (by (with_reducible repeat first | apply zzc | apply zzd | apply zzb); refine zzo (cs := #[.int .i64 (wrap64 ((Int.tmod t706 26986075409) + 26986075409)), .bool false]) ?_ 1 _ rfl; (with_reducible repeat first | apply zzc | apply zzd | apply zzb); refine zzo (cs := #[.int .i64 0, .bool false]) ?_ 0 _ rfl; (with_reducible repeat first | apply zzc | apply zzd | apply zzb); exact BK705.out) Try.underlying23 rfl (by kernel_rfl)) rfl ?_
      exact ⟨by first | rfl | (simp [zzn, zzm] <;> rfl) | (simp [*, zzn, zzm] <;> rfl), by repeat (first | (with_reducible first | exact HB.out | apply zzf | apply zza | apply zzg | refine zze ?_ GE704.out | refine zze ?_ GE705.out) | exact HB.out)⟩
    · rw [if_neg c17] at H
      have c17b0 : decide ((Int.tmod t706 26986075409) < (-13493037704)) = false := decide_eq_false c17
      clear c17
      simp only [Option.some.injEq, Prod.mk.injEq] at H
      obtain ⟨rfl, rfl⟩ := H
      go_enter Try.func69, Try.ntmps69
      go_wp2_with (first | ((with_reducible refine zzt (N := 1) rfl ?_); refine zzp ?hg (N := 1) ?hd (cs := #[.int .i64 a0_0, .bool a0_1]) (t := 23) ?hr ?_; (case hd => rfl); (case hg => rfl); (case hr => first | (go_simp; done) | (go_simp; rfl)); intro gb704 hg w24 hbox hb; have n0_ := Aside0.mk (zzl (by repeat (first | (with_reducible first | exact HB.out | apply zzf | apply zza | apply zzg) | exact HB.out)) hb); have n1_ := Aside0.mk (hbox); have n3_ := Aside0.mk ((by rw [hg]; exact (zzk (by repeat (first | (with_reducible first | exact HB.out | apply zzf | apply zza | apply zzg) | exact HB.out))) : w.heap.size ≤ gb704)); clear HB; have HB := n0_; have BK704 := n1_; have GE704 := n3_; clear n0_ n1_ n3_; clear hb hbox hg) | ((with_reducible refine zzt (N := 2) rfl ?_); refine zzp ?hg (N := 2) ?hd (cs := #[.int .i64 0, .bool false]) (t := 23) ?hr ?_; (case hd => rfl); (case hg => rfl); (case hr => first | (go_simp; done) | (go_simp; rfl)); intro gb705 hg w25 hbox hb; have n0_ := Aside0.mk (zzj (g := gb704) (o := .cells #[.int .i64 a0_0, .bool a0_1] 23 (0, 0)) (by (with_reducible repeat first | apply zzc | apply zzd | apply zzb); exact BK704.out) hb); have n1_ := Aside0.mk (zzl (by repeat (first | (with_reducible first | exact HB.out | apply zzf | apply zza | apply zzg | refine zze ?_ GE704.out) | exact HB.out)) hb); have n2_ := Aside0.mk (hbox); have n4_ := Aside0.mk ((by rw [hg]; exact (zzk (by repeat (first | (with_reducible first | exact HB.out | apply zzf | apply zza | apply zzg | refine zze ?_ GE704.out) | exact HB.out))) : w.heap.size ≤ gb705)); have n5_ := Aside0.mk ((by rw [hg]; exact Nat.ne_of_lt (zzr (g := gb704) (o := .cells #[.int .i64 a0_0, .bool a0_1] 23 (0, 0)) (by (with_reducible repeat first | apply zzc | apply zzd | apply zzb); exact BK704.out)) : gb704 ≠ gb705)); have n6_ := Aside0.mk ((by rw [hg]; exact Nat.ne_of_gt (zzr (g := gb704) (o := .cells #[.int .i64 a0_0, .bool a0_1] 23 (0, 0)) (by (with_reducible repeat first | apply zzc | apply zzd | apply zzb); exact BK704.out)) : gb705 ≠ gb704)); clear BK704; clear HB; have BK704 := n0_; have HB := n1_; have BK705 := n2_; have GE705 := n4_; have NB704_705 := n5_; have NB705_704 := n6_; clear n0_ n1_ n2_ n4_ n5_ n6_; clear hb hbox hg; have hnb26 := NB704_705.out; have hnc26 := NB705_704.out; have hcz27_0 : w25.cell? ⟨gb704, 0, none⟩ = some (.int .i64 a0_0) := (zzi BK704.out 0).trans rfl; have hcz27_1 : w25.cell? ⟨gb704, 1, none⟩ = some (.bool a0_1) := (zzi BK704.out 1).trans rfl; have hfz27_0 := zzh BK704.out 0; have hfz27_1 := zzh BK704.out 1) | ((with_reducible refine zzq (f := 73) rfl ?_); refine goesL_ (some 8) rfl rfl Try.func73 (by kernel_rfl) rfl #[.agg #[.int .i64 a0_0, .bool a0_1]] rfl (by (try simp only [List.map_toArray, List.map_cons, List.map_nil]); first | done | rfl | (simp only [List.length_drop, List.length_take]; rfl)) ?_; (with_reducible refine (r_whole.calls a0_0 a0_1 t706 t707 _ A2.out).mono ?_); rintro e w28 ⟨rfl, hb⟩; refine ⟨_, rfl, ?_⟩; have n1_ := Aside0.mk (zzj (g := gb705) (o := .cells #[.int .i64 0, .bool false] 23 (0, 0)) (by (with_reducible repeat first | apply zzc | apply zzd | apply zzb); exact BK705.out) hb); have n2_ := Aside0.mk (zzl (by repeat (first | (with_reducible first | exact HB.out | apply zzf | apply zza | apply zzg | refine zze ?_ GE704.out | refine zze ?_ GE705.out) | exact HB.out)) hb); clear BK705; clear HB; have BK705 := n1_; have HB := n2_; clear n1_ n2_; have hcz29_0 : w28.cell? ⟨gb705, 0, none⟩ = some (.int .i64 0) := (zzi BK705.out 0).trans rfl; have hcz29_1 : w28.cell? ⟨gb705, 1, none⟩ = some (.bool false) := (zzi BK705.out 1).trans rfl; have hfz29_0 := zzh BK705.out 0; have hfz29_1 := zzh BK705.out 1))
      refine bodyPost_ret (results_cell_row rfl _ _ gb705 23 #[.int .i64 (Int.tmod t706 26986075409), .bool t707] (0, 0) _ rfl (by (with_reducible repeat first | apply zzc | apply zzd | apply zzb); refine zzo (cs := #[.int .i64 (Int.tmod t706 26986075409), .bool false]) ?_ 1 _ rfl; (with_reducible repeat first | apply zzc | apply zzd | apply zzb); refine zzo (cs := #[.int .i64 0, .bool false]) ?_ 0 _ rfl; (with_reducible repeat first | apply zzc | apply zzd | apply zzb); exact BK705.out) Try.underlying23 rfl (by kernel_rfl)) rfl ?_
      exact ⟨by first | rfl | (simp [zzn, zzm] <;> rfl) | (simp [*, zzn, zzm] <;> rfl), by repeat (first | (with_reducible first | exact HB.out | apply zzf | apply zza | apply zzg | refine zze ?_ GE704.out | refine zze ?_ GE705.out) | exact HB.out)⟩
end Go.Proofs.Ytenpiaafkmfjfaa.B

end
section
namespace Go.Proofs.Ytenpiaafkmfjfaa.B
open Go.RowKit Go.Proofs.YtenpiaafkmfjfaaW.PrintWords Go.Proofs.YtenpiaafkmfjfaaW.PrintLast
set_option linter.unusedVariables false
set_option linter.unusedSimpArgs false
mutual
def r_Sin.j0 : Nat → Int → Bool → Option (Int × Bool)
  | 0, _, _ => none
  | k + 1, x713000, x713001 => if x713000 < (-6746518852) then (r_Sin.j1 k (wrap64 ((-13493037704) - x713000)) x713001) else (r_Sin.j1 k x713000 x713001)
def r_Sin.j1 : Nat → Int → Bool → Option (Int × Bool)
  | 0, _, _ => none
  | k + 1, x713000, x713001 => r_Sin.l0 k 1 x713000 x713001 x713000 x713001 x713000 x713001
def r_Sin.l0 : Nat → Int → Int → Bool → Int → Bool → Int → Bool → Option (Int × Bool)
  | 0, _, _, _, _, _, _, _ => none
  | k + 1, x6, x713000, x713001, x714000, x714001, x715000, x715001 => if x6 ≤ 8 then ((r_Mul.f k x714000 x714001 x713000 x713001).bind fun bt717 => ((r_Mul.f k bt717.1 bt717.2 x713000 x713001).bind fun bt719 => ((r_Int.f k (wrap64 ((wrap64 (2 * x6)) * (wrap64 ((wrap64 (2 * x6)) + 1))))).bind fun bt721 => ((r_Div.f k bt719.1 bt719.2 bt721.1 bt721.2).bind fun bt723 => ((r_Neg.f bt723.1 bt723.2).bind fun bt725 => ((r_Add.f k x715000 x715001 bt725.1 bt725.2).bind fun bt727 => (r_Sin.l0 k (wrap64 (x6 + 1)) x713000 x713001 bt725.1 bt725.2 bt727.1 bt727.2))))))) else ((r_Clamp.f k x715000 x715001 (-4294967296) false 4294967296 false).bind fun bt715 => (some (bt715.1, bt715.2)))
end
def r_Sin.f (k : Nat) (a0_0 : Int) (a0_1 : Bool) : Option (Int × Bool) := (r_Wrap.f a0_0 a0_1).bind fun bt710 => (if bt710.1 > 6746518852 then (r_Sin.j0 k (wrap64 (13493037704 - bt710.1)) bt710.2) else (r_Sin.j0 k bt710.1 bt710.2))
def r_Sin.T10 : Bool × List (List Nat × List Nat) := (true, [([], []), ([], []), ([0, 1], [0, 1]), ([], []), ([2, 3, 2], [2, 3]), ([], []), ([5], [5]), ([], []), ([7], [7]), ([8], [8]), ([6, 9], [6, 9]), ([10, 4], [10]), ([4, 11, 11], [4, 11]), ([12, 12], [12]), ([13, 13, 0, 1, 2, 3, 4, 5, 6, 7, 8, 9, 10, 11, 12, 13], [13])])
def r_Sin.B10 : List Nat := [0, 0, 3, 0, 15, 0, 32, 0, 128, 384, 992, 2047, 4095, 8191, 16383]
theorem r_Sin.tab10 : rtab .any (opsOf Try.f70 10) = r_Sin.T10 := by kernel_rfl
theorem r_Sin.bits10 : waitsOk r_Sin.T10.2 r_Sin.B10 = true := by kernel_rfl
set_option maxHeartbeats 8000000 in
set_option maxRecDepth 100000 in
theorem r_Sin.calls (k : Nat) (a0_0 : Int) (a0_1 : Bool) (r1 : Int) (r2 : Bool) (w : World) (h : r_Sin.f k a0_0 a0_1 = some (r1, r2)) :
    Calls Try.prog 70 #[.agg #[.int .i64 a0_0, .bool a0_1]] w fun e w' => e = .returned (.agg #[.int .i64 r1, .bool r2]) ∧ Below w.heap.size w w' := by
  have hu23 := Try.underlying23
  have HB := Aside0.mk (Below.refl w.heap.size w)
  have H : ((r_Wrap.f a0_0 a0_1).bind fun bt710 => (if bt710.1 > 6746518852 then (r_Sin.j0 k (wrap64 (13493037704 - bt710.1)) bt710.2) else (r_Sin.j0 k bt710.1 bt710.2))) = some (r1, r2) := h
  clear h
  replace H := Option.bind_eq_some_iff.mp H
  obtain ⟨⟨t710, t711⟩, A20, H⟩ := H
  replace H : (if t710 > 6746518852 then (r_Sin.j0 k (wrap64 (13493037704 - t710)) t711) else (r_Sin.j0 k t710 t711)) = some (r1, r2) := H
  have A2 := Aside0.mk A20
  clear A20
  have HC3 := Aside0.mk H
  clear H
  go_enter Try.func70, Try.ntmps70
  go_upto_if 11 with (first | ((with_reducible refine zzt (N := 1) rfl ?_); refine zzp ?hg (N := 1) ?hd (cs := #[.int .i64 a0_0, .bool a0_1]) (t := 23) ?hr ?_; (case hd => rfl); (case hg => rfl); (case hr => first | (go_simp; done) | (go_simp; rfl)); intro gb708 hg w4 hbox hb; have n0_ := Aside0.mk (zzl (by repeat (first | (with_reducible first | exact HB.out | apply zzf | apply zza | apply zzg) | exact HB.out)) hb); have n1_ := Aside0.mk (hbox); have n3_ := Aside0.mk ((by rw [hg]; exact (zzk (by repeat (first | (with_reducible first | exact HB.out | apply zzf | apply zza | apply zzg) | exact HB.out))) : w.heap.size ≤ gb708)); clear HB; have HB := n0_; have BK708 := n1_; have GE708 := n3_; clear n0_ n1_ n3_; clear hb hbox hg) | ((with_reducible refine zzt (N := 2) rfl ?_); refine zzp ?hg (N := 2) ?hd (cs := #[.int .i64 0, .bool false]) (t := 23) ?hr ?_; (case hd => rfl); (case hg => rfl); (case hr => first | (go_simp; done) | (go_simp; rfl)); intro gb709 hg w5 hbox hb; have n0_ := Aside0.mk (zzj (g := gb708) (o := .cells #[.int .i64 a0_0, .bool a0_1] 23 (0, 0)) (by (with_reducible repeat first | apply zzc | apply zzd | apply zzb); exact BK708.out) hb); have n1_ := Aside0.mk (zzl (by repeat (first | (with_reducible first | exact HB.out | apply zzf | apply zza | apply zzg | refine zze ?_ GE708.out) | exact HB.out)) hb); have n2_ := Aside0.mk (hbox); have n4_ := Aside0.mk ((by rw [hg]; exact (zzk (by repeat (first | (with_reducible first | exact HB.out | apply zzf | apply zza | apply zzg | refine zze ?_ GE708.out) | exact HB.out))) : w.heap.size ≤ gb709)); have n5_ := Aside0.mk ((by rw [hg]; exact Nat.ne_of_lt (zzr (g := gb708) (o := .cells #[.int .i64 a0_0, .bool a0_1] 23 (0, 0)) (by (with_reducible repeat first | apply zzc | apply zzd | apply zzb); exact BK708.out)) : gb708 ≠ gb709)); have n6_ := Aside0.mk ((by rw [hg]; exact Nat.ne_of_gt (zzr (g := gb708) (o := .cells #[.int .i64 a0_0, .bool a0_1] 23 (0, 0)) (by (with_reducible repeat first | apply zzc | apply zzd | apply zzb); exact BK708.out)) : gb709 ≠ gb708)); clear BK708; clear HB; have BK708 := n0_; have HB := n1_; have BK709 := n2_; have GE709 := n4_; have NB708_709 := n5_; have NB709_708 := n6_; clear n0_ n1_ n2_ n4_ n5_ n6_; clear hb hbox hg; have hnb6 := NB708_709.out; have hnc6 := NB709_708.out; have hcz7_0 : w5.cell? ⟨gb708, 0, none⟩ = some (.int .i64 a0_0) := (zzi BK708.out 0).trans rfl; have hcz7_1 : w5.cell? ⟨gb708, 1, none⟩ = some (.bool a0_1) := (zzi BK708.out 1).trans rfl; have hfz7_0 := zzh BK708.out 0; have hfz7_1 := zzh BK708.out 1) | ((with_reducible refine zzq (f := 69) rfl ?_); refine goesL_ (some 8) rfl rfl Try.func69 (by kernel_rfl) rfl #[.agg #[.int .i64 a0_0, .bool a0_1]] rfl (by (try simp only [List.map_toArray, List.map_cons, List.map_nil]); first | done | rfl | (simp only [List.length_drop, List.length_take]; rfl)) ?_; (with_reducible refine (r_Wrap.calls a0_0 a0_1 t710 t711 _ A2.out).mono ?_); rintro e w8 ⟨rfl, hb⟩; refine ⟨_, rfl, ?_⟩; have n0_ := Aside0.mk (zzj (g := gb708) (o := .cells #[.int .i64 a0_0, .bool a0_1] 23 (0, 0)) (by (with_reducible repeat first | apply zzc | apply zzd | apply zzb); exact BK708.out) hb); have n1_ := Aside0.mk (zzj (g := gb709) (o := .cells #[.int .i64 0, .bool false] 23 (0, 0)) (by (with_reducible repeat first | apply zzc | apply zzd | apply zzb); exact BK709.out) hb); have n2_ := Aside0.mk (zzl (by repeat (first | (with_reducible first | exact HB.out | apply zzf | apply zza | apply zzg | refine zze ?_ GE708.out | refine zze ?_ GE709.out) | exact HB.out)) hb); clear BK708; clear BK709; clear HB; have BK708 := n0_; have BK709 := n1_; have HB := n2_; clear n0_ n1_ n2_; (try clear hi)) | ((with_reducible refine zzt (N := 3) rfl ?_); refine zzp ?hg (N := 3) ?hd (cs := #[.int .i64 0, .bool false]) (t := 23) ?hr ?_; (case hd => rfl); (case hg => rfl); (case hr => first | (go_simp; done) | (go_simp; rfl)); intro gb712 hg w9 hbox hb; have n0_ := Aside0.mk (zzj (g := gb708) (o := .cells #[.int .i64 a0_0, .bool a0_1] 23 (0, 0)) (by (with_reducible repeat first | apply zzc | apply zzd | apply zzb); exact BK708.out) hb); have n1_ := Aside0.mk (zzj (g := gb709) (o := .cells #[.int .i64 0, .bool false] 23 (0, 0)) (by (with_reducible repeat first | apply zzc | apply zzd | apply zzb); exact BK709.out) hb); have n2_ := Aside0.mk (zzl (by repeat (first | (with_reducible first | exact HB.out | apply zzf | apply zza | apply zzg | refine zze ?_ GE708.out | refine zze ?_ GE709.out) | exact HB.out)) hb); have n3_ := Aside0.mk (hbox); have n5_ := Aside0.mk ((by rw [hg]; exact (zzk (by repeat (first | (with_reducible first | exact HB.out | apply zzf | apply zza | apply zzg | refine zze ?_ GE708.out | refine zze ?_ GE709.out) | exact HB.out))) : w.heap.size ≤ gb712)); have n6_ := Aside0.mk ((by rw [hg]; exact Nat.ne_of_lt (zzr (g := gb708) (o := .cells #[.int .i64 a0_0, .bool a0_1] 23 (0, 0)) (by (with_reducible repeat first | apply zzc | apply zzd | apply zzb); exact BK708.out)) : gb708 ≠ gb712)); have n7_ := Aside0.mk ((by rw [hg]; exact Nat.ne_of_gt (zzr (g := gb708) (o := .cells #[.int .i64 a0_0, .bool a0_1] 23 (0, 0)) (by (with_reducible repeat first | apply zzc | apply zzd | apply zzb); exact BK708.out)) : gb712 ≠ gb708)); have n8_ := Aside0.mk ((by rw [hg]; exact Nat.ne_of_lt (zzr (g := gb709) (o := .cells #[.int .i64 0, .bool false] 23 (0, 0)) (by (with_reducible repeat first | apply zzc | apply zzd | apply zzb); exact BK709.out)) : gb709 ≠ gb712)); have n9_ := Aside0.mk ((by rw [hg]; exact Nat.ne_of_gt (zzr (g := gb709) (o := .cells #[.int .i64 0, .bool false] 23 (0, 0)) (by (with_reducible repeat first | apply zzc | apply zzd | apply zzb); exact BK709.out)) : gb712 ≠ gb709)); clear BK708; clear BK709; clear HB; have BK708 := n0_; have BK709 := n1_; have HB := n2_; have BK712 := n3_; have GE712 := n5_; have NB708_712 := n6_; have NB712_708 := n7_; have NB709_712 := n8_; have NB712_709 := n9_; clear n0_ n1_ n2_ n3_ n5_ n6_ n7_ n8_ n9_; clear hb hbox hg; have hnb10 := NB712_708.out; have hnc10 := NB708_712.out; have hnb11 := NB712_709.out; have hnc11 := NB709_712.out; have hcz12_0 : w9.cell? ⟨gb712, 0, none⟩ = some (.int .i64 0) := (zzi BK712.out 0).trans rfl; have hcz12_1 : w9.cell? ⟨gb712, 1, none⟩ = some (.bool false) := (zzi BK712.out 1).trans rfl; have hfz12_0 := zzh BK712.out 0; have hfz12_1 := zzh BK712.out 1))
  (try simp only [Act.put, List.setIfInBounds_toArray, List.set_cons_zero, List.set_cons_succ])
  go_cut [] (fun wc => ∃ (kq : Nat) (x713000_2 : Int), Aside0 (r_Sin.j0 kq x713000_2 t711 = some (r1, r2)) ∧ Aside0 (kq ≤ k) ∧ Aside0 (wc.heap[gb708]? = some (.cells #[.int .i64 a0_0, .bool a0_1] 23 (0, 0))) ∧ Aside0 (wc.heap[gb709]? = some (.cells #[.int .i64 0, .bool false] 23 (0, 0))) ∧ Aside0 (wc.heap[gb712]? = some (.cells #[.int .i64 x713000_2, .bool t711] 23 (0, 0))) ∧ Aside0 (Below w.heap.size w wc))
  case first =>
    have H := HC3.out
    clear HC3
    by_cases c13 : t710 > 6746518852
    · rw [if_pos c13] at H
      have c13b0 : decide (6746518852 < t710) = true := decide_eq_true c13
      clear c13
      (first | rw [c13b0] | (simp only [i64_w, i32_w]; rw [c13b0]) | skip)
      have H' := Aside0.mk H
      clear H
      have hnb14 := NB712_708.out
      have hnc14 := NB708_712.out
      have hnb15 := NB712_709.out
      have hnc15 := NB709_712.out
      have hcz16_0 : w9.cell? ⟨gb712, 0, none⟩ = some (.int .i64 0) := (zzi BK712.out 0).trans rfl
      have hcz16_1 : w9.cell? ⟨gb712, 1, none⟩ = some (.bool false) := (zzi BK712.out 1).trans rfl
      have hfz16_0 := zzh BK712.out 0
      have hfz16_1 := zzh BK712.out 1
      go_wp2
      go_meet
      case rel => exact ⟨_, (wrap64 (13493037704 - t710)), H', ⟨by first | omega | exact Nat.le_refl _⟩, ⟨by (with_reducible repeat first | apply zzc | apply zzd | apply zzb); refine zzs ?_ NB708_712.out _; (with_reducible repeat first | apply zzc | apply zzd | apply zzb); refine zzs ?_ NB708_712.out _; (with_reducible repeat first | apply zzc | apply zzd | apply zzb); refine zzs ?_ NB708_712.out _; (with_reducible repeat first | apply zzc | apply zzd | apply zzb); exact BK708.out⟩, ⟨by (with_reducible repeat first | apply zzc | apply zzd | apply zzb); refine zzs ?_ NB709_712.out _; (with_reducible repeat first | apply zzc | apply zzd | apply zzb); refine zzs ?_ NB709_712.out _; (with_reducible repeat first | apply zzc | apply zzd | apply zzb); refine zzs ?_ NB709_712.out _; (with_reducible repeat first | apply zzc | apply zzd | apply zzb); exact BK709.out⟩, ⟨by (with_reducible repeat first | apply zzc | apply zzd | apply zzb); refine zzo (cs := #[.int .i64 t710, .bool t711]) ?_ 0 _ rfl; (with_reducible repeat first | apply zzc | apply zzd | apply zzb); refine zzo (cs := #[.int .i64 t710, .bool false]) ?_ 1 _ rfl; (with_reducible repeat first | apply zzc | apply zzd | apply zzb); refine zzo (cs := #[.int .i64 0, .bool false]) ?_ 0 _ rfl; (with_reducible repeat first | apply zzc | apply zzd | apply zzb); exact BK712.out⟩, ⟨by repeat (first | (with_reducible first | exact HB.out | apply zzf | apply zza | apply zzg | refine zze ?_ GE708.out | refine zze ?_ GE709.out | refine zze ?_ GE712.out) | exact HB.out)⟩⟩
    · rw [if_neg c13] at H
      have c13b0 : decide (6746518852 < t710) = false := decide_eq_false c13
      clear c13
      (first | rw [c13b0] | (simp only [i64_w, i32_w]; rw [c13b0]) | skip)
      have H' := Aside0.mk H
      clear H
      go_wp2
      go_meet
      case rel => exact ⟨_, (t710), H', ⟨by first | omega | exact Nat.le_refl _⟩, ⟨by (with_reducible repeat first | apply zzc | apply zzd | apply zzb); refine zzs ?_ NB708_712.out _; (with_reducible repeat first | apply zzc | apply zzd | apply zzb); refine zzs ?_ NB708_712.out _; (with_reducible repeat first | apply zzc | apply zzd | apply zzb); exact BK708.out⟩, ⟨by (with_reducible repeat first | apply zzc | apply zzd | apply zzb); refine zzs ?_ NB709_712.out _; (with_reducible repeat first | apply zzc | apply zzd | apply zzb); refine zzs ?_ NB709_712.out _; (with_reducible repeat first | apply zzc | apply zzd | apply zzb); exact BK709.out⟩, ⟨by (with_reducible repeat first | apply zzc | apply zzd | apply zzb); refine zzo (cs := #[.int .i64 t710, .bool false]) ?_ 1 _ rfl; (with_reducible repeat first | apply zzc | apply zzd | apply zzb); refine zzo (cs := #[.int .i64 0, .bool false]) ?_ 0 _ rfl; (with_reducible repeat first | apply zzc | apply zzd | apply zzb); exact BK712.out⟩, ⟨by repeat (first | (with_reducible first | exact HB.out | apply zzf | apply zza | apply zzg | refine zze ?_ GE708.out | refine zze ?_ GE709.out | refine zze ?_ GE712.out) | exact HB.out)⟩⟩
  case rest =>
    clear HC3
    obtain ⟨kq, x713000_2, HA, HJ2, BK708, BK709, BK712, HB⟩ := hcut
    cases kq with
    | zero => exact absurd HA.out (by simp [r_Sin.j0])
    | succ kj2 =>
      have H := HA.out
      clear HA
      simp only [r_Sin.j0] at H
      have HC17 := Aside0.mk H
      clear H
      have hnb18 := NB712_708.out
      have hnc18 := NB708_712.out
      have hnb19 := NB712_709.out
      have hnc19 := NB709_712.out
      have hcz20_0 : wc.cell? ⟨gb712, 0, none⟩ = some (.int .i64 x713000_2) := (zzi BK712.out 0).trans rfl
      have hcz20_1 : wc.cell? ⟨gb712, 1, none⟩ = some (.bool t711) := (zzi BK712.out 1).trans rfl
      have hfz20_0 := zzh BK712.out 0
      have hfz20_1 := zzh BK712.out 1
      go_upto_if 18 with (fail)
      go_cut [] (fun wc => ∃ (kq : Nat) (x713000_16 : Int), Aside0 (r_Sin.j1 kq x713000_16 t711 = some (r1, r2)) ∧ Aside0 (kq ≤ kj2) ∧ Aside0 (wc.heap[gb708]? = some (.cells #[.int .i64 a0_0, .bool a0_1] 23 (0, 0))) ∧ Aside0 (wc.heap[gb709]? = some (.cells #[.int .i64 0, .bool false] 23 (0, 0))) ∧ Aside0 (wc.heap[gb712]? = some (.cells #[.int .i64 x713000_16, .bool t711] 23 (0, 0))) ∧ Aside0 (Below w.heap.size w wc))
      case first =>
        have H := HC17.out
        clear HC17
        by_cases c21 : x713000_2 < (-6746518852)
        · rw [if_pos c21] at H
          have c21b0 : decide (x713000_2 < (-6746518852)) = true := decide_eq_true c21
          clear c21
          (first | rw [c21b0] | (simp only [i64_w, i32_w]; rw [c21b0]) | skip)
          have H' := Aside0.mk H
          clear H
          have hnb22 := NB712_708.out
          have hnc22 := NB708_712.out
          have hnb23 := NB712_709.out
          have hnc23 := NB709_712.out
          have hcz24_0 : wc.cell? ⟨gb712, 0, none⟩ = some (.int .i64 x713000_2) := (zzi BK712.out 0).trans rfl
          have hcz24_1 : wc.cell? ⟨gb712, 1, none⟩ = some (.bool t711) := (zzi BK712.out 1).trans rfl
          have hfz24_0 := zzh BK712.out 0
          have hfz24_1 := zzh BK712.out 1
          go_wp2
          go_meet
          case rel => exact ⟨_, (wrap64 ((-13493037704) - x713000_2)), H', ⟨by have := HJ2.out; first | omega | exact Nat.le_refl _⟩, ⟨by (with_reducible repeat first | apply zzc | apply zzd | apply zzb); refine zzs ?_ NB708_712.out _; (with_reducible repeat first | apply zzc | apply zzd | apply zzb); exact BK708.out⟩, ⟨by (with_reducible repeat first | apply zzc | apply zzd | apply zzb); refine zzs ?_ NB709_712.out _; (with_reducible repeat first | apply zzc | apply zzd | apply zzb); exact BK709.out⟩, ⟨by (with_reducible repeat first | apply zzc | apply zzd | apply zzb); refine zzo (cs := #[.int .i64 x713000_2, .bool t711]) ?_ 0 _ rfl; (with_reducible repeat first | apply zzc | apply zzd | apply zzb); exact BK712.out⟩, ⟨by repeat (first | (with_reducible first | exact HB.out | apply zzf | apply zza | apply zzg | refine zze ?_ GE708.out | refine zze ?_ GE709.out | refine zze ?_ GE712.out) | exact HB.out)⟩⟩
        · rw [if_neg c21] at H
          have c21b0 : decide (x713000_2 < (-6746518852)) = false := decide_eq_false c21
          clear c21
          (first | rw [c21b0] | (simp only [i64_w, i32_w]; rw [c21b0]) | skip)
          have H' := Aside0.mk H
          clear H
          go_wp2
          go_meet
          case rel => exact ⟨_, (x713000_2), H', ⟨by have := HJ2.out; first | omega | exact Nat.le_refl _⟩, ⟨by (with_reducible repeat first | apply zzc | apply zzd | apply zzb); exact BK708.out⟩, ⟨by (with_reducible repeat first | apply zzc | apply zzd | apply zzb); exact BK709.out⟩, ⟨by (with_reducible repeat first | apply zzc | apply zzd | apply zzb); exact BK712.out⟩, ⟨by repeat (first | (with_reducible first | exact HB.out | apply zzf | apply zza | apply zzg | refine zze ?_ GE708.out | refine zze ?_ GE709.out | refine zze ?_ GE712.out) | exact HB.out)⟩⟩
      case rest =>
        clear HC17
        obtain ⟨kq, x713000_16, HA, HJ16, BK708, BK709, BK712, HB⟩ := hcut
        cases kq with
        | zero => exact absurd HA.out (by simp [r_Sin.j1])
        | succ kj16 =>
          have H := HA.out
          clear HA
          simp only [r_Sin.j1] at H
          have H' := Aside0.mk H
          clear H
          try go_wp2
          have n0_ := Aside0.mk (zzd BK708.out)
          have n1_ := Aside0.mk (zzd BK709.out)
          have n2_ := Aside0.mk (zzd BK712.out)
          have n3_ := Aside0.mk (zzg HB.out)
          clear BK708
          clear BK709
          clear BK712
          clear HB
          have BK708 := n0_
          have BK709 := n1_
          have BK712 := n2_
          have HB := n3_
          clear n0_ n1_ n2_ n3_
          refine start_ (n := 6) (S := fun w' => w'.cell? ⟨gb712, 0, none⟩ = some (.int .i64 x713000_16) ∧ w'.cell? ⟨gb712, 1, none⟩ = some (.bool t711)) (ds := []) #[false, false, false, false, false, false] (by kernel_rfl) rfl rfl ⟨(zzi BK712.out 0).trans rfl, (zzi BK712.out 1).trans rfl⟩ (fun hHeld => ?_)
          generalize wc.drew = w25 at BK708 BK709 BK712 HB hHeld ⊢
          refine take_ (i := 0) (N := some 23) (v := ?_) (a' := ?_) #[true, false, false, false, false, false] rfl rfl (by kernel_rfl) (fun _ _ _ h => h) (Or.inl ⟨by rfl, ?_⟩) hHeld ?_ ?_
          rotate_left
          · rintro w' ⟨s0, s1⟩
            go_simp
            with_reducible rfl
          rotate_left
          · simp only [Act.put, List.setIfInBounds_toArray, List.set_cons_zero, List.set_cons_succ, i64_w, i32_w]
            rfl
          refine take_ (i := 1) (N := some 24) (v := ?_) (a' := ?_) #[true, true, false, false, false, false] rfl rfl (by kernel_rfl) (fun _ _ _ h => h) (Or.inl ⟨by rfl, ?_⟩) hHeld ?_ ?_
          rotate_left
          · rintro w' ⟨s0, s1⟩
            go_simp
            with_reducible rfl
          rotate_left
          · simp only [Act.put, List.setIfInBounds_toArray, List.set_cons_zero, List.set_cons_succ, i64_w, i32_w]
            rfl
          refine join_ (σ := Nat × Nat) 2 #[true, true, true, true, false, false] (fun s_ => [(4, .pointer (some ⟨s_.1, 0, none⟩)), (5, .pointer (some ⟨s_.2, 0, none⟩))]) (fun s_ w' => (w'.cell? ⟨gb712, 0, none⟩ = some (.int .i64 x713000_16) ∧ w'.cell? ⟨gb712, 1, none⟩ = some (.bool t711)) ∧ (w'.heap[gb708]? = some (.cells #[.int .i64 a0_0, .bool a0_1] 23 (0, 0))) ∧ (w'.heap[gb709]? = some (.cells #[.int .i64 0, .bool false] 23 (0, 0))) ∧ (w'.heap[gb712]? = some (.cells #[.int .i64 x713000_16, .bool t711] 23 (0, 0))) ∧ (w'.heap[s_.1]? = some (.cells #[.int .i64 0, .bool false] 23 (0, 0))) ∧ (w'.heap[s_.2]? = some (.cells #[.int .i64 0, .bool false] 23 (0, 0))) ∧ (w.heap.size ≤ s_.1) ∧ (w.heap.size ≤ s_.1) ∧ (gb708 ≠ s_.1) ∧ (s_.1 ≠ gb708) ∧ (gb709 ≠ s_.1) ∧ (s_.1 ≠ gb709) ∧ (gb712 ≠ s_.1) ∧ (s_.1 ≠ gb712) ∧ (s_.2 ≠ s_.1) ∧ (s_.1 ≠ s_.2) ∧ (w.heap.size ≤ s_.2) ∧ (w.heap.size ≤ s_.2) ∧ (gb708 ≠ s_.2) ∧ (s_.2 ≠ gb708) ∧ (gb709 ≠ s_.2) ∧ (s_.2 ≠ gb709) ∧ (gb712 ≠ s_.2) ∧ (s_.2 ≠ gb712) ∧ (Below w.heap.size w w')) ?_ ?_
          rotate_left
          · intro hCont
            refine two_ (i := 2) (j := 3) (Ni := some 4) (Nj := some 5) #[true, true, true, false, false, false] #[true, true, false, true, false, false] rfl rfl rfl rfl (by kernel_rfl) (by decide) (by decide) (fun K hK => ?_) (fun K hK => ?_)
            · skip
              refine box_step ?hg (N := 4) ?hd (cs := #[.int .i64 0, .bool false]) (t := 23) ?hr ?_; (case hd => rfl); (case hg => rfl); (case hr => first | (go_simp; done) | (go_simp; rfl))
              intro gb713 hg w26 hbox hb
              have n0_ := Aside0.mk (zzj (g := gb708) (o := .cells #[.int .i64 a0_0, .bool a0_1] 23 (0, 0)) (by (with_reducible repeat first | apply zzc | apply zzd | apply zzb); exact BK708.out) hb)
              have n1_ := Aside0.mk (zzj (g := gb709) (o := .cells #[.int .i64 0, .bool false] 23 (0, 0)) (by (with_reducible repeat first | apply zzc | apply zzd | apply zzb); exact BK709.out) hb)
              have n2_ := Aside0.mk (zzj (g := gb712) (o := .cells #[.int .i64 x713000_16, .bool t711] 23 (0, 0)) (by (with_reducible repeat first | apply zzc | apply zzd | apply zzb); exact BK712.out) hb)
              have n3_ := Aside0.mk (zzl (by repeat (first | (with_reducible first | exact HB.out | apply zzf | apply zza | apply zzg | refine zze ?_ GE708.out | refine zze ?_ GE709.out | refine zze ?_ GE712.out) | exact HB.out)) hb)
              have n4_ := Aside0.mk (hbox)
              have n5_ := Aside0.mk ((by rw [hg]; exact (zzk (by repeat (first | (with_reducible first | exact HB.out | apply zzf | apply zza | apply zzg | refine zze ?_ GE708.out | refine zze ?_ GE709.out | refine zze ?_ GE712.out) | exact HB.out))) : w.heap.size ≤ gb713))
              have n7_ := Aside0.mk ((by rw [hg]; exact Nat.ne_of_lt (zzr (g := gb708) (o := .cells #[.int .i64 a0_0, .bool a0_1] 23 (0, 0)) (by (with_reducible repeat first | apply zzc | apply zzd | apply zzb); exact BK708.out)) : gb708 ≠ gb713))
              have n8_ := Aside0.mk ((by rw [hg]; exact Nat.ne_of_gt (zzr (g := gb708) (o := .cells #[.int .i64 a0_0, .bool a0_1] 23 (0, 0)) (by (with_reducible repeat first | apply zzc | apply zzd | apply zzb); exact BK708.out)) : gb713 ≠ gb708))
              have n9_ := Aside0.mk ((by rw [hg]; exact Nat.ne_of_lt (zzr (g := gb709) (o := .cells #[.int .i64 0, .bool false] 23 (0, 0)) (by (with_reducible repeat first | apply zzc | apply zzd | apply zzb); exact BK709.out)) : gb709 ≠ gb713))
              have n10_ := Aside0.mk ((by rw [hg]; exact Nat.ne_of_gt (zzr (g := gb709) (o := .cells #[.int .i64 0, .bool false] 23 (0, 0)) (by (with_reducible repeat first | apply zzc | apply zzd | apply zzb); exact BK709.out)) : gb713 ≠ gb709))
              have n11_ := Aside0.mk ((by rw [hg]; exact Nat.ne_of_lt (zzr (g := gb712) (o := .cells #[.int .i64 x713000_16, .bool t711] 23 (0, 0)) (by (with_reducible repeat first | apply zzc | apply zzd | apply zzb); exact BK712.out)) : gb712 ≠ gb713))
              have n12_ := Aside0.mk ((by rw [hg]; exact Nat.ne_of_gt (zzr (g := gb712) (o := .cells #[.int .i64 x713000_16, .bool t711] 23 (0, 0)) (by (with_reducible repeat first | apply zzc | apply zzd | apply zzb); exact BK712.out)) : gb713 ≠ gb712))
              clear BK708
              clear BK709
              clear BK712
              clear HB
              have BK708 := n0_
              have BK709 := n1_
              have BK712 := n2_
              have HB := n3_
              have BK713 := n4_
              have GW713 := n5_
              have GE713 := n5_
              have NB708_713 := n7_
              have NB713_708 := n8_
              have NB709_713 := n9_
              have NB713_709 := n10_
              have NB712_713 := n11_
              have NB713_712 := n12_
              clear n0_ n1_ n2_ n3_ n4_ n5_ n7_ n8_ n9_ n10_ n11_ n12_
              clear hb hbox hg
              refine hK.out _ _ ⟨(zzi BK712.out 0).trans rfl, (zzi BK712.out 1).trans rfl⟩ (fun hHeld => ?_)
              clear hK K
              refine norm_ (a' := ?_) ?_ ?_
              rotate_left
              · show Act.put _ (some 4) _ = _
                simp only [Act.put, List.setIfInBounds_toArray, List.set_cons_zero, List.set_cons_succ, i64_w, i32_w]
                rfl
              refine one_ (i := 3) (N := some 5) #[true, true, true, true, false, false] rfl rfl (by kernel_rfl) (by decide) (fun K hK => ?_)
              refine box_step ?hg (N := 5) ?hd (cs := #[.int .i64 0, .bool false]) (t := 23) ?hr ?_; (case hd => rfl); (case hg => rfl); (case hr => first | (go_simp; done) | (go_simp; rfl))
              intro gb714 hg w27 hbox hb
              have n0_ := Aside0.mk (zzj (g := gb708) (o := .cells #[.int .i64 a0_0, .bool a0_1] 23 (0, 0)) (by (with_reducible repeat first | apply zzc | apply zzd | apply zzb); exact BK708.out) hb)
              have n1_ := Aside0.mk (zzj (g := gb709) (o := .cells #[.int .i64 0, .bool false] 23 (0, 0)) (by (with_reducible repeat first | apply zzc | apply zzd | apply zzb); exact BK709.out) hb)
              have n2_ := Aside0.mk (zzj (g := gb712) (o := .cells #[.int .i64 x713000_16, .bool t711] 23 (0, 0)) (by (with_reducible repeat first | apply zzc | apply zzd | apply zzb); exact BK712.out) hb)
              have n3_ := Aside0.mk (zzj (g := gb713) (o := .cells #[.int .i64 0, .bool false] 23 (0, 0)) (by (with_reducible repeat first | apply zzc | apply zzd | apply zzb); exact BK713.out) hb)
              have n4_ := Aside0.mk (zzl (by repeat (first | (with_reducible first | exact HB.out | apply zzf | apply zza | apply zzg | refine zze ?_ GE708.out | refine zze ?_ GE709.out | refine zze ?_ GE712.out | refine zze ?_ GE713.out) | exact HB.out)) hb)
              have n5_ := Aside0.mk (hbox)
              have n6_ := Aside0.mk ((by rw [hg]; exact (zzk (by repeat (first | (with_reducible first | exact HB.out | apply zzf | apply zza | apply zzg | refine zze ?_ GE708.out | refine zze ?_ GE709.out | refine zze ?_ GE712.out | refine zze ?_ GE713.out) | exact HB.out))) : w.heap.size ≤ gb714))
              have n8_ := Aside0.mk ((by rw [hg]; exact Nat.ne_of_lt (zzr (g := gb708) (o := .cells #[.int .i64 a0_0, .bool a0_1] 23 (0, 0)) (by (with_reducible repeat first | apply zzc | apply zzd | apply zzb); exact BK708.out)) : gb708 ≠ gb714))
              have n9_ := Aside0.mk ((by rw [hg]; exact Nat.ne_of_gt (zzr (g := gb708) (o := .cells #[.int .i64 a0_0, .bool a0_1] 23 (0, 0)) (by (with_reducible repeat first | apply zzc | apply zzd | apply zzb); exact BK708.out)) : gb714 ≠ gb708))
              have n10_ := Aside0.mk ((by rw [hg]; exact Nat.ne_of_lt (zzr (g := gb709) (o := .cells #[.int .i64 0, .bool false] 23 (0, 0)) (by (with_reducible repeat first | apply zzc | apply zzd | apply zzb); exact BK709.out)) : gb709 ≠ gb714))
              have n11_ := Aside0.mk ((by rw [hg]; exact Nat.ne_of_gt (zzr (g := gb709) (o := .cells #[.int .i64 0, .bool false] 23 (0, 0)) (by (with_reducible repeat first | apply zzc | apply zzd | apply zzb); exact BK709.out)) : gb714 ≠ gb709))
              have n12_ := Aside0.mk ((by rw [hg]; exact Nat.ne_of_lt (zzr (g := gb712) (o := .cells #[.int .i64 x713000_16, .bool t711] 23 (0, 0)) (by (with_reducible repeat first | apply zzc | apply zzd | apply zzb); exact BK712.out)) : gb712 ≠ gb714))
              have n13_ := Aside0.mk ((by rw [hg]; exact Nat.ne_of_gt (zzr (g := gb712) (o := .cells #[.int .i64 x713000_16, .bool t711] 23 (0, 0)) (by (with_reducible repeat first | apply zzc | apply zzd | apply zzb); exact BK712.out)) : gb714 ≠ gb712))
              have n14_ := Aside0.mk ((by rw [hg]; exact Nat.ne_of_lt (zzr (g := gb713) (o := .cells #[.int .i64 0, .bool false] 23 (0, 0)) (by (with_reducible repeat first | apply zzc | apply zzd | apply zzb); exact BK713.out)) : gb713 ≠ gb714))
              have n15_ := Aside0.mk ((by rw [hg]; exact Nat.ne_of_gt (zzr (g := gb713) (o := .cells #[.int .i64 0, .bool false] 23 (0, 0)) (by (with_reducible repeat first | apply zzc | apply zzd | apply zzb); exact BK713.out)) : gb714 ≠ gb713))
              clear BK708
              clear BK709
              clear BK712
              clear BK713
              clear HB
              have BK708 := n0_
              have BK709 := n1_
              have BK712 := n2_
              have BK713 := n3_
              have HB := n4_
              have BK714 := n5_
              have GW714 := n6_
              have GE714 := n6_
              have NB708_714 := n8_
              have NB714_708 := n9_
              have NB709_714 := n10_
              have NB714_709 := n11_
              have NB712_714 := n12_
              have NB714_712 := n13_
              have NB713_714 := n14_
              have NB714_713 := n15_
              clear n0_ n1_ n2_ n3_ n4_ n5_ n6_ n8_ n9_ n10_ n11_ n12_ n13_ n14_ n15_
              clear hb hbox hg
              refine hK.out _ _ ⟨(zzi BK712.out 0).trans rfl, (zzi BK712.out 1).trans rfl⟩ (fun hHeld => ?_)
              clear hK K
              refine norm_ (a' := ?_) ?_ ?_
              rotate_left
              · show Act.put _ (some 5) _ = _
                simp only [Act.put, List.setIfInBounds_toArray, List.set_cons_zero, List.set_cons_succ, i64_w, i32_w]
                rfl
              exact norm_ (by simp only [putAll, Act.put, List.setIfInBounds_toArray, List.set_cons_zero, List.set_cons_succ]) (hCont (gb713, gb714) _ ⟨hHeld, (by (with_reducible repeat first | apply zzc | apply zzd | apply zzb); exact BK708.out), (by (with_reducible repeat first | apply zzc | apply zzd | apply zzb); exact BK709.out), (by (with_reducible repeat first | apply zzc | apply zzd | apply zzb); exact BK712.out), (by (with_reducible repeat first | apply zzc | apply zzd | apply zzb); exact BK713.out), (by (with_reducible repeat first | apply zzc | apply zzd | apply zzb); exact BK714.out), GW713.out, GE713.out, NB708_713.out, NB713_708.out, NB709_713.out, NB713_709.out, NB712_713.out, NB713_712.out, NB714_713.out, NB713_714.out, GW714.out, GE714.out, NB708_714.out, NB714_708.out, NB709_714.out, NB714_709.out, NB712_714.out, NB714_712.out, (by repeat (first | (with_reducible first | exact HB.out | apply zzf | apply zza | apply zzg | refine zze ?_ GE708.out | refine zze ?_ GE709.out | refine zze ?_ GE712.out | refine zze ?_ GE713.out | refine zze ?_ GE714.out) | exact HB.out))⟩)
            · skip
              refine box_step ?hg (N := 5) ?hd (cs := #[.int .i64 0, .bool false]) (t := 23) ?hr ?_; (case hd => rfl); (case hg => rfl); (case hr => first | (go_simp; done) | (go_simp; rfl))
              intro gb714 hg w26 hbox hb
              have n0_ := Aside0.mk (zzj (g := gb708) (o := .cells #[.int .i64 a0_0, .bool a0_1] 23 (0, 0)) (by (with_reducible repeat first | apply zzc | apply zzd | apply zzb); exact BK708.out) hb)
              have n1_ := Aside0.mk (zzj (g := gb709) (o := .cells #[.int .i64 0, .bool false] 23 (0, 0)) (by (with_reducible repeat first | apply zzc | apply zzd | apply zzb); exact BK709.out) hb)
              have n2_ := Aside0.mk (zzj (g := gb712) (o := .cells #[.int .i64 x713000_16, .bool t711] 23 (0, 0)) (by (with_reducible repeat first | apply zzc | apply zzd | apply zzb); exact BK712.out) hb)
              have n3_ := Aside0.mk (zzl (by repeat (first | (with_reducible first | exact HB.out | apply zzf | apply zza | apply zzg | refine zze ?_ GE708.out | refine zze ?_ GE709.out | refine zze ?_ GE712.out) | exact HB.out)) hb)
              have n4_ := Aside0.mk (hbox)
              have n5_ := Aside0.mk ((by rw [hg]; exact (zzk (by repeat (first | (with_reducible first | exact HB.out | apply zzf | apply zza | apply zzg | refine zze ?_ GE708.out | refine zze ?_ GE709.out | refine zze ?_ GE712.out) | exact HB.out))) : w.heap.size ≤ gb714))
              have n7_ := Aside0.mk ((by rw [hg]; exact Nat.ne_of_lt (zzr (g := gb708) (o := .cells #[.int .i64 a0_0, .bool a0_1] 23 (0, 0)) (by (with_reducible repeat first | apply zzc | apply zzd | apply zzb); exact BK708.out)) : gb708 ≠ gb714))
              have n8_ := Aside0.mk ((by rw [hg]; exact Nat.ne_of_gt (zzr (g := gb708) (o := .cells #[.int .i64 a0_0, .bool a0_1] 23 (0, 0)) (by (with_reducible repeat first | apply zzc | apply zzd | apply zzb); exact BK708.out)) : gb714 ≠ gb708))
              have n9_ := Aside0.mk ((by rw [hg]; exact Nat.ne_of_lt (zzr (g := gb709) (o := .cells #[.int .i64 0, .bool false] 23 (0, 0)) (by (with_reducible repeat first | apply zzc | apply zzd | apply zzb); exact BK709.out)) : gb709 ≠ gb714))
              have n10_ := Aside0.mk ((by rw [hg]; exact Nat.ne_of_gt (zzr (g := gb709) (o := .cells #[.int .i64 0, .bool false] 23 (0, 0)) (by (with_reducible repeat first | apply zzc | apply zzd | apply zzb); exact BK709.out)) : gb714 ≠ gb709))
              have n11_ := Aside0.mk ((by rw [hg]; exact Nat.ne_of_lt (zzr (g := gb712) (o := .cells #[.int .i64 x713000_16, .bool t711] 23 (0, 0)) (by (with_reducible repeat first | apply zzc | apply zzd | apply zzb); exact BK712.out)) : gb712 ≠ gb714))
              have n12_ := Aside0.mk ((by rw [hg]; exact Nat.ne_of_gt (zzr (g := gb712) (o := .cells #[.int .i64 x713000_16, .bool t711] 23 (0, 0)) (by (with_reducible repeat first | apply zzc | apply zzd | apply zzb); exact BK712.out)) : gb714 ≠ gb712))
              clear BK708
              clear BK709
              clear BK712
              clear HB
              have BK708 := n0_
              have BK709 := n1_
              have BK712 := n2_
              have HB := n3_
              have BK714 := n4_
              have GW714 := n5_
              have GE714 := n5_
              have NB708_714 := n7_
              have NB714_708 := n8_
              have NB709_714 := n9_
              have NB714_709 := n10_
              have NB712_714 := n11_
              have NB714_712 := n12_
              clear n0_ n1_ n2_ n3_ n4_ n5_ n7_ n8_ n9_ n10_ n11_ n12_
              clear hb hbox hg
              refine hK.out _ _ ⟨(zzi BK712.out 0).trans rfl, (zzi BK712.out 1).trans rfl⟩ (fun hHeld => ?_)
              clear hK K
              refine norm_ (a' := ?_) ?_ ?_
              rotate_left
              · show Act.put _ (some 5) _ = _
                simp only [Act.put, List.setIfInBounds_toArray, List.set_cons_zero, List.set_cons_succ, i64_w, i32_w]
                rfl
              refine one_ (i := 2) (N := some 4) #[true, true, true, true, false, false] rfl rfl (by kernel_rfl) (by decide) (fun K hK => ?_)
              refine box_step ?hg (N := 4) ?hd (cs := #[.int .i64 0, .bool false]) (t := 23) ?hr ?_; (case hd => rfl); (case hg => rfl); (case hr => first | (go_simp; done) | (go_simp; rfl))
              intro gb713 hg w27 hbox hb
              have n0_ := Aside0.mk (zzj (g := gb708) (o := .cells #[.int .i64 a0_0, .bool a0_1] 23 (0, 0)) (by (with_reducible repeat first | apply zzc | apply zzd | apply zzb); exact BK708.out) hb)
              have n1_ := Aside0.mk (zzj (g := gb709) (o := .cells #[.int .i64 0, .bool false] 23 (0, 0)) (by (with_reducible repeat first | apply zzc | apply zzd | apply zzb); exact BK709.out) hb)
              have n2_ := Aside0.mk (zzj (g := gb712) (o := .cells #[.int .i64 x713000_16, .bool t711] 23 (0, 0)) (by (with_reducible repeat first | apply zzc | apply zzd | apply zzb); exact BK712.out) hb)
              have n3_ := Aside0.mk (zzj (g := gb714) (o := .cells #[.int .i64 0, .bool false] 23 (0, 0)) (by (with_reducible repeat first | apply zzc | apply zzd | apply zzb); exact BK714.out) hb)
              have n4_ := Aside0.mk (zzl (by repeat (first | (with_reducible first | exact HB.out | apply zzf | apply zza | apply zzg | refine zze ?_ GE708.out | refine zze ?_ GE709.out | refine zze ?_ GE712.out | refine zze ?_ GE714.out) | exact HB.out)) hb)
              have n5_ := Aside0.mk (hbox)
              have n6_ := Aside0.mk ((by rw [hg]; exact (zzk (by repeat (first | (with_reducible first | exact HB.out | apply zzf | apply zza | apply zzg | refine zze ?_ GE708.out | refine zze ?_ GE709.out | refine zze ?_ GE712.out | refine zze ?_ GE714.out) | exact HB.out))) : w.heap.size ≤ gb713))
              have n8_ := Aside0.mk ((by rw [hg]; exact Nat.ne_of_lt (zzr (g := gb708) (o := .cells #[.int .i64 a0_0, .bool a0_1] 23 (0, 0)) (by (with_reducible repeat first | apply zzc | apply zzd | apply zzb); exact BK708.out)) : gb708 ≠ gb713))
              have n9_ := Aside0.mk ((by rw [hg]; exact Nat.ne_of_gt (zzr (g := gb708) (o := .cells #[.int .i64 a0_0, .bool a0_1] 23 (0, 0)) (by (with_reducible repeat first | apply zzc | apply zzd | apply zzb); exact BK708.out)) : gb713 ≠ gb708))
              have n10_ := Aside0.mk ((by rw [hg]; exact Nat.ne_of_lt (zzr (g := gb709) (o := .cells #[.int .i64 0, .bool false] 23 (0, 0)) (by (with_reducible repeat first | apply zzc | apply zzd | apply zzb); exact BK709.out)) : gb709 ≠ gb713))
              have n11_ := Aside0.mk ((by rw [hg]; exact Nat.ne_of_gt (zzr (g := gb709) (o := .cells #[.int .i64 0, .bool false] 23 (0, 0)) (by (with_reducible repeat first | apply zzc | apply zzd | apply zzb); exact BK709.out)) : gb713 ≠ gb709))
              have n12_ := Aside0.mk ((by rw [hg]; exact Nat.ne_of_lt (zzr (g := gb712) (o := .cells #[.int .i64 x713000_16, .bool t711] 23 (0, 0)) (by (with_reducible repeat first | apply zzc | apply zzd | apply zzb); exact BK712.out)) : gb712 ≠ gb713))
              have n13_ := Aside0.mk ((by rw [hg]; exact Nat.ne_of_gt (zzr (g := gb712) (o := .cells #[.int .i64 x713000_16, .bool t711] 23 (0, 0)) (by (with_reducible repeat first | apply zzc | apply zzd | apply zzb); exact BK712.out)) : gb713 ≠ gb712))
              have n14_ := Aside0.mk ((by rw [hg]; exact Nat.ne_of_lt (zzr (g := gb714) (o := .cells #[.int .i64 0, .bool false] 23 (0, 0)) (by (with_reducible repeat first | apply zzc | apply zzd | apply zzb); exact BK714.out)) : gb714 ≠ gb713))
              have n15_ := Aside0.mk ((by rw [hg]; exact Nat.ne_of_gt (zzr (g := gb714) (o := .cells #[.int .i64 0, .bool false] 23 (0, 0)) (by (with_reducible repeat first | apply zzc | apply zzd | apply zzb); exact BK714.out)) : gb713 ≠ gb714))
              clear BK708
              clear BK709
              clear BK712
              clear BK714
              clear HB
              have BK708 := n0_
              have BK709 := n1_
              have BK712 := n2_
              have BK714 := n3_
              have HB := n4_
              have BK713 := n5_
              have GW713 := n6_
              have GE713 := n6_
              have NB708_713 := n8_
              have NB713_708 := n9_
              have NB709_713 := n10_
              have NB713_709 := n11_
              have NB712_713 := n12_
              have NB713_712 := n13_
              have NB714_713 := n14_
              have NB713_714 := n15_
              clear n0_ n1_ n2_ n3_ n4_ n5_ n6_ n8_ n9_ n10_ n11_ n12_ n13_ n14_ n15_
              clear hb hbox hg
              refine hK.out _ _ ⟨(zzi BK712.out 0).trans rfl, (zzi BK712.out 1).trans rfl⟩ (fun hHeld => ?_)
              clear hK K
              refine norm_ (a' := ?_) ?_ ?_
              rotate_left
              · show Act.put _ (some 4) _ = _
                simp only [Act.put, List.setIfInBounds_toArray, List.set_cons_zero, List.set_cons_succ, i64_w, i32_w]
                rfl
              exact norm_ (by simp only [putAll, Act.put, List.setIfInBounds_toArray, List.set_cons_zero, List.set_cons_succ]) (hCont (gb713, gb714) _ ⟨hHeld, (by (with_reducible repeat first | apply zzc | apply zzd | apply zzb); exact BK708.out), (by (with_reducible repeat first | apply zzc | apply zzd | apply zzb); exact BK709.out), (by (with_reducible repeat first | apply zzc | apply zzd | apply zzb); exact BK712.out), (by (with_reducible repeat first | apply zzc | apply zzd | apply zzb); exact BK713.out), (by (with_reducible repeat first | apply zzc | apply zzd | apply zzb); exact BK714.out), GW713.out, GE713.out, NB708_713.out, NB713_708.out, NB709_713.out, NB713_709.out, NB712_713.out, NB713_712.out, NB714_713.out, NB713_714.out, GW714.out, GE714.out, NB708_714.out, NB714_708.out, NB709_714.out, NB714_709.out, NB712_714.out, NB714_712.out, (by repeat (first | (with_reducible first | exact HB.out | apply zzf | apply zza | apply zzg | refine zze ?_ GE708.out | refine zze ?_ GE709.out | refine zze ?_ GE712.out | refine zze ?_ GE714.out | refine zze ?_ GE713.out) | exact HB.out))⟩)
          rintro ⟨gb713, gb714⟩ w28 ⟨hS_, h0_, h1_, h2_, h3_, h4_, h5_, h6_, h7_, h8_, h9_, h10_, h11_, h12_, h13_, h14_, h15_, h16_, h17_, h18_, h19_, h20_, h21_, h22_, h23_⟩
          have n0_ : Aside0 (w28.heap[gb708]? = some (.cells #[.int .i64 a0_0, .bool a0_1] 23 (0, 0))) := ⟨h0_⟩
          have n1_ : Aside0 (w28.heap[gb709]? = some (.cells #[.int .i64 0, .bool false] 23 (0, 0))) := ⟨h1_⟩
          have n2_ : Aside0 (w28.heap[gb712]? = some (.cells #[.int .i64 x713000_16, .bool t711] 23 (0, 0))) := ⟨h2_⟩
          have n3_ : Aside0 (w28.heap[gb713]? = some (.cells #[.int .i64 0, .bool false] 23 (0, 0))) := ⟨h3_⟩
          have n4_ : Aside0 (w28.heap[gb714]? = some (.cells #[.int .i64 0, .bool false] 23 (0, 0))) := ⟨h4_⟩
          have n5_ : Aside0 (w.heap.size ≤ gb713) := ⟨h5_⟩
          have n6_ : Aside0 (w.heap.size ≤ gb713) := ⟨h6_⟩
          have n7_ : Aside0 (gb708 ≠ gb713) := ⟨h7_⟩
          have n8_ : Aside0 (gb713 ≠ gb708) := ⟨h8_⟩
          have n9_ : Aside0 (gb709 ≠ gb713) := ⟨h9_⟩
          have n10_ : Aside0 (gb713 ≠ gb709) := ⟨h10_⟩
          have n11_ : Aside0 (gb712 ≠ gb713) := ⟨h11_⟩
          have n12_ : Aside0 (gb713 ≠ gb712) := ⟨h12_⟩
          have n13_ : Aside0 (gb714 ≠ gb713) := ⟨h13_⟩
          have n14_ : Aside0 (gb713 ≠ gb714) := ⟨h14_⟩
          have n15_ : Aside0 (w.heap.size ≤ gb714) := ⟨h15_⟩
          have n16_ : Aside0 (w.heap.size ≤ gb714) := ⟨h16_⟩
          have n17_ : Aside0 (gb708 ≠ gb714) := ⟨h17_⟩
          have n18_ : Aside0 (gb714 ≠ gb708) := ⟨h18_⟩
          have n19_ : Aside0 (gb709 ≠ gb714) := ⟨h19_⟩
          have n20_ : Aside0 (gb714 ≠ gb709) := ⟨h20_⟩
          have n21_ : Aside0 (gb712 ≠ gb714) := ⟨h21_⟩
          have n22_ : Aside0 (gb714 ≠ gb712) := ⟨h22_⟩
          have n23_ : Aside0 (Below w.heap.size w w28) := ⟨h23_⟩
          clear BK708
          clear BK709
          clear BK712
          clear HB
          clear h0_ h1_ h2_ h3_ h4_ h5_ h6_ h7_ h8_ h9_ h10_ h11_ h12_ h13_ h14_ h15_ h16_ h17_ h18_ h19_ h20_ h21_ h22_ h23_
          have BK708 := n0_
          have BK709 := n1_
          have BK712 := n2_
          have BK713 := n3_
          have BK714 := n4_
          have GW713 := n5_
          have GE713 := n6_
          have NB708_713 := n7_
          have NB713_708 := n8_
          have NB709_713 := n9_
          have NB713_709 := n10_
          have NB712_713 := n11_
          have NB713_712 := n12_
          have NB714_713 := n13_
          have NB713_714 := n14_
          have GW714 := n15_
          have GE714 := n16_
          have NB708_714 := n17_
          have NB714_708 := n18_
          have NB709_714 := n19_
          have NB714_709 := n20_
          have NB712_714 := n21_
          have NB714_712 := n22_
          have HB := n23_
          clear n0_ n1_ n2_ n3_ n4_ n5_ n6_ n7_ n8_ n9_ n10_ n11_ n12_ n13_ n14_ n15_ n16_ n17_ n18_ n19_ n20_ n21_ n22_ n23_
          have hHeld : w28.cell? ⟨gb712, 0, none⟩ = some (.int .i64 x713000_16) ∧ w28.cell? ⟨gb712, 1, none⟩ = some (.bool t711) := hS_
          refine norm_ (a' := ?_) ?_ ?_
          rotate_left
          · simp only [putAll, Act.put, List.setIfInBounds_toArray, List.set_cons_zero, List.set_cons_succ]
            rfl
          refine one_ (i := 4) (N := none) #[true, true, true, true, true, false] rfl rfl (by kernel_rfl) (by decide) (fun K hK => ?_)
          have hs29 : w28.cell? ⟨gb713, 0, none⟩ = some (.int .i64 0) := (zzi BK713.out 0).trans rfl
          have hfs29 := zzh BK713.out 0
          have hns29_0 := NB708_713.out
          have hns29_1 := NB709_713.out
          have hns29_2 := NB712_713.out
          have hns29_4 := NB714_713.out
          have hms29_0 := NB713_708.out
          have hms29_1 := NB713_709.out
          have hms29_2 := NB713_712.out
          have hms29_4 := NB713_714.out
          have hs30 : w28.cell? ⟨gb713, 1, none⟩ = some (.bool false) := (zzi BK713.out 1).trans rfl
          have hfs30 := zzh BK713.out 1
          have hns30_0 := NB708_713.out
          have hns30_1 := NB709_713.out
          have hns30_2 := NB712_713.out
          have hns30_4 := NB714_713.out
          have hms30_0 := NB713_708.out
          have hms30_1 := NB713_709.out
          have hms30_2 := NB713_712.out
          have hms30_4 := NB713_714.out
          refine skip_ (w1 := ?_) (by rfl) rfl ?_ ?_
          rotate_left
          · go_simp
            rfl
          refine hK.out _ _ ⟨((cell_far (p := ⟨gb713, _, none⟩) NB712_713.out _).trans (((cell_far (p := ⟨gb713, _, none⟩) NB712_713.out _).trans (hHeld.1)))), ((cell_far (p := ⟨gb713, _, none⟩) NB712_713.out _).trans (((cell_far (p := ⟨gb713, _, none⟩) NB712_713.out _).trans (hHeld.2))))⟩ (fun hHeld => ?_)
          clear hK K
          refine one_ (i := 5) (N := none) #[true, true, true, true, true, true] rfl rfl (by kernel_rfl) (by decide) (fun K hK => ?_)
          have hs31 : w28.cell? ⟨gb714, 0, none⟩ = some (.int .i64 0) := (zzi BK714.out 0).trans rfl
          have hfs31 := zzh BK714.out 0
          have hns31_0 := NB708_714.out
          have hns31_1 := NB709_714.out
          have hns31_2 := NB712_714.out
          have hns31_3 := NB713_714.out
          have hms31_0 := NB714_708.out
          have hms31_1 := NB714_709.out
          have hms31_2 := NB714_712.out
          have hms31_3 := NB714_713.out
          have hs32 : w28.cell? ⟨gb714, 1, none⟩ = some (.bool false) := (zzi BK714.out 1).trans rfl
          have hfs32 := zzh BK714.out 1
          have hns32_0 := NB708_714.out
          have hns32_1 := NB709_714.out
          have hns32_2 := NB712_714.out
          have hns32_3 := NB713_714.out
          have hms32_0 := NB714_708.out
          have hms32_1 := NB714_709.out
          have hms32_2 := NB714_712.out
          have hms32_3 := NB714_713.out
          refine skip_ (w1 := ?_) (by rfl) rfl ?_ ?_
          rotate_left
          · go_simp
            rfl
          refine hK.out _ _ ⟨((cell_far (p := ⟨gb714, _, none⟩) NB712_714.out _).trans (((cell_far (p := ⟨gb714, _, none⟩) NB712_714.out _).trans (hHeld.1)))), ((cell_far (p := ⟨gb714, _, none⟩) NB712_714.out _).trans (((cell_far (p := ⟨gb714, _, none⟩) NB712_714.out _).trans (hHeld.2))))⟩ (fun hHeld => ?_)
          clear hK K
          refine done_ (by kernel_rfl) ?_
          try go_wp2
          go_loopg [6] kj16 (fun kq v6 w' => ∃ (x6_3 : Int) (x714000_3 : Int) (x714001_3 : Bool) (x715000_3 : Int) (x715001_3 : Bool), v6 = .int .i64 x6_3 ∧ Aside0 (r_Sin.l0 kq x6_3 x713000_16 t711 x714000_3 x714001_3 x715000_3 x715001_3 = some (r1, r2)) ∧ Aside0 (kq ≤ kj16) ∧ Aside0 (w'.heap[gb708]? = some (.cells #[.int .i64 a0_0, .bool a0_1] 23 (0, 0))) ∧ Aside0 (w'.heap[gb709]? = some (.cells #[.int .i64 0, .bool false] 23 (0, 0))) ∧ Aside0 (w'.heap[gb712]? = some (.cells #[.int .i64 x713000_16, .bool t711] 23 (0, 0))) ∧ Aside0 (w'.heap[gb713]? = some (.cells #[.int .i64 x714000_3, .bool x714001_3] 23 (0, 0))) ∧ Aside0 (w'.heap[gb714]? = some (.cells #[.int .i64 x715000_3, .bool x715001_3] 23 (0, 0))) ∧ Aside0 (Below w.heap.size w w'))
          case atStart => exact ⟨(1), (x713000_16), (t711), (x713000_16), (t711), (by first | rfl | (simp; done) | (simp [*]; done)), H', ⟨Nat.le_refl _⟩, ⟨by (with_reducible repeat first | apply zzc | apply zzd | apply zzb); refine zzs ?_ NB708_714.out _; (with_reducible repeat first | apply zzc | apply zzd | apply zzb); refine zzs ?_ NB708_714.out _; (with_reducible repeat first | apply zzc | apply zzd | apply zzb); refine zzs ?_ NB708_713.out _; (with_reducible repeat first | apply zzc | apply zzd | apply zzb); refine zzs ?_ NB708_713.out _; (with_reducible repeat first | apply zzc | apply zzd | apply zzb); exact BK708.out⟩, ⟨by (with_reducible repeat first | apply zzc | apply zzd | apply zzb); refine zzs ?_ NB709_714.out _; (with_reducible repeat first | apply zzc | apply zzd | apply zzb); refine zzs ?_ NB709_714.out _; (with_reducible repeat first | apply zzc | apply zzd | apply zzb); refine zzs ?_ NB709_713.out _; (with_reducible repeat first | apply zzc | apply zzd | apply zzb); refine zzs ?_ NB709_713.out _; (with_reducible repeat first | apply zzc | apply zzd | apply zzb); exact BK709.out⟩, ⟨by (with_reducible repeat first | apply zzc | apply zzd | apply zzb); refine zzs ?_ NB712_714.out _; (with_reducible repeat first | apply zzc | apply zzd | apply zzb); refine zzs ?_ NB712_714.out _; (with_reducible repeat first | apply zzc | apply zzd | apply zzb); refine zzs ?_ NB712_713.out _; (with_reducible repeat first | apply zzc | apply zzd | apply zzb); refine zzs ?_ NB712_713.out _; (with_reducible repeat first | apply zzc | apply zzd | apply zzb); exact BK712.out⟩, ⟨by (with_reducible repeat first | apply zzc | apply zzd | apply zzb); refine zzs ?_ NB713_714.out _; (with_reducible repeat first | apply zzc | apply zzd | apply zzb); refine zzs ?_ NB713_714.out _; (with_reducible repeat first | apply zzc | apply zzd | apply zzb); refine zzo (cs := #[.int .i64 x713000_16, .bool false]) ?_ 1 _ rfl; (with_reducible repeat first | apply zzc | apply zzd | apply zzb); refine zzo (cs := #[.int .i64 0, .bool false]) ?_ 0 _ rfl; (with_reducible repeat first | apply zzc | apply zzd | apply zzb); exact BK713.out⟩, ⟨by (with_reducible repeat first | apply zzc | apply zzd | apply zzb); refine zzo (cs := #[.int .i64 x713000_16, .bool false]) ?_ 1 _ rfl; (with_reducible repeat first | apply zzc | apply zzd | apply zzb); refine zzo (cs := #[.int .i64 0, .bool false]) ?_ 0 _ rfl; (with_reducible repeat first | apply zzc | apply zzd | apply zzb); refine zzs ?_ NB714_713.out _; (with_reducible repeat first | apply zzc | apply zzd | apply zzb); refine zzs ?_ NB714_713.out _; (with_reducible repeat first | apply zzc | apply zzd | apply zzb); exact BK714.out⟩, ⟨by repeat (first | (with_reducible first | exact HB.out | apply zzf | apply zza | apply zzg | refine zze ?_ GE708.out | refine zze ?_ GE709.out | refine zze ?_ GE712.out | refine zze ?_ GE713.out | refine zze ?_ GE714.out) | exact HB.out)⟩⟩
          case round =>
            clear H'
            obtain ⟨x6_3, x714000_3, x714001_3, x715000_3, x715001_3, rfl, HA, HK3, BK708, BK709, BK712, BK713, BK714, HB⟩ := hrel
            cases gk with
            | zero => exact absurd HA.out (by simp [r_Sin.l0])
            | succ k3 =>
              have H := HA.out
              clear HA
              simp only [r_Sin.l0] at H
              by_cases c33 : x6_3 ≤ 8
              · rw [if_pos c33] at H
                have c33b0 : decide (x6_3 ≤ 8) = true := decide_eq_true c33
                clear c33
                replace H := Option.bind_eq_some_iff.mp H
                obtain ⟨⟨t717, t718⟩, A340, H⟩ := H
                replace H : ((r_Mul.f k3 t717 t718 x713000_16 t711).bind fun bt719 => ((r_Int.f k3 (wrap64 ((wrap64 (2 * x6_3)) * (wrap64 ((wrap64 (2 * x6_3)) + 1))))).bind fun bt721 => ((r_Div.f k3 bt719.1 bt719.2 bt721.1 bt721.2).bind fun bt723 => ((r_Neg.f bt723.1 bt723.2).bind fun bt725 => ((r_Add.f k3 x715000_3 x715001_3 bt725.1 bt725.2).bind fun bt727 => (r_Sin.l0 k3 (wrap64 (x6_3 + 1)) x713000_16 t711 bt725.1 bt725.2 bt727.1 bt727.2)))))) = some (r1, r2) := H
                have A34 := Aside0.mk A340
                clear A340
                replace H := Option.bind_eq_some_iff.mp H
                obtain ⟨⟨t719, t720⟩, A350, H⟩ := H
                replace H : ((r_Int.f k3 (wrap64 ((wrap64 (2 * x6_3)) * (wrap64 ((wrap64 (2 * x6_3)) + 1))))).bind fun bt721 => ((r_Div.f k3 t719 t720 bt721.1 bt721.2).bind fun bt723 => ((r_Neg.f bt723.1 bt723.2).bind fun bt725 => ((r_Add.f k3 x715000_3 x715001_3 bt725.1 bt725.2).bind fun bt727 => (r_Sin.l0 k3 (wrap64 (x6_3 + 1)) x713000_16 t711 bt725.1 bt725.2 bt727.1 bt727.2))))) = some (r1, r2) := H
                have A35 := Aside0.mk A350
                clear A350
                replace H := Option.bind_eq_some_iff.mp H
                obtain ⟨⟨t721, t722⟩, A360, H⟩ := H
                replace H : ((r_Div.f k3 t719 t720 t721 t722).bind fun bt723 => ((r_Neg.f bt723.1 bt723.2).bind fun bt725 => ((r_Add.f k3 x715000_3 x715001_3 bt725.1 bt725.2).bind fun bt727 => (r_Sin.l0 k3 (wrap64 (x6_3 + 1)) x713000_16 t711 bt725.1 bt725.2 bt727.1 bt727.2)))) = some (r1, r2) := H
                have A36 := Aside0.mk A360
                clear A360
                replace H := Option.bind_eq_some_iff.mp H
                obtain ⟨⟨t723, t724⟩, A370, H⟩ := H
                replace H : ((r_Neg.f t723 t724).bind fun bt725 => ((r_Add.f k3 x715000_3 x715001_3 bt725.1 bt725.2).bind fun bt727 => (r_Sin.l0 k3 (wrap64 (x6_3 + 1)) x713000_16 t711 bt725.1 bt725.2 bt727.1 bt727.2))) = some (r1, r2) := H
                have A37 := Aside0.mk A370
                clear A370
                replace H := Option.bind_eq_some_iff.mp H
                obtain ⟨⟨t725, t726⟩, A380, H⟩ := H
                replace H : ((r_Add.f k3 x715000_3 x715001_3 t725 t726).bind fun bt727 => (r_Sin.l0 k3 (wrap64 (x6_3 + 1)) x713000_16 t711 t725 t726 bt727.1 bt727.2)) = some (r1, r2) := H
                have A38 := Aside0.mk A380
                clear A380
                replace H := Option.bind_eq_some_iff.mp H
                obtain ⟨⟨t727, t728⟩, A390, H⟩ := H
                replace H : (r_Sin.l0 k3 (wrap64 (x6_3 + 1)) x713000_16 t711 t725 t726 t727 t728) = some (r1, r2) := H
                have A39 := Aside0.mk A390
                clear A390
                have H' := Aside0.mk H
                clear H
                try go_wp2
                have n0_ := Aside0.mk (zzd BK708.out)
                have n1_ := Aside0.mk (zzd BK709.out)
                have n2_ := Aside0.mk (zzd BK712.out)
                have n3_ := Aside0.mk (zzd BK713.out)
                have n4_ := Aside0.mk (zzd BK714.out)
                have n5_ := Aside0.mk (zzg HB.out)
                clear BK708
                clear BK709
                clear BK712
                clear BK713
                clear BK714
                clear HB
                have BK708 := n0_
                have BK709 := n1_
                have BK712 := n2_
                have BK713 := n3_
                have BK714 := n4_
                have HB := n5_
                clear n0_ n1_ n2_ n3_ n4_ n5_
                refine start_ (n := 15) (S := fun w' => w'.cell? ⟨gb713, 0, none⟩ = some (.int .i64 x714000_3) ∧ w'.cell? ⟨gb713, 1, none⟩ = some (.bool x714001_3) ∧ w'.cell? ⟨gb712, 0, none⟩ = some (.int .i64 x713000_16) ∧ w'.cell? ⟨gb712, 1, none⟩ = some (.bool t711)) (ds := [14]) #[false, false, false, false, false, false, false, false, false, false, false, false, false, false, false] (by kernel_rfl) rfl rfl ⟨(zzi BK713.out 0).trans rfl, (zzi BK713.out 1).trans rfl, (zzi BK712.out 0).trans rfl, (zzi BK712.out 1).trans rfl⟩ (fun hHeld => ?_); refine with_tabW r_Sin.tab10 r_Sin.bits10 (fun HT_ HW_ => ?_)
                generalize wr.drew = w40 at BK708 BK709 BK712 BK713 BK714 HB hHeld ⊢
                refine pure_ (i := 5) (N := some 34) (v := ?_) (a' := ?_) #[false, false, false, false, false, true, false, false, false, false, false, false, false, false, false] rfl rfl (any_of HT_.out (by kernel_rfl)) (fun _ _ _ h => h) (Or.inl ⟨by rfl, ?_⟩) ?_ ?_
                rotate_left
                · intro w'
                  go_simp
                  with_reducible rfl
                rotate_left
                · simp only [Act.put, List.setIfInBounds_toArray, List.set_cons_zero, List.set_cons_succ, i64_w, i32_w]
                  rfl
                refine pure_ (i := 6) (N := some 35) (v := ?_) (a' := ?_) #[false, false, false, false, false, true, true, false, false, false, false, false, false, false, false] rfl rfl (any_of HT_.out (by kernel_rfl)) (fun _ _ _ h => h) (Or.inl ⟨by rfl, ?_⟩) ?_ ?_
                rotate_left
                · intro w'
                  go_simp
                  with_reducible rfl
                rotate_left
                · simp only [Act.put, List.setIfInBounds_toArray, List.set_cons_zero, List.set_cons_succ, i64_w, i32_w]
                  rfl
                refine pure_ (i := 7) (N := some 36) (v := ?_) (a' := ?_) #[false, false, false, false, false, true, true, true, false, false, false, false, false, false, false] rfl rfl (any_of HT_.out (by kernel_rfl)) (fun _ _ _ h => h) (Or.inl ⟨by rfl, ?_⟩) ?_ ?_
                rotate_left
                · intro w'
                  go_simp
                  with_reducible rfl
                rotate_left
                · simp only [Act.put, List.setIfInBounds_toArray, List.set_cons_zero, List.set_cons_succ, i64_w, i32_w]
                  rfl
                refine pure_ (i := 8) (N := some 37) (v := ?_) (a' := ?_) #[false, false, false, false, false, true, true, true, true, false, false, false, false, false, false] rfl rfl (any_of HT_.out (by kernel_rfl)) (fun _ _ _ h => h) (Or.inl ⟨by rfl, ?_⟩) ?_ ?_
                rotate_left
                · intro w'
                  go_simp
                  with_reducible rfl
                rotate_left
                · simp only [Act.put, List.setIfInBounds_toArray, List.set_cons_zero, List.set_cons_succ, i64_w, i32_w]
                  rfl
                refine pure_ (i := 9) (N := some 38) (v := ?_) (a' := ?_) #[false, false, false, false, false, true, true, true, true, true, false, false, false, false, false] rfl rfl (any_of HT_.out (by kernel_rfl)) (fun _ _ _ h => h) (Or.inl ⟨by rfl, ?_⟩) ?_ ?_
                rotate_left
                · intro w'
                  go_simp
                  with_reducible rfl
                rotate_left
                · simp only [Act.put, List.setIfInBounds_toArray, List.set_cons_zero, List.set_cons_succ, i64_w, i32_w]
                  rfl
                refine pure_ (i := 10) (N := some 39) (v := ?_) (a' := ?_) #[false, false, false, false, false, true, true, true, true, true, true, false, false, false, false] rfl rfl (any_of HT_.out (by kernel_rfl)) (fun _ _ _ h => h) (Or.inl ⟨by rfl, ?_⟩) ?_ ?_
                rotate_left
                · intro w'
                  go_simp
                  with_reducible rfl
                rotate_left
                · simp only [Act.put, List.setIfInBounds_toArray, List.set_cons_zero, List.set_cons_succ, i64_w, i32_w]
                  rfl
                refine take_ (i := 0) (N := some 29) (v := ?_) (a' := ?_) #[true, false, false, false, false, true, true, true, true, true, true, false, false, false, false] rfl rfl (take_ofW HT_.out HW_.out (by kernel_rfl)) (fun _ _ _ h => h) (Or.inl ⟨by rfl, ?_⟩) hHeld ?_ ?_
                rotate_left
                · rintro w' ⟨s0, s1, s2, s3⟩
                  go_simp
                  with_reducible rfl
                rotate_left
                · simp only [Act.put, List.setIfInBounds_toArray, List.set_cons_zero, List.set_cons_succ, i64_w, i32_w]
                  rfl
                refine take_ (i := 1) (N := some 30) (v := ?_) (a' := ?_) #[true, true, false, false, false, true, true, true, true, true, true, false, false, false, false] rfl rfl (take_ofW HT_.out HW_.out (by kernel_rfl)) (fun _ _ _ h => h) (Or.inl ⟨by rfl, ?_⟩) hHeld ?_ ?_
                rotate_left
                · rintro w' ⟨s0, s1, s2, s3⟩
                  go_simp
                  with_reducible rfl
                rotate_left
                · simp only [Act.put, List.setIfInBounds_toArray, List.set_cons_zero, List.set_cons_succ, i64_w, i32_w]
                  rfl
                refine take_ (i := 3) (N := some 32) (v := ?_) (a' := ?_) #[true, true, false, true, false, true, true, true, true, true, true, false, false, false, false] rfl rfl (take_ofW HT_.out HW_.out (by kernel_rfl)) (fun _ _ _ h => h) (Or.inl ⟨by rfl, ?_⟩) hHeld ?_ ?_
                rotate_left
                · rintro w' ⟨s0, s1, s2, s3⟩
                  go_simp
                  with_reducible rfl
                rotate_left
                · simp only [Act.put, List.setIfInBounds_toArray, List.set_cons_zero, List.set_cons_succ, i64_w, i32_w]
                  rfl
                refine one_ (i := 2) (N := some 31) #[true, true, true, true, false, true, true, true, true, true, true, false, false, false, false] rfl rfl (one_of HT_.out (by kernel_rfl)) (by decide) (fun K hK => ?_)
                refine goes_ Try.func61 (by kernel_rfl) rfl #[.agg #[.int .i64 x714000_3, .bool x714001_3], .agg #[.int .i64 x713000_16, .bool t711]] (by rfl) rfl rfl (by (try simp only [List.map_toArray, List.map_cons, List.map_nil]); first | done | rfl | (simp only [List.length_drop, List.length_take]; rfl)) ?_
                with_reducible refine (r_Mul.calls k3 x714000_3 x714001_3 x713000_16 t711 t717 t718 _ A34.out).mono ?_
                rintro e w41 ⟨rfl, hb⟩
                refine ⟨_, rfl, ?_⟩
                have n0_ := Aside0.mk (zzj (g := gb708) (o := .cells #[.int .i64 a0_0, .bool a0_1] 23 (0, 0)) (by (with_reducible repeat first | apply zzc | apply zzd | apply zzb); exact BK708.out) hb)
                have n1_ := Aside0.mk (zzj (g := gb709) (o := .cells #[.int .i64 0, .bool false] 23 (0, 0)) (by (with_reducible repeat first | apply zzc | apply zzd | apply zzb); exact BK709.out) hb)
                have n2_ := Aside0.mk (zzj (g := gb712) (o := .cells #[.int .i64 x713000_16, .bool t711] 23 (0, 0)) (by (with_reducible repeat first | apply zzc | apply zzd | apply zzb); exact BK712.out) hb)
                have n3_ := Aside0.mk (zzj (g := gb713) (o := .cells #[.int .i64 x714000_3, .bool x714001_3] 23 (0, 0)) (by (with_reducible repeat first | apply zzc | apply zzd | apply zzb); exact BK713.out) hb)
                have n4_ := Aside0.mk (zzj (g := gb714) (o := .cells #[.int .i64 x715000_3, .bool x715001_3] 23 (0, 0)) (by (with_reducible repeat first | apply zzc | apply zzd | apply zzb); exact BK714.out) hb)
                have n5_ := Aside0.mk (zzl (by repeat (first | (with_reducible first | exact HB.out | apply zzf | apply zza | apply zzg | refine zze ?_ GE708.out | refine zze ?_ GE709.out | refine zze ?_ GE712.out | refine zze ?_ GE713.out | refine zze ?_ GE714.out) | exact HB.out)) hb)
                clear BK708
                clear BK709
                clear BK712
                clear BK713
                clear BK714
                clear HB
                have BK708 := n0_
                have BK709 := n1_
                have BK712 := n2_
                have BK713 := n3_
                have BK714 := n4_
                have HB := n5_
                clear n0_ n1_ n2_ n3_ n4_ n5_
                (try clear hb)
                (try clear hb2)
                (try clear hk)
                (try clear hi)
                refine hK.out _ _ ⟨(zzi BK713.out 0).trans rfl, (zzi BK713.out 1).trans rfl, (zzi BK712.out 0).trans rfl, (zzi BK712.out 1).trans rfl⟩ (fun hHeld => ?_)
                clear hK K
                refine norm_ (a' := ?_) ?_ ?_
                rotate_left
                · show Act.put _ (some 31) _ = _
                  simp only [Act.put, List.setIfInBounds_toArray, List.set_cons_zero, List.set_cons_succ, i64_w, i32_w]
                  rfl
                refine one_ (i := 4) (N := some 33) #[true, true, true, true, true, true, true, true, true, true, true, false, false, false, false] rfl rfl (one_of HT_.out (by kernel_rfl)) (by decide) (fun K hK => ?_)
                refine goes_ Try.func61 (by kernel_rfl) rfl #[.agg #[.int .i64 t717, .bool t718], .agg #[.int .i64 x713000_16, .bool t711]] (by rfl) rfl rfl (by (try simp only [List.map_toArray, List.map_cons, List.map_nil]); first | done | rfl | (simp only [List.length_drop, List.length_take]; rfl)) ?_
                with_reducible refine (r_Mul.calls k3 t717 t718 x713000_16 t711 t719 t720 _ A35.out).mono ?_
                rintro e w42 ⟨rfl, hb⟩
                refine ⟨_, rfl, ?_⟩
                have n0_ := Aside0.mk (zzj (g := gb708) (o := .cells #[.int .i64 a0_0, .bool a0_1] 23 (0, 0)) (by (with_reducible repeat first | apply zzc | apply zzd | apply zzb); exact BK708.out) hb)
                have n1_ := Aside0.mk (zzj (g := gb709) (o := .cells #[.int .i64 0, .bool false] 23 (0, 0)) (by (with_reducible repeat first | apply zzc | apply zzd | apply zzb); exact BK709.out) hb)
                have n2_ := Aside0.mk (zzj (g := gb712) (o := .cells #[.int .i64 x713000_16, .bool t711] 23 (0, 0)) (by (with_reducible repeat first | apply zzc | apply zzd | apply zzb); exact BK712.out) hb)
                have n3_ := Aside0.mk (zzj (g := gb713) (o := .cells #[.int .i64 x714000_3, .bool x714001_3] 23 (0, 0)) (by (with_reducible repeat first | apply zzc | apply zzd | apply zzb); exact BK713.out) hb)
                have n4_ := Aside0.mk (zzj (g := gb714) (o := .cells #[.int .i64 x715000_3, .bool x715001_3] 23 (0, 0)) (by (with_reducible repeat first | apply zzc | apply zzd | apply zzb); exact BK714.out) hb)
                have n5_ := Aside0.mk (zzl (by repeat (first | (with_reducible first | exact HB.out | apply zzf | apply zza | apply zzg | refine zze ?_ GE708.out | refine zze ?_ GE709.out | refine zze ?_ GE712.out | refine zze ?_ GE713.out | refine zze ?_ GE714.out) | exact HB.out)) hb)
                clear BK708
                clear BK709
                clear BK712
                clear BK713
                clear BK714
                clear HB
                have BK708 := n0_
                have BK709 := n1_
                have BK712 := n2_
                have BK713 := n3_
                have BK714 := n4_
                have HB := n5_
                clear n0_ n1_ n2_ n3_ n4_ n5_
                (try clear hb)
                (try clear hb2)
                (try clear hk)
                (try clear hi)
                refine hK.out _ _ ⟨(zzi BK713.out 0).trans rfl, (zzi BK713.out 1).trans rfl, (zzi BK712.out 0).trans rfl, (zzi BK712.out 1).trans rfl⟩ (fun hHeld => ?_)
                clear hK K
                refine norm_ (a' := ?_) ?_ ?_
                rotate_left
                · show Act.put _ (some 33) _ = _
                  simp only [Act.put, List.setIfInBounds_toArray, List.set_cons_zero, List.set_cons_succ, i64_w, i32_w]
                  rfl
                refine one_ (i := 11) (N := some 40) #[true, true, true, true, true, true, true, true, true, true, true, true, false, false, false] rfl rfl (one_of HT_.out (by kernel_rfl)) (by decide) (fun K hK => ?_)
                refine goes_ Try.func55 (by kernel_rfl) rfl #[.int .i64 (wrap64 ((wrap64 (2 * x6_3)) * (wrap64 ((wrap64 (2 * x6_3)) + 1))))] (by rfl) rfl rfl (by (try simp only [List.map_toArray, List.map_cons, List.map_nil]); first | done | rfl | (simp only [List.length_drop, List.length_take]; rfl)) ?_
                with_reducible refine (r_Int.calls k3 (wrap64 ((wrap64 (2 * x6_3)) * (wrap64 ((wrap64 (2 * x6_3)) + 1)))) t721 t722 _ A36.out).mono ?_
                rintro e w43 ⟨rfl, hb⟩
                refine ⟨_, rfl, ?_⟩
                have n0_ := Aside0.mk (zzj (g := gb708) (o := .cells #[.int .i64 a0_0, .bool a0_1] 23 (0, 0)) (by (with_reducible repeat first | apply zzc | apply zzd | apply zzb); exact BK708.out) hb)
                have n1_ := Aside0.mk (zzj (g := gb709) (o := .cells #[.int .i64 0, .bool false] 23 (0, 0)) (by (with_reducible repeat first | apply zzc | apply zzd | apply zzb); exact BK709.out) hb)
                have n2_ := Aside0.mk (zzj (g := gb712) (o := .cells #[.int .i64 x713000_16, .bool t711] 23 (0, 0)) (by (with_reducible repeat first | apply zzc | apply zzd | apply zzb); exact BK712.out) hb)
                have n3_ := Aside0.mk (zzj (g := gb713) (o := .cells #[.int .i64 x714000_3, .bool x714001_3] 23 (0, 0)) (by (with_reducible repeat first | apply zzc | apply zzd | apply zzb); exact BK713.out) hb)
                have n4_ := Aside0.mk (zzj (g := gb714) (o := .cells #[.int .i64 x715000_3, .bool x715001_3] 23 (0, 0)) (by (with_reducible repeat first | apply zzc | apply zzd | apply zzb); exact BK714.out) hb)
                have n5_ := Aside0.mk (zzl (by repeat (first | (with_reducible first | exact HB.out | apply zzf | apply zza | apply zzg | refine zze ?_ GE708.out | refine zze ?_ GE709.out | refine zze ?_ GE712.out | refine zze ?_ GE713.out | refine zze ?_ GE714.out) | exact HB.out)) hb)
                clear BK708
                clear BK709
                clear BK712
                clear BK713
                clear BK714
                clear HB
                have BK708 := n0_
                have BK709 := n1_
                have BK712 := n2_
                have BK713 := n3_
                have BK714 := n4_
                have HB := n5_
                clear n0_ n1_ n2_ n3_ n4_ n5_
                (try clear hb)
                (try clear hb2)
                (try clear hk)
                (try clear hi)
                refine hK.out _ _ ⟨(zzi BK713.out 0).trans rfl, (zzi BK713.out 1).trans rfl, (zzi BK712.out 0).trans rfl, (zzi BK712.out 1).trans rfl⟩ (fun hHeld => ?_)
                clear hK K
                refine norm_ (a' := ?_) ?_ ?_
                rotate_left
                · show Act.put _ (some 40) _ = _
                  simp only [Act.put, List.setIfInBounds_toArray, List.set_cons_zero, List.set_cons_succ, i64_w, i32_w]
                  rfl
                refine one_ (i := 12) (N := some 41) #[true, true, true, true, true, true, true, true, true, true, true, true, true, false, false] rfl rfl (one_of HT_.out (by kernel_rfl)) (by decide) (fun K hK => ?_)
                refine goes_ Try.func62 (by kernel_rfl) rfl #[.agg #[.int .i64 t719, .bool t720], .agg #[.int .i64 t721, .bool t722]] (by rfl) rfl rfl (by (try simp only [List.map_toArray, List.map_cons, List.map_nil]); first | done | rfl | (simp only [List.length_drop, List.length_take]; rfl)) ?_
                with_reducible refine (r_Div.calls k3 t719 t720 t721 t722 t723 t724 _ A37.out).mono ?_
                rintro e w44 ⟨rfl, hb⟩
                refine ⟨_, rfl, ?_⟩
                have n0_ := Aside0.mk (zzj (g := gb708) (o := .cells #[.int .i64 a0_0, .bool a0_1] 23 (0, 0)) (by (with_reducible repeat first | apply zzc | apply zzd | apply zzb); exact BK708.out) hb)
                have n1_ := Aside0.mk (zzj (g := gb709) (o := .cells #[.int .i64 0, .bool false] 23 (0, 0)) (by (with_reducible repeat first | apply zzc | apply zzd | apply zzb); exact BK709.out) hb)
                have n2_ := Aside0.mk (zzj (g := gb712) (o := .cells #[.int .i64 x713000_16, .bool t711] 23 (0, 0)) (by (with_reducible repeat first | apply zzc | apply zzd | apply zzb); exact BK712.out) hb)
                have n3_ := Aside0.mk (zzj (g := gb713) (o := .cells #[.int .i64 x714000_3, .bool x714001_3] 23 (0, 0)) (by (with_reducible repeat first | apply zzc | apply zzd | apply zzb); exact BK713.out) hb)
                have n4_ := Aside0.mk (zzj (g := gb714) (o := .cells #[.int .i64 x715000_3, .bool x715001_3] 23 (0, 0)) (by (with_reducible repeat first | apply zzc | apply zzd | apply zzb); exact BK714.out) hb)
                have n5_ := Aside0.mk (zzl (by repeat (first | (with_reducible first | exact HB.out | apply zzf | apply zza | apply zzg | refine zze ?_ GE708.out | refine zze ?_ GE709.out | refine zze ?_ GE712.out | refine zze ?_ GE713.out | refine zze ?_ GE714.out) | exact HB.out)) hb)
                clear BK708
                clear BK709
                clear BK712
                clear BK713
                clear BK714
                clear HB
                have BK708 := n0_
                have BK709 := n1_
                have BK712 := n2_
                have BK713 := n3_
                have BK714 := n4_
                have HB := n5_
                clear n0_ n1_ n2_ n3_ n4_ n5_
                (try clear hb)
                (try clear hb2)
                (try clear hk)
                (try clear hi)
                refine hK.out _ _ ⟨(zzi BK713.out 0).trans rfl, (zzi BK713.out 1).trans rfl, (zzi BK712.out 0).trans rfl, (zzi BK712.out 1).trans rfl⟩ (fun hHeld => ?_)
                clear hK K
                refine norm_ (a' := ?_) ?_ ?_
                rotate_left
                · show Act.put _ (some 41) _ = _
                  simp only [Act.put, List.setIfInBounds_toArray, List.set_cons_zero, List.set_cons_succ, i64_w, i32_w]
                  rfl
                refine one_ (i := 13) (N := some 42) #[true, true, true, true, true, true, true, true, true, true, true, true, true, true, false] rfl rfl (one_of HT_.out (by kernel_rfl)) (by decide) (fun K hK => ?_)
                refine goes_ Try.func57 (by kernel_rfl) rfl #[.agg #[.int .i64 t723, .bool t724]] (by rfl) rfl rfl (by (try simp only [List.map_toArray, List.map_cons, List.map_nil]); first | done | rfl | (simp only [List.length_drop, List.length_take]; rfl)) ?_
                with_reducible refine (r_Neg.calls t723 t724 t725 t726 _ A38.out).mono ?_
                rintro e w45 ⟨rfl, hb⟩
                refine ⟨_, rfl, ?_⟩
                have n0_ := Aside0.mk (zzj (g := gb708) (o := .cells #[.int .i64 a0_0, .bool a0_1] 23 (0, 0)) (by (with_reducible repeat first | apply zzc | apply zzd | apply zzb); exact BK708.out) hb)
                have n1_ := Aside0.mk (zzj (g := gb709) (o := .cells #[.int .i64 0, .bool false] 23 (0, 0)) (by (with_reducible repeat first | apply zzc | apply zzd | apply zzb); exact BK709.out) hb)
                have n2_ := Aside0.mk (zzj (g := gb712) (o := .cells #[.int .i64 x713000_16, .bool t711] 23 (0, 0)) (by (with_reducible repeat first | apply zzc | apply zzd | apply zzb); exact BK712.out) hb)
                have n3_ := Aside0.mk (zzj (g := gb713) (o := .cells #[.int .i64 x714000_3, .bool x714001_3] 23 (0, 0)) (by (with_reducible repeat first | apply zzc | apply zzd | apply zzb); exact BK713.out) hb)
                have n4_ := Aside0.mk (zzj (g := gb714) (o := .cells #[.int .i64 x715000_3, .bool x715001_3] 23 (0, 0)) (by (with_reducible repeat first | apply zzc | apply zzd | apply zzb); exact BK714.out) hb)
                have n5_ := Aside0.mk (zzl (by repeat (first | (with_reducible first | exact HB.out | apply zzf | apply zza | apply zzg | refine zze ?_ GE708.out | refine zze ?_ GE709.out | refine zze ?_ GE712.out | refine zze ?_ GE713.out | refine zze ?_ GE714.out) | exact HB.out)) hb)
                clear BK708
                clear BK709
                clear BK712
                clear BK713
                clear BK714
                clear HB
                have BK708 := n0_
                have BK709 := n1_
                have BK712 := n2_
                have BK713 := n3_
                have BK714 := n4_
                have HB := n5_
                clear n0_ n1_ n2_ n3_ n4_ n5_
                (try clear hb)
                (try clear hb2)
                (try clear hk)
                (try clear hi)
                refine hK.out _ _ ⟨(zzi BK713.out 0).trans rfl, (zzi BK713.out 1).trans rfl, (zzi BK712.out 0).trans rfl, (zzi BK712.out 1).trans rfl⟩ (fun hHeld => ?_)
                clear hK K
                refine norm_ (a' := ?_) ?_ ?_
                rotate_left
                · show Act.put _ (some 42) _ = _
                  simp only [Act.put, List.setIfInBounds_toArray, List.set_cons_zero, List.set_cons_succ, i64_w, i32_w]
                  rfl
                refine last_ (i := 14) (N := none) #[true, true, true, true, true, true, true, true, true, true, true, true, true, true, true] rfl rfl (one_of HT_.out (by kernel_rfl)) (by decide) (fun K hK => ?_)
                have hs46 : w45.cell? ⟨gb713, 0, none⟩ = some (.int .i64 x714000_3) := (zzi BK713.out 0).trans rfl
                have hfs46 := zzh BK713.out 0
                have hns46_0 := NB708_713.out
                have hns46_1 := NB709_713.out
                have hns46_2 := NB712_713.out
                have hns46_4 := NB714_713.out
                have hms46_0 := NB713_708.out
                have hms46_1 := NB713_709.out
                have hms46_2 := NB713_712.out
                have hms46_4 := NB713_714.out
                have hs47 : w45.cell? ⟨gb713, 1, none⟩ = some (.bool x714001_3) := (zzi BK713.out 1).trans rfl
                have hfs47 := zzh BK713.out 1
                have hns47_0 := NB708_713.out
                have hns47_1 := NB709_713.out
                have hns47_2 := NB712_713.out
                have hns47_4 := NB714_713.out
                have hms47_0 := NB713_708.out
                have hms47_1 := NB713_709.out
                have hms47_2 := NB713_712.out
                have hms47_4 := NB713_714.out
                refine skip_ (w1 := ?_) (by rfl) rfl ?_ ?_
                rotate_left
                · go_simp
                  rfl
                refine hK.out _ _ ?_
                clear hK K
                refine done_ (done_of HT_.out (by kernel_rfl)) ?_
                have hnb48 := NB714_708.out
                have hnc48 := NB708_714.out
                have hnb49 := NB714_709.out
                have hnc49 := NB709_714.out
                have hnb50 := NB714_712.out
                have hnc50 := NB712_714.out
                have hnb51 := NB714_713.out
                have hnc51 := NB713_714.out
                have hcz52_0 : w45.cell? ⟨gb714, 0, none⟩ = some (.int .i64 x715000_3) := (zzi BK714.out 0).trans rfl
                have hcz52_1 : w45.cell? ⟨gb714, 1, none⟩ = some (.bool x715001_3) := (zzi BK714.out 1).trans rfl
                have hfz52_0 := zzh BK714.out 0
                have hfz52_1 := zzh BK714.out 1
                have hnb53 := NB713_708.out
                have hnc53 := NB708_713.out
                have hnb54 := NB713_709.out
                have hnc54 := NB709_713.out
                have hnb55 := NB713_712.out
                have hnc55 := NB712_713.out
                have hcz56_0 : w45.cell? ⟨gb713, 0, none⟩ = some (.int .i64 x714000_3) := (zzi BK713.out 0).trans rfl
                have hcz56_1 : w45.cell? ⟨gb713, 1, none⟩ = some (.bool x714001_3) := (zzi BK713.out 1).trans rfl
                have hfz56_0 := zzh BK713.out 0
                have hfz56_1 := zzh BK713.out 1
                try go_wp2_with (first | ((with_reducible refine zzq (f := 59) rfl ?_); refine goesL_ (some 45) rfl rfl Try.func59 (by kernel_rfl) rfl #[.agg #[.int .i64 x715000_3, .bool x715001_3], .agg #[.int .i64 t725, .bool t726]] rfl (by (try simp only [List.map_toArray, List.map_cons, List.map_nil]); first | done | rfl | (simp only [List.length_drop, List.length_take]; rfl)) ?_; (with_reducible refine (r_Add.calls k3 x715000_3 x715001_3 t725 t726 t727 t728 _ A39.out).mono ?_); rintro e w57 ⟨rfl, hb⟩; refine ⟨_, rfl, ?_⟩; have n0_ := Aside0.mk (zzj (g := gb708) (o := .cells #[.int .i64 a0_0, .bool a0_1] 23 (0, 0)) (by (with_reducible repeat first | apply zzc | apply zzd | apply zzb); refine zzs ?_ NB708_713.out _; (with_reducible repeat first | apply zzc | apply zzd | apply zzb); refine zzs ?_ NB708_713.out _; (with_reducible repeat first | apply zzc | apply zzd | apply zzb); exact BK708.out) hb); have n1_ := Aside0.mk (zzj (g := gb709) (o := .cells #[.int .i64 0, .bool false] 23 (0, 0)) (by (with_reducible repeat first | apply zzc | apply zzd | apply zzb); refine zzs ?_ NB709_713.out _; (with_reducible repeat first | apply zzc | apply zzd | apply zzb); refine zzs ?_ NB709_713.out _; (with_reducible repeat first | apply zzc | apply zzd | apply zzb); exact BK709.out) hb); have n2_ := Aside0.mk (zzj (g := gb712) (o := .cells #[.int .i64 x713000_16, .bool t711] 23 (0, 0)) (by (with_reducible repeat first | apply zzc | apply zzd | apply zzb); refine zzs ?_ NB712_713.out _; (with_reducible repeat first | apply zzc | apply zzd | apply zzb); refine zzs ?_ NB712_713.out _; (with_reducible repeat first | apply zzc | apply zzd | apply zzb); exact BK712.out) hb); have n3_ := Aside0.mk (zzj (g := gb713) (o := .cells #[.int .i64 t725, .bool t726] 23 (0, 0)) (by (with_reducible repeat first | apply zzc | apply zzd | apply zzb); refine zzo (cs := #[.int .i64 t725, .bool x714001_3]) ?_ 1 _ rfl; (with_reducible repeat first | apply zzc | apply zzd | apply zzb); refine zzo (cs := #[.int .i64 x714000_3, .bool x714001_3]) ?_ 0 _ rfl; (with_reducible repeat first | apply zzc | apply zzd | apply zzb); exact BK713.out) hb); have n4_ := Aside0.mk (zzj (g := gb714) (o := .cells #[.int .i64 x715000_3, .bool x715001_3] 23 (0, 0)) (by (with_reducible repeat first | apply zzc | apply zzd | apply zzb); refine zzs ?_ NB714_713.out _; (with_reducible repeat first | apply zzc | apply zzd | apply zzb); refine zzs ?_ NB714_713.out _; (with_reducible repeat first | apply zzc | apply zzd | apply zzb); exact BK714.out) hb); have n5_ := Aside0.mk (zzl (by repeat (first | (with_reducible first | exact HB.out | apply zzf | apply zza | apply zzg | refine zze ?_ GE708.out | refine zze ?_ GE709.out | refine zze ?_ GE712.out | refine zze ?_ GE713.out | refine zze ?_ GE714.out) | exact HB.out)) hb); clear BK708; clear BK709; clear BK712; clear BK713; clear BK714; clear HB; have BK708 := n0_; have BK709 := n1_; have BK712 := n2_; have BK713 := n3_; have BK714 := n4_; have HB := n5_; clear n0_ n1_ n2_ n3_ n4_ n5_; have hcz58_0 : w57.cell? ⟨gb714, 0, none⟩ = some (.int .i64 x715000_3) := (zzi BK714.out 0).trans rfl; have hcz58_1 : w57.cell? ⟨gb714, 1, none⟩ = some (.bool x715001_3) := (zzi BK714.out 1).trans rfl; have hfz58_0 := zzh BK714.out 0; have hfz58_1 := zzh BK714.out 1))
                go_roundg k3
                case measure => have := HJ2.out; have := HJ16.out; have := HK3.out; omega
                case rel => exact ⟨(wrap64 (x6_3 + 1)), (t725), (t726), (t727), (t728), (by first | rfl | (simp; done) | (simp [*]; done)), H', ⟨by have := HJ2.out; have := HJ16.out; have := HK3.out; omega⟩, ⟨by (with_reducible repeat first | apply zzc | apply zzd | apply zzb); refine zzs ?_ NB708_714.out _; (with_reducible repeat first | apply zzc | apply zzd | apply zzb); refine zzs ?_ NB708_714.out _; (with_reducible repeat first | apply zzc | apply zzd | apply zzb); exact BK708.out⟩, ⟨by (with_reducible repeat first | apply zzc | apply zzd | apply zzb); refine zzs ?_ NB709_714.out _; (with_reducible repeat first | apply zzc | apply zzd | apply zzb); refine zzs ?_ NB709_714.out _; (with_reducible repeat first | apply zzc | apply zzd | apply zzb); exact BK709.out⟩, ⟨by (with_reducible repeat first | apply zzc | apply zzd | apply zzb); refine zzs ?_ NB712_714.out _; (with_reducible repeat first | apply zzc | apply zzd | apply zzb); refine zzs ?_ NB712_714.out _; (with_reducible repeat first | apply zzc | apply zzd | apply zzb); exact BK712.out⟩, ⟨by (with_reducible repeat first | apply zzc | apply zzd | apply zzb); refine zzs ?_ NB713_714.out _; (with_reducible repeat first | apply zzc | apply zzd | apply zzb); refine zzs ?_ NB713_714.out _; (with_reducible repeat first | apply zzc | apply zzd | apply zzb); exact BK713.out⟩, ⟨by (with_reducible repeat first | apply zzc | apply zzd | apply zzb); refine zzo (cs := #[.int .i64 t727, .bool x715001_3]) ?_ 1 _ rfl; (with_reducible repeat first | apply zzc | apply zzd | apply zzb); refine zzo (cs := #[.int .i64 x715000_3, .bool x715001_3]) ?_ 0 _ rfl; (with_reducible repeat first | apply zzc | apply zzd | apply zzb); exact BK714.out⟩, ⟨by repeat (first | (with_reducible first | exact HB.out | apply zzf | apply zza | apply zzg | refine zze ?_ GE708.out | refine zze ?_ GE709.out | refine zze ?_ GE712.out | refine zze ?_ GE713.out | refine zze ?_ GE714.out) | exact HB.out)⟩⟩
              · rw [if_neg c33] at H
                have c33b0 : decide (x6_3 ≤ 8) = false := decide_eq_false c33
                clear c33
                replace H := Option.bind_eq_some_iff.mp H
                obtain ⟨⟨t715, t716⟩, A590, H⟩ := H
                replace H : (some (t715, t716)) = some (r1, r2) := H
                have A59 := Aside0.mk A590
                clear A590
                simp only [Option.some.injEq, Prod.mk.injEq] at H
                obtain ⟨rfl, rfl⟩ := H
                have hnb60 := NB714_708.out
                have hnc60 := NB708_714.out
                have hnb61 := NB714_709.out
                have hnc61 := NB709_714.out
                have hnb62 := NB714_712.out
                have hnc62 := NB712_714.out
                have hnb63 := NB714_713.out
                have hnc63 := NB713_714.out
                have hcz64_0 : wr.cell? ⟨gb714, 0, none⟩ = some (.int .i64 x715000_3) := (zzi BK714.out 0).trans rfl
                have hcz64_1 : wr.cell? ⟨gb714, 1, none⟩ = some (.bool x715001_3) := (zzi BK714.out 1).trans rfl
                have hfz64_0 := zzh BK714.out 0
                have hfz64_1 := zzh BK714.out 1
                go_wp2_with (first | ((with_reducible refine zzq (f := 36) rfl ?_); refine goesL_ (some 49) rfl rfl Try.func36 (by kernel_rfl) rfl #[.agg #[.int .i64 x715000_3, .bool x715001_3], .agg #[.int .i64 (-4294967296), .bool false], .agg #[.int .i64 4294967296, .bool false]] rfl (by (try simp only [List.map_toArray, List.map_cons, List.map_nil]); first | done | rfl | (simp only [List.length_drop, List.length_take]; rfl)) ?_; (with_reducible refine (r_Clamp.calls k3 x715000_3 x715001_3 (-4294967296) false 4294967296 false t715 t716 _ A59.out).mono ?_); rintro e w65 ⟨rfl, hb⟩; refine ⟨_, rfl, ?_⟩; have n1_ := Aside0.mk (zzj (g := gb709) (o := .cells #[.int .i64 0, .bool false] 23 (0, 0)) (by (with_reducible repeat first | apply zzc | apply zzd | apply zzb); exact BK709.out) hb); have n5_ := Aside0.mk (zzl (by repeat (first | (with_reducible first | exact HB.out | apply zzf | apply zza | apply zzg | refine zze ?_ GE708.out | refine zze ?_ GE709.out | refine zze ?_ GE712.out | refine zze ?_ GE713.out | refine zze ?_ GE714.out) | exact HB.out)) hb); clear BK709; clear HB; have BK709 := n1_; have HB := n5_; clear n1_ n5_; have hnb66 := NB709_708.out; have hnc66 := NB708_709.out; have hnb67 := NB709_712.out; have hnc67 := NB712_709.out; have hnb68 := NB709_713.out; have hnc68 := NB713_709.out; have hcz69_0 : w65.cell? ⟨gb709, 0, none⟩ = some (.int .i64 0) := (zzi BK709.out 0).trans rfl; have hcz69_1 : w65.cell? ⟨gb709, 1, none⟩ = some (.bool false) := (zzi BK709.out 1).trans rfl; have hfz69_0 := zzh BK709.out 0; have hfz69_1 := zzh BK709.out 1))
                refine bodyPost_ret (results_cell_row rfl _ _ gb709 23 #[.int .i64 t715, .bool t716] (0, 0) _ rfl (by (with_reducible repeat first | apply zzc | apply zzd | apply zzb); refine zzo (cs := #[.int .i64 t715, .bool false]) ?_ 1 _ rfl; (with_reducible repeat first | apply zzc | apply zzd | apply zzb); refine zzo (cs := #[.int .i64 0, .bool false]) ?_ 0 _ rfl; (with_reducible repeat first | apply zzc | apply zzd | apply zzb); exact BK709.out) Try.underlying23 rfl (by kernel_rfl)) rfl ?_
                exact ⟨by first | rfl | (simp [zzn, zzm] <;> rfl) | (simp [*, zzn, zzm] <;> rfl), by repeat (first | (with_reducible first | exact HB.out | apply zzf | apply zza | apply zzg | refine zze ?_ GE708.out | refine zze ?_ GE709.out | refine zze ?_ GE712.out | refine zze ?_ GE713.out | refine zze ?_ GE714.out) | exact HB.out)⟩
end Go.Proofs.Ytenpiaafkmfjfaa.B

end
section
namespace Go.Proofs.Ytenpiaafkmfjfaa.B
open Go.RowKit Go.Proofs.YtenpiaafkmfjfaaW.PrintWords Go.Proofs.YtenpiaafkmfjfaaW.PrintLast
set_option linter.unusedVariables false
set_option linter.unusedSimpArgs false
attribute [local go_sem high] eqA23
def r_Cos.f (k : Nat) (a0_0 : Int) (a0_1 : Bool) : Option (Int × Bool) := (r_Wrap.f a0_0 a0_1).bind fun bt731 => ((r_Add.f k bt731.1 bt731.2 6746518852 false).bind fun bt733 => ((r_Sin.f k bt733.1 bt733.2).bind fun bt735 => (some (bt735.1, bt735.2))))
set_option maxHeartbeats 8000000 in
set_option maxRecDepth 100000 in
theorem r_Cos.calls (k : Nat) (a0_0 : Int) (a0_1 : Bool) (r1 : Int) (r2 : Bool) (w : World) (h : r_Cos.f k a0_0 a0_1 = some (r1, r2)) :
    Calls Try.prog 71 #[.agg #[.int .i64 a0_0, .bool a0_1]] w fun e w' => e = .returned (.agg #[.int .i64 r1, .bool r2]) ∧ Below w.heap.size w w' := by
  have hu23 := Try.underlying23
  have HB := Aside0.mk (Below.refl w.heap.size w)
  have H : ((r_Wrap.f a0_0 a0_1).bind fun bt731 => ((r_Add.f k bt731.1 bt731.2 6746518852 false).bind fun bt733 => ((r_Sin.f k bt733.1 bt733.2).bind fun bt735 => (some (bt735.1, bt735.2))))) = some (r1, r2) := h
  clear h
  replace H := Option.bind_eq_some_iff.mp H
  obtain ⟨⟨t731, t732⟩, A20, H⟩ := H
  replace H : ((r_Add.f k t731 t732 6746518852 false).bind fun bt733 => ((r_Sin.f k bt733.1 bt733.2).bind fun bt735 => (some (bt735.1, bt735.2)))) = some (r1, r2) := H
  have A2 := Aside0.mk A20
  clear A20
  replace H := Option.bind_eq_some_iff.mp H
  obtain ⟨⟨t733, t734⟩, A30, H⟩ := H
  replace H : ((r_Sin.f k t733 t734).bind fun bt735 => (some (bt735.1, bt735.2))) = some (r1, r2) := H
  have A3 := Aside0.mk A30
  clear A30
  replace H := Option.bind_eq_some_iff.mp H
  obtain ⟨⟨t735, t736⟩, A40, H⟩ := H
  replace H : (some (t735, t736)) = some (r1, r2) := H
  have A4 := Aside0.mk A40
  clear A40
  simp only [Option.some.injEq, Prod.mk.injEq] at H
  obtain ⟨rfl, rfl⟩ := H
  go_enter Try.func71, Try.ntmps71
  go_wp2_with (first | ((with_reducible refine zzt (N := 1) rfl ?_); refine zzp ?hg (N := 1) ?hd (cs := #[.int .i64 a0_0, .bool a0_1]) (t := 23) ?hr ?_; (case hd => rfl); (case hg => rfl); (case hr => first | (go_simp; done) | (go_simp; rfl)); intro gb729 hg w5 hbox hb; have n0_ := Aside0.mk (zzl (by repeat (first | (with_reducible first | exact HB.out | apply zzf | apply zza | apply zzg) | exact HB.out)) hb); have n1_ := Aside0.mk (hbox); have n3_ := Aside0.mk ((by rw [hg]; exact (zzk (by repeat (first | (with_reducible first | exact HB.out | apply zzf | apply zza | apply zzg) | exact HB.out))) : w.heap.size ≤ gb729)); clear HB; have HB := n0_; have BK729 := n1_; have GE729 := n3_; clear n0_ n1_ n3_; clear hb hbox hg) | ((with_reducible refine zzt (N := 2) rfl ?_); refine zzp ?hg (N := 2) ?hd (cs := #[.int .i64 0, .bool false]) (t := 23) ?hr ?_; (case hd => rfl); (case hg => rfl); (case hr => first | (go_simp; done) | (go_simp; rfl)); intro gb730 hg w6 hbox hb; have n0_ := Aside0.mk (zzj (g := gb729) (o := .cells #[.int .i64 a0_0, .bool a0_1] 23 (0, 0)) (by (with_reducible repeat first | apply zzc | apply zzd | apply zzb); exact BK729.out) hb); have n1_ := Aside0.mk (zzl (by repeat (first | (with_reducible first | exact HB.out | apply zzf | apply zza | apply zzg | refine zze ?_ GE729.out) | exact HB.out)) hb); have n2_ := Aside0.mk (hbox); have n4_ := Aside0.mk ((by rw [hg]; exact (zzk (by repeat (first | (with_reducible first | exact HB.out | apply zzf | apply zza | apply zzg | refine zze ?_ GE729.out) | exact HB.out))) : w.heap.size ≤ gb730)); have n5_ := Aside0.mk ((by rw [hg]; exact Nat.ne_of_lt (zzr (g := gb729) (o := .cells #[.int .i64 a0_0, .bool a0_1] 23 (0, 0)) (by (with_reducible repeat first | apply zzc | apply zzd | apply zzb); exact BK729.out)) : gb729 ≠ gb730)); have n6_ := Aside0.mk ((by rw [hg]; exact Nat.ne_of_gt (zzr (g := gb729) (o := .cells #[.int .i64 a0_0, .bool a0_1] 23 (0, 0)) (by (with_reducible repeat first | apply zzc | apply zzd | apply zzb); exact BK729.out)) : gb730 ≠ gb729)); clear BK729; clear HB; have BK729 := n0_; have HB := n1_; have BK730 := n2_; have GE730 := n4_; have NB729_730 := n5_; have NB730_729 := n6_; clear n0_ n1_ n2_ n4_ n5_ n6_; clear hb hbox hg; have hnb7 := NB729_730.out; have hnc7 := NB730_729.out; have hcz8_0 : w6.cell? ⟨gb729, 0, none⟩ = some (.int .i64 a0_0) := (zzi BK729.out 0).trans rfl; have hcz8_1 : w6.cell? ⟨gb729, 1, none⟩ = some (.bool a0_1) := (zzi BK729.out 1).trans rfl; have hfz8_0 := zzh BK729.out 0; have hfz8_1 := zzh BK729.out 1) | ((with_reducible refine zzq (f := 69) rfl ?_); refine goesL_ (some 4) rfl rfl Try.func69 (by kernel_rfl) rfl #[.agg #[.int .i64 a0_0, .bool a0_1]] rfl (by (try simp only [List.map_toArray, List.map_cons, List.map_nil]); first | done | rfl | (simp only [List.length_drop, List.length_take]; rfl)) ?_; (with_reducible refine (r_Wrap.calls a0_0 a0_1 t731 t732 _ A2.out).mono ?_); rintro e w9 ⟨rfl, hb⟩; refine ⟨_, rfl, ?_⟩; have n1_ := Aside0.mk (zzj (g := gb730) (o := .cells #[.int .i64 0, .bool false] 23 (0, 0)) (by (with_reducible repeat first | apply zzc | apply zzd | apply zzb); exact BK730.out) hb); have n2_ := Aside0.mk (zzl (by repeat (first | (with_reducible first | exact HB.out | apply zzf | apply zza | apply zzg | refine zze ?_ GE729.out | refine zze ?_ GE730.out) | exact HB.out)) hb); clear BK730; clear HB; have BK730 := n1_; have HB := n2_; clear n1_ n2_; (try clear hi)) | ((with_reducible refine zzq (f := 59) rfl ?_); refine goesL_ (some 6) rfl rfl Try.func59 (by kernel_rfl) rfl #[.agg #[.int .i64 t731, .bool t732], .agg #[.int .i64 6746518852, .bool false]] rfl (by (try simp only [List.map_toArray, List.map_cons, List.map_nil]); first | done | rfl | (simp only [List.length_drop, List.length_take]; rfl)) ?_; (with_reducible refine (r_Add.calls k t731 t732 6746518852 false t733 t734 _ A3.out).mono ?_); rintro e w10 ⟨rfl, hb⟩; refine ⟨_, rfl, ?_⟩; have n1_ := Aside0.mk (zzj (g := gb730) (o := .cells #[.int .i64 0, .bool false] 23 (0, 0)) (by (with_reducible repeat first | apply zzc | apply zzd | apply zzb); exact BK730.out) hb); have n2_ := Aside0.mk (zzl (by repeat (first | (with_reducible first | exact HB.out | apply zzf | apply zza | apply zzg | refine zze ?_ GE729.out | refine zze ?_ GE730.out) | exact HB.out)) hb); clear BK730; clear HB; have BK730 := n1_; have HB := n2_; clear n1_ n2_; (try clear hi)) | ((with_reducible refine zzq (f := 70) rfl ?_); refine goesL_ (some 7) rfl rfl Try.func70 (by kernel_rfl) rfl #[.agg #[.int .i64 t733, .bool t734]] rfl (by (try simp only [List.map_toArray, List.map_cons, List.map_nil]); first | done | rfl | (simp only [List.length_drop, List.length_take]; rfl)) ?_; (with_reducible refine (r_Sin.calls k t733 t734 t735 t736 _ A4.out).mono ?_); rintro e w11 ⟨rfl, hb⟩; refine ⟨_, rfl, ?_⟩; have n1_ := Aside0.mk (zzj (g := gb730) (o := .cells #[.int .i64 0, .bool false] 23 (0, 0)) (by (with_reducible repeat first | apply zzc | apply zzd | apply zzb); exact BK730.out) hb); have n2_ := Aside0.mk (zzl (by repeat (first | (with_reducible first | exact HB.out | apply zzf | apply zza | apply zzg | refine zze ?_ GE729.out | refine zze ?_ GE730.out) | exact HB.out)) hb); clear BK730; clear HB; have BK730 := n1_; have HB := n2_; clear n1_ n2_; have hcz12_0 : w11.cell? ⟨gb730, 0, none⟩ = some (.int .i64 0) := (zzi BK730.out 0).trans rfl; have hcz12_1 : w11.cell? ⟨gb730, 1, none⟩ = some (.bool false) := (zzi BK730.out 1).trans rfl; have hfz12_0 := zzh BK730.out 0; have hfz12_1 := zzh BK730.out 1))
  refine bodyPost_ret (results_cell_row rfl _ _ gb730 23 #[.int .i64 t735, .bool t736] (0, 0) _ rfl (by (with_reducible repeat first | apply zzc | apply zzd | apply zzb); refine zzo (cs := #[.int .i64 t735, .bool false]) ?_ 1 _ rfl; (with_reducible repeat first | apply zzc | apply zzd | apply zzb); refine zzo (cs := #[.int .i64 0, .bool false]) ?_ 0 _ rfl; (with_reducible repeat first | apply zzc | apply zzd | apply zzb); exact BK730.out) Try.underlying23 rfl (by kernel_rfl)) rfl ?_
  exact ⟨by first | rfl | (simp [zzn, zzm] <;> rfl) | (simp [*, zzn, zzm] <;> rfl), by repeat (first | (with_reducible first | exact HB.out | apply zzf | apply zza | apply zzg | refine zze ?_ GE729.out | refine zze ?_ GE730.out) | exact HB.out)⟩
end Go.Proofs.Ytenpiaafkmfjfaa.B

end
section
namespace Go.Proofs.Ytenpiaafkmfjfaa.B
open Go.RowKit Go.Proofs.YtenpiaafkmfjfaaW.PrintWords Go.Proofs.YtenpiaafkmfjfaaW.PrintLast
theorem neg_r {v : Int} (f : Bool) (h : I64 v) : r_Neg.f v f = some (-(sv v), sf v f) := by
  have hs := sv_i64 h
  unfold Snd at hs
  unfold r_Neg.f
  rw [whole_f, Option.bind_some]
  dsimp only
  rw [wrap64_id (by omega) (by omega)]
theorem flagged_loop (l : List S23) (hl : l.length ≤ 1000000) : ∀ (m i k : Nat), m + i = l.length → m + 1 ≤ k → r_flagged.l0 k l i = some (anyF (l.drop i)) := by
  intro m
  induction m with
  | zero =>
    intro i k hm hk
    obtain ⟨k, rfl⟩ : ∃ z, k = z + 1 := ⟨k - 1, by omega⟩
    rw [r_flagged.l0, if_neg (by omega), List.drop_of_length_le (by omega)]
    rfl
  | succ m ih =>
    intro i k hm hk
    obtain ⟨k, rfl⟩ : ∃ z, k = z + 1 := ⟨k - 1, by omega⟩
    have hi : i < l.length := by omega
    rw [r_flagged.l0, if_pos (by omega), if_pos (by omega), rd_at hi, whole_f, Option.bind_some, List.drop_eq_getElem_cons hi]
    dsimp only
    unfold anyF at ih ⊢
    rw [List.any_cons]
    by_cases h : sf l[i].f0 l[i].f1 = true
    · rw [if_pos h, h]; rfl
    · rw [if_neg h, wrap64_id (by omega) (by omega), show (i : Int) + 1 = ((i + 1 : Nat) : Int) by omega, ih (i + 1) k (by omega) (by omega)]
      rw [show sf l[i].f0 l[i].f1 = false by simpa using h]; rfl
theorem flagged_f (l : List S23) (hl : l.length ≤ 1000000) (k : Nat) (hk : l.length + 1 ≤ k) : r_flagged.f k l = some (anyF l) := by
  unfold r_flagged.f
  have := flagged_loop l hl l.length 0 k (by omega) hk
  rw [show ((0 : Nat) : Int) = 0 from rfl] at this
  rw [this]; rfl
theorem sum_loop_r (l : List S23) (hs : ∀ x ∈ l, I64 x.f0) (hl : l.length ≤ 1000000) : ∀ (m i k : Nat) (n : Bool) (lo hi x : Int), m + i = l.length → m + l.length + 3 ≤ k → Rx n hi lo x → x.natAbs ≤ i * 9223372036854775808 →
    r_Sum.l0 k l i n hi lo = some (fitV (x + (vals (l.drop i)).sum), fitF (x + (vals (l.drop i)).sum) (anyF l)) := by
  intro m
  induction m with
  | zero =>
    intro i k n lo hi x hm hk hx hb
    obtain ⟨k, rfl⟩ : ∃ z, k = z + 1 := ⟨k - 1, by omega⟩
    rw [r_Sum.l0, if_neg (by omega), flagged_f l hl k (by omega), Option.bind_some, fit_r hx.ex _ k (by omega), Option.bind_some, List.drop_of_length_le (by omega)]
    simp [vals]
  | succ m ih =>
    intro i k n lo hi x hm hk hx hb
    obtain ⟨k, rfl⟩ : ∃ z, k = z + 1 := ⟨k - 1, by omega⟩
    have hi' : i < l.length := by omega
    have hv : Snd (sv l[i].f0) := sv_i64 (hs _ (List.getElem_mem hi'))
    have hv2 := hv
    unfold Snd at hv2
    obtain ⟨lo1, e1, x1⟩ := exact_r hv
    obtain ⟨n2, hi2, lo2, e2, x2⟩ := plus_r hx x1 (by omega)
    rw [r_Sum.l0, if_pos (by omega), if_pos (by omega), rd_at hi', whole_f, Option.bind_some]
    dsimp only
    rw [e1, Option.bind_some]
    dsimp only
    rw [e2, Option.bind_some]
    dsimp only
    rw [wrap64_id (by omega) (by omega), show (i : Int) + 1 = ((i + 1 : Nat) : Int) by omega, ih (i + 1) k n2 lo2 hi2 (x + sv l[i].f0) (by omega) (by omega) x2 (by omega), List.drop_eq_getElem_cons hi']
    have : vals (l[i] :: l.drop (i + 1)) = sv l[i].f0 :: vals (l.drop (i + 1)) := rfl
    rw [this, List.sum_cons, Int.add_assoc]
theorem sum_r (k : Nat) (l : List S23) (h : ∀ x ∈ l, I64 x.f0) (hl : l.length ≤ 1000000) (hk : 2 * l.length + 3 ≤ k) : r_Sum.f k l = some (fitV (vals l).sum, fitF (vals l).sum (anyF l)) := by
  unfold r_Sum.f
  have := sum_loop_r l h hl l.length 0 k false 0 0 0 (by omega) (by omega) ⟨⟨by omega, by omega, by omega, by omega, fun _ => by omega, fun h => absurd h (by decide)⟩, by decide⟩ (by omega)
  rw [show ((0 : Nat) : Int) = 0 from rfl] at this
  rw [this]
  simp
theorem add_r (k : Nat) (hk : 7 ≤ k) {a b : Int} (fa fb : Bool) (ha : I64 a) (hb : I64 b) : r_Add.f k a fa b fb = some (fitV (sv a + sv b), fitF (sv a + sv b) (sf a fa || sf b fb)) := by
  unfold r_Add.f
  rw [sum_r k _ (by intro x hx; simp at hx; rcases hx with rfl | rfl <;> assumption) (by simp) (by simpa using hk)]
  simp [vals, anyF]
theorem min_loop_r (l : List S23) (hl : l.length ≤ 1000000) : ∀ (n i k : Nat) (m : Int), n + i = l.length → n + l.length + 2 ≤ k → r_Min.l0 k l m i = some ((vals (l.drop i)).foldl minS m, anyF l) := by
  intro n
  induction n with
  | zero =>
    intro i k m hm hk
    obtain ⟨k, rfl⟩ : ∃ z, k = z + 1 := ⟨k - 1, by omega⟩
    rw [r_Min.l0, if_neg (by omega), flagged_f l hl k (by omega), Option.bind_some, List.drop_of_length_le (by omega)]
    rfl
  | succ n ih =>
    intro i k m hm hk
    obtain ⟨k, rfl⟩ : ∃ z, k = z + 1 := ⟨k - 1, by omega⟩
    have hi : i < l.length := by omega
    have e : vals (l[i] :: l.drop (i + 1)) = sv l[i].f0 :: vals (l.drop (i + 1)) := rfl
    rw [r_Min.l0, if_pos (by omega), if_pos (by omega), rd_at hi, whole_f, Option.bind_some, List.drop_eq_getElem_cons hi, e, List.foldl_cons, wrap64_id (x := (i : Int) + 1) (by omega) (by omega), show (i : Int) + 1 = ((i + 1 : Nat) : Int) by omega]
    dsimp only
    unfold minS at ih ⊢
    by_cases h : sv l[i].f0 < m
    · rw [if_pos h, if_pos h, ih (i + 1) k _ (by omega) (by omega)]
    · rw [if_neg h, if_neg h, ih (i + 1) k _ (by omega) (by omega)]
theorem max_loop_r (l : List S23) (hl : l.length ≤ 1000000) : ∀ (n i k : Nat) (m : Int), n + i = l.length → n + l.length + 2 ≤ k → r_Max.l0 k l m i = some ((vals (l.drop i)).foldl maxS m, anyF l) := by
  intro n
  induction n with
  | zero =>
    intro i k m hm hk
    obtain ⟨k, rfl⟩ : ∃ z, k = z + 1 := ⟨k - 1, by omega⟩
    rw [r_Max.l0, if_neg (by omega), flagged_f l hl k (by omega), Option.bind_some, List.drop_of_length_le (by omega)]
    rfl
  | succ n ih =>
    intro i k m hm hk
    obtain ⟨k, rfl⟩ : ∃ z, k = z + 1 := ⟨k - 1, by omega⟩
    have hi : i < l.length := by omega
    have e : vals (l[i] :: l.drop (i + 1)) = sv l[i].f0 :: vals (l.drop (i + 1)) := rfl
    rw [r_Max.l0, if_pos (by omega), if_pos (by omega), rd_at hi, whole_f, Option.bind_some, List.drop_eq_getElem_cons hi, e, List.foldl_cons, wrap64_id (x := (i : Int) + 1) (by omega) (by omega), show (i : Int) + 1 = ((i + 1 : Nat) : Int) by omega]
    dsimp only
    unfold maxS at ih ⊢
    by_cases h : sv l[i].f0 > m
    · rw [if_pos h, if_pos h, ih (i + 1) k _ (by omega) (by omega)]
    · rw [if_neg h, if_neg h, ih (i + 1) k _ (by omega) (by omega)]
theorem min_r (l : List S23) (hl : l.length ≤ 1000000) (k : Nat) (hk : 2 * l.length + 2 ≤ k) : r_Min.f k l = some (minL (vals l), anyF l) := by
  unfold r_Min.f
  cases l with
  | nil => rw [if_pos (by simp)]; rfl
  | cons x l =>
    have h3 : (x :: l).length = l.length + 1 := rfl
    rw [if_neg (by omega), if_pos (by omega), show rd_T23 (x :: l) 0 = x from rfl, whole_f, Option.bind_some]
    dsimp only
    have := min_loop_r (x :: l) hl l.length 1 k (sv x.f0) (by omega) (by omega)
    rw [show ((1 : Nat) : Int) = 1 from rfl] at this
    rw [this]
    rfl
theorem max_r (l : List S23) (hl : l.length ≤ 1000000) (k : Nat) (hk : 2 * l.length + 2 ≤ k) : r_Max.f k l = some (maxL (vals l), anyF l) := by
  unfold r_Max.f
  cases l with
  | nil => rw [if_pos (by simp)]; rfl
  | cons x l =>
    have h3 : (x :: l).length = l.length + 1 := rfl
    rw [if_neg (by omega), if_pos (by omega), show rd_T23 (x :: l) 0 = x from rfl, whole_f, Option.bind_some]
    dsimp only
    have := max_loop_r (x :: l) hl l.length 1 k (sv x.f0) (by omega) (by omega)
    rw [show ((1 : Nat) : Int) = 1 from rfl] at this
    rw [this]
    rfl
theorem clamp_r (k : Nat) (hk : 6 ≤ k) {a b c : Int} (fa fb fc : Bool) (ha : I64 a) (hc : I64 c) : r_Clamp.f k a fa b fb c fc = some (clampV (sv a) (sv b) (sv c), (sf b fb || (sf a fa || sf c fc))) := by
  have hs : Snd (minS (sv a) (sv c)) := by rcases minS_or (sv a) (sv c) with e | e <;> rw [e] <;> apply sv_i64 <;> assumption
  unfold r_Clamp.f
  rw [min_r _ (by simp) k (by simpa using hk), Option.bind_some]
  dsimp only
  rw [max_r _ (by simp) k (by simpa using hk), Option.bind_some]
  have e1 : vals [(⟨a, fa⟩ : S23), ⟨c, fc⟩] = [sv a, sv c] := rfl
  have e2 : anyF [(⟨a, fa⟩ : S23), ⟨c, fc⟩] = (sf a fa || sf c fc) := by simp [anyF]
  have e3 : minL [sv a, sv c] = minS (sv a) (sv c) := rfl
  rw [e1, e2, e3]
  have e4 : ∀ f, vals [(⟨b, fb⟩ : S23), ⟨minS (sv a) (sv c), f⟩] = [sv b, sv (minS (sv a) (sv c))] := fun _ => rfl
  have e5 : ∀ f, anyF [(⟨b, fb⟩ : S23), ⟨minS (sv a) (sv c), f⟩] = (sf b fb || f) := fun f => by simp [anyF, sf_id hs]
  rw [e4, e5, sv_id hs]
  rfl
end Go.Proofs.Ytenpiaafkmfjfaa.B

end
section
namespace Go.Proofs.Ytenpiaafkmfjfaa.B
open Go.RowKit Go.Proofs.YtenpiaafkmfjfaaW.PrintWords Go.Proofs.YtenpiaafkmfjfaaW.PrintLast
theorem up_r {n : Bool} {lo : Int} (h0 : 0 ≤ lo) (h1 : lo < 18446744073709551616) : r_up.f n 0 lo = some (n, lo / 4294967296, lo % 4294967296 * 4294967296) := by
  unfold r_up.f
  rw [u64_id (x := 0 * 4294967296) (by omega) (by omega), or32 0 _ (by omega) (by omega) (by omega) (by omega), IntKind.wrap_u64]
  rw [show 0 * 4294967296 + lo / 4294967296 = lo / 4294967296 by omega, show lo * 4294967296 % 18446744073709551616 = lo % 4294967296 * 4294967296 by omega]
theorem down_r {n : Bool} {lo hi x : Int} (h : Ex n lo hi x) : ∃ hi' lo', r_down.f n hi lo = some (n, hi', lo') ∧ Ex n lo' hi' (x.tdiv 4294967296) := by
  obtain ⟨h1, h2, h3, h4, hp, hm⟩ := h
  unfold r_down.f
  refine ⟨_, _, rfl, ?_⟩
  have e : IntKind.u64.wrap (hi * 4294967296) = (hi % 4294967296) * 4294967296 := by rw [IntKind.wrap_u64]; omega
  rw [e, or32 _ _ (by omega) (by omega) (by omega) (by omega)]
  refine ⟨by omega, by omega, by omega, by omega, fun e => ?_, fun e => ?_⟩
  · have := hp e
    rw [Int.tdiv_eq_ediv_of_nonneg (by omega)]; omega
  · have := hm e
    rw [this, Int.neg_tdiv, Int.tdiv_eq_ediv_of_nonneg (by omega)]; omega
theorem exact_rf {v : Int} (h : I64 v) : r_exact.f v = some (decide (v < 0), 0, (v.natAbs : Int)) := by
  unfold r_exact.f
  rw [size_f h, Option.bind_some]
theorem int_r (k : Nat) (hk : 1 ≤ k) {v : Int} (h : I64 v) : r_Int.f k v = some (fitV (v * 4294967296), fitF (v * 4294967296) false) := by
  unfold r_Int.f
  rw [exact_rf h, Option.bind_some]
  unfold I64 at h
  dsimp only
  rw [up_r (by omega) (by omega), Option.bind_some]
  dsimp only
  rw [fit_r (x := v * 4294967296) _ false k hk]
  · rfl
  · refine ⟨by omega, by omega, by omega, by omega, fun e => ?_, fun e => ?_⟩
    · have := of_decide_eq_false e; omega
    · have := of_decide_eq_true e; omega
theorem mul_r (k : Nat) (hk : 3 ≤ k) {a b : Int} (fa fb : Bool) (ha : I64 a) (hb : I64 b) : r_Mul.f k a fa b fb = some (fitV ((sv a * sv b).tdiv 4294967296), fitF ((sv a * sv b).tdiv 4294967296) (sf a fa || sf b fb)) := by
  unfold r_Mul.f
  rw [whole_f, Option.bind_some, whole_f, Option.bind_some]
  dsimp only
  obtain ⟨n, hi, lo, e, x⟩ := times_ex (sv_i64 ha).i64 (sv_i64 hb).i64
  rw [e, Option.bind_some]
  dsimp only
  obtain ⟨hi', lo', e', x'⟩ := down_r x.ex
  rw [e', Option.bind_some]
  dsimp only
  rw [fit_r x' _ k (by omega), fit_r x' _ k (by omega)]
  by_cases h : sf a fa = true
  · rw [if_pos h, h]; rfl
  · rw [if_neg h, show sf a fa = false by simpa using h]; rfl
end Go.Proofs.Ytenpiaafkmfjfaa.B

end
section
namespace Go.Proofs.Ytenpiaafkmfjfaa.B
open Go.RowKit Go.Proofs.YtenpiaafkmfjfaaW.PrintWords Go.Proofs.YtenpiaafkmfjfaaW.PrintLast
theorem and_one (a : Nat) (h : a < 18446744073709551616) : bits .and .u64 (a : Int) 1 = ((a % 2 : Nat) : Int) := by
  have := bits_and_u64_nat a 1 h (by decide)
  rw [show ((1 : Nat) : Int) = 1 from rfl] at this
  rw [this, show (1 : Nat) = 2 ^ 1 - 1 by decide, Nat.and_two_pow_sub_one_eq_mod]
theorem or_bt (r b : Nat) (hb : b < 2) (h : 2 * r + b < 18446744073709551616) : bits .or .u64 (IntKind.u64.wrap ((r : Int) * 2)) (b : Int) = ((2 * r + b : Nat) : Int) := by
  have := or_add 1 r b hb h
  rw [u64_id (x := (r : Int) * 2) (by omega) (by omega), show (r : Int) * 2 = ((2 ^ 1 * r : Nat) : Int) by simp; omega]
  exact this
theorem or_bit' (r b : Nat) (hb : b < 2) : bits .or .u64 (IntKind.u64.wrap ((r : Int) * 2)) (b : Int) = ((2 * r % 18446744073709551616 + b : Nat) : Int) := by
  have := or_add 1 (r % 9223372036854775808) b hb (by omega)
  rw [IntKind.wrap_u64, show (r : Int) * 2 % 18446744073709551616 = ((2 ^ 1 * (r % 9223372036854775808) : Nat) : Int) by simp; omega, this]
  omega
theorem bit_of (N hi lo i : Nat) (hN : N = hi * 18446744073709551616 + lo) (hl : lo < 18446744073709551616) : N / 2 ^ i % 2 = if 64 ≤ i then hi / 2 ^ (i - 64) % 2 else lo / 2 ^ i % 2 := by
  split
  · rename_i h
    have e : (2 : Nat) ^ i = 18446744073709551616 * 2 ^ (i - 64) := by
      rw [show (18446744073709551616 : Nat) = 2 ^ 64 by decide, ← Nat.pow_add, show 64 + (i - 64) = i by omega]
    rw [e, ← Nat.div_div_eq_div_mul, show N / 18446744073709551616 = hi by omega]
  · rename_i h
    have e : (18446744073709551616 : Nat) = 2 ^ i * (2 * 2 ^ (63 - i)) := by
      rw [show (18446744073709551616 : Nat) = 2 ^ 64 by decide, ← Nat.pow_succ', ← Nat.pow_add, show i + (63 - i + 1) = 64 by omega]
    rw [hN]
    rw [show hi * 18446744073709551616 = 2 ^ i * (hi * (2 * 2 ^ (63 - i))) by rw [e, Nat.mul_left_comm]]
    rw [Nat.mul_add_div (Nat.two_pow_pos i)]
    rw [show hi * (2 * 2 ^ (63 - i)) = 2 * (hi * 2 ^ (63 - i)) by rw [Nat.mul_left_comm]]
    omega
theorem half_of (N i : Nat) : N / 2 ^ i = 2 * (N / 2 ^ (i + 1)) + N / 2 ^ i % 2 := by
  rw [Nat.pow_succ, ← Nat.div_div_eq_div_mul]
  omega
theorem over_step (y rem q c : Nat) (b : Nat) (hc : q * y + rem = c) : (y ≤ 2 * rem + b → (2 * q + 1) * y + (2 * rem + b - y) = 2 * c + b) ∧ (2 * q * y + (2 * rem + b) = 2 * c + b) := by
  refine ⟨fun h => ?_, ?_⟩
  · rw [Nat.add_mul, Nat.mul_assoc]; omega
  · rw [Nat.mul_assoc]; omega
theorem over_loop (N hi lo y : Nat) (n n' : Bool) (hN : N = hi * 18446744073709551616 + lo) (hl : lo < 18446744073709551616) (hh : hi < 9223372036854775808) (hy0 : 0 < y) (hy : y ≤ 9223372036854775808) :
    ∀ (m k rem q : Nat), m ≤ 128 → m + 1 ≤ k → rem < y → q * y + rem = N / 2 ^ m →
      r_over.l0 k (y : Int) (rem : Int) ((m : Int) - 1) n (hi : Int) (lo : Int) n' ((q / 18446744073709551616 : Nat) : Int) ((q % 18446744073709551616 : Nat) : Int) = some (n', ((N / y / 18446744073709551616 : Nat) : Int), ((N / y % 18446744073709551616 : Nat) : Int)) := by
  intro m
  induction m with
  | zero =>
    intro k rem q hm hk hr hq
    obtain ⟨k, rfl⟩ : ∃ z, k = z + 1 := ⟨k - 1, by omega⟩
    rw [r_over.l0, if_neg (by omega)]
    have : N / y = q := by
      rw [Nat.pow_zero, Nat.div_one] at hq
      rw [← hq, Nat.mul_comm, Nat.mul_add_div hy0, Nat.div_eq_of_lt hr]; omega
    rw [this]
  | succ m ih =>
    intro k rem q hm hk hr hq
    obtain ⟨k, rfl⟩ : ∃ z, k = z + 1 := ⟨k - 1, by omega⟩
    have hb := bit_of N hi lo m hN hl
    have hhalf := half_of N m
    have hb2 : N / 2 ^ m % 2 < 2 := Nat.mod_lt _ (by decide)
    rw [← hq] at hhalf
    have hbound : N / 2 ^ m ≤ N := Nat.div_le_self _ _
    obtain ⟨s1, s2⟩ := over_step y rem q (q * y + rem) (N / 2 ^ m % 2) rfl
    have hqy : q ≤ q * y := Nat.le_mul_of_pos_right q hy0
    have hqb : q < 85070591730234615865843651857942052864 := by omega
    have i1 : ((m + 1 : Nat) : Int) - 1 = (m : Int) := by omega
    have hq1 : q / 18446744073709551616 < 9223372036854775808 := by omega
    have hq0 : q % 18446744073709551616 < 18446744073709551616 := Nat.mod_lt _ (by decide)
    have qd : ((q % 18446744073709551616 : Nat) : Int) / 9223372036854775808 = ((q % 18446744073709551616 / 9223372036854775808 : Nat) : Int) := by omega
    have qhi : bits .or .u64 (IntKind.u64.wrap (((q / 18446744073709551616 : Nat) : Int) * 2)) (((q % 18446744073709551616 / 9223372036854775808 : Nat)) : Int) = ((2 * q / 18446744073709551616 : Nat) : Int) := by
      rw [or_bt _ _ (by omega) (by omega)]; congr 1; omega
    have qhi' : (2 * q + 1) / 18446744073709551616 = 2 * q / 18446744073709551616 := by omega
    have qlo1 : bits .or .u64 (IntKind.u64.wrap (((q % 18446744073709551616 : Nat) : Int) * 2)) 1 = (((2 * q + 1) % 18446744073709551616 : Nat) : Int) := by
      have := or_bit' (q % 18446744073709551616) 1 (by decide)
      rw [show ((1 : Nat) : Int) = 1 from rfl] at this
      rw [this]; congr 1; omega
    have qlo0 : IntKind.u64.wrap (((q % 18446744073709551616 : Nat) : Int) * 2) = ((2 * q % 18446744073709551616 : Nat) : Int) := by rw [IntKind.wrap_u64]; omega
    have fin : (if (2 * rem + N / 2 ^ m % 2 : Nat) ≥ (y : Int) then r_over.l0 k (y : Int) (IntKind.u64.wrap (((2 * rem + N / 2 ^ m % 2 : Nat) : Int) - (y : Int))) ((m : Int) - 1) n (hi : Int) (lo : Int) n' ((2 * q / 18446744073709551616 : Nat) : Int) (((2 * q + 1) % 18446744073709551616 : Nat) : Int) else r_over.l0 k (y : Int) ((2 * rem + N / 2 ^ m % 2 : Nat) : Int) ((m : Int) - 1) n (hi : Int) (lo : Int) n' ((2 * q / 18446744073709551616 : Nat) : Int) ((2 * q % 18446744073709551616 : Nat) : Int)) = some (n', ((N / y / 18446744073709551616 : Nat) : Int), ((N / y % 18446744073709551616 : Nat) : Int)) := by
      generalize N / 2 ^ m % 2 = b at *
      by_cases hge : y ≤ 2 * rem + b
      · rw [if_pos (by omega), u64_id (by omega) (by omega), show ((2 * rem + b : Nat) : Int) - (y : Int) = ((2 * rem + b - y : Nat) : Int) by omega, ← qhi']
        exact ih k (2 * rem + b - y) (2 * q + 1) (by omega) (by omega) (by omega) (by rw [s1 hge]; omega)
      · rw [if_neg (by omega)]
        exact ih k (2 * rem + b) (2 * q) (by omega) (by omega) (by omega) (by rw [s2]; omega)
    rw [r_over.l0, i1, if_pos (by omega), u64_id (x := (m : Int)) (by omega) (by omega), if_pos (by omega), qd, qhi, qlo1, qlo0, wrap64_id (x := (m : Int) - 1) (by omega) (by omega)]
    by_cases hm64 : 64 ≤ m
    · rw [if_pos hm64] at hb
      rw [if_pos (by omega), wrap64_id (x := (m : Int) - 64) (by omega) (by omega), u64_id (x := (m : Int) - 64) (by omega) (by omega), if_pos (by omega), show (m : Int) - 64 = ((m - 64 : Nat) : Int) by omega, shr_nat hi (m - 64) (by omega)]
      have hle := Nat.div_le_self hi (2 ^ (m - 64))
      rw [and_one _ (by omega), ← hb, or_bt rem _ hb2 (by omega)]
      exact fin
    · rw [if_neg hm64] at hb
      have hle := Nat.div_le_self lo (2 ^ m)
      rw [if_neg (by omega), shr_nat lo m (by omega), and_one _ (by omega), ← hb, or_bt rem _ hb2 (by omega)]
      exact fin
end Go.Proofs.Ytenpiaafkmfjfaa.B

end
section
namespace Go.Proofs.Ytenpiaafkmfjfaa.B
open Go.RowKit Go.Proofs.YtenpiaafkmfjfaaW.PrintWords Go.Proofs.YtenpiaafkmfjfaaW.PrintLast
theorem over_f (k : Nat) (hk : 129 ≤ k) (n : Bool) (hi lo y : Nat) (hl : lo < 18446744073709551616) (hh : hi < 9223372036854775808) (hy0 : 0 < y) (hy : y ≤ 9223372036854775808) :
    r_over.f k n (hi : Int) (lo : Int) (y : Int) = some (n, (((hi * 18446744073709551616 + lo) / y / 18446744073709551616 : Nat) : Int), (((hi * 18446744073709551616 + lo) / y % 18446744073709551616 : Nat) : Int)) := by
  unfold r_over.f
  have := over_loop (hi * 18446744073709551616 + lo) hi lo y n n rfl hl hh hy0 hy 128 k 0 0 (by omega) (by omega) hy0 (by
    rw [Nat.div_eq_of_lt (by omega)]; omega)
  exact this
theorem ratio_r (k : Nat) (hk : 129 ≤ k) {a b : Int} (ha : I64 a) (hb : I64 b) (h0 : b ≠ 0) : r_Ratio.f k a b = some (fitV ((a * 4294967296).tdiv b), fitF ((a * 4294967296).tdiv b) false) := by
  unfold r_Ratio.f
  rw [if_neg h0, exact_rf ha, Option.bind_some, size_f hb]
  dsimp only
  unfold I64 at ha hb
  have d1 : (a.natAbs : Int) / 4294967296 = ((a.natAbs / 4294967296 : Nat) : Int) := by omega
  have d2 : (a.natAbs : Int) % 4294967296 * 4294967296 = ((a.natAbs % 4294967296 * 4294967296 : Nat) : Int) := by omega
  rw [up_r (by omega) (by omega), Option.bind_some]
  dsimp only
  rw [Option.bind_some, d1, d2, over_f k hk _ _ _ _ (by omega) (by omega) (by omega) (by omega), Option.bind_some]
  dsimp only
  have ht := tdiv_abs (a * 4294967296) b
  have eN : a.natAbs / 4294967296 * 18446744073709551616 + a.natAbs % 4294967296 * 4294967296 = (a * 4294967296).natAbs := by omega
  rw [show decide (a * 4294967296 < 0) = decide (a < 0) by rw [decide_eq_decide]; omega] at ht
  rw [eN]
  have hle : (a * 4294967296).natAbs / b.natAbs ≤ (a * 4294967296).natAbs := Nat.div_le_self _ _
  rw [fit_r (x := (a * 4294967296).tdiv b) _ false k (by omega)]
  · rfl
  · rw [ht]
    have hN : (a * 4294967296).natAbs < 170141183460469231731687303715884105728 := by omega
    generalize (a * 4294967296).natAbs / b.natAbs = q at hle ⊢
    refine ⟨by omega, by omega, by omega, by omega, fun e => ?_, fun e => ?_⟩
    · rw [if_neg (by rw [e]; decide)]; omega
    · rw [if_pos e]; omega
theorem div_r (k : Nat) (hk : 129 ≤ k) {a b : Int} (fa fb : Bool) (ha : I64 a) (hb : I64 b) (h0 : sv b ≠ 0) : r_Div.f k a fa b fb = some (fitV ((sv a * 4294967296).tdiv (sv b)), fitF ((sv a * 4294967296).tdiv (sv b)) (sf a fa || sf b fb)) := by
  unfold r_Div.f
  rw [whole_f, Option.bind_some, whole_f, Option.bind_some]
  dsimp only
  rw [if_neg h0, ratio_r k hk (sv_i64 ha).i64 (sv_i64 hb).i64 h0, Option.bind_some]
  dsimp only
  by_cases h : fitF ((sv a * 4294967296).tdiv (sv b)) false = true
  · rw [if_pos h, fitF_out _ h]
  · rw [if_neg h, fitF_in _ (by simpa using h)]
    by_cases h2 : sf a fa = true
    · rw [if_pos h2, h2]; rfl
    · rw [if_neg h2, show sf a fa = false by simpa using h2]; rfl
end Go.Proofs.Ytenpiaafkmfjfaa.B

end
