/- FixedTurns: part 4 of the proof. -/
import Derived.Test.YtenpiaafkmfjfaaQFixedTurns3
section
namespace Go.Proofs.Ytenpiaafkmfjfaa.B
open Go.RowKit Go.Proofs.YtenpiaafkmfjfaaW.PrintWords Go.Proofs.YtenpiaafkmfjfaaW.PrintLast
set_option linter.unusedVariables false
set_option linter.unusedSimpArgs false
def fixed_flags.l0 : Nat → List (S23) → Int → Int → Option (Bool)
  | 0, _, _, _ => none
  | k + 1, x5, x6, x7 => if x7 < x6 then (if 0 ≤ x7 then (if x7 < (x5.length : Int) then (if (rd_T23 x5 x7).f1 = true then (some true) else (fixed_flags.l0 k x5 x6 (wrap64 (x7 + 1)))) else (none)) else (none)) else (some false)
def fixed_flags.f (k : Nat) (l0 : List (S23)) : Option (Bool) := fixed_flags.l0 k l0 (l0.length : Int) 0
set_option maxHeartbeats 8000000 in
set_option maxRecDepth 100000 in
theorem fixed_flags.calls (k : Nat) (A0 : Option Addr) (c0 : Nat) (l0 : List (S23)) (r : Bool) (w : World) (hr0 : Kd.C k23 w A0 l0.length l0) (hc0 : l0.length ≤ c0) (h : fixed_flags.f k l0 = some r) :
    Calls Try.prog 88 #[.slice A0 l0.length c0] w fun e w' => e = .returned (.bool r) ∧ Below w.heap.size w w' := by
  have hu23 := Try.underlying23
  have HR0 := Aside0.mk hr0
  have HC0 := Aside0.mk hc0
  clear hr0 hc0
  have HB := Aside0.mk (Below.refl w.heap.size w)
  have H : (fixed_flags.l0 k l0 (l0.length : Int) 0) = some r := h
  clear h
  have H' := Aside0.mk H
  clear H
  go_enter Try.func88, Try.ntmps88
  go_wp2
  go_loopg [7] k (fun kq v7 w' => ∃ (x7_1 : Int), v7 = .int .i64 x7_1 ∧ Aside0 (fixed_flags.l0 kq l0 (l0.length : Int) x7_1 = some r) ∧ Aside0 (kq ≤ k) ∧ Aside0 (Below w.heap.size w w'))
  case atStart => exact ⟨(0), (by first | rfl | (simp; done) | (simp [*]; done)), H', ⟨Nat.le_refl _⟩, ⟨by repeat (first | (with_reducible first | exact HB.out | apply zzf | apply zza | apply zzg) | exact HB.out)⟩⟩
  case round =>
    clear H'
    obtain ⟨x7_1, rfl, HA, HK1, HB⟩ := hrel
    cases gk with
    | zero => exact absurd HA.out (by simp [fixed_flags.l0])
    | succ k1 =>
      have H := HA.out
      clear HA
      simp only [fixed_flags.l0] at H
      by_cases c2 : x7_1 < (l0.length : Int)
      · rw [if_pos c2] at H
        have c2b0 : decide (x7_1 < (l0.length : Int)) = true := decide_eq_true c2
        clear c2
        by_cases c3 : 0 ≤ x7_1
        · rw [if_pos c3] at H
          have c3b0 : decide (0 ≤ x7_1) = true := decide_eq_true c3
          clear c3
          by_cases c4 : x7_1 < (l0.length : Int)
          · rw [if_pos c4] at H
            have c4b0 : decide (x7_1 < (l0.length : Int)) = true := decide_eq_true c4
            clear c4
            obtain ⟨bq5, hbq5⟩ : ∃ b_ : Bool, b_ = ((rd_T23 l0 x7_1).f1) := ⟨_, rfl⟩
            replace H : (if bq5 = true then (some true) else (fixed_flags.l0 k1 l0 (l0.length : Int) (wrap64 (x7_1 + 1)))) = some r := by rw [← hbq5] at H; exact H
            have Nbq5 := Aside0.mk hbq5
            clear hbq5
            by_cases c6 : bq5 = true
            · subst c6
              have H1 : (some true) = some r := by rw [if_pos rfl] at H; exact H
              clear H
              have H := H1
              clear H1
              obtain rfl := Option.some.inj H
              have p242 : 0 ≤ (x7_1 : Int) := of_decide_eq_true (by first | (with_reducible assumption) | assumption)
              have q242 : x7_1 < (l0.length : Int) := of_decide_eq_true (by first | (with_reducible assumption) | assumption)
              obtain ⟨ad242, e242, hx242_0, hx242_1⟩ := at_T23 HR0.out x7_1 p242 q242
              (try rw [← Nbq5.out] at hx242_1)
              cases e242
              replace hx242_0 := (HB.out.cell (World.block_lt_of_cell? w _ hx242_0)).trans hx242_0
              replace hx242_1 := (HB.out.cell (World.block_lt_of_cell? w _ hx242_1)).trans hx242_1
              replace p242 := eq_true p242
              replace q242 := eq_true q242
              go_wp2_with (first | ((with_reducible refine zzt (N := 4) rfl ?_); refine zzp ?hg (N := 4) ?hd (cs := #[.int .i64 0, .bool false]) (t := 23) ?hr ?_; (case hd => rfl); (case hg => rfl); (case hr => first | (go_simp; done) | (go_simp; rfl)); intro gb243 hg w7 hbox hb; have n0_ := Aside0.mk (zzl (by repeat (first | (with_reducible first | exact HB.out | apply zzf | apply zza | apply zzg) | exact HB.out)) hb); have n1_ := Aside0.mk (hbox); have n3_ := Aside0.mk ((by rw [hg]; exact (zzk (by repeat (first | (with_reducible first | exact HB.out | apply zzf | apply zza | apply zzg) | exact HB.out))) : w.heap.size ≤ gb243)); clear HB; have HB := n0_; have BK243 := n1_; have GE243 := n3_; clear n0_ n1_ n3_; clear hb hbox hg; have hcz8_0 : w7.cell? ⟨gb243, 0, none⟩ = some (.int .i64 0) := (zzi BK243.out 0).trans rfl; have hcz8_1 : w7.cell? ⟨gb243, 1, none⟩ = some (.bool false) := (zzi BK243.out 1).trans rfl; have hfz8_0 := zzh BK243.out 0; have hfz8_1 := zzh BK243.out 1))
              go_ret
              exact ⟨by first | rfl | (simp [zzn, zzm] <;> rfl) | (simp [*, zzn, zzm] <;> rfl), by repeat (first | (with_reducible first | exact HB.out | apply zzf | apply zza | apply zzg | refine zze ?_ GE243.out) | exact HB.out)⟩
            · replace c6 := Bool.eq_false_iff.mpr c6
              subst c6
              have H1 : (fixed_flags.l0 k1 l0 (l0.length : Int) (wrap64 (x7_1 + 1))) = some r := by rw [if_neg (show ¬ (false = true) by decide)] at H; exact H
              clear H
              have H := H1
              clear H1
              have H' := Aside0.mk H
              clear H
              have p242 : 0 ≤ (x7_1 : Int) := of_decide_eq_true (by first | (with_reducible assumption) | assumption)
              have q242 : x7_1 < (l0.length : Int) := of_decide_eq_true (by first | (with_reducible assumption) | assumption)
              obtain ⟨ad242, e242, hx242_0, hx242_1⟩ := at_T23 HR0.out x7_1 p242 q242
              (try rw [← Nbq5.out] at hx242_1)
              cases e242
              replace hx242_0 := (HB.out.cell (World.block_lt_of_cell? w _ hx242_0)).trans hx242_0
              replace hx242_1 := (HB.out.cell (World.block_lt_of_cell? w _ hx242_1)).trans hx242_1
              replace p242 := eq_true p242
              replace q242 := eq_true q242
              go_wp2_with (first | ((with_reducible refine zzt (N := 4) rfl ?_); refine zzp ?hg (N := 4) ?hd (cs := #[.int .i64 0, .bool false]) (t := 23) ?hr ?_; (case hd => rfl); (case hg => rfl); (case hr => first | (go_simp; done) | (go_simp; rfl)); intro gb243 hg w9 hbox hb; have n0_ := Aside0.mk (zzl (by repeat (first | (with_reducible first | exact HB.out | apply zzf | apply zza | apply zzg) | exact HB.out)) hb); have n1_ := Aside0.mk (hbox); have n3_ := Aside0.mk ((by rw [hg]; exact (zzk (by repeat (first | (with_reducible first | exact HB.out | apply zzf | apply zza | apply zzg) | exact HB.out))) : w.heap.size ≤ gb243)); clear HB; have HB := n0_; have BK243 := n1_; have GE243 := n3_; clear n0_ n1_ n3_; clear hb hbox hg; have hcz10_0 : w9.cell? ⟨gb243, 0, none⟩ = some (.int .i64 0) := (zzi BK243.out 0).trans rfl; have hcz10_1 : w9.cell? ⟨gb243, 1, none⟩ = some (.bool false) := (zzi BK243.out 1).trans rfl; have hfz10_0 := zzh BK243.out 0; have hfz10_1 := zzh BK243.out 1))
              go_roundg k1
              case measure => have := HK1.out; omega
              case rel => exact ⟨(wrap64 (x7_1 + 1)), (by first | rfl | (simp; done) | (simp [*]; done)), H', ⟨by have := HK1.out; omega⟩, ⟨by repeat (first | (with_reducible first | exact HB.out | apply zzf | apply zza | apply zzg | refine zze ?_ GE243.out) | exact HB.out)⟩⟩
          · rw [if_neg c4] at H
            exact absurd H (by simp)
        · rw [if_neg c3] at H
          exact absurd H (by simp)
      · rw [if_neg c2] at H
        have c2b0 : decide (x7_1 < (l0.length : Int)) = false := decide_eq_false c2
        clear c2
        obtain rfl := Option.some.inj H
        go_wp2
        go_ret
        exact ⟨by first | rfl | (simp [zzn, zzm] <;> rfl) | (simp [*, zzn, zzm] <;> rfl), by repeat (first | (with_reducible first | exact HB.out | apply zzf | apply zza | apply zzg) | exact HB.out)⟩
def fixed_Mul.f (k : Nat) (a0_0 : Int) (a0_1 : Bool) (a1_0 : Int) (a1_1 : Bool) : Option (Int × Bool) := (fixed_sound.f a0_0 a0_1).bind fun bt247 => ((fixed_sound.f a1_0 a1_1).bind fun bt249 => ((fixed_product.f bt247.1 bt249.1).bind fun bt251 => ((fixed_exact_down.f bt251.1 bt251.2.1 bt251.2.2).bind fun bt254 => ((fixed_flags.f k (([(⟨bt247.1, bt247.2⟩ : S23), (⟨bt249.1, bt249.2⟩ : S23)] : List (S23)))).bind fun t260 => ((fixed_exact_fit.f k bt254.1 bt254.2.1 bt254.2.2 t260).bind fun bt261 => (some (bt261.1, bt261.2)))))))
def fixed_Mul.T2 : Bool × List (List Nat × List Nat) := (true, [([], []), ([0], [0]), ([], []), ([2], [2]), ([1, 3], [1, 3]), ([4, 4], [4]), ([], []), ([], []), ([6, 7], [6, 7]), ([8, 5], [8]), ([5, 9, 9], [5, 9]), ([10, 10, 0, 1, 2, 3, 4, 5, 6, 7, 8, 9, 10], [10])])
def fixed_Mul.B2 : List Nat := [0, 1, 0, 4, 15, 31, 0, 0, 192, 511, 1023, 2047]
theorem fixed_Mul.tab2 : rtab .any (opsOf Try.f39 2) = fixed_Mul.T2 := by kernel_rfl
theorem fixed_Mul.bits2 : waitsOk fixed_Mul.T2.2 fixed_Mul.B2 = true := by kernel_rfl
set_option maxHeartbeats 8000000 in
set_option maxRecDepth 100000 in
theorem fixed_Mul.calls (k : Nat) (a0_0 : Int) (a0_1 : Bool) (a1_0 : Int) (a1_1 : Bool) (r1 : Int) (r2 : Bool) (w : World) (h : fixed_Mul.f k a0_0 a0_1 a1_0 a1_1 = some (r1, r2)) :
    Calls Try.prog 39 #[.agg #[.int .i64 a0_0, .bool a0_1], .agg #[.int .i64 a1_0, .bool a1_1]] w fun e w' => e = .returned (.agg #[.int .i64 r1, .bool r2]) ∧ Below w.heap.size w w' := by
  have hu23 := Try.underlying23
  have HB := Aside0.mk (Below.refl w.heap.size w)
  have H : ((fixed_sound.f a0_0 a0_1).bind fun bt247 => ((fixed_sound.f a1_0 a1_1).bind fun bt249 => ((fixed_product.f bt247.1 bt249.1).bind fun bt251 => ((fixed_exact_down.f bt251.1 bt251.2.1 bt251.2.2).bind fun bt254 => ((fixed_flags.f k (([(⟨bt247.1, bt247.2⟩ : S23), (⟨bt249.1, bt249.2⟩ : S23)] : List (S23)))).bind fun t260 => ((fixed_exact_fit.f k bt254.1 bt254.2.1 bt254.2.2 t260).bind fun bt261 => (some (bt261.1, bt261.2)))))))) = some (r1, r2) := h
  clear h
  replace H := Option.bind_eq_some_iff.mp H
  obtain ⟨⟨t247, t248⟩, A30, H⟩ := H
  replace H : ((fixed_sound.f a1_0 a1_1).bind fun bt249 => ((fixed_product.f t247 bt249.1).bind fun bt251 => ((fixed_exact_down.f bt251.1 bt251.2.1 bt251.2.2).bind fun bt254 => ((fixed_flags.f k (([(⟨t247, t248⟩ : S23), (⟨bt249.1, bt249.2⟩ : S23)] : List (S23)))).bind fun t260 => ((fixed_exact_fit.f k bt254.1 bt254.2.1 bt254.2.2 t260).bind fun bt261 => (some (bt261.1, bt261.2))))))) = some (r1, r2) := H
  have A3 := Aside0.mk A30
  clear A30
  replace H := Option.bind_eq_some_iff.mp H
  obtain ⟨⟨t249, t250⟩, A40, H⟩ := H
  replace H : ((fixed_product.f t247 t249).bind fun bt251 => ((fixed_exact_down.f bt251.1 bt251.2.1 bt251.2.2).bind fun bt254 => ((fixed_flags.f k (([(⟨t247, t248⟩ : S23), (⟨t249, t250⟩ : S23)] : List (S23)))).bind fun t260 => ((fixed_exact_fit.f k bt254.1 bt254.2.1 bt254.2.2 t260).bind fun bt261 => (some (bt261.1, bt261.2)))))) = some (r1, r2) := H
  have A4 := Aside0.mk A40
  clear A40
  replace H := Option.bind_eq_some_iff.mp H
  obtain ⟨⟨t251, t252, t253⟩, A50, H⟩ := H
  replace H : ((fixed_exact_down.f t251 t252 t253).bind fun bt254 => ((fixed_flags.f k (([(⟨t247, t248⟩ : S23), (⟨t249, t250⟩ : S23)] : List (S23)))).bind fun t260 => ((fixed_exact_fit.f k bt254.1 bt254.2.1 bt254.2.2 t260).bind fun bt261 => (some (bt261.1, bt261.2))))) = some (r1, r2) := H
  have A5 := Aside0.mk A50
  clear A50
  replace H := Option.bind_eq_some_iff.mp H
  obtain ⟨⟨t254, t255, t256⟩, A60, H⟩ := H
  replace H : ((fixed_flags.f k (([(⟨t247, t248⟩ : S23), (⟨t249, t250⟩ : S23)] : List (S23)))).bind fun t260 => ((fixed_exact_fit.f k t254 t255 t256 t260).bind fun bt261 => (some (bt261.1, bt261.2)))) = some (r1, r2) := H
  have A6 := Aside0.mk A60
  clear A60
  obtain ⟨y257, hy257⟩ : ∃ y_ : List (S23), y_ = (([(⟨t247, t248⟩ : S23), (⟨t249, t250⟩ : S23)] : List (S23))) := ⟨_, rfl⟩
  replace H : ((fixed_flags.f k y257).bind fun t260 => ((fixed_exact_fit.f k t254 t255 t256 t260).bind fun bt261 => (some (bt261.1, bt261.2)))) = some (r1, r2) := by first | (rw [hy257]; with_reducible exact H) | (have H2_ := (Option.bind_some _ _).symm.trans H; rw [hy257]; with_reducible exact H2_) | (have H2_ := (Option.bind_some _ _).symm.trans H; with_reducible exact H2_) | with_reducible exact H | (rw [hy257]; exact H) | exact H
  have Ny257 := Aside0.mk hy257
  clear hy257
  replace H := Option.bind_eq_some_iff.mp H
  obtain ⟨t260, A70, H⟩ := H
  replace H : ((fixed_exact_fit.f k t254 t255 t256 t260).bind fun bt261 => (some (bt261.1, bt261.2))) = some (r1, r2) := H
  have A7 := Aside0.mk A70
  clear A70
  replace H := Option.bind_eq_some_iff.mp H
  obtain ⟨⟨t261, t262⟩, A80, H⟩ := H
  replace H : (some (t261, t262)) = some (r1, r2) := H
  have A8 := Aside0.mk A80
  clear A80
  simp only [Option.some.injEq, Prod.mk.injEq] at H
  obtain ⟨rfl, rfl⟩ := H
  go_enter Try.func39, Try.ntmps39
  try go_wp2_with (first | ((with_reducible refine zzt (N := 2) rfl ?_); refine zzp ?hg (N := 2) ?hd (cs := #[.int .i64 a0_0, .bool a0_1]) (t := 23) ?hr ?_; (case hd => rfl); (case hg => rfl); (case hr => first | (go_simp; done) | (go_simp; rfl)); intro gb244 hg w9 hbox hb; have n0_ := Aside0.mk (zzl (by repeat (first | (with_reducible first | exact HB.out | apply zzf | apply zza | apply zzg) | exact HB.out)) hb); have n1_ := Aside0.mk (hbox); have n3_ := Aside0.mk ((by rw [hg]; exact (zzk (by repeat (first | (with_reducible first | exact HB.out | apply zzf | apply zza | apply zzg) | exact HB.out))) : w.heap.size ≤ gb244)); clear HB; have HB := n0_; have BK244 := n1_; have GE244 := n3_; clear n0_ n1_ n3_; clear hb hbox hg) | ((with_reducible refine zzt (N := 3) rfl ?_); refine zzp ?hg (N := 3) ?hd (cs := #[.int .i64 a1_0, .bool a1_1]) (t := 23) ?hr ?_; (case hd => rfl); (case hg => rfl); (case hr => first | (go_simp; done) | (go_simp; rfl)); intro gb245 hg w10 hbox hb; have n0_ := Aside0.mk (zzj (g := gb244) (o := .cells #[.int .i64 a0_0, .bool a0_1] 23 (0, 0)) (by (with_reducible repeat first | apply zzc | apply zzd | apply zzb); exact BK244.out) hb); have n1_ := Aside0.mk (zzl (by repeat (first | (with_reducible first | exact HB.out | apply zzf | apply zza | apply zzg | refine zze ?_ GE244.out) | exact HB.out)) hb); have n2_ := Aside0.mk (hbox); have n4_ := Aside0.mk ((by rw [hg]; exact (zzk (by repeat (first | (with_reducible first | exact HB.out | apply zzf | apply zza | apply zzg | refine zze ?_ GE244.out) | exact HB.out))) : w.heap.size ≤ gb245)); have n5_ := Aside0.mk ((by rw [hg]; exact Nat.ne_of_lt (zzr (g := gb244) (o := .cells #[.int .i64 a0_0, .bool a0_1] 23 (0, 0)) (by (with_reducible repeat first | apply zzc | apply zzd | apply zzb); exact BK244.out)) : gb244 ≠ gb245)); have n6_ := Aside0.mk ((by rw [hg]; exact Nat.ne_of_gt (zzr (g := gb244) (o := .cells #[.int .i64 a0_0, .bool a0_1] 23 (0, 0)) (by (with_reducible repeat first | apply zzc | apply zzd | apply zzb); exact BK244.out)) : gb245 ≠ gb244)); clear BK244; clear HB; have BK244 := n0_; have HB := n1_; have BK245 := n2_; have GE245 := n4_; have NB244_245 := n5_; have NB245_244 := n6_; clear n0_ n1_ n2_ n4_ n5_ n6_; clear hb hbox hg) | ((with_reducible refine zzt (N := 4) rfl ?_); refine zzp ?hg (N := 4) ?hd (cs := #[.int .i64 0, .bool false]) (t := 23) ?hr ?_; (case hd => rfl); (case hg => rfl); (case hr => first | (go_simp; done) | (go_simp; rfl)); intro gb246 hg w11 hbox hb; have n0_ := Aside0.mk (zzj (g := gb244) (o := .cells #[.int .i64 a0_0, .bool a0_1] 23 (0, 0)) (by (with_reducible repeat first | apply zzc | apply zzd | apply zzb); exact BK244.out) hb); have n1_ := Aside0.mk (zzj (g := gb245) (o := .cells #[.int .i64 a1_0, .bool a1_1] 23 (0, 0)) (by (with_reducible repeat first | apply zzc | apply zzd | apply zzb); exact BK245.out) hb); have n2_ := Aside0.mk (zzl (by repeat (first | (with_reducible first | exact HB.out | apply zzf | apply zza | apply zzg | refine zze ?_ GE244.out | refine zze ?_ GE245.out) | exact HB.out)) hb); have n3_ := Aside0.mk (hbox); have n5_ := Aside0.mk ((by rw [hg]; exact (zzk (by repeat (first | (with_reducible first | exact HB.out | apply zzf | apply zza | apply zzg | refine zze ?_ GE244.out | refine zze ?_ GE245.out) | exact HB.out))) : w.heap.size ≤ gb246)); have n6_ := Aside0.mk ((by rw [hg]; exact Nat.ne_of_lt (zzr (g := gb244) (o := .cells #[.int .i64 a0_0, .bool a0_1] 23 (0, 0)) (by (with_reducible repeat first | apply zzc | apply zzd | apply zzb); exact BK244.out)) : gb244 ≠ gb246)); have n7_ := Aside0.mk ((by rw [hg]; exact Nat.ne_of_gt (zzr (g := gb244) (o := .cells #[.int .i64 a0_0, .bool a0_1] 23 (0, 0)) (by (with_reducible repeat first | apply zzc | apply zzd | apply zzb); exact BK244.out)) : gb246 ≠ gb244)); have n8_ := Aside0.mk ((by rw [hg]; exact Nat.ne_of_lt (zzr (g := gb245) (o := .cells #[.int .i64 a1_0, .bool a1_1] 23 (0, 0)) (by (with_reducible repeat first | apply zzc | apply zzd | apply zzb); exact BK245.out)) : gb245 ≠ gb246)); have n9_ := Aside0.mk ((by rw [hg]; exact Nat.ne_of_gt (zzr (g := gb245) (o := .cells #[.int .i64 a1_0, .bool a1_1] 23 (0, 0)) (by (with_reducible repeat first | apply zzc | apply zzd | apply zzb); exact BK245.out)) : gb246 ≠ gb245)); clear BK244; clear BK245; clear HB; have BK244 := n0_; have BK245 := n1_; have HB := n2_; have BK246 := n3_; have GE246 := n5_; have NB244_246 := n6_; have NB246_244 := n7_; have NB245_246 := n8_; have NB246_245 := n9_; clear n0_ n1_ n2_ n3_ n5_ n6_ n7_ n8_ n9_; clear hb hbox hg))
  have n0_ := Aside0.mk (zzd BK244.out)
  have n1_ := Aside0.mk (zzd BK245.out)
  have n2_ := Aside0.mk (zzd BK246.out)
  have n3_ := Aside0.mk (zzg HB.out)
  clear BK244
  clear BK245
  clear BK246
  clear HB
  have BK244 := n0_
  have BK245 := n1_
  have BK246 := n2_
  have HB := n3_
  clear n0_ n1_ n2_ n3_
  refine start_ (n := 6) (S := fun w' => w'.cell? ⟨gb244, 0, none⟩ = some (.int .i64 a0_0) ∧ w'.cell? ⟨gb244, 1, none⟩ = some (.bool a0_1) ∧ w'.cell? ⟨gb245, 0, none⟩ = some (.int .i64 a1_0) ∧ w'.cell? ⟨gb245, 1, none⟩ = some (.bool a1_1)) (ds := [4, 5]) #[false, false, false, false, false, false] (by kernel_rfl) rfl rfl ⟨(zzi BK244.out 0).trans rfl, (zzi BK244.out 1).trans rfl, (zzi BK245.out 0).trans rfl, (zzi BK245.out 1).trans rfl⟩ (fun hHeld => ?_)
  generalize w11.drew = w12 at BK244 BK245 BK246 HB hHeld ⊢
  refine take_ (i := 0) (N := some 5) (v := ?_) (a' := ?_) #[true, false, false, false, false, false] rfl rfl (by kernel_rfl) (fun _ _ _ h => h) (Or.inl ⟨by rfl, ?_⟩) hHeld ?_ ?_
  rotate_left
  · rintro w' ⟨s0, s1, s2, s3⟩
    go_simp
    with_reducible rfl
  rotate_left
  · simp only [Act.put, List.setIfInBounds_toArray, List.set_cons_zero, List.set_cons_succ, i64_w, i32_w]
    rfl
  refine take_ (i := 2) (N := some 7) (v := ?_) (a' := ?_) #[true, false, true, false, false, false] rfl rfl (by kernel_rfl) (fun _ _ _ h => h) (Or.inl ⟨by rfl, ?_⟩) hHeld ?_ ?_
  rotate_left
  · rintro w' ⟨s0, s1, s2, s3⟩
    go_simp
    with_reducible rfl
  rotate_left
  · simp only [Act.put, List.setIfInBounds_toArray, List.set_cons_zero, List.set_cons_succ, i64_w, i32_w]
    rfl
  refine one_ (i := 1) (N := some 6) #[true, true, true, false, false, false] rfl rfl (by kernel_rfl) (by decide) (fun K hK => ?_)
  refine goes_ Try.func72 (by kernel_rfl) rfl #[.agg #[.int .i64 a0_0, .bool a0_1]] (by rfl) rfl rfl (by (try simp only [List.map_toArray, List.map_cons, List.map_nil]); first | done | rfl | (simp only [List.length_drop, List.length_take]; rfl)) ?_
  with_reducible refine (fixed_sound.calls a0_0 a0_1 t247 t248 _ A3.out).mono ?_
  rintro e w13 ⟨rfl, hb⟩
  refine ⟨_, rfl, ?_⟩
  have n0_ := Aside0.mk (zzj (g := gb244) (o := .cells #[.int .i64 a0_0, .bool a0_1] 23 (0, 0)) (by (with_reducible repeat first | apply zzc | apply zzd | apply zzb); exact BK244.out) hb)
  have n1_ := Aside0.mk (zzj (g := gb245) (o := .cells #[.int .i64 a1_0, .bool a1_1] 23 (0, 0)) (by (with_reducible repeat first | apply zzc | apply zzd | apply zzb); exact BK245.out) hb)
  have n2_ := Aside0.mk (zzj (g := gb246) (o := .cells #[.int .i64 0, .bool false] 23 (0, 0)) (by (with_reducible repeat first | apply zzc | apply zzd | apply zzb); exact BK246.out) hb)
  have n3_ := Aside0.mk (zzl (by repeat (first | (with_reducible first | exact HB.out | apply zzf | apply zza | apply zzg | refine zze ?_ GE244.out | refine zze ?_ GE245.out | refine zze ?_ GE246.out) | exact HB.out)) hb)
  clear BK244
  clear BK245
  clear BK246
  clear HB
  have BK244 := n0_
  have BK245 := n1_
  have BK246 := n2_
  have HB := n3_
  clear n0_ n1_ n2_ n3_
  (try clear hb)
  (try clear hb2)
  (try clear hk)
  (try clear hi)
  refine hK.out _ _ ⟨(zzi BK244.out 0).trans rfl, (zzi BK244.out 1).trans rfl, (zzi BK245.out 0).trans rfl, (zzi BK245.out 1).trans rfl⟩ (fun hHeld => ?_)
  clear hK K
  refine norm_ (a' := ?_) ?_ ?_
  rotate_left
  · show Act.put _ (some 6) _ = _
    simp only [Act.put, List.setIfInBounds_toArray, List.set_cons_zero, List.set_cons_succ, i64_w, i32_w]
    rfl
  refine one_ (i := 3) (N := some 8) #[true, true, true, true, false, false] rfl rfl (by kernel_rfl) (by decide) (fun K hK => ?_)
  refine goes_ Try.func72 (by kernel_rfl) rfl #[.agg #[.int .i64 a1_0, .bool a1_1]] (by rfl) rfl rfl (by (try simp only [List.map_toArray, List.map_cons, List.map_nil]); first | done | rfl | (simp only [List.length_drop, List.length_take]; rfl)) ?_
  with_reducible refine (fixed_sound.calls a1_0 a1_1 t249 t250 _ A4.out).mono ?_
  rintro e w14 ⟨rfl, hb⟩
  refine ⟨_, rfl, ?_⟩
  have n0_ := Aside0.mk (zzj (g := gb244) (o := .cells #[.int .i64 a0_0, .bool a0_1] 23 (0, 0)) (by (with_reducible repeat first | apply zzc | apply zzd | apply zzb); exact BK244.out) hb)
  have n1_ := Aside0.mk (zzj (g := gb245) (o := .cells #[.int .i64 a1_0, .bool a1_1] 23 (0, 0)) (by (with_reducible repeat first | apply zzc | apply zzd | apply zzb); exact BK245.out) hb)
  have n2_ := Aside0.mk (zzj (g := gb246) (o := .cells #[.int .i64 0, .bool false] 23 (0, 0)) (by (with_reducible repeat first | apply zzc | apply zzd | apply zzb); exact BK246.out) hb)
  have n3_ := Aside0.mk (zzl (by repeat (first | (with_reducible first | exact HB.out | apply zzf | apply zza | apply zzg | refine zze ?_ GE244.out | refine zze ?_ GE245.out | refine zze ?_ GE246.out) | exact HB.out)) hb)
  clear BK244
  clear BK245
  clear BK246
  clear HB
  have BK244 := n0_
  have BK245 := n1_
  have BK246 := n2_
  have HB := n3_
  clear n0_ n1_ n2_ n3_
  (try clear hb)
  (try clear hb2)
  (try clear hk)
  (try clear hi)
  refine hK.out _ _ ⟨(zzi BK244.out 0).trans rfl, (zzi BK244.out 1).trans rfl, (zzi BK245.out 0).trans rfl, (zzi BK245.out 1).trans rfl⟩ (fun hHeld => ?_)
  clear hK K
  refine norm_ (a' := ?_) ?_ ?_
  rotate_left
  · show Act.put _ (some 8) _ = _
    simp only [Act.put, List.setIfInBounds_toArray, List.set_cons_zero, List.set_cons_succ, i64_w, i32_w]
    rfl
  refine last_ (i := 4) (N := none) #[true, true, true, true, true, false] rfl rfl (by kernel_rfl) (by decide) (fun K hK => ?_)
  have hs15 : w14.cell? ⟨gb244, 0, none⟩ = some (.int .i64 a0_0) := (zzi BK244.out 0).trans rfl
  have hfs15 := zzh BK244.out 0
  have hns15_1 := NB245_244.out
  have hns15_2 := NB246_244.out
  have hms15_1 := NB244_245.out
  have hms15_2 := NB244_246.out
  have hs16 : w14.cell? ⟨gb244, 1, none⟩ = some (.bool a0_1) := (zzi BK244.out 1).trans rfl
  have hfs16 := zzh BK244.out 1
  have hns16_1 := NB245_244.out
  have hns16_2 := NB246_244.out
  have hms16_1 := NB244_245.out
  have hms16_2 := NB244_246.out
  refine skip_ (w1 := ?_) (by rfl) rfl ?_ ?_
  rotate_left
  · go_simp
    rfl
  refine hK.out _ _ ?_
  clear hK K
  refine last_ (i := 5) (N := none) #[true, true, true, true, true, true] rfl rfl (by kernel_rfl) (by decide) (fun K hK => ?_)
  have hs17 : w14.cell? ⟨gb245, 0, none⟩ = some (.int .i64 a1_0) := (zzi BK245.out 0).trans rfl
  have hfs17 := zzh BK245.out 0
  have hns17_0 := NB244_245.out
  have hns17_2 := NB246_245.out
  have hms17_0 := NB245_244.out
  have hms17_2 := NB245_246.out
  have hs18 : w14.cell? ⟨gb245, 1, none⟩ = some (.bool a1_1) := (zzi BK245.out 1).trans rfl
  have hfs18 := zzh BK245.out 1
  have hns18_0 := NB244_245.out
  have hns18_2 := NB246_245.out
  have hms18_0 := NB245_244.out
  have hms18_2 := NB245_246.out
  refine skip_ (w1 := ?_) (by rfl) rfl ?_ ?_
  rotate_left
  · go_simp
    rfl
  refine hK.out _ _ ?_
  clear hK K
  refine done_ (by kernel_rfl) ?_
  try go_wp2
  have n0_ : Aside0 (((((w14.setCell ⟨gb244, 0, none⟩ (.int .i64 t247)).setCell ⟨gb244, 1, none⟩ (.bool t248)).setCell ⟨gb245, 0, none⟩ (.int .i64 t249)).setCell ⟨gb245, 1, none⟩ (.bool t250)).heap[gb244]? = some (.cells #[.int .i64 t247, .bool t248] 23 (0, 0))) := ⟨by (with_reducible repeat first | apply zzc | apply zzd | apply zzb); refine zzs ?_ NB244_245.out _; (with_reducible repeat first | apply zzc | apply zzd | apply zzb); refine zzs ?_ NB244_245.out _; (with_reducible repeat first | apply zzc | apply zzd | apply zzb); refine zzo (cs := #[.int .i64 t247, .bool a0_1]) ?_ 1 _ rfl; (with_reducible repeat first | apply zzc | apply zzd | apply zzb); refine zzo (cs := #[.int .i64 a0_0, .bool a0_1]) ?_ 0 _ rfl; (with_reducible repeat first | apply zzc | apply zzd | apply zzb); exact BK244.out⟩
  have n1_ : Aside0 (((((w14.setCell ⟨gb244, 0, none⟩ (.int .i64 t247)).setCell ⟨gb244, 1, none⟩ (.bool t248)).setCell ⟨gb245, 0, none⟩ (.int .i64 t249)).setCell ⟨gb245, 1, none⟩ (.bool t250)).heap[gb245]? = some (.cells #[.int .i64 t249, .bool t250] 23 (0, 0))) := ⟨by (with_reducible repeat first | apply zzc | apply zzd | apply zzb); refine zzo (cs := #[.int .i64 t249, .bool a1_1]) ?_ 1 _ rfl; (with_reducible repeat first | apply zzc | apply zzd | apply zzb); refine zzo (cs := #[.int .i64 a1_0, .bool a1_1]) ?_ 0 _ rfl; (with_reducible repeat first | apply zzc | apply zzd | apply zzb); refine zzs ?_ NB245_244.out _; (with_reducible repeat first | apply zzc | apply zzd | apply zzb); refine zzs ?_ NB245_244.out _; (with_reducible repeat first | apply zzc | apply zzd | apply zzb); exact BK245.out⟩
  have n2_ : Aside0 (((((w14.setCell ⟨gb244, 0, none⟩ (.int .i64 t247)).setCell ⟨gb244, 1, none⟩ (.bool t248)).setCell ⟨gb245, 0, none⟩ (.int .i64 t249)).setCell ⟨gb245, 1, none⟩ (.bool t250)).heap[gb246]? = some (.cells #[.int .i64 0, .bool false] 23 (0, 0))) := ⟨by (with_reducible repeat first | apply zzc | apply zzd | apply zzb); refine zzs ?_ NB246_245.out _; (with_reducible repeat first | apply zzc | apply zzd | apply zzb); refine zzs ?_ NB246_245.out _; (with_reducible repeat first | apply zzc | apply zzd | apply zzb); refine zzs ?_ NB246_244.out _; (with_reducible repeat first | apply zzc | apply zzd | apply zzb); refine zzs ?_ NB246_244.out _; (with_reducible repeat first | apply zzc | apply zzd | apply zzb); exact BK246.out⟩
  have n3_ : Aside0 (Below w.heap.size w ((((w14.setCell ⟨gb244, 0, none⟩ (.int .i64 t247)).setCell ⟨gb244, 1, none⟩ (.bool t248)).setCell ⟨gb245, 0, none⟩ (.int .i64 t249)).setCell ⟨gb245, 1, none⟩ (.bool t250))) := ⟨by repeat (first | (with_reducible first | exact HB.out | apply zzf | apply zza | apply zzg | refine zze ?_ GE244.out | refine zze ?_ GE245.out | refine zze ?_ GE246.out) | exact HB.out)⟩
  (try clear BK244)
  (try clear BK245)
  (try clear BK246)
  (try clear HB)
  generalize ((((w14.setCell ⟨gb244, 0, none⟩ (.int .i64 t247)).setCell ⟨gb244, 1, none⟩ (.bool t248)).setCell ⟨gb245, 0, none⟩ (.int .i64 t249)).setCell ⟨gb245, 1, none⟩ (.bool t250)) = w19 at n0_ n1_ n2_ n3_ ⊢
  have BK244 := n0_
  have BK245 := n1_
  have BK246 := n2_
  have HB := n3_
  clear n0_ n1_ n2_ n3_
  have n0_ := Aside0.mk (zzd BK244.out)
  have n1_ := Aside0.mk (zzd BK245.out)
  have n2_ := Aside0.mk (zzd BK246.out)
  have n3_ := Aside0.mk (zzg HB.out)
  clear BK244
  clear BK245
  clear BK246
  clear HB
  have BK244 := n0_
  have BK245 := n1_
  have BK246 := n2_
  have HB := n3_
  clear n0_ n1_ n2_ n3_
  refine start_ (n := 12) (S := fun w' => True) (ds := []) #[false, false, false, false, false, false, false, false, false, false, false, false] (by kernel_rfl) rfl rfl trivial (fun hHeld => ?_); refine with_tabW fixed_Mul.tab2 fixed_Mul.bits2 (fun HT_ HW_ => ?_)
  generalize w19.drew = w20 at BK244 BK245 BK246 HB hHeld ⊢
  refine pure_ (i := 0) (N := some 9) (v := ?_) (a' := ?_) #[true, false, false, false, false, false, false, false, false, false, false, false] rfl rfl (any_of HT_.out (by kernel_rfl)) (fun _ _ _ h => h) (Or.inl ⟨by rfl, ?_⟩) ?_ ?_
  rotate_left
  · intro w'
    go_simp
    with_reducible rfl
  rotate_left
  · simp only [Act.put, List.setIfInBounds_toArray, List.set_cons_zero, List.set_cons_succ, i64_w, i32_w]
    rfl
  refine pure_ (i := 2) (N := some 11) (v := ?_) (a' := ?_) #[true, false, true, false, false, false, false, false, false, false, false, false] rfl rfl (any_of HT_.out (by kernel_rfl)) (fun _ _ _ h => h) (Or.inl ⟨by rfl, ?_⟩) ?_ ?_
  rotate_left
  · intro w'
    go_simp
    with_reducible rfl
  rotate_left
  · simp only [Act.put, List.setIfInBounds_toArray, List.set_cons_zero, List.set_cons_succ, i64_w, i32_w]
    rfl
  refine inv_at [1, 3, 4, 5, 6, 7, 8, 9, 10, 11] (fun a0_ b a w' => ∃ (v258 : Value), a = putSel a0_ b [(1, 10, .int .i64 t247), (3, 12, .int .i64 t249), (4, 13, .agg #[.bool t251, .int .u64 t252, .int .u64 t253]), (5, 14, .agg #[.bool t254, .int .u64 t255, .int .u64 t256]), (6, 15, .agg #[.int .i64 t247, .bool t248]), (7, 16, .agg #[.int .i64 t249, .bool t250]), (8, 17, v258), (9, 18, .bool t260), (10, 19, .agg #[.int .i64 t261, .bool t262])] ∧ (w'.heap[gb244]? = some (.cells #[.int .i64 t247, .bool t248] 23 (0, 0))) ∧ (w'.heap[gb245]? = some (.cells #[.int .i64 t249, .bool t250] 23 (0, 0))) ∧ (b 11 = false → w'.heap[gb246]? = some (.cells #[.int .i64 0, .bool false] 23 (0, 0))) ∧ (Below w.heap.size w w') ∧ (b 8 = true → Kd.R k23 23 w' w.heap.size (fun k_ => k_ ≠ gb244 ∧ k_ ≠ gb245 ∧ k_ ≠ gb246) v258 y257) ∧ (b 11 = true → w'.heap[gb246]? = some (.cells #[.int .i64 t261, .bool t262] 23 (0, 0)))) HT_.out HW_.out (by kernel_rfl) (by kernel_rfl) ?_ ?_ ?_
  · exact ⟨.bool false, by simp only [putSel, Bool.false_eq_true, if_false], BK244.out, BK245.out, fun _ => BK246.out, HB.out, fun h_ => absurd h_ (by decide), fun h_ => absurd h_ (by decide)⟩
  · skip
    clear BK244 BK245 BK246 HB
    refine steps_cons ?_ ?_
    · rintro b a w' ⟨v258, ha, Q_BK244, Q_BK245, Q_BK246, Q_HB, Q_HO259, Q_BK246_e11⟩ hb_ hon hoff
      refine ⟨_, rfl, fun K hK => ?_⟩
      have e9 : a.tmps[9]? = some (.pointer (some ⟨gb244, 0, none⟩)) := by rw [ha]; exact (putSel_off rfl).trans rfl
      replace ha := Aside0.mk ha
      have BK244 := Aside0.mk Q_BK244
      have BK245 := Aside0.mk Q_BK245
      have BK246 := Aside0.mk (Q_BK246 (hoff 11 (by kernel_rfl)))
      have HB := Aside0.mk Q_HB
      have hc0_ : w'.cell? ⟨gb244, 0, none⟩ = some (.int .i64 t247) := (zzi BK244.out 0).trans rfl
      have hc1_ : w'.cell? ⟨gb244, 1, none⟩ = some (.bool t248) := (zzi BK244.out 1).trans rfl
      refine value_ (w1 := w') (v := .int .i64 t247) (by rfl) rfl ?_ ?_
      · go_simp
        (try simp only [i64_w])
        try rfl
      refine hK.out _ _ ⟨v258, (by rw [ha.out]; exact putSel_upk 0 hb_ rfl rfl rfl), Q_BK244, Q_BK245, Q_BK246, Q_HB, Q_HO259, fun h0_ => absurd ((hoff 11 (by kernel_rfl)).symm.trans h0_) (by decide)⟩
    refine steps_cons ?_ ?_
    · rintro b a w' ⟨v258, ha, Q_BK244, Q_BK245, Q_BK246, Q_HB, Q_HO259, Q_BK246_e11⟩ hb_ hon hoff
      refine ⟨_, rfl, fun K hK => ?_⟩
      have e11 : a.tmps[11]? = some (.pointer (some ⟨gb245, 0, none⟩)) := by rw [ha]; exact (putSel_off rfl).trans rfl
      replace ha := Aside0.mk ha
      have BK244 := Aside0.mk Q_BK244
      have BK245 := Aside0.mk Q_BK245
      have BK246 := Aside0.mk (Q_BK246 (hoff 11 (by kernel_rfl)))
      have HB := Aside0.mk Q_HB
      have hc0_ : w'.cell? ⟨gb245, 0, none⟩ = some (.int .i64 t249) := (zzi BK245.out 0).trans rfl
      have hc1_ : w'.cell? ⟨gb245, 1, none⟩ = some (.bool t250) := (zzi BK245.out 1).trans rfl
      refine value_ (w1 := w') (v := .int .i64 t249) (by rfl) rfl ?_ ?_
      · go_simp
        (try simp only [i64_w])
        try rfl
      refine hK.out _ _ ⟨v258, (by rw [ha.out]; exact putSel_upk 1 hb_ rfl rfl rfl), Q_BK244, Q_BK245, Q_BK246, Q_HB, Q_HO259, fun h0_ => absurd ((hoff 11 (by kernel_rfl)).symm.trans h0_) (by decide)⟩
    refine steps_cons ?_ ?_
    · rintro b a w' ⟨v258, ha, Q_BK244, Q_BK245, Q_BK246, Q_HB, Q_HO259, Q_BK246_e11⟩ hb_ hon hoff
      refine ⟨_, rfl, fun K hK => ?_⟩
      have e10 : a.tmps[10]? = some (.int .i64 t247) := by rw [ha]; exact putSel_on (e := (1, 10, .int .i64 t247)) 0 rfl rfl (hon 1 (by kernel_rfl)) rfl
      have e12 : a.tmps[12]? = some (.int .i64 t249) := by rw [ha]; exact putSel_on (e := (3, 12, .int .i64 t249)) 1 rfl rfl (hon 3 (by kernel_rfl)) rfl
      replace ha := Aside0.mk ha
      have BK244 := Aside0.mk Q_BK244
      have BK245 := Aside0.mk Q_BK245
      have BK246 := Aside0.mk (Q_BK246 (hoff 11 (by kernel_rfl)))
      have HB := Aside0.mk Q_HB
      refine goes_ Try.func74 (by kernel_rfl) rfl #[.int .i64 t247, .int .i64 t249] (by rfl) rfl rfl (by first | (simp only [List.map_toArray, List.map_cons, List.map_nil, Act.eval, Array.getD_eq_getD_getElem?, Option.getD_some, e10, e12]; done) | (simp only [List.map_toArray, List.map_cons, List.map_nil, Act.eval, Array.getD_eq_getD_getElem?, Option.getD_some, e10, e12]; rfl)) ?_
      with_reducible refine (fixed_product.calls t247 t249 t251 t252 t253 _ A5.out).mono ?_
      rintro e w21 ⟨rfl, hb⟩
      refine ⟨_, rfl, ?_⟩
      have n0_ := Aside0.mk (zzj (g := gb244) (o := .cells #[.int .i64 t247, .bool t248] 23 (0, 0)) (by (with_reducible repeat first | apply zzc | apply zzd | apply zzb); exact BK244.out) hb)
      have n1_ := Aside0.mk (zzj (g := gb245) (o := .cells #[.int .i64 t249, .bool t250] 23 (0, 0)) (by (with_reducible repeat first | apply zzc | apply zzd | apply zzb); exact BK245.out) hb)
      have n2_ := Aside0.mk (zzj (g := gb246) (o := .cells #[.int .i64 0, .bool false] 23 (0, 0)) (by (with_reducible repeat first | apply zzc | apply zzd | apply zzb); exact BK246.out) hb)
      have n3_ := Aside0.mk (zzl (by repeat (first | (with_reducible first | exact HB.out | apply zzf | apply zza | apply zzg | refine zze ?_ GE244.out | refine zze ?_ GE245.out | refine zze ?_ GE246.out) | exact HB.out)) hb)
      have z_HO259 := fun (h0_ : b 8 = true) => (show Kd.R k23 23 w21 w.heap.size (fun k_ => k_ ≠ gb244 ∧ k_ ≠ gb245 ∧ k_ ≠ gb246) v258 y257 from by first | exact (Kd.R_below (by (with_reducible repeat (first | apply Kd.R_alloc | apply Kd.R_drewN | apply Kd.R_drew)); exact (Q_HO259 h0_)) hb) | exact Kd.R_mono (Kd.R_below (by (with_reducible repeat (first | apply Kd.R_alloc | apply Kd.R_drewN | apply Kd.R_drew)); exact (Q_HO259 h0_)) hb) (fun _ h_ => by first | trivial | exact h_ | exact h_.1))
      clear BK244
      clear BK245
      clear BK246
      clear HB
      have BK244 := n0_
      have BK245 := n1_
      have BK246 := n2_
      have HB := n3_
      clear n0_ n1_ n2_ n3_
      (try clear hb)
      (try clear hb2)
      (try clear hk)
      (try clear hi)
      refine hK.out _ _ ⟨v258, (by rw [ha.out]; exact putSel_upk 2 hb_ rfl rfl rfl), (by (with_reducible repeat first | apply zzc | apply zzd | apply zzb); exact BK244.out), (by (with_reducible repeat first | apply zzc | apply zzd | apply zzb); exact BK245.out), fun _ => (by (with_reducible repeat first | apply zzc | apply zzd | apply zzb); exact BK246.out), (by repeat (first | (with_reducible first | exact HB.out | apply zzf | apply zza | apply zzg | refine zze ?_ GE244.out | refine zze ?_ GE245.out | refine zze ?_ GE246.out) | exact HB.out)), z_HO259, fun h0_ => absurd ((hoff 11 (by kernel_rfl)).symm.trans h0_) (by decide)⟩
    refine steps_cons ?_ ?_
    · rintro b a w' ⟨v258, ha, Q_BK244, Q_BK245, Q_BK246, Q_HB, Q_HO259, Q_BK246_e11⟩ hb_ hon hoff
      refine ⟨_, rfl, fun K hK => ?_⟩
      have e13 : a.tmps[13]? = some (.agg #[.bool t251, .int .u64 t252, .int .u64 t253]) := by rw [ha]; exact putSel_on (e := (4, 13, .agg #[.bool t251, .int .u64 t252, .int .u64 t253])) 2 rfl rfl (hon 4 (by kernel_rfl)) rfl
      replace ha := Aside0.mk ha
      have BK244 := Aside0.mk Q_BK244
      have BK245 := Aside0.mk Q_BK245
      have BK246 := Aside0.mk (Q_BK246 (hoff 11 (by kernel_rfl)))
      have HB := Aside0.mk Q_HB
      refine goes_ Try.func87 (by kernel_rfl) rfl #[.agg #[.bool t251, .int .u64 t252, .int .u64 t253]] (by rfl) rfl rfl (by first | (simp only [List.map_toArray, List.map_cons, List.map_nil, Act.eval, Array.getD_eq_getD_getElem?, Option.getD_some, e13]; done) | (simp only [List.map_toArray, List.map_cons, List.map_nil, Act.eval, Array.getD_eq_getD_getElem?, Option.getD_some, e13]; rfl)) ?_
      with_reducible refine (fixed_exact_down.calls t251 t252 t253 t254 t255 t256 _ A6.out).mono ?_
      rintro e w23 ⟨rfl, hb⟩
      refine ⟨_, rfl, ?_⟩
      have n0_ := Aside0.mk (zzj (g := gb244) (o := .cells #[.int .i64 t247, .bool t248] 23 (0, 0)) (by (with_reducible repeat first | apply zzc | apply zzd | apply zzb); exact BK244.out) hb)
      have n1_ := Aside0.mk (zzj (g := gb245) (o := .cells #[.int .i64 t249, .bool t250] 23 (0, 0)) (by (with_reducible repeat first | apply zzc | apply zzd | apply zzb); exact BK245.out) hb)
      have n2_ := Aside0.mk (zzj (g := gb246) (o := .cells #[.int .i64 0, .bool false] 23 (0, 0)) (by (with_reducible repeat first | apply zzc | apply zzd | apply zzb); exact BK246.out) hb)
      have n3_ := Aside0.mk (zzl (by repeat (first | (with_reducible first | exact HB.out | apply zzf | apply zza | apply zzg | refine zze ?_ GE244.out | refine zze ?_ GE245.out | refine zze ?_ GE246.out) | exact HB.out)) hb)
      have z_HO259 := fun (h0_ : b 8 = true) => (show Kd.R k23 23 w23 w.heap.size (fun k_ => k_ ≠ gb244 ∧ k_ ≠ gb245 ∧ k_ ≠ gb246) v258 y257 from by first | exact (Kd.R_below (by (with_reducible repeat (first | apply Kd.R_alloc | apply Kd.R_drewN | apply Kd.R_drew)); exact (Q_HO259 h0_)) hb) | exact Kd.R_mono (Kd.R_below (by (with_reducible repeat (first | apply Kd.R_alloc | apply Kd.R_drewN | apply Kd.R_drew)); exact (Q_HO259 h0_)) hb) (fun _ h_ => by first | trivial | exact h_ | exact h_.1))
      clear BK244
      clear BK245
      clear BK246
      clear HB
      have BK244 := n0_
      have BK245 := n1_
      have BK246 := n2_
      have HB := n3_
      clear n0_ n1_ n2_ n3_
      (try clear hb)
      (try clear hb2)
      (try clear hk)
      (try clear hi)
      refine hK.out _ _ ⟨v258, (by rw [ha.out]; exact putSel_upk 3 hb_ rfl rfl rfl), (by (with_reducible repeat first | apply zzc | apply zzd | apply zzb); exact BK244.out), (by (with_reducible repeat first | apply zzc | apply zzd | apply zzb); exact BK245.out), fun _ => (by (with_reducible repeat first | apply zzc | apply zzd | apply zzb); exact BK246.out), (by repeat (first | (with_reducible first | exact HB.out | apply zzf | apply zza | apply zzg | refine zze ?_ GE244.out | refine zze ?_ GE245.out | refine zze ?_ GE246.out) | exact HB.out)), z_HO259, fun h0_ => absurd ((hoff 11 (by kernel_rfl)).symm.trans h0_) (by decide)⟩
    refine steps_cons ?_ ?_
    · rintro b a w' ⟨v258, ha, Q_BK244, Q_BK245, Q_BK246, Q_HB, Q_HO259, Q_BK246_e11⟩ hb_ hon hoff
      refine ⟨_, rfl, fun K hK => ?_⟩
      have e2 : a.tmps[2]? = some (.pointer (some ⟨gb244, 0, none⟩)) := by rw [ha]; exact (putSel_off rfl).trans rfl
      replace ha := Aside0.mk ha
      have BK244 := Aside0.mk Q_BK244
      have BK245 := Aside0.mk Q_BK245
      have BK246 := Aside0.mk (Q_BK246 (hoff 11 (by kernel_rfl)))
      have HB := Aside0.mk Q_HB
      have hc0_ : w'.cell? ⟨gb244, 0, none⟩ = some (.int .i64 t247) := (zzi BK244.out 0).trans rfl
      have hc1_ : w'.cell? ⟨gb244, 1, none⟩ = some (.bool t248) := (zzi BK244.out 1).trans rfl
      refine value_ (w1 := w') (v := .agg #[.int .i64 t247, .bool t248]) (by rfl) rfl ?_ ?_
      · go_simp
        (try simp only [i64_w])
        try rfl
      refine hK.out _ _ ⟨v258, (by rw [ha.out]; exact putSel_upk 4 hb_ rfl rfl rfl), Q_BK244, Q_BK245, Q_BK246, Q_HB, fun h0_ => absurd ((hoff 8 (by kernel_rfl)).symm.trans h0_) (by decide), fun h0_ => absurd ((hoff 11 (by kernel_rfl)).symm.trans h0_) (by decide)⟩
    refine steps_cons ?_ ?_
    · rintro b a w' ⟨v258, ha, Q_BK244, Q_BK245, Q_BK246, Q_HB, Q_HO259, Q_BK246_e11⟩ hb_ hon hoff
      refine ⟨_, rfl, fun K hK => ?_⟩
      have e3 : a.tmps[3]? = some (.pointer (some ⟨gb245, 0, none⟩)) := by rw [ha]; exact (putSel_off rfl).trans rfl
      replace ha := Aside0.mk ha
      have BK244 := Aside0.mk Q_BK244
      have BK245 := Aside0.mk Q_BK245
      have BK246 := Aside0.mk (Q_BK246 (hoff 11 (by kernel_rfl)))
      have HB := Aside0.mk Q_HB
      have hc0_ : w'.cell? ⟨gb245, 0, none⟩ = some (.int .i64 t249) := (zzi BK245.out 0).trans rfl
      have hc1_ : w'.cell? ⟨gb245, 1, none⟩ = some (.bool t250) := (zzi BK245.out 1).trans rfl
      refine value_ (w1 := w') (v := .agg #[.int .i64 t249, .bool t250]) (by rfl) rfl ?_ ?_
      · go_simp
        (try simp only [i64_w])
        try rfl
      refine hK.out _ _ ⟨v258, (by rw [ha.out]; exact putSel_upk 5 hb_ rfl rfl rfl), Q_BK244, Q_BK245, Q_BK246, Q_HB, fun h0_ => absurd ((hoff 8 (by kernel_rfl)).symm.trans h0_) (by decide), fun h0_ => absurd ((hoff 11 (by kernel_rfl)).symm.trans h0_) (by decide)⟩
    refine steps_cons ?_ ?_
    · rintro b a w' ⟨v258, ha, Q_BK244, Q_BK245, Q_BK246, Q_HB, Q_HO259, Q_BK246_e11⟩ hb_ hon hoff
      refine ⟨_, rfl, fun K hK => ?_⟩
      have e15 : a.tmps[15]? = some (.agg #[.int .i64 t247, .bool t248]) := by rw [ha]; exact putSel_on (e := (6, 15, .agg #[.int .i64 t247, .bool t248])) 4 rfl rfl (hon 6 (by kernel_rfl)) rfl
      have e16 : a.tmps[16]? = some (.agg #[.int .i64 t249, .bool t250]) := by rw [ha]; exact putSel_on (e := (7, 16, .agg #[.int .i64 t249, .bool t250])) 5 rfl rfl (hon 7 (by kernel_rfl)) rfl
      replace ha := Aside0.mk ha
      have BK244 := Aside0.mk Q_BK244
      have BK245 := Aside0.mk Q_BK245
      have BK246 := Aside0.mk (Q_BK246 (hoff 11 (by kernel_rfl)))
      have HB := Aside0.mk Q_HB
      refine Kd.R_lit_step k23 _ 23 ?hg (N := 17) ?hd (xs := ([(⟨t247, t248⟩ : S23), (⟨t249, t250⟩ : S23)] : List (S23))) (inner := [.int .i64 t247, .bool t248, .int .i64 t249, .bool t250]) (ok := fun _ => True) (okp := fun _ => True) ?hr ?hp (fun _ hk => hk) trivial (Below.refl _ _) (Nat.le_refl _) (by simp) ?_; (case hd => rfl); (case hg => rfl); (case hr => first | (go_simp; done) | (go_simp; rfl)); (case hp => exact (Reps.c2 (show Kd.M k23 _ _ _ (⟨t247, t248⟩ : S23) [.int .i64 t247, .bool t248] from (k23_mkM _ _ _ (⟨t247, t248⟩ : S23) )) (Reps.c2 (show Kd.M k23 _ _ _ (⟨t249, t250⟩ : S23) [.int .i64 t249, .bool t250] from (k23_mkM _ _ _ (⟨t249, t250⟩ : S23) )) (Reps.none _ _))))
      intro v258 w21 ho22 hb hg_ hnew_
      clear hg_ hnew_
      (first | rw [← Ny257.out] at ho22 | (simp only [Int.reduceToNat] at ho22; rw [← Ny257.out] at ho22))
      have n0_ := Aside0.mk (Kd.R_lower (Kd.R_newB (Kd.R_newB (Kd.R_newB ho22 (g := gb244) (o := .cells #[.int .i64 t247, .bool t248] 23 (0, 0)) (by (with_reducible repeat first | apply zzc | apply zzd | apply zzb); exact BK244.out)) (g := gb245) (o := .cells #[.int .i64 t249, .bool t250] 23 (0, 0)) (by (with_reducible repeat first | apply zzc | apply zzd | apply zzb); exact BK245.out)) (g := gb246) (o := .cells #[.int .i64 0, .bool false] 23 (0, 0)) (by (with_reducible repeat first | apply zzc | apply zzd | apply zzb); exact BK246.out)) (zzk (by repeat (first | (with_reducible first | exact HB.out | apply zzf | apply zza | apply zzg | refine zze ?_ GE244.out | refine zze ?_ GE245.out | refine zze ?_ GE246.out) | exact HB.out))))
      have n1_ := Aside0.mk (zzj (g := gb244) (o := .cells #[.int .i64 t247, .bool t248] 23 (0, 0)) (by (with_reducible repeat first | apply zzc | apply zzd | apply zzb); exact BK244.out) hb)
      have n2_ := Aside0.mk (zzj (g := gb245) (o := .cells #[.int .i64 t249, .bool t250] 23 (0, 0)) (by (with_reducible repeat first | apply zzc | apply zzd | apply zzb); exact BK245.out) hb)
      have n3_ := Aside0.mk (zzj (g := gb246) (o := .cells #[.int .i64 0, .bool false] 23 (0, 0)) (by (with_reducible repeat first | apply zzc | apply zzd | apply zzb); exact BK246.out) hb)
      have n4_ := Aside0.mk (zzl (by repeat (first | (with_reducible first | exact HB.out | apply zzf | apply zza | apply zzg | refine zze ?_ GE244.out | refine zze ?_ GE245.out | refine zze ?_ GE246.out) | exact HB.out)) hb)
      clear BK244
      clear BK245
      clear BK246
      clear HB
      have HO259 := n0_
      have BK244 := n1_
      have BK245 := n2_
      have BK246 := n3_
      have HB := n4_
      clear n0_ n1_ n2_ n3_ n4_
      clear hb ho22
      refine hK.out _ _ ⟨v258, (by rw [ha.out]; exact putSel_upk 6 hb_ rfl rfl rfl), (by (with_reducible repeat first | apply zzc | apply zzd | apply zzb); exact BK244.out), (by (with_reducible repeat first | apply zzc | apply zzd | apply zzb); exact BK245.out), fun _ => (by (with_reducible repeat first | apply zzc | apply zzd | apply zzb); exact BK246.out), (by repeat (first | (with_reducible first | exact HB.out | apply zzf | apply zza | apply zzg | refine zze ?_ GE244.out | refine zze ?_ GE245.out | refine zze ?_ GE246.out) | exact HB.out)), fun _ => (by (with_reducible repeat (first | apply Kd.R_alloc | apply Kd.R_drewN | apply Kd.R_drew)); exact Kd.R_mono HO259.out (fun _ hk => ⟨hk.1.1.2, ⟨hk.1.2, hk.2⟩⟩)), fun h0_ => absurd ((hoff 11 (by kernel_rfl)).symm.trans h0_) (by decide)⟩
    refine steps_cons ?_ ?_
    · rintro b a w' ⟨v258, ha, Q_BK244, Q_BK245, Q_BK246, Q_HB, Q_HO259, Q_BK246_e11⟩ hb_ hon hoff
      refine ⟨_, rfl, fun K hK => ?_⟩
      have e17 : a.tmps[17]? = some (v258) := by rw [ha]; exact putSel_on (e := (8, 17, v258)) 6 rfl rfl (hon 8 (by kernel_rfl)) rfl
      replace ha := Aside0.mk ha
      have BK244 := Aside0.mk Q_BK244
      have BK245 := Aside0.mk Q_BK245
      have BK246 := Aside0.mk (Q_BK246 (hoff 11 (by kernel_rfl)))
      have HB := Aside0.mk Q_HB
      have HO259 := Aside0.mk (Q_HO259 (hon 8 (by kernel_rfl)))
      obtain ⟨Ao26, co26, eo26⟩ := Kd.R_slice HO259.out
      (first | subst eo26 | (injection eo26 with f1_ f2_ f3_; have f4_ := f1_.symm; have f5_ := f3_.symm; clear f1_ f2_ f3_; subst f4_; subst f5_))
      refine goes_ Try.func88 (by kernel_rfl) rfl #[.slice Ao26 y257.length co26] (by rfl) rfl rfl (by first | (simp only [List.map_toArray, List.map_cons, List.map_nil, Act.eval, Array.getD_eq_getD_getElem?, Option.getD_some, e17]; done) | (simp only [List.map_toArray, List.map_cons, List.map_nil, Act.eval, Array.getD_eq_getD_getElem?, Option.getD_some, e17]; rfl)) ?_
      with_reducible refine (fixed_flags.calls k _ _ y257 t260 _ ?side1 ?side2 A7.out).mono ?_
      (case side1 => repeat (first | exact (Kd.R_reads' HO259.out).2.2 | (with_reducible refine Kd.C_alloc ?_ _) | (with_reducible refine Kd.C_drewN ?_ _) | (with_reducible refine Kd.C_drew ?_)))
      (case side2 => exact (Kd.R_reads' HO259.out).2.1)
      rintro e w27 ⟨rfl, hb⟩
      refine ⟨_, rfl, ?_⟩
      have n0_ := Aside0.mk (Kd.R_below (by (with_reducible repeat (first | apply Kd.R_alloc | apply Kd.R_drewN | apply Kd.R_drew)); exact HO259.out) hb)
      have n1_ := Aside0.mk (zzj (g := gb244) (o := .cells #[.int .i64 t247, .bool t248] 23 (0, 0)) (by (with_reducible repeat first | apply zzc | apply zzd | apply zzb); exact BK244.out) hb)
      have n2_ := Aside0.mk (zzj (g := gb245) (o := .cells #[.int .i64 t249, .bool t250] 23 (0, 0)) (by (with_reducible repeat first | apply zzc | apply zzd | apply zzb); exact BK245.out) hb)
      have n3_ := Aside0.mk (zzj (g := gb246) (o := .cells #[.int .i64 0, .bool false] 23 (0, 0)) (by (with_reducible repeat first | apply zzc | apply zzd | apply zzb); exact BK246.out) hb)
      have n4_ := Aside0.mk (zzl (by repeat (first | (with_reducible first | exact HB.out | apply zzf | apply zza | apply zzg | refine zze ?_ GE244.out | refine zze ?_ GE245.out | refine zze ?_ GE246.out) | exact HB.out)) hb)
      clear HO259
      clear BK244
      clear BK245
      clear BK246
      clear HB
      have HO259 := n0_
      have BK244 := n1_
      have BK245 := n2_
      have BK246 := n3_
      have HB := n4_
      clear n0_ n1_ n2_ n3_ n4_
      (try clear hb)
      (try clear hb2)
      (try clear hk)
      (try clear hi)
      refine hK.out _ _ ⟨.slice Ao26 y257.length co26, (by rw [ha.out]; exact putSel_upk 7 hb_ rfl rfl rfl), (by (with_reducible repeat first | apply zzc | apply zzd | apply zzb); exact BK244.out), (by (with_reducible repeat first | apply zzc | apply zzd | apply zzb); exact BK245.out), fun _ => (by (with_reducible repeat first | apply zzc | apply zzd | apply zzb); exact BK246.out), (by repeat (first | (with_reducible first | exact HB.out | apply zzf | apply zza | apply zzg | refine zze ?_ GE244.out | refine zze ?_ GE245.out | refine zze ?_ GE246.out) | exact HB.out)), fun _ => (by (with_reducible repeat (first | apply Kd.R_alloc | apply Kd.R_drewN | apply Kd.R_drew)); exact HO259.out), fun h0_ => absurd ((hoff 11 (by kernel_rfl)).symm.trans h0_) (by decide)⟩
    refine steps_cons ?_ ?_
    · rintro b a w' ⟨v258, ha, Q_BK244, Q_BK245, Q_BK246, Q_HB, Q_HO259, Q_BK246_e11⟩ hb_ hon hoff
      refine ⟨_, rfl, fun K hK => ?_⟩
      have e14 : a.tmps[14]? = some (.agg #[.bool t254, .int .u64 t255, .int .u64 t256]) := by rw [ha]; exact putSel_on (e := (5, 14, .agg #[.bool t254, .int .u64 t255, .int .u64 t256])) 3 rfl rfl (hon 5 (by kernel_rfl)) rfl
      have e18 : a.tmps[18]? = some (.bool t260) := by rw [ha]; exact putSel_on (e := (9, 18, .bool t260)) 7 rfl rfl (hon 9 (by kernel_rfl)) rfl
      replace ha := Aside0.mk ha
      have BK244 := Aside0.mk Q_BK244
      have BK245 := Aside0.mk Q_BK245
      have BK246 := Aside0.mk (Q_BK246 (hoff 11 (by kernel_rfl)))
      have HB := Aside0.mk Q_HB
      have HO259 := Aside0.mk (Q_HO259 (hon 8 (by kernel_rfl)))
      refine goes_ Try.func83 (by kernel_rfl) rfl #[.agg #[.bool t254, .int .u64 t255, .int .u64 t256], .bool t260] (by rfl) rfl rfl (by first | (simp only [List.map_toArray, List.map_cons, List.map_nil, Act.eval, Array.getD_eq_getD_getElem?, Option.getD_some, e14, e18]; done) | (simp only [List.map_toArray, List.map_cons, List.map_nil, Act.eval, Array.getD_eq_getD_getElem?, Option.getD_some, e14, e18]; rfl)) ?_
      with_reducible refine (fixed_exact_fit.calls k t254 t255 t256 t260 t261 t262 _ A8.out).mono ?_
      rintro e w28 ⟨rfl, hb⟩
      refine ⟨_, rfl, ?_⟩
      have n0_ := Aside0.mk (Kd.R_below (by (with_reducible repeat (first | apply Kd.R_alloc | apply Kd.R_drewN | apply Kd.R_drew)); exact HO259.out) hb)
      have n1_ := Aside0.mk (zzj (g := gb244) (o := .cells #[.int .i64 t247, .bool t248] 23 (0, 0)) (by (with_reducible repeat first | apply zzc | apply zzd | apply zzb); exact BK244.out) hb)
      have n2_ := Aside0.mk (zzj (g := gb245) (o := .cells #[.int .i64 t249, .bool t250] 23 (0, 0)) (by (with_reducible repeat first | apply zzc | apply zzd | apply zzb); exact BK245.out) hb)
      have n3_ := Aside0.mk (zzj (g := gb246) (o := .cells #[.int .i64 0, .bool false] 23 (0, 0)) (by (with_reducible repeat first | apply zzc | apply zzd | apply zzb); exact BK246.out) hb)
      have n4_ := Aside0.mk (zzl (by repeat (first | (with_reducible first | exact HB.out | apply zzf | apply zza | apply zzg | refine zze ?_ GE244.out | refine zze ?_ GE245.out | refine zze ?_ GE246.out) | exact HB.out)) hb)
      clear HO259
      clear BK244
      clear BK245
      clear BK246
      clear HB
      have HO259 := n0_
      have BK244 := n1_
      have BK245 := n2_
      have BK246 := n3_
      have HB := n4_
      clear n0_ n1_ n2_ n3_ n4_
      (try clear hb)
      (try clear hb2)
      (try clear hk)
      (try clear hi)
      refine hK.out _ _ ⟨v258, (by rw [ha.out]; exact putSel_upk 8 hb_ rfl rfl rfl), (by (with_reducible repeat first | apply zzc | apply zzd | apply zzb); exact BK244.out), (by (with_reducible repeat first | apply zzc | apply zzd | apply zzb); exact BK245.out), fun _ => (by (with_reducible repeat first | apply zzc | apply zzd | apply zzb); exact BK246.out), (by repeat (first | (with_reducible first | exact HB.out | apply zzf | apply zza | apply zzg | refine zze ?_ GE244.out | refine zze ?_ GE245.out | refine zze ?_ GE246.out) | exact HB.out)), fun _ => (by (with_reducible repeat (first | apply Kd.R_alloc | apply Kd.R_drewN | apply Kd.R_drew)); exact HO259.out), fun h0_ => absurd ((hoff 11 (by kernel_rfl)).symm.trans h0_) (by decide)⟩
    refine steps_cons ?_ ?_
    · rintro b a w' ⟨v258, ha, Q_BK244, Q_BK245, Q_BK246, Q_HB, Q_HO259, Q_BK246_e11⟩ hb_ hon hoff
      refine ⟨_, rfl, fun K hK => ?_⟩
      have e4 : a.tmps[4]? = some (.pointer (some ⟨gb246, 0, none⟩)) := by rw [ha]; exact (putSel_off rfl).trans rfl
      have e19 : a.tmps[19]? = some (.agg #[.int .i64 t261, .bool t262]) := by rw [ha]; exact putSel_on (e := (10, 19, .agg #[.int .i64 t261, .bool t262])) 8 rfl rfl (hon 10 (by kernel_rfl)) rfl
      replace ha := Aside0.mk ha
      have BK244 := Aside0.mk Q_BK244
      have BK245 := Aside0.mk Q_BK245
      have BK246 := Aside0.mk (Q_BK246 hb_)
      have HB := Aside0.mk Q_HB
      have HO259 := Aside0.mk (Q_HO259 (hon 8 (by kernel_rfl)))
      have hs29 : w'.cell? ⟨gb246, 0, none⟩ = some (.int .i64 0) := (zzi BK246.out 0).trans rfl
      have hfs29 := zzh BK246.out 0
      have hns29_0 := NB244_246.out
      have hns29_1 := NB245_246.out
      have hms29_0 := NB246_244.out
      have hms29_1 := NB246_245.out
      have hs30 : w'.cell? ⟨gb246, 1, none⟩ = some (.bool false) := (zzi BK246.out 1).trans rfl
      have hfs30 := zzh BK246.out 1
      have hns30_0 := NB244_246.out
      have hns30_1 := NB245_246.out
      have hms30_0 := NB246_244.out
      have hms30_1 := NB246_245.out
      refine skip_ (w1 := ?_) (by rfl) rfl ?_ ?_
      rotate_left
      · go_simp
        rfl
      refine hK.out _ _ ⟨v258, (by rw [ha.out]; exact putSel_none (v := undef) rfl), (by (with_reducible repeat first | apply zzc | apply zzd | apply zzb); refine zzs ?_ NB244_246.out _; (with_reducible repeat first | apply zzc | apply zzd | apply zzb); refine zzs ?_ NB244_246.out _; (with_reducible repeat first | apply zzc | apply zzd | apply zzb); exact BK244.out), (by (with_reducible repeat first | apply zzc | apply zzd | apply zzb); refine zzs ?_ NB245_246.out _; (with_reducible repeat first | apply zzc | apply zzd | apply zzb); refine zzs ?_ NB245_246.out _; (with_reducible repeat first | apply zzc | apply zzd | apply zzb); exact BK245.out), fun h0_ => absurd ((up_self b 11).symm.trans h0_) (by decide), (by repeat (first | (with_reducible first | exact HB.out | apply zzf | apply zza | apply zzg | refine zze ?_ GE244.out | refine zze ?_ GE245.out | refine zze ?_ GE246.out) | exact HB.out)), fun _ => (by (with_reducible repeat (first | apply Kd.R_alloc | apply Kd.R_drewN | apply Kd.R_drew)); exact Kd.R_mono (Kd.R_far (p := ⟨gb246, 1, none⟩) (Kd.R_far (p := ⟨gb246, 0, none⟩) (Kd.R_mono HO259.out (fun k_ hk => (⟨hk, hk.2.2⟩ : _ ∧ k_ ≠ gb246))) (fun _ hk => hk.2) (.int .i64 t261)) (fun _ hk => hk.2) (.bool t262)) (fun _ hk => ⟨hk.1.1, ⟨hk.1.2.1, hk.1.2.2⟩⟩)), fun _ => (by (with_reducible repeat first | apply zzc | apply zzd | apply zzb); refine zzo (cs := #[.int .i64 t261, .bool false]) ?_ 1 _ rfl; (with_reducible repeat first | apply zzc | apply zzd | apply zzb); refine zzo (cs := #[.int .i64 0, .bool false]) ?_ 0 _ rfl; (with_reducible repeat first | apply zzc | apply zzd | apply zzb); exact BK246.out)⟩
    exact steps_nil
  rintro b a w30 hall ⟨v258, ha, Q_BK244, Q_BK245, Q_BK246, Q_HB, Q_HO259, Q_BK246_e11⟩
  clear BK244 BK245 BK246 HB
  have hb1_ := hall 1 (by kernel_rfl)
  have hb3_ := hall 3 (by kernel_rfl)
  have hb4_ := hall 4 (by kernel_rfl)
  have hb5_ := hall 5 (by kernel_rfl)
  have hb6_ := hall 6 (by kernel_rfl)
  have hb7_ := hall 7 (by kernel_rfl)
  have hb8_ := hall 8 (by kernel_rfl)
  have hb9_ := hall 9 (by kernel_rfl)
  have hb10_ := hall 10 (by kernel_rfl)
  have hb11_ := hall 11 (by kernel_rfl)
  subst ha
  simp only [putSel, hb1_, hb3_, hb4_, hb5_, hb6_, hb7_, hb8_, hb9_, hb10_, hb11_, if_true, Act.put, List.setIfInBounds_toArray, List.set_cons_zero, List.set_cons_succ]
  have BK244 := Aside0.mk Q_BK244
  clear Q_BK244
  have BK245 := Aside0.mk Q_BK245
  clear Q_BK245
  clear Q_BK246
  have HB := Aside0.mk Q_HB
  clear Q_HB
  have HO259 := Aside0.mk (Q_HO259 hb8_)
  clear Q_HO259
  have BK246 := Aside0.mk (Q_BK246_e11 hb11_)
  clear Q_BK246_e11
  clear hall hb1_ hb3_ hb4_ hb5_ hb6_ hb7_ hb8_ hb9_ hb10_ hb11_
  try go_wp2
  refine bodyPost_ret (results_cell_row rfl _ _ gb246 23 #[.int .i64 t261, .bool t262] (0, 0) _ rfl (by (with_reducible repeat first | apply zzc | apply zzd | apply zzb); exact BK246.out) Try.underlying23 rfl (by kernel_rfl)) rfl ?_
  exact ⟨by first | rfl | (simp [zzn, zzm] <;> rfl) | (simp [*, zzn, zzm] <;> rfl), by repeat (first | (with_reducible first | exact HB.out | apply zzf | apply zza | apply zzg | refine zze ?_ GE244.out | refine zze ?_ GE245.out | refine zze ?_ GE246.out) | exact HB.out)⟩
end Go.Proofs.Ytenpiaafkmfjfaa.B

end
section
namespace Go.Proofs.Ytenpiaafkmfjfaa.B
open Go.RowKit Go.Proofs.YtenpiaafkmfjfaaW.PrintWords Go.Proofs.YtenpiaafkmfjfaaW.PrintLast
set_option linter.unusedVariables false
set_option linter.unusedSimpArgs false
def fixed_Div.f (k : Nat) (a0_0 : Int) (a0_1 : Bool) (a1_0 : Int) (a1_1 : Bool) : Option (Int × Bool) := (fixed_sound.f a0_0 a0_1).bind fun bt266 => ((fixed_sound.f a1_0 a1_1).bind fun bt268 => ((fixed_Ratio.f k bt266.1 bt268.1).bind fun bt270 => (if bt270.2 = true then (some (bt270.1, true)) else ((fixed_flags.f k (([(⟨bt266.1, bt266.2⟩ : S23), (⟨bt268.1, bt268.2⟩ : S23)] : List (S23)))).bind fun t276 => (some (bt270.1, t276))))))
set_option maxHeartbeats 8000000 in
set_option maxRecDepth 100000 in
theorem fixed_Div.calls (k : Nat) (a0_0 : Int) (a0_1 : Bool) (a1_0 : Int) (a1_1 : Bool) (r1 : Int) (r2 : Bool) (w : World) (h : fixed_Div.f k a0_0 a0_1 a1_0 a1_1 = some (r1, r2)) :
    Calls Try.prog 40 #[.agg #[.int .i64 a0_0, .bool a0_1], .agg #[.int .i64 a1_0, .bool a1_1]] w fun e w' => e = .returned (.agg #[.int .i64 r1, .bool r2]) ∧ Below w.heap.size w w' := by
  have hu23 := Try.underlying23
  have HB := Aside0.mk (Below.refl w.heap.size w)
  have H : ((fixed_sound.f a0_0 a0_1).bind fun bt266 => ((fixed_sound.f a1_0 a1_1).bind fun bt268 => ((fixed_Ratio.f k bt266.1 bt268.1).bind fun bt270 => (if bt270.2 = true then (some (bt270.1, true)) else ((fixed_flags.f k (([(⟨bt266.1, bt266.2⟩ : S23), (⟨bt268.1, bt268.2⟩ : S23)] : List (S23)))).bind fun t276 => (some (bt270.1, t276))))))) = some (r1, r2) := h
  clear h
  replace H := Option.bind_eq_some_iff.mp H
  obtain ⟨⟨t266, t267⟩, A30, H⟩ := H
  replace H : ((fixed_sound.f a1_0 a1_1).bind fun bt268 => ((fixed_Ratio.f k t266 bt268.1).bind fun bt270 => (if bt270.2 = true then (some (bt270.1, true)) else ((fixed_flags.f k (([(⟨t266, t267⟩ : S23), (⟨bt268.1, bt268.2⟩ : S23)] : List (S23)))).bind fun t276 => (some (bt270.1, t276)))))) = some (r1, r2) := H
  have A3 := Aside0.mk A30
  clear A30
  replace H := Option.bind_eq_some_iff.mp H
  obtain ⟨⟨t268, t269⟩, A40, H⟩ := H
  replace H : ((fixed_Ratio.f k t266 t268).bind fun bt270 => (if bt270.2 = true then (some (bt270.1, true)) else ((fixed_flags.f k (([(⟨t266, t267⟩ : S23), (⟨t268, t269⟩ : S23)] : List (S23)))).bind fun t276 => (some (bt270.1, t276))))) = some (r1, r2) := H
  have A4 := Aside0.mk A40
  clear A40
  replace H := Option.bind_eq_some_iff.mp H
  obtain ⟨⟨t270, t271⟩, A50, H⟩ := H
  replace H : (if t271 = true then (some (t270, true)) else ((fixed_flags.f k (([(⟨t266, t267⟩ : S23), (⟨t268, t269⟩ : S23)] : List (S23)))).bind fun t276 => (some (t270, t276)))) = some (r1, r2) := H
  have A5 := Aside0.mk A50
  clear A50
  by_cases c6 : t271 = true
  · subst c6
    have H1 : (some (t270, true)) = some (r1, r2) := by rw [if_pos rfl] at H; exact H
    clear H
    have H := H1
    clear H1
    simp only [Option.some.injEq, Prod.mk.injEq] at H
    obtain ⟨rfl, rfl⟩ := H
    go_enter Try.func40, Try.ntmps40
    try go_wp2_with (first | ((with_reducible refine zzt (N := 2) rfl ?_); (try (refine gate_guard (by rfl) ?_; dsimp only)); refine zzp ?hg (N := 2) ?hd (cs := #[.int .i64 a0_0, .bool a0_1]) (t := 23) ?hr ?_; (case hd => rfl); (case hg => rfl); (case hr => first | (go_simp; done) | (go_simp; rfl)); intro gb263 hg w7 hbox hb; have n0_ := Aside0.mk (zzl (by repeat (first | (with_reducible first | exact HB.out | apply zzf | apply zza | apply zzg) | exact HB.out)) hb); have n1_ := Aside0.mk (hbox); have n3_ := Aside0.mk ((by rw [hg]; exact (zzk (by repeat (first | (with_reducible first | exact HB.out | apply zzf | apply zza | apply zzg) | exact HB.out))) : w.heap.size ≤ gb263)); clear HB; have HB := n0_; have BK263 := n1_; have GE263 := n3_; clear n0_ n1_ n3_; clear hb hbox hg) | ((with_reducible refine zzt (N := 3) rfl ?_); (try (refine gate_guard (by rfl) ?_; dsimp only)); refine zzp ?hg (N := 3) ?hd (cs := #[.int .i64 a1_0, .bool a1_1]) (t := 23) ?hr ?_; (case hd => rfl); (case hg => rfl); (case hr => first | (go_simp; done) | (go_simp; rfl)); intro gb264 hg w8 hbox hb; have n0_ := Aside0.mk (zzj (g := gb263) (o := .cells #[.int .i64 a0_0, .bool a0_1] 23 (0, 0)) (by (with_reducible repeat first | apply zzc | apply zzd | apply zzb); exact BK263.out) hb); have n1_ := Aside0.mk (zzl (by repeat (first | (with_reducible first | exact HB.out | apply zzf | apply zza | apply zzg | refine zze ?_ GE263.out) | exact HB.out)) hb); have n2_ := Aside0.mk (hbox); have n4_ := Aside0.mk ((by rw [hg]; exact (zzk (by repeat (first | (with_reducible first | exact HB.out | apply zzf | apply zza | apply zzg | refine zze ?_ GE263.out) | exact HB.out))) : w.heap.size ≤ gb264)); have n5_ := Aside0.mk ((by rw [hg]; exact Nat.ne_of_lt (zzr (g := gb263) (o := .cells #[.int .i64 a0_0, .bool a0_1] 23 (0, 0)) (by (with_reducible repeat first | apply zzc | apply zzd | apply zzb); exact BK263.out)) : gb263 ≠ gb264)); have n6_ := Aside0.mk ((by rw [hg]; exact Nat.ne_of_gt (zzr (g := gb263) (o := .cells #[.int .i64 a0_0, .bool a0_1] 23 (0, 0)) (by (with_reducible repeat first | apply zzc | apply zzd | apply zzb); exact BK263.out)) : gb264 ≠ gb263)); clear BK263; clear HB; have BK263 := n0_; have HB := n1_; have BK264 := n2_; have GE264 := n4_; have NB263_264 := n5_; have NB264_263 := n6_; clear n0_ n1_ n2_ n4_ n5_ n6_; clear hb hbox hg) | ((with_reducible refine zzt (N := 4) rfl ?_); (try (refine gate_guard (by rfl) ?_; dsimp only)); refine zzp ?hg (N := 4) ?hd (cs := #[.int .i64 0, .bool false]) (t := 23) ?hr ?_; (case hd => rfl); (case hg => rfl); (case hr => first | (go_simp; done) | (go_simp; rfl)); intro gb265 hg w9 hbox hb; have n0_ := Aside0.mk (zzj (g := gb263) (o := .cells #[.int .i64 a0_0, .bool a0_1] 23 (0, 0)) (by (with_reducible repeat first | apply zzc | apply zzd | apply zzb); exact BK263.out) hb); have n1_ := Aside0.mk (zzj (g := gb264) (o := .cells #[.int .i64 a1_0, .bool a1_1] 23 (0, 0)) (by (with_reducible repeat first | apply zzc | apply zzd | apply zzb); exact BK264.out) hb); have n2_ := Aside0.mk (zzl (by repeat (first | (with_reducible first | exact HB.out | apply zzf | apply zza | apply zzg | refine zze ?_ GE263.out | refine zze ?_ GE264.out) | exact HB.out)) hb); have n3_ := Aside0.mk (hbox); have n5_ := Aside0.mk ((by rw [hg]; exact (zzk (by repeat (first | (with_reducible first | exact HB.out | apply zzf | apply zza | apply zzg | refine zze ?_ GE263.out | refine zze ?_ GE264.out) | exact HB.out))) : w.heap.size ≤ gb265)); have n6_ := Aside0.mk ((by rw [hg]; exact Nat.ne_of_lt (zzr (g := gb263) (o := .cells #[.int .i64 a0_0, .bool a0_1] 23 (0, 0)) (by (with_reducible repeat first | apply zzc | apply zzd | apply zzb); exact BK263.out)) : gb263 ≠ gb265)); have n7_ := Aside0.mk ((by rw [hg]; exact Nat.ne_of_gt (zzr (g := gb263) (o := .cells #[.int .i64 a0_0, .bool a0_1] 23 (0, 0)) (by (with_reducible repeat first | apply zzc | apply zzd | apply zzb); exact BK263.out)) : gb265 ≠ gb263)); have n8_ := Aside0.mk ((by rw [hg]; exact Nat.ne_of_lt (zzr (g := gb264) (o := .cells #[.int .i64 a1_0, .bool a1_1] 23 (0, 0)) (by (with_reducible repeat first | apply zzc | apply zzd | apply zzb); exact BK264.out)) : gb264 ≠ gb265)); have n9_ := Aside0.mk ((by rw [hg]; exact Nat.ne_of_gt (zzr (g := gb264) (o := .cells #[.int .i64 a1_0, .bool a1_1] 23 (0, 0)) (by (with_reducible repeat first | apply zzc | apply zzd | apply zzb); exact BK264.out)) : gb265 ≠ gb264)); clear BK263; clear BK264; clear HB; have BK263 := n0_; have BK264 := n1_; have HB := n2_; have BK265 := n3_; have GE265 := n5_; have NB263_265 := n6_; have NB265_263 := n7_; have NB264_265 := n8_; have NB265_264 := n9_; clear n0_ n1_ n2_ n3_ n5_ n6_ n7_ n8_ n9_; clear hb hbox hg))
    have n0_ := Aside0.mk (zzd BK263.out)
    have n1_ := Aside0.mk (zzd BK264.out)
    have n2_ := Aside0.mk (zzd BK265.out)
    have n3_ := Aside0.mk (zzg HB.out)
    clear BK263
    clear BK264
    clear BK265
    clear HB
    have BK263 := n0_
    have BK264 := n1_
    have BK265 := n2_
    have HB := n3_
    clear n0_ n1_ n2_ n3_
    refine start_ (n := 6) (S := fun w' => w'.cell? ⟨gb263, 0, none⟩ = some (.int .i64 a0_0) ∧ w'.cell? ⟨gb263, 1, none⟩ = some (.bool a0_1) ∧ w'.cell? ⟨gb264, 0, none⟩ = some (.int .i64 a1_0) ∧ w'.cell? ⟨gb264, 1, none⟩ = some (.bool a1_1)) (ds := [4, 5]) #[false, false, false, false, false, false] (by kernel_rfl) rfl rfl ⟨(zzi BK263.out 0).trans rfl, (zzi BK263.out 1).trans rfl, (zzi BK264.out 0).trans rfl, (zzi BK264.out 1).trans rfl⟩ (fun hHeld => ?_)
    generalize w9.drew = w10 at BK263 BK264 BK265 HB hHeld ⊢
    refine take_ (i := 0) (N := some 6) (v := ?_) (a' := ?_) #[true, false, false, false, false, false] rfl rfl (by kernel_rfl) (fun _ _ _ h => h) (Or.inl ⟨by rfl, ?_⟩) hHeld ?_ ?_
    rotate_left
    · rintro w' ⟨s0, s1, s2, s3⟩
      go_simp
      with_reducible rfl
    rotate_left
    · simp only [Act.put, List.setIfInBounds_toArray, List.set_cons_zero, List.set_cons_succ, i64_w, i32_w]
      rfl
    refine take_ (i := 2) (N := some 8) (v := ?_) (a' := ?_) #[true, false, true, false, false, false] rfl rfl (by kernel_rfl) (fun _ _ _ h => h) (Or.inl ⟨by rfl, ?_⟩) hHeld ?_ ?_
    rotate_left
    · rintro w' ⟨s0, s1, s2, s3⟩
      go_simp
      with_reducible rfl
    rotate_left
    · simp only [Act.put, List.setIfInBounds_toArray, List.set_cons_zero, List.set_cons_succ, i64_w, i32_w]
      rfl
    refine one_ (i := 1) (N := some 7) #[true, true, true, false, false, false] rfl rfl (by kernel_rfl) (by decide) (fun K hK => ?_)
    refine goes_ Try.func72 (by kernel_rfl) rfl #[.agg #[.int .i64 a0_0, .bool a0_1]] (by rfl) rfl rfl (by (try simp only [List.map_toArray, List.map_cons, List.map_nil]); first | done | rfl | (simp only [List.length_drop, List.length_take]; rfl)) ?_
    with_reducible refine (fixed_sound.calls a0_0 a0_1 t266 t267 _ A3.out).mono ?_
    rintro e w11 ⟨rfl, hb⟩
    refine ⟨_, rfl, ?_⟩
    have n0_ := Aside0.mk (zzj (g := gb263) (o := .cells #[.int .i64 a0_0, .bool a0_1] 23 (0, 0)) (by (with_reducible repeat first | apply zzc | apply zzd | apply zzb); exact BK263.out) hb)
    have n1_ := Aside0.mk (zzj (g := gb264) (o := .cells #[.int .i64 a1_0, .bool a1_1] 23 (0, 0)) (by (with_reducible repeat first | apply zzc | apply zzd | apply zzb); exact BK264.out) hb)
    have n2_ := Aside0.mk (zzj (g := gb265) (o := .cells #[.int .i64 0, .bool false] 23 (0, 0)) (by (with_reducible repeat first | apply zzc | apply zzd | apply zzb); exact BK265.out) hb)
    have n3_ := Aside0.mk (zzl (by repeat (first | (with_reducible first | exact HB.out | apply zzf | apply zza | apply zzg | refine zze ?_ GE263.out | refine zze ?_ GE264.out | refine zze ?_ GE265.out) | exact HB.out)) hb)
    clear BK263
    clear BK264
    clear BK265
    clear HB
    have BK263 := n0_
    have BK264 := n1_
    have BK265 := n2_
    have HB := n3_
    clear n0_ n1_ n2_ n3_
    (try clear hb)
    (try clear hb2)
    (try clear hk)
    (try clear hi)
    refine hK.out _ _ ⟨(zzi BK263.out 0).trans rfl, (zzi BK263.out 1).trans rfl, (zzi BK264.out 0).trans rfl, (zzi BK264.out 1).trans rfl⟩ (fun hHeld => ?_)
    clear hK K
    refine norm_ (a' := ?_) ?_ ?_
    rotate_left
    · show Act.put _ (some 7) _ = _
      simp only [Act.put, List.setIfInBounds_toArray, List.set_cons_zero, List.set_cons_succ, i64_w, i32_w]
      rfl
    refine one_ (i := 3) (N := some 9) #[true, true, true, true, false, false] rfl rfl (by kernel_rfl) (by decide) (fun K hK => ?_)
    refine goes_ Try.func72 (by kernel_rfl) rfl #[.agg #[.int .i64 a1_0, .bool a1_1]] (by rfl) rfl rfl (by (try simp only [List.map_toArray, List.map_cons, List.map_nil]); first | done | rfl | (simp only [List.length_drop, List.length_take]; rfl)) ?_
    with_reducible refine (fixed_sound.calls a1_0 a1_1 t268 t269 _ A4.out).mono ?_
    rintro e w12 ⟨rfl, hb⟩
    refine ⟨_, rfl, ?_⟩
    have n0_ := Aside0.mk (zzj (g := gb263) (o := .cells #[.int .i64 a0_0, .bool a0_1] 23 (0, 0)) (by (with_reducible repeat first | apply zzc | apply zzd | apply zzb); exact BK263.out) hb)
    have n1_ := Aside0.mk (zzj (g := gb264) (o := .cells #[.int .i64 a1_0, .bool a1_1] 23 (0, 0)) (by (with_reducible repeat first | apply zzc | apply zzd | apply zzb); exact BK264.out) hb)
    have n2_ := Aside0.mk (zzj (g := gb265) (o := .cells #[.int .i64 0, .bool false] 23 (0, 0)) (by (with_reducible repeat first | apply zzc | apply zzd | apply zzb); exact BK265.out) hb)
    have n3_ := Aside0.mk (zzl (by repeat (first | (with_reducible first | exact HB.out | apply zzf | apply zza | apply zzg | refine zze ?_ GE263.out | refine zze ?_ GE264.out | refine zze ?_ GE265.out) | exact HB.out)) hb)
    clear BK263
    clear BK264
    clear BK265
    clear HB
    have BK263 := n0_
    have BK264 := n1_
    have BK265 := n2_
    have HB := n3_
    clear n0_ n1_ n2_ n3_
    (try clear hb)
    (try clear hb2)
    (try clear hk)
    (try clear hi)
    refine hK.out _ _ ⟨(zzi BK263.out 0).trans rfl, (zzi BK263.out 1).trans rfl, (zzi BK264.out 0).trans rfl, (zzi BK264.out 1).trans rfl⟩ (fun hHeld => ?_)
    clear hK K
    refine norm_ (a' := ?_) ?_ ?_
    rotate_left
    · show Act.put _ (some 9) _ = _
      simp only [Act.put, List.setIfInBounds_toArray, List.set_cons_zero, List.set_cons_succ, i64_w, i32_w]
      rfl
    refine last_ (i := 4) (N := none) #[true, true, true, true, true, false] rfl rfl (by kernel_rfl) (by decide) (fun K hK => ?_)
    have hs13 : w12.cell? ⟨gb263, 0, none⟩ = some (.int .i64 a0_0) := (zzi BK263.out 0).trans rfl
    have hfs13 := zzh BK263.out 0
    have hns13_1 := NB264_263.out
    have hns13_2 := NB265_263.out
    have hms13_1 := NB263_264.out
    have hms13_2 := NB263_265.out
    have hs14 : w12.cell? ⟨gb263, 1, none⟩ = some (.bool a0_1) := (zzi BK263.out 1).trans rfl
    have hfs14 := zzh BK263.out 1
    have hns14_1 := NB264_263.out
    have hns14_2 := NB265_263.out
    have hms14_1 := NB263_264.out
    have hms14_2 := NB263_265.out
    refine skip_ (w1 := ?_) (by rfl) rfl ?_ ?_
    rotate_left
    · go_simp
      rfl
    refine hK.out _ _ ?_
    clear hK K
    refine last_ (i := 5) (N := none) #[true, true, true, true, true, true] rfl rfl (by kernel_rfl) (by decide) (fun K hK => ?_)
    have hs15 : w12.cell? ⟨gb264, 0, none⟩ = some (.int .i64 a1_0) := (zzi BK264.out 0).trans rfl
    have hfs15 := zzh BK264.out 0
    have hns15_0 := NB263_264.out
    have hns15_2 := NB265_264.out
    have hms15_0 := NB264_263.out
    have hms15_2 := NB264_265.out
    have hs16 : w12.cell? ⟨gb264, 1, none⟩ = some (.bool a1_1) := (zzi BK264.out 1).trans rfl
    have hfs16 := zzh BK264.out 1
    have hns16_0 := NB263_264.out
    have hns16_2 := NB265_264.out
    have hms16_0 := NB264_263.out
    have hms16_2 := NB264_265.out
    refine skip_ (w1 := ?_) (by rfl) rfl ?_ ?_
    rotate_left
    · go_simp
      rfl
    refine hK.out _ _ ?_
    clear hK K
    refine done_ (by kernel_rfl) ?_
    have hnb17 := NB263_264.out
    have hnc17 := NB264_263.out
    have hnb18 := NB263_265.out
    have hnc18 := NB265_263.out
    have hcz19_0 : w12.cell? ⟨gb263, 0, none⟩ = some (.int .i64 a0_0) := (zzi BK263.out 0).trans rfl
    have hcz19_1 : w12.cell? ⟨gb263, 1, none⟩ = some (.bool a0_1) := (zzi BK263.out 1).trans rfl
    have hfz19_0 := zzh BK263.out 0
    have hfz19_1 := zzh BK263.out 1
    have hnb20 := NB264_265.out
    have hnc20 := NB265_264.out
    have hcz21_0 : w12.cell? ⟨gb264, 0, none⟩ = some (.int .i64 a1_0) := (zzi BK264.out 0).trans rfl
    have hcz21_1 : w12.cell? ⟨gb264, 1, none⟩ = some (.bool a1_1) := (zzi BK264.out 1).trans rfl
    have hfz21_0 := zzh BK264.out 0
    have hfz21_1 := zzh BK264.out 1
    try go_wp2_with (first | ((with_reducible refine zzq (f := 50) rfl ?_); refine goesL_ (some 14) rfl rfl Try.func50 (by kernel_rfl) rfl #[.int .i64 t266, .int .i64 t268] rfl (by (try simp only [List.map_toArray, List.map_cons, List.map_nil]); first | done | rfl | (simp only [List.length_drop, List.length_take]; rfl)) ?_; (with_reducible refine (fixed_Ratio.calls k t266 t268 t270 true _ A5.out).mono ?_); rintro e w22 ⟨rfl, hb⟩; refine ⟨_, rfl, ?_⟩; have n0_ := Aside0.mk (zzj (g := gb263) (o := .cells #[.int .i64 t266, .bool t267] 23 (0, 0)) (by (with_reducible repeat first | apply zzc | apply zzd | apply zzb); refine zzs ?_ NB263_264.out _; (with_reducible repeat first | apply zzc | apply zzd | apply zzb); refine zzs ?_ NB263_264.out _; (with_reducible repeat first | apply zzc | apply zzd | apply zzb); refine zzo (cs := #[.int .i64 t266, .bool a0_1]) ?_ 1 _ rfl; (with_reducible repeat first | apply zzc | apply zzd | apply zzb); refine zzo (cs := #[.int .i64 a0_0, .bool a0_1]) ?_ 0 _ rfl; (with_reducible repeat first | apply zzc | apply zzd | apply zzb); exact BK263.out) hb); have n1_ := Aside0.mk (zzj (g := gb264) (o := .cells #[.int .i64 t268, .bool t269] 23 (0, 0)) (by (with_reducible repeat first | apply zzc | apply zzd | apply zzb); refine zzo (cs := #[.int .i64 t268, .bool a1_1]) ?_ 1 _ rfl; (with_reducible repeat first | apply zzc | apply zzd | apply zzb); refine zzo (cs := #[.int .i64 a1_0, .bool a1_1]) ?_ 0 _ rfl; (with_reducible repeat first | apply zzc | apply zzd | apply zzb); refine zzs ?_ NB264_263.out _; (with_reducible repeat first | apply zzc | apply zzd | apply zzb); refine zzs ?_ NB264_263.out _; (with_reducible repeat first | apply zzc | apply zzd | apply zzb); exact BK264.out) hb); have n2_ := Aside0.mk (zzj (g := gb265) (o := .cells #[.int .i64 0, .bool false] 23 (0, 0)) (by (with_reducible repeat first | apply zzc | apply zzd | apply zzb); refine zzs ?_ NB265_264.out _; (with_reducible repeat first | apply zzc | apply zzd | apply zzb); refine zzs ?_ NB265_264.out _; (with_reducible repeat first | apply zzc | apply zzd | apply zzb); refine zzs ?_ NB265_263.out _; (with_reducible repeat first | apply zzc | apply zzd | apply zzb); refine zzs ?_ NB265_263.out _; (with_reducible repeat first | apply zzc | apply zzd | apply zzb); exact BK265.out) hb); have n3_ := Aside0.mk (zzl (by repeat (first | (with_reducible first | exact HB.out | apply zzf | apply zza | apply zzg | refine zze ?_ GE263.out | refine zze ?_ GE264.out | refine zze ?_ GE265.out) | exact HB.out)) hb); clear BK263; clear BK264; clear BK265; clear HB; have BK263 := n0_; have BK264 := n1_; have BK265 := n2_; have HB := n3_; clear n0_ n1_ n2_ n3_; (try clear hi)) | ((with_reducible refine zzt (N := 5) rfl ?_); (try (refine gate_guard (by rfl) ?_; dsimp only)); refine zzp ?hg (N := 5) ?hd (cs := #[.int .i64 0, .bool false]) (t := 23) ?hr ?_; (case hd => rfl); (case hg => rfl); (case hr => first | (go_simp; done) | (go_simp; rfl)); intro gb272 hg w23 hbox hb; have n0_ := Aside0.mk (zzj (g := gb263) (o := .cells #[.int .i64 t266, .bool t267] 23 (0, 0)) (by (with_reducible repeat first | apply zzc | apply zzd | apply zzb); exact BK263.out) hb); have n1_ := Aside0.mk (zzj (g := gb264) (o := .cells #[.int .i64 t268, .bool t269] 23 (0, 0)) (by (with_reducible repeat first | apply zzc | apply zzd | apply zzb); exact BK264.out) hb); have n2_ := Aside0.mk (zzj (g := gb265) (o := .cells #[.int .i64 0, .bool false] 23 (0, 0)) (by (with_reducible repeat first | apply zzc | apply zzd | apply zzb); exact BK265.out) hb); have n3_ := Aside0.mk (zzl (by repeat (first | (with_reducible first | exact HB.out | apply zzf | apply zza | apply zzg | refine zze ?_ GE263.out | refine zze ?_ GE264.out | refine zze ?_ GE265.out) | exact HB.out)) hb); have n4_ := Aside0.mk (hbox); have n6_ := Aside0.mk ((by rw [hg]; exact (zzk (by repeat (first | (with_reducible first | exact HB.out | apply zzf | apply zza | apply zzg | refine zze ?_ GE263.out | refine zze ?_ GE264.out | refine zze ?_ GE265.out) | exact HB.out))) : w.heap.size ≤ gb272)); have n7_ := Aside0.mk ((by rw [hg]; exact Nat.ne_of_lt (zzr (g := gb263) (o := .cells #[.int .i64 t266, .bool t267] 23 (0, 0)) (by (with_reducible repeat first | apply zzc | apply zzd | apply zzb); exact BK263.out)) : gb263 ≠ gb272)); have n8_ := Aside0.mk ((by rw [hg]; exact Nat.ne_of_gt (zzr (g := gb263) (o := .cells #[.int .i64 t266, .bool t267] 23 (0, 0)) (by (with_reducible repeat first | apply zzc | apply zzd | apply zzb); exact BK263.out)) : gb272 ≠ gb263)); have n9_ := Aside0.mk ((by rw [hg]; exact Nat.ne_of_lt (zzr (g := gb264) (o := .cells #[.int .i64 t268, .bool t269] 23 (0, 0)) (by (with_reducible repeat first | apply zzc | apply zzd | apply zzb); exact BK264.out)) : gb264 ≠ gb272)); have n10_ := Aside0.mk ((by rw [hg]; exact Nat.ne_of_gt (zzr (g := gb264) (o := .cells #[.int .i64 t268, .bool t269] 23 (0, 0)) (by (with_reducible repeat first | apply zzc | apply zzd | apply zzb); exact BK264.out)) : gb272 ≠ gb264)); have n11_ := Aside0.mk ((by rw [hg]; exact Nat.ne_of_lt (zzr (g := gb265) (o := .cells #[.int .i64 0, .bool false] 23 (0, 0)) (by (with_reducible repeat first | apply zzc | apply zzd | apply zzb); exact BK265.out)) : gb265 ≠ gb272)); have n12_ := Aside0.mk ((by rw [hg]; exact Nat.ne_of_gt (zzr (g := gb265) (o := .cells #[.int .i64 0, .bool false] 23 (0, 0)) (by (with_reducible repeat first | apply zzc | apply zzd | apply zzb); exact BK265.out)) : gb272 ≠ gb265)); clear BK263; clear BK264; clear BK265; clear HB; have BK263 := n0_; have BK264 := n1_; have BK265 := n2_; have HB := n3_; have BK272 := n4_; have GE272 := n6_; have NB263_272 := n7_; have NB272_263 := n8_; have NB264_272 := n9_; have NB272_264 := n10_; have NB265_272 := n11_; have NB272_265 := n12_; clear n0_ n1_ n2_ n3_ n4_ n6_ n7_ n8_ n9_ n10_ n11_ n12_; clear hb hbox hg; have hqq : ∀ (u v x : Value), (((w23.setCell ⟨gb272, 0, none⟩ u).setCell ⟨gb272, 1, none⟩ v).setCell ⟨gb272, 1, none⟩ x).cell? ⟨gb272, 1, none⟩ = some x := fun u v x => (zzi (blk_set (blk_set (blk_set BK272.out 0 u) 1 v) 1 x) 1).trans rfl; have hnb24 := NB272_263.out; have hnc24 := NB263_272.out; have hnb25 := NB272_264.out; have hnc25 := NB264_272.out; have hnb26 := NB272_265.out; have hnc26 := NB265_272.out; have hcz27_0 : w23.cell? ⟨gb272, 0, none⟩ = some (.int .i64 0) := (zzi BK272.out 0).trans rfl; have hcz27_1 : w23.cell? ⟨gb272, 1, none⟩ = some (.bool false) := (zzi BK272.out 1).trans rfl; have hfz27_0 := zzh BK272.out 0; have hfz27_1 := zzh BK272.out 1; have hcz28_0 : w23.cell? ⟨gb265, 0, none⟩ = some (.int .i64 0) := (zzi BK265.out 0).trans rfl; have hcz28_1 : w23.cell? ⟨gb265, 1, none⟩ = some (.bool false) := (zzi BK265.out 1).trans rfl; have hfz28_0 := zzh BK265.out 0; have hfz28_1 := zzh BK265.out 1))
    refine bodyPost_ret (results_cell_row rfl _ _ gb265 23 #[.int .i64 t270, .bool true] (0, 0) _ rfl (by (with_reducible repeat first | apply zzc | apply zzd | apply zzb); refine zzo (cs := #[.int .i64 t270, .bool false]) ?_ 1 _ rfl; (with_reducible repeat first | apply zzc | apply zzd | apply zzb); refine zzo (cs := #[.int .i64 0, .bool false]) ?_ 0 _ rfl; (with_reducible repeat first | apply zzc | apply zzd | apply zzb); refine zzs ?_ NB265_272.out _; (with_reducible repeat first | apply zzc | apply zzd | apply zzb); refine zzs ?_ NB265_272.out _; (with_reducible repeat first | apply zzc | apply zzd | apply zzb); refine zzs ?_ NB265_272.out _; (with_reducible repeat first | apply zzc | apply zzd | apply zzb); exact BK265.out) Try.underlying23 rfl (by kernel_rfl)) rfl ?_
    exact ⟨by first | rfl | (simp [zzn, zzm] <;> rfl) | (simp [*, zzn, zzm] <;> rfl), by repeat (first | (with_reducible first | exact HB.out | apply zzf | apply zza | apply zzg | refine zze ?_ GE263.out | refine zze ?_ GE264.out | refine zze ?_ GE265.out | refine zze ?_ GE272.out) | exact HB.out)⟩
  · replace c6 := Bool.eq_false_iff.mpr c6
    subst c6
    have H1 : ((fixed_flags.f k (([(⟨t266, t267⟩ : S23), (⟨t268, t269⟩ : S23)] : List (S23)))).bind fun t276 => (some (t270, t276))) = some (r1, r2) := by rw [if_neg (show ¬ (false = true) by decide)] at H; exact H
    clear H
    have H := H1
    clear H1
    obtain ⟨y273, hy273⟩ : ∃ y_ : List (S23), y_ = (([(⟨t266, t267⟩ : S23), (⟨t268, t269⟩ : S23)] : List (S23))) := ⟨_, rfl⟩
    replace H : ((fixed_flags.f k y273).bind fun t276 => (some (t270, t276))) = some (r1, r2) := by first | (rw [hy273]; with_reducible exact H) | (have H2_ := (Option.bind_some _ _).symm.trans H; rw [hy273]; with_reducible exact H2_) | (have H2_ := (Option.bind_some _ _).symm.trans H; with_reducible exact H2_) | with_reducible exact H | (rw [hy273]; exact H) | exact H
    have Ny273 := Aside0.mk hy273
    clear hy273
    replace H := Option.bind_eq_some_iff.mp H
    obtain ⟨t276, A290, H⟩ := H
    replace H : (some (t270, t276)) = some (r1, r2) := H
    have A29 := Aside0.mk A290
    clear A290
    simp only [Option.some.injEq, Prod.mk.injEq] at H
    obtain ⟨rfl, rfl⟩ := H
    go_enter Try.func40, Try.ntmps40
    try go_wp2_with (first | ((with_reducible refine zzt (N := 2) rfl ?_); (try (refine gate_guard (by rfl) ?_; dsimp only)); refine zzp ?hg (N := 2) ?hd (cs := #[.int .i64 a0_0, .bool a0_1]) (t := 23) ?hr ?_; (case hd => rfl); (case hg => rfl); (case hr => first | (go_simp; done) | (go_simp; rfl)); intro gb263 hg w30 hbox hb; have n0_ := Aside0.mk (zzl (by repeat (first | (with_reducible first | exact HB.out | apply zzf | apply zza | apply zzg) | exact HB.out)) hb); have n1_ := Aside0.mk (hbox); have n3_ := Aside0.mk ((by rw [hg]; exact (zzk (by repeat (first | (with_reducible first | exact HB.out | apply zzf | apply zza | apply zzg) | exact HB.out))) : w.heap.size ≤ gb263)); clear HB; have HB := n0_; have BK263 := n1_; have GE263 := n3_; clear n0_ n1_ n3_; clear hb hbox hg) | ((with_reducible refine zzt (N := 3) rfl ?_); (try (refine gate_guard (by rfl) ?_; dsimp only)); refine zzp ?hg (N := 3) ?hd (cs := #[.int .i64 a1_0, .bool a1_1]) (t := 23) ?hr ?_; (case hd => rfl); (case hg => rfl); (case hr => first | (go_simp; done) | (go_simp; rfl)); intro gb264 hg w31 hbox hb; have n0_ := Aside0.mk (zzj (g := gb263) (o := .cells #[.int .i64 a0_0, .bool a0_1] 23 (0, 0)) (by (with_reducible repeat first | apply zzc | apply zzd | apply zzb); exact BK263.out) hb); have n1_ := Aside0.mk (zzl (by repeat (first | (with_reducible first | exact HB.out | apply zzf | apply zza | apply zzg | refine zze ?_ GE263.out) | exact HB.out)) hb); have n2_ := Aside0.mk (hbox); have n4_ := Aside0.mk ((by rw [hg]; exact (zzk (by repeat (first | (with_reducible first | exact HB.out | apply zzf | apply zza | apply zzg | refine zze ?_ GE263.out) | exact HB.out))) : w.heap.size ≤ gb264)); have n5_ := Aside0.mk ((by rw [hg]; exact Nat.ne_of_lt (zzr (g := gb263) (o := .cells #[.int .i64 a0_0, .bool a0_1] 23 (0, 0)) (by (with_reducible repeat first | apply zzc | apply zzd | apply zzb); exact BK263.out)) : gb263 ≠ gb264)); have n6_ := Aside0.mk ((by rw [hg]; exact Nat.ne_of_gt (zzr (g := gb263) (o := .cells #[.int .i64 a0_0, .bool a0_1] 23 (0, 0)) (by (with_reducible repeat first | apply zzc | apply zzd | apply zzb); exact BK263.out)) : gb264 ≠ gb263)); clear BK263; clear HB; have BK263 := n0_; have HB := n1_; have BK264 := n2_; have GE264 := n4_; have NB263_264 := n5_; have NB264_263 := n6_; clear n0_ n1_ n2_ n4_ n5_ n6_; clear hb hbox hg) | ((with_reducible refine zzt (N := 4) rfl ?_); (try (refine gate_guard (by rfl) ?_; dsimp only)); refine zzp ?hg (N := 4) ?hd (cs := #[.int .i64 0, .bool false]) (t := 23) ?hr ?_; (case hd => rfl); (case hg => rfl); (case hr => first | (go_simp; done) | (go_simp; rfl)); intro gb265 hg w32 hbox hb; have n0_ := Aside0.mk (zzj (g := gb263) (o := .cells #[.int .i64 a0_0, .bool a0_1] 23 (0, 0)) (by (with_reducible repeat first | apply zzc | apply zzd | apply zzb); exact BK263.out) hb); have n1_ := Aside0.mk (zzj (g := gb264) (o := .cells #[.int .i64 a1_0, .bool a1_1] 23 (0, 0)) (by (with_reducible repeat first | apply zzc | apply zzd | apply zzb); exact BK264.out) hb); have n2_ := Aside0.mk (zzl (by repeat (first | (with_reducible first | exact HB.out | apply zzf | apply zza | apply zzg | refine zze ?_ GE263.out | refine zze ?_ GE264.out) | exact HB.out)) hb); have n3_ := Aside0.mk (hbox); have n5_ := Aside0.mk ((by rw [hg]; exact (zzk (by repeat (first | (with_reducible first | exact HB.out | apply zzf | apply zza | apply zzg | refine zze ?_ GE263.out | refine zze ?_ GE264.out) | exact HB.out))) : w.heap.size ≤ gb265)); have n6_ := Aside0.mk ((by rw [hg]; exact Nat.ne_of_lt (zzr (g := gb263) (o := .cells #[.int .i64 a0_0, .bool a0_1] 23 (0, 0)) (by (with_reducible repeat first | apply zzc | apply zzd | apply zzb); exact BK263.out)) : gb263 ≠ gb265)); have n7_ := Aside0.mk ((by rw [hg]; exact Nat.ne_of_gt (zzr (g := gb263) (o := .cells #[.int .i64 a0_0, .bool a0_1] 23 (0, 0)) (by (with_reducible repeat first | apply zzc | apply zzd | apply zzb); exact BK263.out)) : gb265 ≠ gb263)); have n8_ := Aside0.mk ((by rw [hg]; exact Nat.ne_of_lt (zzr (g := gb264) (o := .cells #[.int .i64 a1_0, .bool a1_1] 23 (0, 0)) (by (with_reducible repeat first | apply zzc | apply zzd | apply zzb); exact BK264.out)) : gb264 ≠ gb265)); have n9_ := Aside0.mk ((by rw [hg]; exact Nat.ne_of_gt (zzr (g := gb264) (o := .cells #[.int .i64 a1_0, .bool a1_1] 23 (0, 0)) (by (with_reducible repeat first | apply zzc | apply zzd | apply zzb); exact BK264.out)) : gb265 ≠ gb264)); clear BK263; clear BK264; clear HB; have BK263 := n0_; have BK264 := n1_; have HB := n2_; have BK265 := n3_; have GE265 := n5_; have NB263_265 := n6_; have NB265_263 := n7_; have NB264_265 := n8_; have NB265_264 := n9_; clear n0_ n1_ n2_ n3_ n5_ n6_ n7_ n8_ n9_; clear hb hbox hg))
    have n0_ := Aside0.mk (zzd BK263.out)
    have n1_ := Aside0.mk (zzd BK264.out)
    have n2_ := Aside0.mk (zzd BK265.out)
    have n3_ := Aside0.mk (zzg HB.out)
    clear BK263
    clear BK264
    clear BK265
    clear HB
    have BK263 := n0_
    have BK264 := n1_
    have BK265 := n2_
    have HB := n3_
    clear n0_ n1_ n2_ n3_
    refine start_ (n := 6) (S := fun w' => w'.cell? ⟨gb263, 0, none⟩ = some (.int .i64 a0_0) ∧ w'.cell? ⟨gb263, 1, none⟩ = some (.bool a0_1) ∧ w'.cell? ⟨gb264, 0, none⟩ = some (.int .i64 a1_0) ∧ w'.cell? ⟨gb264, 1, none⟩ = some (.bool a1_1)) (ds := [4, 5]) #[false, false, false, false, false, false] (by kernel_rfl) rfl rfl ⟨(zzi BK263.out 0).trans rfl, (zzi BK263.out 1).trans rfl, (zzi BK264.out 0).trans rfl, (zzi BK264.out 1).trans rfl⟩ (fun hHeld => ?_)
    generalize w32.drew = w33 at BK263 BK264 BK265 HB hHeld ⊢
    refine take_ (i := 0) (N := some 6) (v := ?_) (a' := ?_) #[true, false, false, false, false, false] rfl rfl (by kernel_rfl) (fun _ _ _ h => h) (Or.inl ⟨by rfl, ?_⟩) hHeld ?_ ?_
    rotate_left
    · rintro w' ⟨s0, s1, s2, s3⟩
      go_simp
      with_reducible rfl
    rotate_left
    · simp only [Act.put, List.setIfInBounds_toArray, List.set_cons_zero, List.set_cons_succ, i64_w, i32_w]
      rfl
    refine take_ (i := 2) (N := some 8) (v := ?_) (a' := ?_) #[true, false, true, false, false, false] rfl rfl (by kernel_rfl) (fun _ _ _ h => h) (Or.inl ⟨by rfl, ?_⟩) hHeld ?_ ?_
    rotate_left
    · rintro w' ⟨s0, s1, s2, s3⟩
      go_simp
      with_reducible rfl
    rotate_left
    · simp only [Act.put, List.setIfInBounds_toArray, List.set_cons_zero, List.set_cons_succ, i64_w, i32_w]
      rfl
    refine one_ (i := 1) (N := some 7) #[true, true, true, false, false, false] rfl rfl (by kernel_rfl) (by decide) (fun K hK => ?_)
    refine goes_ Try.func72 (by kernel_rfl) rfl #[.agg #[.int .i64 a0_0, .bool a0_1]] (by rfl) rfl rfl (by (try simp only [List.map_toArray, List.map_cons, List.map_nil]); first | done | rfl | (simp only [List.length_drop, List.length_take]; rfl)) ?_
    with_reducible refine (fixed_sound.calls a0_0 a0_1 t266 t267 _ A3.out).mono ?_
    rintro e w34 ⟨rfl, hb⟩
    refine ⟨_, rfl, ?_⟩
    have n0_ := Aside0.mk (zzj (g := gb263) (o := .cells #[.int .i64 a0_0, .bool a0_1] 23 (0, 0)) (by (with_reducible repeat first | apply zzc | apply zzd | apply zzb); exact BK263.out) hb)
    have n1_ := Aside0.mk (zzj (g := gb264) (o := .cells #[.int .i64 a1_0, .bool a1_1] 23 (0, 0)) (by (with_reducible repeat first | apply zzc | apply zzd | apply zzb); exact BK264.out) hb)
    have n2_ := Aside0.mk (zzj (g := gb265) (o := .cells #[.int .i64 0, .bool false] 23 (0, 0)) (by (with_reducible repeat first | apply zzc | apply zzd | apply zzb); exact BK265.out) hb)
    have n3_ := Aside0.mk (zzl (by repeat (first | (with_reducible first | exact HB.out | apply zzf | apply zza | apply zzg | refine zze ?_ GE263.out | refine zze ?_ GE264.out | refine zze ?_ GE265.out) | exact HB.out)) hb)
    clear BK263
    clear BK264
    clear BK265
    clear HB
    have BK263 := n0_
    have BK264 := n1_
    have BK265 := n2_
    have HB := n3_
    clear n0_ n1_ n2_ n3_
    (try clear hb)
    (try clear hb2)
    (try clear hk)
    (try clear hi)
    refine hK.out _ _ ⟨(zzi BK263.out 0).trans rfl, (zzi BK263.out 1).trans rfl, (zzi BK264.out 0).trans rfl, (zzi BK264.out 1).trans rfl⟩ (fun hHeld => ?_)
    clear hK K
    refine norm_ (a' := ?_) ?_ ?_
    rotate_left
    · show Act.put _ (some 7) _ = _
      simp only [Act.put, List.setIfInBounds_toArray, List.set_cons_zero, List.set_cons_succ, i64_w, i32_w]
      rfl
    refine one_ (i := 3) (N := some 9) #[true, true, true, true, false, false] rfl rfl (by kernel_rfl) (by decide) (fun K hK => ?_)
    refine goes_ Try.func72 (by kernel_rfl) rfl #[.agg #[.int .i64 a1_0, .bool a1_1]] (by rfl) rfl rfl (by (try simp only [List.map_toArray, List.map_cons, List.map_nil]); first | done | rfl | (simp only [List.length_drop, List.length_take]; rfl)) ?_
    with_reducible refine (fixed_sound.calls a1_0 a1_1 t268 t269 _ A4.out).mono ?_
    rintro e w35 ⟨rfl, hb⟩
    refine ⟨_, rfl, ?_⟩
    have n0_ := Aside0.mk (zzj (g := gb263) (o := .cells #[.int .i64 a0_0, .bool a0_1] 23 (0, 0)) (by (with_reducible repeat first | apply zzc | apply zzd | apply zzb); exact BK263.out) hb)
    have n1_ := Aside0.mk (zzj (g := gb264) (o := .cells #[.int .i64 a1_0, .bool a1_1] 23 (0, 0)) (by (with_reducible repeat first | apply zzc | apply zzd | apply zzb); exact BK264.out) hb)
    have n2_ := Aside0.mk (zzj (g := gb265) (o := .cells #[.int .i64 0, .bool false] 23 (0, 0)) (by (with_reducible repeat first | apply zzc | apply zzd | apply zzb); exact BK265.out) hb)
    have n3_ := Aside0.mk (zzl (by repeat (first | (with_reducible first | exact HB.out | apply zzf | apply zza | apply zzg | refine zze ?_ GE263.out | refine zze ?_ GE264.out | refine zze ?_ GE265.out) | exact HB.out)) hb)
    clear BK263
    clear BK264
    clear BK265
    clear HB
    have BK263 := n0_
    have BK264 := n1_
    have BK265 := n2_
    have HB := n3_
    clear n0_ n1_ n2_ n3_
    (try clear hb)
    (try clear hb2)
    (try clear hk)
    (try clear hi)
    refine hK.out _ _ ⟨(zzi BK263.out 0).trans rfl, (zzi BK263.out 1).trans rfl, (zzi BK264.out 0).trans rfl, (zzi BK264.out 1).trans rfl⟩ (fun hHeld => ?_)
    clear hK K
    refine norm_ (a' := ?_) ?_ ?_
    rotate_left
    · show Act.put _ (some 9) _ = _
      simp only [Act.put, List.setIfInBounds_toArray, List.set_cons_zero, List.set_cons_succ, i64_w, i32_w]
      rfl
    refine last_ (i := 4) (N := none) #[true, true, true, true, true, false] rfl rfl (by kernel_rfl) (by decide) (fun K hK => ?_)
    have hs36 : w35.cell? ⟨gb263, 0, none⟩ = some (.int .i64 a0_0) := (zzi BK263.out 0).trans rfl
    have hfs36 := zzh BK263.out 0
    have hns36_1 := NB264_263.out
    have hns36_2 := NB265_263.out
    have hms36_1 := NB263_264.out
    have hms36_2 := NB263_265.out
    have hs37 : w35.cell? ⟨gb263, 1, none⟩ = some (.bool a0_1) := (zzi BK263.out 1).trans rfl
    have hfs37 := zzh BK263.out 1
    have hns37_1 := NB264_263.out
    have hns37_2 := NB265_263.out
    have hms37_1 := NB263_264.out
    have hms37_2 := NB263_265.out
    refine skip_ (w1 := ?_) (by rfl) rfl ?_ ?_
    rotate_left
    · go_simp
      rfl
    refine hK.out _ _ ?_
    clear hK K
    refine last_ (i := 5) (N := none) #[true, true, true, true, true, true] rfl rfl (by kernel_rfl) (by decide) (fun K hK => ?_)
    have hs38 : w35.cell? ⟨gb264, 0, none⟩ = some (.int .i64 a1_0) := (zzi BK264.out 0).trans rfl
    have hfs38 := zzh BK264.out 0
    have hns38_0 := NB263_264.out
    have hns38_2 := NB265_264.out
    have hms38_0 := NB264_263.out
    have hms38_2 := NB264_265.out
    have hs39 : w35.cell? ⟨gb264, 1, none⟩ = some (.bool a1_1) := (zzi BK264.out 1).trans rfl
    have hfs39 := zzh BK264.out 1
    have hns39_0 := NB263_264.out
    have hns39_2 := NB265_264.out
    have hms39_0 := NB264_263.out
    have hms39_2 := NB264_265.out
    refine skip_ (w1 := ?_) (by rfl) rfl ?_ ?_
    rotate_left
    · go_simp
      rfl
    refine hK.out _ _ ?_
    clear hK K
    refine done_ (by kernel_rfl) ?_
    have hnb40 := NB263_264.out
    have hnc40 := NB264_263.out
    have hnb41 := NB263_265.out
    have hnc41 := NB265_263.out
    have hcz42_0 : w35.cell? ⟨gb263, 0, none⟩ = some (.int .i64 a0_0) := (zzi BK263.out 0).trans rfl
    have hcz42_1 : w35.cell? ⟨gb263, 1, none⟩ = some (.bool a0_1) := (zzi BK263.out 1).trans rfl
    have hfz42_0 := zzh BK263.out 0
    have hfz42_1 := zzh BK263.out 1
    have hnb43 := NB264_265.out
    have hnc43 := NB265_264.out
    have hcz44_0 : w35.cell? ⟨gb264, 0, none⟩ = some (.int .i64 a1_0) := (zzi BK264.out 0).trans rfl
    have hcz44_1 : w35.cell? ⟨gb264, 1, none⟩ = some (.bool a1_1) := (zzi BK264.out 1).trans rfl
    have hfz44_0 := zzh BK264.out 0
    have hfz44_1 := zzh BK264.out 1
    try go_wp2_with (first | ((with_reducible refine zzq (f := 50) rfl ?_); refine goesL_ (some 14) rfl rfl Try.func50 (by kernel_rfl) rfl #[.int .i64 t266, .int .i64 t268] rfl (by (try simp only [List.map_toArray, List.map_cons, List.map_nil]); first | done | rfl | (simp only [List.length_drop, List.length_take]; rfl)) ?_; (with_reducible refine (fixed_Ratio.calls k t266 t268 t270 false _ A5.out).mono ?_); rintro e w45 ⟨rfl, hb⟩; refine ⟨_, rfl, ?_⟩; have n0_ := Aside0.mk (zzj (g := gb263) (o := .cells #[.int .i64 t266, .bool t267] 23 (0, 0)) (by (with_reducible repeat first | apply zzc | apply zzd | apply zzb); refine zzs ?_ NB263_264.out _; (with_reducible repeat first | apply zzc | apply zzd | apply zzb); refine zzs ?_ NB263_264.out _; (with_reducible repeat first | apply zzc | apply zzd | apply zzb); refine zzo (cs := #[.int .i64 t266, .bool a0_1]) ?_ 1 _ rfl; (with_reducible repeat first | apply zzc | apply zzd | apply zzb); refine zzo (cs := #[.int .i64 a0_0, .bool a0_1]) ?_ 0 _ rfl; (with_reducible repeat first | apply zzc | apply zzd | apply zzb); exact BK263.out) hb); have n1_ := Aside0.mk (zzj (g := gb264) (o := .cells #[.int .i64 t268, .bool t269] 23 (0, 0)) (by (with_reducible repeat first | apply zzc | apply zzd | apply zzb); refine zzo (cs := #[.int .i64 t268, .bool a1_1]) ?_ 1 _ rfl; (with_reducible repeat first | apply zzc | apply zzd | apply zzb); refine zzo (cs := #[.int .i64 a1_0, .bool a1_1]) ?_ 0 _ rfl; (with_reducible repeat first | apply zzc | apply zzd | apply zzb); refine zzs ?_ NB264_263.out _; (with_reducible repeat first | apply zzc | apply zzd | apply zzb); refine zzs ?_ NB264_263.out _; (with_reducible repeat first | apply zzc | apply zzd | apply zzb); exact BK264.out) hb); have n2_ := Aside0.mk (zzj (g := gb265) (o := .cells #[.int .i64 0, .bool false] 23 (0, 0)) (by (with_reducible repeat first | apply zzc | apply zzd | apply zzb); refine zzs ?_ NB265_264.out _; (with_reducible repeat first | apply zzc | apply zzd | apply zzb); refine zzs ?_ NB265_264.out _; (with_reducible repeat first | apply zzc | apply zzd | apply zzb); refine zzs ?_ NB265_263.out _; (with_reducible repeat first | apply zzc | apply zzd | apply zzb); refine zzs ?_ NB265_263.out _; (with_reducible repeat first | apply zzc | apply zzd | apply zzb); exact BK265.out) hb); have n3_ := Aside0.mk (zzl (by repeat (first | (with_reducible first | exact HB.out | apply zzf | apply zza | apply zzg | refine zze ?_ GE263.out | refine zze ?_ GE264.out | refine zze ?_ GE265.out) | exact HB.out)) hb); clear BK263; clear BK264; clear BK265; clear HB; have BK263 := n0_; have BK264 := n1_; have BK265 := n2_; have HB := n3_; clear n0_ n1_ n2_ n3_; (try clear hi)) | ((with_reducible refine zzt (N := 5) rfl ?_); (try (refine gate_guard (by rfl) ?_; dsimp only)); refine zzp ?hg (N := 5) ?hd (cs := #[.int .i64 0, .bool false]) (t := 23) ?hr ?_; (case hd => rfl); (case hg => rfl); (case hr => first | (go_simp; done) | (go_simp; rfl)); intro gb272 hg w46 hbox hb; have n0_ := Aside0.mk (zzj (g := gb263) (o := .cells #[.int .i64 t266, .bool t267] 23 (0, 0)) (by (with_reducible repeat first | apply zzc | apply zzd | apply zzb); exact BK263.out) hb); have n1_ := Aside0.mk (zzj (g := gb264) (o := .cells #[.int .i64 t268, .bool t269] 23 (0, 0)) (by (with_reducible repeat first | apply zzc | apply zzd | apply zzb); exact BK264.out) hb); have n2_ := Aside0.mk (zzj (g := gb265) (o := .cells #[.int .i64 0, .bool false] 23 (0, 0)) (by (with_reducible repeat first | apply zzc | apply zzd | apply zzb); exact BK265.out) hb); have n3_ := Aside0.mk (zzl (by repeat (first | (with_reducible first | exact HB.out | apply zzf | apply zza | apply zzg | refine zze ?_ GE263.out | refine zze ?_ GE264.out | refine zze ?_ GE265.out) | exact HB.out)) hb); have n4_ := Aside0.mk (hbox); have n6_ := Aside0.mk ((by rw [hg]; exact (zzk (by repeat (first | (with_reducible first | exact HB.out | apply zzf | apply zza | apply zzg | refine zze ?_ GE263.out | refine zze ?_ GE264.out | refine zze ?_ GE265.out) | exact HB.out))) : w.heap.size ≤ gb272)); have n7_ := Aside0.mk ((by rw [hg]; exact Nat.ne_of_lt (zzr (g := gb263) (o := .cells #[.int .i64 t266, .bool t267] 23 (0, 0)) (by (with_reducible repeat first | apply zzc | apply zzd | apply zzb); exact BK263.out)) : gb263 ≠ gb272)); have n8_ := Aside0.mk ((by rw [hg]; exact Nat.ne_of_gt (zzr (g := gb263) (o := .cells #[.int .i64 t266, .bool t267] 23 (0, 0)) (by (with_reducible repeat first | apply zzc | apply zzd | apply zzb); exact BK263.out)) : gb272 ≠ gb263)); have n9_ := Aside0.mk ((by rw [hg]; exact Nat.ne_of_lt (zzr (g := gb264) (o := .cells #[.int .i64 t268, .bool t269] 23 (0, 0)) (by (with_reducible repeat first | apply zzc | apply zzd | apply zzb); exact BK264.out)) : gb264 ≠ gb272)); have n10_ := Aside0.mk ((by rw [hg]; exact Nat.ne_of_gt (zzr (g := gb264) (o := .cells #[.int .i64 t268, .bool t269] 23 (0, 0)) (by (with_reducible repeat first | apply zzc | apply zzd | apply zzb); exact BK264.out)) : gb272 ≠ gb264)); have n11_ := Aside0.mk ((by rw [hg]; exact Nat.ne_of_lt (zzr (g := gb265) (o := .cells #[.int .i64 0, .bool false] 23 (0, 0)) (by (with_reducible repeat first | apply zzc | apply zzd | apply zzb); exact BK265.out)) : gb265 ≠ gb272)); have n12_ := Aside0.mk ((by rw [hg]; exact Nat.ne_of_gt (zzr (g := gb265) (o := .cells #[.int .i64 0, .bool false] 23 (0, 0)) (by (with_reducible repeat first | apply zzc | apply zzd | apply zzb); exact BK265.out)) : gb272 ≠ gb265)); clear BK263; clear BK264; clear BK265; clear HB; have BK263 := n0_; have BK264 := n1_; have BK265 := n2_; have HB := n3_; have BK272 := n4_; have GE272 := n6_; have NB263_272 := n7_; have NB272_263 := n8_; have NB264_272 := n9_; have NB272_264 := n10_; have NB265_272 := n11_; have NB272_265 := n12_; clear n0_ n1_ n2_ n3_ n4_ n6_ n7_ n8_ n9_ n10_ n11_ n12_; clear hb hbox hg; have hqq : ∀ (u v x : Value), (((w46.setCell ⟨gb272, 0, none⟩ u).setCell ⟨gb272, 1, none⟩ v).setCell ⟨gb272, 1, none⟩ x).cell? ⟨gb272, 1, none⟩ = some x := fun u v x => (zzi (blk_set (blk_set (blk_set BK272.out 0 u) 1 v) 1 x) 1).trans rfl; have hnb47 := NB272_263.out; have hnc47 := NB263_272.out; have hnb48 := NB272_264.out; have hnc48 := NB264_272.out; have hnb49 := NB272_265.out; have hnc49 := NB265_272.out; have hcz50_0 : w46.cell? ⟨gb272, 0, none⟩ = some (.int .i64 0) := (zzi BK272.out 0).trans rfl; have hcz50_1 : w46.cell? ⟨gb272, 1, none⟩ = some (.bool false) := (zzi BK272.out 1).trans rfl; have hfz50_0 := zzh BK272.out 0; have hfz50_1 := zzh BK272.out 1; have hcz51_0 : w46.cell? ⟨gb263, 0, none⟩ = some (.int .i64 t266) := (zzi BK263.out 0).trans rfl; have hcz51_1 : w46.cell? ⟨gb263, 1, none⟩ = some (.bool t267) := (zzi BK263.out 1).trans rfl; have hfz51_0 := zzh BK263.out 0; have hfz51_1 := zzh BK263.out 1; have hcz52_0 : w46.cell? ⟨gb264, 0, none⟩ = some (.int .i64 t268) := (zzi BK264.out 0).trans rfl; have hcz52_1 : w46.cell? ⟨gb264, 1, none⟩ = some (.bool t269) := (zzi BK264.out 1).trans rfl; have hfz52_0 := zzh BK264.out 0; have hfz52_1 := zzh BK264.out 1) | ((with_reducible refine zzt (N := 20) rfl ?_); (try (refine gate_guard (by rfl) ?_; dsimp only)); refine Kd.R_lit k23 _ 23 ?hg (N := 20) ?hd (xs := ([(⟨t266, t267⟩ : S23), (⟨t268, t269⟩ : S23)] : List (S23))) (inner := [.int .i64 t266, .bool t267, .int .i64 t268, .bool t269]) (ok := fun _ => True) (okp := fun _ => True) ?hr ?hp (fun _ hk => hk) trivial (Below.refl _ _) (Nat.le_refl _) (by simp) ?_; (case hd => rfl); (case hg => rfl); (case hr => first | (go_simp; done) | (go_simp; rfl)); (case hp => exact (Reps.c2 (show Kd.M k23 _ _ _ (⟨t266, t267⟩ : S23) [.int .i64 t266, .bool t267] from (k23_mkM _ _ _ (⟨t266, t267⟩ : S23) )) (Reps.c2 (show Kd.M k23 _ _ _ (⟨t268, t269⟩ : S23) [.int .i64 t268, .bool t269] from (k23_mkM _ _ _ (⟨t268, t269⟩ : S23) )) (Reps.none _ _)))); intro v274 w53 ho54 hb hg_ hnew_; clear hg_ hnew_; (first | rw [← Ny273.out] at ho54 | (simp only [Int.reduceToNat] at ho54; rw [← Ny273.out] at ho54)); have n0_ := Aside0.mk (Kd.R_lower (Kd.R_newB (Kd.R_newB (Kd.R_newB (Kd.R_newB ho54 (g := gb263) (o := .cells #[.int .i64 t266, .bool t267] 23 (0, 0)) (by (with_reducible repeat first | apply zzc | apply zzd | apply zzb); refine zzs ?_ NB263_272.out _; (with_reducible repeat first | apply zzc | apply zzd | apply zzb); refine zzs ?_ NB263_272.out _; (with_reducible repeat first | apply zzc | apply zzd | apply zzb); exact BK263.out)) (g := gb264) (o := .cells #[.int .i64 t268, .bool t269] 23 (0, 0)) (by (with_reducible repeat first | apply zzc | apply zzd | apply zzb); refine zzs ?_ NB264_272.out _; (with_reducible repeat first | apply zzc | apply zzd | apply zzb); refine zzs ?_ NB264_272.out _; (with_reducible repeat first | apply zzc | apply zzd | apply zzb); exact BK264.out)) (g := gb265) (o := .cells #[.int .i64 0, .bool false] 23 (0, 0)) (by (with_reducible repeat first | apply zzc | apply zzd | apply zzb); refine zzs ?_ NB265_272.out _; (with_reducible repeat first | apply zzc | apply zzd | apply zzb); refine zzs ?_ NB265_272.out _; (with_reducible repeat first | apply zzc | apply zzd | apply zzb); exact BK265.out)) (g := gb272) (o := .cells #[.int .i64 t270, .bool false] 23 (0, 0)) (by (with_reducible repeat first | apply zzc | apply zzd | apply zzb); refine zzo (cs := #[.int .i64 t270, .bool false]) ?_ 1 _ rfl; (with_reducible repeat first | apply zzc | apply zzd | apply zzb); refine zzo (cs := #[.int .i64 0, .bool false]) ?_ 0 _ rfl; (with_reducible repeat first | apply zzc | apply zzd | apply zzb); exact BK272.out)) (zzk (by repeat (first | (with_reducible first | exact HB.out | apply zzf | apply zza | apply zzg | refine zze ?_ GE263.out | refine zze ?_ GE264.out | refine zze ?_ GE265.out | refine zze ?_ GE272.out) | exact HB.out)))); have n3_ := Aside0.mk (zzj (g := gb265) (o := .cells #[.int .i64 0, .bool false] 23 (0, 0)) (by (with_reducible repeat first | apply zzc | apply zzd | apply zzb); refine zzs ?_ NB265_272.out _; (with_reducible repeat first | apply zzc | apply zzd | apply zzb); refine zzs ?_ NB265_272.out _; (with_reducible repeat first | apply zzc | apply zzd | apply zzb); exact BK265.out) hb); have n4_ := Aside0.mk (zzj (g := gb272) (o := .cells #[.int .i64 t270, .bool false] 23 (0, 0)) (by (with_reducible repeat first | apply zzc | apply zzd | apply zzb); refine zzo (cs := #[.int .i64 t270, .bool false]) ?_ 1 _ rfl; (with_reducible repeat first | apply zzc | apply zzd | apply zzb); refine zzo (cs := #[.int .i64 0, .bool false]) ?_ 0 _ rfl; (with_reducible repeat first | apply zzc | apply zzd | apply zzb); exact BK272.out) hb); have n5_ := Aside0.mk (zzl (by repeat (first | (with_reducible first | exact HB.out | apply zzf | apply zza | apply zzg | refine zze ?_ GE263.out | refine zze ?_ GE264.out | refine zze ?_ GE265.out | refine zze ?_ GE272.out) | exact HB.out)) hb); clear BK265; clear BK272; clear HB; have HO275 := n0_; have BK265 := n3_; have BK272 := n4_; have HB := n5_; clear n0_ n3_ n4_ n5_; clear hb ho54; obtain ⟨Ao55, co55, eo55⟩ := Kd.R_slice HO275.out; subst eo55) | (go_at_call 88; (with_reducible refine (fixed_flags.calls k _ _ y273 t276 _ ?side1 ?side2 A29.out).mono ?_); (case side1 => repeat (first | exact (Kd.R_reads' HO275.out).2.2 | (with_reducible refine Kd.C_alloc ?_ _) | (with_reducible refine Kd.C_drewN ?_ _) | (with_reducible refine Kd.C_drew ?_))); (case side2 => exact (Kd.R_reads' HO275.out).2.1); rintro e w56 ⟨rfl, hb⟩; have n3_ := Aside0.mk (zzj (g := gb265) (o := .cells #[.int .i64 0, .bool false] 23 (0, 0)) (by (with_reducible repeat first | apply zzc | apply zzd | apply zzb); exact BK265.out) hb); have n4_ := Aside0.mk (zzj (g := gb272) (o := .cells #[.int .i64 t270, .bool false] 23 (0, 0)) (by (with_reducible repeat first | apply zzc | apply zzd | apply zzb); exact BK272.out) hb); have n5_ := Aside0.mk (zzl (by repeat (first | (with_reducible first | exact HB.out | apply zzf | apply zza | apply zzg | refine zze ?_ GE263.out | refine zze ?_ GE264.out | refine zze ?_ GE265.out | refine zze ?_ GE272.out) | exact HB.out)) hb); clear BK265; clear BK272; clear HB; have BK265 := n3_; have BK272 := n4_; have HB := n5_; clear n3_ n4_ n5_; have hcz57_0 : w56.cell? ⟨gb272, 0, none⟩ = some (.int .i64 t270) := (zzi BK272.out 0).trans rfl; have hcz57_1 : w56.cell? ⟨gb272, 1, none⟩ = some (.bool false) := (zzi BK272.out 1).trans rfl; have hfz57_0 := zzh BK272.out 0; have hfz57_1 := zzh BK272.out 1; have hcz58_0 : w56.cell? ⟨gb265, 0, none⟩ = some (.int .i64 0) := (zzi BK265.out 0).trans rfl; have hcz58_1 : w56.cell? ⟨gb265, 1, none⟩ = some (.bool false) := (zzi BK265.out 1).trans rfl; have hfz58_0 := zzh BK265.out 0; have hfz58_1 := zzh BK265.out 1))
    refine bodyPost_ret (results_cell_row rfl _ _ gb265 23 #[.int .i64 t270, .bool t276] (0, 0) _ rfl (by (with_reducible repeat first | apply zzc | apply zzd | apply zzb); refine zzo (cs := #[.int .i64 t270, .bool false]) ?_ 1 _ rfl; (with_reducible repeat first | apply zzc | apply zzd | apply zzb); refine zzo (cs := #[.int .i64 0, .bool false]) ?_ 0 _ rfl; (with_reducible repeat first | apply zzc | apply zzd | apply zzb); refine zzs ?_ NB265_272.out _; (with_reducible repeat first | apply zzc | apply zzd | apply zzb); exact BK265.out) Try.underlying23 rfl (by kernel_rfl)) rfl ?_
    exact ⟨by first | rfl | (simp [zzn, zzm] <;> rfl) | (simp [*, zzn, zzm] <;> rfl), by repeat (first | (with_reducible first | exact HB.out | apply zzf | apply zza | apply zzg | refine zze ?_ GE263.out | refine zze ?_ GE264.out | refine zze ?_ GE265.out | refine zze ?_ GE272.out) | exact HB.out)⟩
end Go.Proofs.Ytenpiaafkmfjfaa.B

end
section
namespace Go.Proofs.Ytenpiaafkmfjfaa.B
open Go.RowKit Go.Proofs.YtenpiaafkmfjfaaW.PrintWords Go.Proofs.YtenpiaafkmfjfaaW.PrintLast
theorem rd_at {l : List S23} {i : Nat} (h : i < l.length) : rd_T23 l (i : Int) = l[i] := by
  unfold rd_T23
  rw [Int.toNat_natCast, List.getD_eq_getElem?_getD, List.getElem?_eq_getElem h]; rfl
theorem flags_loop (l : List S23) (hl : l.length ≤ 1000000) : ∀ (m i k : Nat), m + i = l.length → m + 1 ≤ k → fixed_flags.l0 k l l.length i = some ((l.drop i).any fun x => x.f1) := by
  intro m
  induction m with
  | zero =>
    intro i k hm hk
    obtain ⟨k, rfl⟩ : ∃ z, k = z + 1 := ⟨k - 1, by omega⟩
    rw [fixed_flags.l0, if_neg (by omega), List.drop_of_length_le (by omega)]
    rfl
  | succ m ih =>
    intro i k hm hk
    obtain ⟨k, rfl⟩ : ∃ z, k = z + 1 := ⟨k - 1, by omega⟩
    have hi : i < l.length := by omega
    rw [fixed_flags.l0, if_pos (by omega), if_pos (by omega), if_pos (by omega), rd_at hi, List.drop_eq_getElem_cons hi, List.any_cons]
    by_cases h : l[i].f1 = true
    · rw [if_pos h, h]; rfl
    · rw [if_neg h, wrap64_id (by omega) (by omega), show (i : Int) + 1 = ((i + 1 : Nat) : Int) by omega, ih (i + 1) k (by omega) (by omega)]
      rw [show l[i].f1 = false by simpa using h]; rfl
theorem flags_f (l : List S23) (hl : l.length ≤ 1000000) (k : Nat) (hk : l.length + 1 ≤ k) : fixed_flags.f k l = some (l.any fun x => x.f1) := by
  unfold fixed_flags.f
  have := flags_loop l hl l.length 0 k (by omega) hk
  rw [show ((0 : Nat) : Int) = 0 from rfl] at this
  rw [this]; rfl
theorem ratio_f (k : Nat) (hk : 14 ≤ k) {a b : Int} (ha : I64 a) (hb : I64 b) (h0 : b ≠ 0) : fixed_Ratio.f k a b = some (fitV ((a * 4294967296).tdiv b), fitF ((a * 4294967296).tdiv b) false) := by
  have ha' := ha
  have hb' := hb
  unfold I64 at ha' hb'
  obtain ⟨r, hr⟩ := div64_f k hk (a.natAbs / 4294967296 % b.natAbs) (a.natAbs % 4294967296 * 4294967296) b.natAbs (Nat.mod_lt _ (by omega)) (by omega) (by omega)
  exact ratio_of k (by omega) ha hb h0 r hr
theorem fitF_out {x : Int} (f : Bool) (h : fitF x false = true) : fitF x f = true := by
  unfold fitF at *
  by_cases h1 : 9223372036854775807 < x
  · rw [if_pos h1]
  · rw [if_neg h1] at *
    by_cases h2 : x < -9223372036854775807
    · rw [if_pos h2]
    · rw [if_neg h2] at h; cases h
theorem fitF_in {x : Int} (f : Bool) (h : fitF x false = false) : fitF x f = f := by
  unfold fitF at *
  by_cases h1 : 9223372036854775807 < x
  · rw [if_pos h1] at h; cases h
  · rw [if_neg h1] at *
    by_cases h2 : x < -9223372036854775807
    · rw [if_pos h2] at h; cases h
    · rw [if_neg h2]
theorem mul_f (k : Nat) (hk : 3 ≤ k) {a b : Int} (fa fb : Bool) (ha : I64 a) (hb : I64 b) : fixed_Mul.f k a fa b fb = some (fitV ((sv a * sv b).tdiv 4294967296), fitF ((sv a * sv b).tdiv 4294967296) (sf a fa || sf b fb)) := by
  unfold fixed_Mul.f
  simp only [sound_f, Option.bind_some]
  obtain ⟨n, lo, hi, e, x⟩ := product_ex (sv_i64 ha).i64 (sv_i64 hb).i64
  rw [e, Option.bind_some]
  dsimp only
  obtain ⟨lo', hi', e', x'⟩ := down_ex x
  rw [e', Option.bind_some]
  dsimp only
  have hfl : fixed_flags.f k [(⟨sv a, sf a fa⟩ : S23), ⟨sv b, sf b fb⟩] = some (sf a fa || sf b fb) := by
    rw [flags_f _ (by simp) k (by simp; omega)]
    simp
  rw [hfl]
  simp only [Option.bind_some]
  rw [fit_ex x' _ k (by omega)]
  simp only [Option.bind_some]
theorem div_f (k : Nat) (hk : 14 ≤ k) {a b : Int} (fa fb : Bool) (ha : I64 a) (hb : I64 b) (h0 : sv b ≠ 0) : fixed_Div.f k a fa b fb = some (fitV ((sv a * 4294967296).tdiv (sv b)), fitF ((sv a * 4294967296).tdiv (sv b)) (sf a fa || sf b fb)) := by
  unfold fixed_Div.f
  simp only [sound_f, Option.bind_some]
  rw [ratio_f k hk (sv_i64 ha).i64 (sv_i64 hb).i64 h0]
  simp only [Option.bind_some]
  by_cases h : fitF ((sv a * 4294967296).tdiv (sv b)) false = true
  · rw [if_pos h, fitF_out _ h]
  · rw [if_neg h, flags_f _ (by simp) k (by simp; omega)]
    simp only [Option.bind_some]
    rw [fitF_in _ (by simpa using h)]
    simp
end Go.Proofs.Ytenpiaafkmfjfaa.B

end
section
namespace Go.Proofs.Ytenpiaafkmfjfaa.B
open Go.RowKit Go.Proofs.YtenpiaafkmfjfaaW.PrintWords Go.Proofs.YtenpiaafkmfjfaaW.PrintLast
set_option linter.unusedVariables false
set_option linter.unusedSimpArgs false
def fixed_extreme_int64.l0 : Nat → Int → Int → List Int → Int → Int → Option (Int)
  | 0, _, _, _, _, _ => none
  | k + 1, x0, x1, x9, x10, x11 => if x11 < x10 then (if 0 ≤ x11 then (if x11 < (x9.length : Int) then ((cmp_Compare_int64.f (rd x9 x11) x1).bind fun t350 => (if (wrap64 (t350 * x0)) < 0 then (fixed_extreme_int64.l0 k x0 (rd x9 x11) x9 x10 (wrap64 (x11 + 1))) else (fixed_extreme_int64.l0 k x0 x1 x9 x10 (wrap64 (x11 + 1))))) else (none)) else (none)) else (some x1)
def fixed_extreme_int64.f (k : Nat) (a0 : Int) (a1 : Int) (l2 : List Int) : Option (Int) := fixed_extreme_int64.l0 k a0 a1 l2 (l2.length : Int) 0
set_option maxHeartbeats 8000000 in
set_option maxRecDepth 100000 in
theorem fixed_extreme_int64.calls (k : Nat) (a0 : Int) (a1 : Int) (A2 : Option Addr) (c2 : Nat) (l2 : List Int) (r : Int) (w : World) (hr2 : Kd.C (Kd.int .i64) w A2 l2.length l2) (hc2 : l2.length ≤ c2) (h : fixed_extreme_int64.f k a0 a1 l2 = some r) :
    Calls Try.prog 112 #[.int .i64 a0, .int .i64 a1, .slice A2 l2.length c2] w fun e w' => e = .returned (.int .i64 r) ∧ Drawn0 w w' := by
  have HR2 := Aside0.mk hr2
  have HC2 := Aside0.mk hc2
  clear hr2 hc2
  have H : (fixed_extreme_int64.l0 k a0 a1 l2 (l2.length : Int) 0) = some r := h
  clear h
  have H' := Aside0.mk H
  clear H
  go_enter Try.func112, Try.ntmps112
  go_wp2
  go_loopg [1, 11] k (fun kq v1 v11 w' => ∃ (x1_1 : Int) (x11_1 : Int), v1 = .int .i64 x1_1 ∧ v11 = .int .i64 x11_1 ∧ Aside0 (fixed_extreme_int64.l0 kq a0 x1_1 l2 (l2.length : Int) x11_1 = some r) ∧ Aside0 (kq ≤ k) ∧ Drawn0 w w')
  case atStart => exact ⟨(a1), (0), (by first | rfl | (simp; done) | (simp [*]; done)), (by first | rfl | (simp; done) | (simp [*]; done)), H', ⟨Nat.le_refl _⟩, by repeat (first | exact Drawn0.refl _ | apply Drawn0.step)⟩
  case round =>
    clear H'
    obtain ⟨x1_1, x11_1, rfl, rfl, HA, HK1, ⟨m1, rfl⟩⟩ := hrel
    cases gk with
    | zero => exact absurd HA.out (by simp [fixed_extreme_int64.l0])
    | succ k1 =>
      have H := HA.out
      clear HA
      simp only [fixed_extreme_int64.l0] at H
      by_cases c4 : x11_1 < (l2.length : Int)
      · rw [if_pos c4] at H
        have c4b0 : decide (x11_1 < (l2.length : Int)) = true := decide_eq_true c4
        clear c4
        by_cases c5 : 0 ≤ x11_1
        · rw [if_pos c5] at H
          have c5b0 : decide (0 ≤ x11_1) = true := decide_eq_true c5
          clear c5
          by_cases c6 : x11_1 < (l2.length : Int)
          · rw [if_pos c6] at H
            have c6b0 : decide (x11_1 < (l2.length : Int)) = true := decide_eq_true c6
            clear c6
            replace H := Option.bind_eq_some_iff.mp H
            obtain ⟨t350, A70, H⟩ := H
            replace H : (if (wrap64 (t350 * a0)) < 0 then (fixed_extreme_int64.l0 k1 a0 (rd l2 x11_1) l2 (l2.length : Int) (wrap64 (x11_1 + 1))) else (fixed_extreme_int64.l0 k1 a0 x1_1 l2 (l2.length : Int) (wrap64 (x11_1 + 1)))) = some r := H
            have A7 := Aside0.mk A70
            clear A70
            by_cases c8 : (wrap64 (t350 * a0)) < 0
            · rw [if_pos c8] at H
              have c8b0 : decide ((wrap64 (t350 * a0)) < 0) = true := decide_eq_true c8
              clear c8
              have H' := Aside0.mk H
              clear H
              have p349 : 0 ≤ (x11_1 : Int) := of_decide_eq_true (by first | (with_reducible assumption) | assumption)
              have q349 : x11_1 < (l2.length : Int) := of_decide_eq_true (by first | (with_reducible assumption) | assumption)
              obtain ⟨ad349, e349, hx349_0⟩ := Kd.at_int HR2.out x11_1 p349 q349
              cases e349
              replace p349 := eq_true p349
              replace q349 := eq_true q349
              go_wp2_with (first | ((with_reducible refine zzq (f := 78) rfl ?_); refine goesL_ (some 17) rfl rfl Try.func78 (by kernel_rfl) rfl #[.int .i64 (rd l2 x11_1), .int .i64 x1_1] rfl (by (try simp only [List.map_toArray, List.map_cons, List.map_nil]); first | done | rfl | (simp only [List.length_drop, List.length_take]; rfl)) ?_; (with_reducible refine (cmp_Compare_int64.calls (rd l2 x11_1) x1_1 t350 _ A7.out).mono ?_); rintro e w' ⟨rfl, ⟨nd, rfl⟩⟩; refine ⟨_, rfl, ?_⟩))
              go_roundg k1
              case measure => have := HK1.out; omega
              case rel => exact ⟨(rd l2 x11_1), (wrap64 (x11_1 + 1)), (by first | rfl | (simp; done) | (simp [*]; done)), (by first | rfl | (simp; done) | (simp [*]; done)), H', ⟨by have := HK1.out; omega⟩, by repeat (first | exact Drawn0.refl _ | apply Drawn0.step)⟩
            · rw [if_neg c8] at H
              have c8b0 : decide ((wrap64 (t350 * a0)) < 0) = false := decide_eq_false c8
              clear c8
              have H' := Aside0.mk H
              clear H
              have p349 : 0 ≤ (x11_1 : Int) := of_decide_eq_true (by first | (with_reducible assumption) | assumption)
              have q349 : x11_1 < (l2.length : Int) := of_decide_eq_true (by first | (with_reducible assumption) | assumption)
              obtain ⟨ad349, e349, hx349_0⟩ := Kd.at_int HR2.out x11_1 p349 q349
              cases e349
              replace p349 := eq_true p349
              replace q349 := eq_true q349
              go_wp2_with (first | ((with_reducible refine zzq (f := 78) rfl ?_); refine goesL_ (some 17) rfl rfl Try.func78 (by kernel_rfl) rfl #[.int .i64 (rd l2 x11_1), .int .i64 x1_1] rfl (by (try simp only [List.map_toArray, List.map_cons, List.map_nil]); first | done | rfl | (simp only [List.length_drop, List.length_take]; rfl)) ?_; (with_reducible refine (cmp_Compare_int64.calls (rd l2 x11_1) x1_1 t350 _ A7.out).mono ?_); rintro e w' ⟨rfl, ⟨nd, rfl⟩⟩; refine ⟨_, rfl, ?_⟩))
              go_roundg k1
              case measure => have := HK1.out; omega
              case rel => exact ⟨(x1_1), (wrap64 (x11_1 + 1)), (by first | rfl | (simp; done) | (simp [*]; done)), (by first | rfl | (simp; done) | (simp [*]; done)), H', ⟨by have := HK1.out; omega⟩, by repeat (first | exact Drawn0.refl _ | apply Drawn0.step)⟩
          · rw [if_neg c6] at H
            exact absurd H (by simp)
        · rw [if_neg c5] at H
          exact absurd H (by simp)
      · rw [if_neg c4] at H
        have c4b0 : decide (x11_1 < (l2.length : Int)) = false := decide_eq_false c4
        clear c4
        obtain rfl := Option.some.inj H
        go_wp2
        go_ret
        exact ⟨by first | rfl | (simp; done) | (simp [*]; done), by repeat (first | exact Drawn0.refl _ | apply Drawn0.step)⟩
def fixed_most.f (k : Nat) (a0 : Int) (l1 : List (S23)) : Option (Int × Bool) := if (l1.length : Int) = 0 then (some (0, false)) else ((fixed_values.f l1).bind fun bt352 => (if 0 < (bt352.1.length : Int) then (if 1 ≤ (bt352.1.length : Int) then ((fixed_extreme_int64.f k a0 (rd bt352.1 0) (bt352.1.drop 1)).bind fun t361 => (some (t361, bt352.2))) else (none)) else (none)))
def fixed_most.T4 : Bool × List (List Nat × List Nat) := (true, [([], []), ([], []), ([1], [1]), ([2], [2]), ([], []), ([4], [4]), ([0, 3, 5], [0, 3, 5]), ([], []), ([6, 7], [6, 7]), ([8, 6, 0, 1, 2, 3, 4, 5, 6, 7, 8], [8])])
def fixed_most.B4 : List Nat := [0, 0, 2, 6, 0, 16, 63, 0, 255, 511]
theorem fixed_most.tab4 : rtab .any (opsOf Try.f79 4) = fixed_most.T4 := by kernel_rfl
theorem fixed_most.bits4 : waitsOk fixed_most.T4.2 fixed_most.B4 = true := by kernel_rfl
set_option maxHeartbeats 8000000 in
set_option maxRecDepth 100000 in
theorem fixed_most.calls (k : Nat) (a0 : Int) (A1 : Option Addr) (c1 : Nat) (l1 : List (S23)) (r1 : Int) (r2 : Bool) (w : World) (hr1 : Kd.C k23 w A1 l1.length l1) (hc1 : l1.length ≤ c1) (h : fixed_most.f k a0 l1 = some (r1, r2)) :
    Calls Try.prog 79 #[.int .i64 a0, .slice A1 l1.length c1] w fun e w' => e = .returned (.agg #[.int .i64 r1, .bool r2]) ∧ Below w.heap.size w w' := by
  have hu23 := Try.underlying23
  have HR1 := Aside0.mk hr1
  have HC1 := Aside0.mk hc1
  clear hr1 hc1
  have HB := Aside0.mk (Below.refl w.heap.size w)
  have H : (if (l1.length : Int) = 0 then (some (0, false)) else ((fixed_values.f l1).bind fun bt352 => (if 0 < (bt352.1.length : Int) then (if 1 ≤ (bt352.1.length : Int) then ((fixed_extreme_int64.f k a0 (rd bt352.1 0) (bt352.1.drop 1)).bind fun t361 => (some (t361, bt352.2))) else (none)) else (none)))) = some (r1, r2) := h
  clear h
  by_cases c3 : (l1.length : Int) = 0
  · rw [if_pos c3] at H
    have c3b0 : ((l1.length : Int) == 0) = true := beq_iff_eq.mpr c3
    have c3b1 : ((l1.length : Int) != 0) = false := bne_eq_false_iff_eq.mpr c3
    clear c3
    simp only [Option.some.injEq, Prod.mk.injEq] at H
    obtain ⟨rfl, rfl⟩ := H
    go_enter Try.func79, Try.ntmps79
    go_wp2_with (first | ((with_reducible refine zzt (N := 4) rfl ?_); refine zzp ?hg (N := 4) ?hd (cs := #[.int .i64 0, .bool false]) (t := 23) ?hr ?_; (case hd => rfl); (case hg => rfl); (case hr => first | (go_simp; done) | (go_simp; rfl)); intro gb351 hg w4 hbox hb; have n0_ := Aside0.mk (zzl (by repeat (first | (with_reducible first | exact HB.out | apply zzf | apply zza | apply zzg) | exact HB.out)) hb); have n1_ := Aside0.mk (hbox); have n3_ := Aside0.mk ((by rw [hg]; exact (zzk (by repeat (first | (with_reducible first | exact HB.out | apply zzf | apply zza | apply zzg) | exact HB.out))) : w.heap.size ≤ gb351)); clear HB; have HB := n0_; have BK351 := n1_; have GE351 := n3_; clear n0_ n1_ n3_; clear hb hbox hg; have hcz5_0 : w4.cell? ⟨gb351, 0, none⟩ = some (.int .i64 0) := (zzi BK351.out 0).trans rfl; have hcz5_1 : w4.cell? ⟨gb351, 1, none⟩ = some (.bool false) := (zzi BK351.out 1).trans rfl; have hfz5_0 := zzh BK351.out 0; have hfz5_1 := zzh BK351.out 1))
    refine bodyPost_ret (results_cell_row rfl _ _ gb351 23 #[.int .i64 0, .bool false] (0, 0) _ rfl (by (with_reducible repeat first | apply zzc | apply zzd | apply zzb); refine zzo (cs := #[.int .i64 0, .bool false]) ?_ 1 _ rfl; (with_reducible repeat first | apply zzc | apply zzd | apply zzb); refine zzo (cs := #[.int .i64 0, .bool false]) ?_ 0 _ rfl; (with_reducible repeat first | apply zzc | apply zzd | apply zzb); exact BK351.out) Try.underlying23 rfl (by kernel_rfl)) rfl ?_
    exact ⟨by first | rfl | (simp [zzn, zzm] <;> rfl) | (simp [*, zzn, zzm] <;> rfl), by repeat (first | (with_reducible first | exact HB.out | apply zzf | apply zza | apply zzg | refine zze ?_ GE351.out) | exact HB.out)⟩
  · rw [if_neg c3] at H
    have c3b0 : ((l1.length : Int) == 0) = false := beq_eq_false_iff_ne.mpr c3
    have c3b1 : ((l1.length : Int) != 0) = true := bne_iff_ne.mpr c3
    have c3b2 : ¬ (l1 = []) := fun h_ => c3 (by rw [h_]; rfl)
    replace H := Option.bind_eq_some_iff.mp H
    obtain ⟨⟨t352, t353⟩, A60, H⟩ := H
    replace H : (if 0 < (t352.length : Int) then (if 1 ≤ (t352.length : Int) then ((fixed_extreme_int64.f k a0 (rd t352 0) (t352.drop 1)).bind fun t361 => (some (t361, t353))) else (none)) else (none)) = some (r1, r2) := H
    have A6 := Aside0.mk A60
    clear A60
    by_cases c7 : 0 < (t352.length : Int)
    · rw [if_pos c7] at H
      have c7b0 : decide (0 < (t352.length : Int)) = true := decide_eq_true c7
      have c7b1 : decide (0 < t352.length) = true := decide_eq_true (by omega)
      clear c7
      by_cases c8 : 1 ≤ (t352.length : Int)
      · rw [if_pos c8] at H
        have c8b0 := eq_true c8
        have c8b1 : decide (1 ≤ (t352.length : Int)) = true := decide_eq_true c8
        clear c8
        obtain ⟨y357, hy357⟩ : ∃ y_ : List Int, y_ = (t352.drop 1) := ⟨_, rfl⟩
        replace H : ((fixed_extreme_int64.f k a0 (rd t352 0) y357).bind fun t361 => (some (t361, t353))) = some (r1, r2) := by first | (rw [hy357]; with_reducible exact H) | (have H2_ := (Option.bind_some _ _).symm.trans H; rw [hy357]; with_reducible exact H2_) | (have H2_ := (Option.bind_some _ _).symm.trans H; with_reducible exact H2_) | with_reducible exact H | (rw [hy357]; exact H) | exact H
        have Ny357 := Aside0.mk hy357
        clear hy357
        replace H := Option.bind_eq_some_iff.mp H
        obtain ⟨t361, A90, H⟩ := H
        replace H : (some (t361, t353)) = some (r1, r2) := H
        have A9 := Aside0.mk A90
        clear A90
        simp only [Option.some.injEq, Prod.mk.injEq] at H
        obtain ⟨rfl, rfl⟩ := H
        go_enter Try.func79, Try.ntmps79
        try go_wp2_with (first | ((with_reducible refine zzt (N := 4) rfl ?_); refine zzp ?hg (N := 4) ?hd (cs := #[.int .i64 0, .bool false]) (t := 23) ?hr ?_; (case hd => rfl); (case hg => rfl); (case hr => first | (go_simp; done) | (go_simp; rfl)); intro gb351 hg w10 hbox hb; have n0_ := Aside0.mk (zzl (by repeat (first | (with_reducible first | exact HB.out | apply zzf | apply zza | apply zzg) | exact HB.out)) hb); have n1_ := Aside0.mk (hbox); have n3_ := Aside0.mk ((by rw [hg]; exact (zzk (by repeat (first | (with_reducible first | exact HB.out | apply zzf | apply zza | apply zzg) | exact HB.out))) : w.heap.size ≤ gb351)); clear HB; have HB := n0_; have BK351 := n1_; have GE351 := n3_; clear n0_ n1_ n3_; clear hb hbox hg) | ((with_reducible refine zzq (f := 81) rfl ?_); refine goesL_ (some 13) rfl rfl Try.func81 (by kernel_rfl) rfl #[.slice A1 l1.length c1] rfl (by (try simp only [List.map_toArray, List.map_cons, List.map_nil]); first | done | rfl | (simp only [List.length_drop, List.length_take]; rfl)) ?_; (with_reducible refine (fixed_values.calls _ _ l1 t352 t353 _ ?side1 ?side2 A6.out).mono ?_); (case side1 => repeat (first | exact (Kd.C_below HR1.out HB.out) | (with_reducible refine Kd.C_alloc ?_ _) | (with_reducible refine Kd.C_drewN ?_ _) | (with_reducible refine Kd.C_drew ?_))); (case side2 => exact HC1.out); rintro e w11 ⟨v354, rfl, ho0, hb⟩; refine ⟨_, rfl, ?_⟩; have n0_ := Aside0.mk (Kd.R_lower ho0 (zzk (by repeat (first | (with_reducible first | exact HB.out | apply zzf | apply zza | apply zzg | refine zze ?_ GE351.out) | exact HB.out)))); have n1_ := Aside0.mk (zzj (g := gb351) (o := .cells #[.int .i64 0, .bool false] 23 (0, 0)) (by (with_reducible repeat first | apply zzc | apply zzd | apply zzb); exact BK351.out) hb); have n2_ := Aside0.mk (zzl (by repeat (first | (with_reducible first | exact HB.out | apply zzf | apply zza | apply zzg | refine zze ?_ GE351.out) | exact HB.out)) hb); clear BK351; clear HB; have HO355 := n0_; have BK351 := n1_; have HB := n2_; clear n0_ n1_ n2_; (try clear ho0)))
        have n0_ := Aside0.mk (Kd.R_drew HO355.out)
        have n1_ := Aside0.mk (zzd BK351.out)
        have n2_ := Aside0.mk (zzg HB.out)
        clear HO355
        clear BK351
        clear HB
        have HO355 := n0_
        have BK351 := n1_
        have HB := n2_
        clear n0_ n1_ n2_
        obtain ⟨Ao13, co13, eo13⟩ := Kd.R_slice HO355.out
        (first | subst eo13 | (injection eo13 with f1_ f2_ f3_; have f4_ := f1_.symm; have f5_ := f3_.symm; clear f1_ f2_ f3_; subst f4_; subst f5_))
        have p356 : 0 ≤ (0 : Int) := (by omega)
        have q356 : 0 < (t352.length : Int) := of_decide_eq_true (by first | (with_reducible assumption) | assumption)
        obtain ⟨ad356, e356, hx356_0⟩ := Kd.at_int (Kd.R_reads' HO355.out).2.2 0 p356 q356
        cases e356
        have qi356 : (0 < t352.length) = True := eq_true (by omega)
        (try rw [show ((0 : Int)).toNat = 0 from rfl] at hx356_0)
        (try rw [Addr.add_zero'] at hx356_0)
        replace p356 := eq_true p356
        replace q356 := eq_true q356
        have q14 : (1 : Int) ≤ ((t352.length : Int) : Int) := of_decide_eq_true (by first | (with_reducible assumption) | assumption)
        obtain ⟨i014, hi014, _, hsz14, _⟩ := info_parts info2
        have hroom14 : t352.length ≤ co13 := (Kd.R_reads' HO355.out).2.1
        have hC14 : Kd.C (Kd.int .i64) _ (some ad356) t352.length t352 := (Kd.R_reads' HO355.out).2.2
        have hcut14 := cut_from (P := Try.prog) 70 2 .i64 Try.underlying70 hi014 1 hsz14 (some ad356) t352.length co13 1 (by omega) q14
        have hr14 := Kd.C_drop (m := (1 : Int).toNat) (c := co13) hC14 (by omega) hroom14
        obtain ⟨A14, hA14⟩ : ∃ A1, A1 = (if co13 = (1 : Int).toNat then (some ad356) else ((some ad356) : Option Addr).map (·.add ((1 : Int).toNat * 1))) := ⟨_, rfl⟩
        obtain ⟨c14, hc14⟩ : ∃ c1, c1 = co13 - (1 : Int).toNat := ⟨_, rfl⟩
        have hy14 : y357.length = t352.length - (1 : Int).toNat := (by rw [Ny357.out, List.length_drop] <;> omega)
        rw [show (t352).drop (1 : Int).toNat = y357 from Ny357.out.symm] at hr14
        replace hr14 : Kd.C (Kd.int .i64) _ A14 y357.length y357 := (by rw [hA14]; exact hr14)
        rw [← hy14, ← hA14, ← hc14] at hcut14
        have HR360 := Aside0.mk hr14
        have HC360 := Aside0.mk (show y357.length ≤ c14 from by rw [hy14, hc14]; exact Nat.sub_le_sub_right hroom14 _)
        clear hr14 hC14 hroom14 hi014 hsz14 hc14
        have KY14 := Aside0.mk hy14
        have KA14 := Aside0.mk hA14
        clear hy14 hA14
        have KL14 := Aside0.mk (show 1 ≤ t352.length from by omega)
        replace q14 := eq_true q14
        refine start_ (n := 10) (S := fun w' => w'.cell? ad356 = some (.int .i64 (rd t352 0))) (ds := []) #[false, false, false, false, false, false, false, false, false, false] (by kernel_rfl) rfl rfl (hx356_0) (fun hHeld => ?_); refine with_tabW fixed_most.tab4 fixed_most.bits4 (fun HT_ HW_ => ?_)
        generalize w11.drew = w12 at HO355 BK351 HB HR360 hx356_0 hHeld ⊢
        refine pure_ (i := 0) (N := some 16) (v := ?_) (a' := ?_) #[true, false, false, false, false, false, false, false, false, false] rfl rfl (any_of HT_.out (by kernel_rfl)) (fun _ _ _ h => h) (Or.inl ⟨by rfl, ?_⟩) ?_ ?_
        rotate_left
        · intro w'
          go_simp
          with_reducible rfl
        rotate_left
        · simp only [Act.put, List.setIfInBounds_toArray, List.set_cons_zero, List.set_cons_succ, i64_w, i32_w]
          rfl
        refine pure_ (i := 1) (N := some 17) (v := ?_) (a' := ?_) #[true, true, false, false, false, false, false, false, false, false] rfl rfl (any_of HT_.out (by kernel_rfl)) (fun _ _ _ h => h) (Or.inl ⟨by rfl, ?_⟩) ?_ ?_
        rotate_left
        · intro w'
          go_simp
          with_reducible rfl
        rotate_left
        · simp only [Act.put, List.setIfInBounds_toArray, List.set_cons_zero, List.set_cons_succ, i64_w, i32_w]
          rfl
        refine pure_ (i := 2) (N := some 18) (v := ?_) (a' := ?_) #[true, true, true, false, false, false, false, false, false, false] rfl rfl (any_of HT_.out (by kernel_rfl)) (fun _ _ _ h => h) (Or.inl ⟨by rfl, ?_⟩) ?_ ?_
        rotate_left
        · intro w'
          go_simp
          with_reducible rfl
        rotate_left
        · simp only [Act.put, List.setIfInBounds_toArray, List.set_cons_zero, List.set_cons_succ, i64_w, i32_w]
          rfl
        refine pure_ (i := 4) (N := some 20) (v := ?_) (a' := ?_) #[true, true, true, false, true, false, false, false, false, false] rfl rfl (any_of HT_.out (by kernel_rfl)) (fun _ _ _ h => h) (Or.inl ⟨by rfl, ?_⟩) ?_ ?_
        rotate_left
        · intro w'
          go_simp
          with_reducible rfl
        rotate_left
        · simp only [Act.put, List.setIfInBounds_toArray, List.set_cons_zero, List.set_cons_succ, i64_w, i32_w]
          rfl
        refine pure_ (i := 5) (N := some 21) (v := ?_) (a' := ?_) #[true, true, true, false, true, true, false, false, false, false] rfl rfl (any_of HT_.out (by kernel_rfl)) (fun _ _ _ h => h) (Or.inl ⟨by rfl, ?_⟩) ?_ ?_
        rotate_left
        · intro w'
          go_simp
          with_reducible rfl
        rotate_left
        · simp only [Act.put, List.setIfInBounds_toArray, List.set_cons_zero, List.set_cons_succ, i64_w, i32_w]
          rfl
        refine pure_ (i := 7) (N := some 23) (v := ?_) (a' := ?_) #[true, true, true, false, true, true, false, true, false, false] rfl rfl (any_of HT_.out (by kernel_rfl)) (fun _ _ _ h => h) (Or.inl ⟨by rfl, ?_⟩) ?_ ?_
        rotate_left
        · intro w'
          go_simp
          with_reducible rfl
        rotate_left
        · simp only [Act.put, List.setIfInBounds_toArray, List.set_cons_zero, List.set_cons_succ, i64_w, i32_w]
          rfl
        refine take_ (i := 3) (N := some 19) (v := ?_) (a' := ?_) #[true, true, true, true, true, true, false, true, false, false] rfl rfl (take_ofW HT_.out HW_.out (by kernel_rfl)) (fun _ _ _ h => h) (Or.inl ⟨by rfl, ?_⟩) hHeld ?_ ?_
        rotate_left
        · intro w' s0
          go_simp
          with_reducible rfl
        rotate_left
        · simp only [Act.put, List.setIfInBounds_toArray, List.set_cons_zero, List.set_cons_succ, i64_w, i32_w]
          rfl
        refine one_ (i := 6) (N := some 22) #[true, true, true, true, true, true, true, true, false, false] rfl rfl (one_of HT_.out (by kernel_rfl)) (by decide) (fun K hK => ?_)
        refine goes_ Try.func112 (by kernel_rfl) rfl #[.int .i64 a0, .int .i64 (rd t352 0), .slice A14 y357.length c14] (by rfl) rfl rfl (by (try simp only [List.map_toArray, List.map_cons, List.map_nil]); first | done | rfl | (simp only [List.length_drop, List.length_take]; rfl)) ?_
        with_reducible refine (fixed_extreme_int64.calls k a0 (rd t352 0) _ _ y357 t361 _ ?side1 ?side2 A9.out).mono ?_
        (case side1 => repeat (first | exact (by repeat (first | (with_reducible exact HR360.out) | (with_reducible refine Kd.C_alloc ?_ _) | (with_reducible refine Kd.C_drewN ?_ _) | (with_reducible refine Kd.C_drew ?_) | exact HR360.out)) | (with_reducible refine Kd.C_alloc ?_ _) | (with_reducible refine Kd.C_drewN ?_ _) | (with_reducible refine Kd.C_drew ?_)))
        (case side2 => exact HC360.out)
        rintro e w' ⟨rfl, ⟨nd, rfl⟩⟩
        refine ⟨_, rfl, ?_⟩
        refine hK.out _ _ (hHeld) (fun hHeld => ?_)
        clear hK K
        refine norm_ (a' := ?_) ?_ ?_
        rotate_left
        · show Act.put _ (some 22) _ = _
          simp only [Act.put, List.setIfInBounds_toArray, List.set_cons_zero, List.set_cons_succ, i64_w, i32_w]
          rfl
        refine pure_ (i := 8) (N := some 24) (v := ?_) (a' := ?_) #[true, true, true, true, true, true, true, true, true, false] rfl rfl (any_of HT_.out (by kernel_rfl)) (fun _ _ _ h => h) (Or.inl ⟨by rfl, ?_⟩) ?_ ?_
        rotate_left
        · intro w'
          go_simp
          with_reducible rfl
        rotate_left
        · simp only [Act.put, List.setIfInBounds_toArray, List.set_cons_zero, List.set_cons_succ, i64_w, i32_w]
          rfl
        refine one_ (i := 9) (N := none) #[true, true, true, true, true, true, true, true, true, true] rfl rfl (one_of HT_.out (by kernel_rfl)) (by decide) (fun K hK => ?_)
        have hs15 : w12.cell? ⟨gb351, 0, none⟩ = some (.int .i64 0) := (zzi BK351.out 0).trans rfl
        have hfs15 := zzh BK351.out 0
        have hs16 : w12.cell? ⟨gb351, 1, none⟩ = some (.bool false) := (zzi BK351.out 1).trans rfl
        have hfs16 := zzh BK351.out 1
        refine skip_ (w1 := ?_) (by rfl) rfl ?_ ?_
        rotate_left
        · go_simp
          rfl
        refine hK.out _ _ (((cell_far (p := ⟨gb351, _, none⟩) (by first | exact Kd.own_blk (Kd.R_ne HO355.out BK351.out (by decide)) | (rw [add_block]; exact Kd.own_blk (Kd.R_ne HO355.out BK351.out (by decide))) | (show (Addr.add _ _).block ≠ _; rw [add_block]; exact Kd.own_blk (Kd.R_ne HO355.out BK351.out (by decide))) | (dsimp only; exact Kd.own_blk (Kd.R_ne HO355.out BK351.out (by decide)))) _).trans (((cell_far (p := ⟨gb351, _, none⟩) (by first | exact Kd.own_blk (Kd.R_ne HO355.out BK351.out (by decide)) | (rw [add_block]; exact Kd.own_blk (Kd.R_ne HO355.out BK351.out (by decide))) | (show (Addr.add _ _).block ≠ _; rw [add_block]; exact Kd.own_blk (Kd.R_ne HO355.out BK351.out (by decide))) | (dsimp only; exact Kd.own_blk (Kd.R_ne HO355.out BK351.out (by decide)))) _).trans (hHeld))))) (fun hHeld => ?_)
        clear hK K
        refine done_ (done_of HT_.out (by kernel_rfl)) ?_
        try go_wp2
        refine bodyPost_ret (results_cell_row rfl _ _ gb351 23 #[.int .i64 t361, .bool t353] (0, 0) _ rfl (by (with_reducible repeat first | apply zzc | apply zzd | apply zzb); refine zzo (cs := #[.int .i64 t361, .bool false]) ?_ 1 _ rfl; (with_reducible repeat first | apply zzc | apply zzd | apply zzb); refine zzo (cs := #[.int .i64 0, .bool false]) ?_ 0 _ rfl; (with_reducible repeat first | apply zzc | apply zzd | apply zzb); exact BK351.out) Try.underlying23 rfl (by kernel_rfl)) rfl ?_
        exact ⟨by first | rfl | (simp [zzn, zzm] <;> rfl) | (simp [*, zzn, zzm] <;> rfl), by repeat (first | (with_reducible first | exact HB.out | apply zzf | apply zza | apply zzg | refine zze ?_ GE351.out) | exact HB.out)⟩
      · rw [if_neg c8] at H
        exact absurd H (by simp)
    · rw [if_neg c7] at H
      exact absurd H (by simp)
def fixed_Min.f (k : Nat) (l0 : List (S23)) : Option (Int × Bool) := (fixed_most.f k 1 l0).bind fun bt363 => (some (bt363.1, bt363.2))
set_option maxHeartbeats 8000000 in
set_option maxRecDepth 100000 in
theorem fixed_Min.calls (k : Nat) (A0 : Option Addr) (c0 : Nat) (l0 : List (S23)) (r1 : Int) (r2 : Bool) (w : World) (hr0 : Kd.C k23 w A0 l0.length l0) (hc0 : l0.length ≤ c0) (h : fixed_Min.f k l0 = some (r1, r2)) :
    Calls Try.prog 28 #[.slice A0 l0.length c0] w fun e w' => e = .returned (.agg #[.int .i64 r1, .bool r2]) ∧ Below w.heap.size w w' := by
  have hu23 := Try.underlying23
  have HR0 := Aside0.mk hr0
  have HC0 := Aside0.mk hc0
  clear hr0 hc0
  have HB := Aside0.mk (Below.refl w.heap.size w)
  have H : ((fixed_most.f k 1 l0).bind fun bt363 => (some (bt363.1, bt363.2))) = some (r1, r2) := h
  clear h
  replace H := Option.bind_eq_some_iff.mp H
  obtain ⟨⟨t363, t364⟩, A20, H⟩ := H
  replace H : (some (t363, t364)) = some (r1, r2) := H
  have A2 := Aside0.mk A20
  clear A20
  simp only [Option.some.injEq, Prod.mk.injEq] at H
  obtain ⟨rfl, rfl⟩ := H
  go_enter Try.func28, Try.ntmps28
  go_wp2_with (first | ((with_reducible refine zzt (N := 2) rfl ?_); refine zzp ?hg (N := 2) ?hd (cs := #[.int .i64 0, .bool false]) (t := 23) ?hr ?_; (case hd => rfl); (case hg => rfl); (case hr => first | (go_simp; done) | (go_simp; rfl)); intro gb362 hg w3 hbox hb; have n0_ := Aside0.mk (zzl (by repeat (first | (with_reducible first | exact HB.out | apply zzf | apply zza | apply zzg) | exact HB.out)) hb); have n1_ := Aside0.mk (hbox); have n3_ := Aside0.mk ((by rw [hg]; exact (zzk (by repeat (first | (with_reducible first | exact HB.out | apply zzf | apply zza | apply zzg) | exact HB.out))) : w.heap.size ≤ gb362)); clear HB; have HB := n0_; have BK362 := n1_; have GE362 := n3_; clear n0_ n1_ n3_; clear hb hbox hg) | ((with_reducible refine zzq (f := 79) rfl ?_); refine goesL_ (some 4) rfl rfl Try.func79 (by kernel_rfl) rfl #[.int .i64 1, .slice A0 l0.length c0] rfl (by (try simp only [List.map_toArray, List.map_cons, List.map_nil]); first | done | rfl | (simp only [List.length_drop, List.length_take]; rfl)) ?_; (with_reducible refine (fixed_most.calls k 1 _ _ l0 t363 t364 _ ?side1 ?side2 A2.out).mono ?_); (case side1 => repeat (first | exact (Kd.C_below HR0.out HB.out) | (with_reducible refine Kd.C_alloc ?_ _) | (with_reducible refine Kd.C_drewN ?_ _) | (with_reducible refine Kd.C_drew ?_))); (case side2 => exact HC0.out); rintro e w4 ⟨rfl, hb⟩; refine ⟨_, rfl, ?_⟩; have n0_ := Aside0.mk (zzj (g := gb362) (o := .cells #[.int .i64 0, .bool false] 23 (0, 0)) (by (with_reducible repeat first | apply zzc | apply zzd | apply zzb); exact BK362.out) hb); have n1_ := Aside0.mk (zzl (by repeat (first | (with_reducible first | exact HB.out | apply zzf | apply zza | apply zzg | refine zze ?_ GE362.out) | exact HB.out)) hb); clear BK362; clear HB; have BK362 := n0_; have HB := n1_; clear n0_ n1_; have hcz5_0 : w4.cell? ⟨gb362, 0, none⟩ = some (.int .i64 0) := (zzi BK362.out 0).trans rfl; have hcz5_1 : w4.cell? ⟨gb362, 1, none⟩ = some (.bool false) := (zzi BK362.out 1).trans rfl; have hfz5_0 := zzh BK362.out 0; have hfz5_1 := zzh BK362.out 1))
  refine bodyPost_ret (results_cell_row rfl _ _ gb362 23 #[.int .i64 t363, .bool t364] (0, 0) _ rfl (by (with_reducible repeat first | apply zzc | apply zzd | apply zzb); refine zzo (cs := #[.int .i64 t363, .bool false]) ?_ 1 _ rfl; (with_reducible repeat first | apply zzc | apply zzd | apply zzb); refine zzo (cs := #[.int .i64 0, .bool false]) ?_ 0 _ rfl; (with_reducible repeat first | apply zzc | apply zzd | apply zzb); exact BK362.out) Try.underlying23 rfl (by kernel_rfl)) rfl ?_
  exact ⟨by first | rfl | (simp [zzn, zzm] <;> rfl) | (simp [*, zzn, zzm] <;> rfl), by repeat (first | (with_reducible first | exact HB.out | apply zzf | apply zza | apply zzg | refine zze ?_ GE362.out) | exact HB.out)⟩
def fixed_Max.f (k : Nat) (l0 : List (S23)) : Option (Int × Bool) := (fixed_most.f k (-1) l0).bind fun bt366 => (some (bt366.1, bt366.2))
set_option maxHeartbeats 8000000 in
set_option maxRecDepth 100000 in
theorem fixed_Max.calls (k : Nat) (A0 : Option Addr) (c0 : Nat) (l0 : List (S23)) (r1 : Int) (r2 : Bool) (w : World) (hr0 : Kd.C k23 w A0 l0.length l0) (hc0 : l0.length ≤ c0) (h : fixed_Max.f k l0 = some (r1, r2)) :
    Calls Try.prog 30 #[.slice A0 l0.length c0] w fun e w' => e = .returned (.agg #[.int .i64 r1, .bool r2]) ∧ Below w.heap.size w w' := by
  have hu23 := Try.underlying23
  have HR0 := Aside0.mk hr0
  have HC0 := Aside0.mk hc0
  clear hr0 hc0
  have HB := Aside0.mk (Below.refl w.heap.size w)
  have H : ((fixed_most.f k (-1) l0).bind fun bt366 => (some (bt366.1, bt366.2))) = some (r1, r2) := h
  clear h
  replace H := Option.bind_eq_some_iff.mp H
  obtain ⟨⟨t366, t367⟩, A20, H⟩ := H
  replace H : (some (t366, t367)) = some (r1, r2) := H
  have A2 := Aside0.mk A20
  clear A20
  simp only [Option.some.injEq, Prod.mk.injEq] at H
  obtain ⟨rfl, rfl⟩ := H
  go_enter Try.func30, Try.ntmps30
  go_wp2_with (first | ((with_reducible refine zzt (N := 2) rfl ?_); refine zzp ?hg (N := 2) ?hd (cs := #[.int .i64 0, .bool false]) (t := 23) ?hr ?_; (case hd => rfl); (case hg => rfl); (case hr => first | (go_simp; done) | (go_simp; rfl)); intro gb365 hg w3 hbox hb; have n0_ := Aside0.mk (zzl (by repeat (first | (with_reducible first | exact HB.out | apply zzf | apply zza | apply zzg) | exact HB.out)) hb); have n1_ := Aside0.mk (hbox); have n3_ := Aside0.mk ((by rw [hg]; exact (zzk (by repeat (first | (with_reducible first | exact HB.out | apply zzf | apply zza | apply zzg) | exact HB.out))) : w.heap.size ≤ gb365)); clear HB; have HB := n0_; have BK365 := n1_; have GE365 := n3_; clear n0_ n1_ n3_; clear hb hbox hg) | ((with_reducible refine zzq (f := 79) rfl ?_); refine goesL_ (some 4) rfl rfl Try.func79 (by kernel_rfl) rfl #[.int .i64 (-1), .slice A0 l0.length c0] rfl (by (try simp only [List.map_toArray, List.map_cons, List.map_nil]); first | done | rfl | (simp only [List.length_drop, List.length_take]; rfl)) ?_; (with_reducible refine (fixed_most.calls k (-1) _ _ l0 t366 t367 _ ?side1 ?side2 A2.out).mono ?_); (case side1 => repeat (first | exact (Kd.C_below HR0.out HB.out) | (with_reducible refine Kd.C_alloc ?_ _) | (with_reducible refine Kd.C_drewN ?_ _) | (with_reducible refine Kd.C_drew ?_))); (case side2 => exact HC0.out); rintro e w4 ⟨rfl, hb⟩; refine ⟨_, rfl, ?_⟩; have n0_ := Aside0.mk (zzj (g := gb365) (o := .cells #[.int .i64 0, .bool false] 23 (0, 0)) (by (with_reducible repeat first | apply zzc | apply zzd | apply zzb); exact BK365.out) hb); have n1_ := Aside0.mk (zzl (by repeat (first | (with_reducible first | exact HB.out | apply zzf | apply zza | apply zzg | refine zze ?_ GE365.out) | exact HB.out)) hb); clear BK365; clear HB; have BK365 := n0_; have HB := n1_; clear n0_ n1_; have hcz5_0 : w4.cell? ⟨gb365, 0, none⟩ = some (.int .i64 0) := (zzi BK365.out 0).trans rfl; have hcz5_1 : w4.cell? ⟨gb365, 1, none⟩ = some (.bool false) := (zzi BK365.out 1).trans rfl; have hfz5_0 := zzh BK365.out 0; have hfz5_1 := zzh BK365.out 1))
  refine bodyPost_ret (results_cell_row rfl _ _ gb365 23 #[.int .i64 t366, .bool t367] (0, 0) _ rfl (by (with_reducible repeat first | apply zzc | apply zzd | apply zzb); refine zzo (cs := #[.int .i64 t366, .bool false]) ?_ 1 _ rfl; (with_reducible repeat first | apply zzc | apply zzd | apply zzb); refine zzo (cs := #[.int .i64 0, .bool false]) ?_ 0 _ rfl; (with_reducible repeat first | apply zzc | apply zzd | apply zzb); exact BK365.out) Try.underlying23 rfl (by kernel_rfl)) rfl ?_
  exact ⟨by first | rfl | (simp [zzn, zzm] <;> rfl) | (simp [*, zzn, zzm] <;> rfl), by repeat (first | (with_reducible first | exact HB.out | apply zzf | apply zza | apply zzg | refine zze ?_ GE365.out) | exact HB.out)⟩
def fixed_Clamp.f (k : Nat) (a0_0 : Int) (a0_1 : Bool) (a1_0 : Int) (a1_1 : Bool) (a2_0 : Int) (a2_1 : Bool) : Option (Int × Bool) := (fixed_Min.f k (([(⟨a0_0, a0_1⟩ : S23), (⟨a2_0, a2_1⟩ : S23)] : List (S23)))).bind fun bt375 => ((fixed_Max.f k (([(⟨a1_0, a1_1⟩ : S23), (⟨bt375.1, bt375.2⟩ : S23)] : List (S23)))).bind fun bt380 => (some (bt380.1, bt380.2)))
def fixed_Clamp.T1 : Bool × List (List Nat × List Nat) := (true, [([], []), ([], []), ([], []), ([1, 2], [1, 2]), ([3], [3]), ([0, 4], [0, 4]), ([5, 4], [5]), ([6, 6, 0, 1, 2, 3, 4, 5, 6], [6])])
def fixed_Clamp.B1 : List Nat := [0, 0, 0, 6, 14, 31, 63, 127]
theorem fixed_Clamp.tab1 : rtab .any (opsOf Try.f35 1) = fixed_Clamp.T1 := by kernel_rfl
theorem fixed_Clamp.bits1 : waitsOk fixed_Clamp.T1.2 fixed_Clamp.B1 = true := by kernel_rfl
set_option maxHeartbeats 8000000 in
set_option maxRecDepth 100000 in
theorem fixed_Clamp.calls (k : Nat) (a0_0 : Int) (a0_1 : Bool) (a1_0 : Int) (a1_1 : Bool) (a2_0 : Int) (a2_1 : Bool) (r1 : Int) (r2 : Bool) (w : World) (h : fixed_Clamp.f k a0_0 a0_1 a1_0 a1_1 a2_0 a2_1 = some (r1, r2)) :
    Calls Try.prog 35 #[.agg #[.int .i64 a0_0, .bool a0_1], .agg #[.int .i64 a1_0, .bool a1_1], .agg #[.int .i64 a2_0, .bool a2_1]] w fun e w' => e = .returned (.agg #[.int .i64 r1, .bool r2]) ∧ Below w.heap.size w w' := by
  have hu23 := Try.underlying23
  have HB := Aside0.mk (Below.refl w.heap.size w)
  have H : ((fixed_Min.f k (([(⟨a0_0, a0_1⟩ : S23), (⟨a2_0, a2_1⟩ : S23)] : List (S23)))).bind fun bt375 => ((fixed_Max.f k (([(⟨a1_0, a1_1⟩ : S23), (⟨bt375.1, bt375.2⟩ : S23)] : List (S23)))).bind fun bt380 => (some (bt380.1, bt380.2)))) = some (r1, r2) := h
  clear h
  obtain ⟨y372, hy372⟩ : ∃ y_ : List (S23), y_ = (([(⟨a0_0, a0_1⟩ : S23), (⟨a2_0, a2_1⟩ : S23)] : List (S23))) := ⟨_, rfl⟩
  replace H : ((fixed_Min.f k y372).bind fun bt375 => ((fixed_Max.f k (([(⟨a1_0, a1_1⟩ : S23), (⟨bt375.1, bt375.2⟩ : S23)] : List (S23)))).bind fun bt380 => (some (bt380.1, bt380.2)))) = some (r1, r2) := by first | (rw [hy372]; with_reducible exact H) | (have H2_ := (Option.bind_some _ _).symm.trans H; rw [hy372]; with_reducible exact H2_) | (have H2_ := (Option.bind_some _ _).symm.trans H; with_reducible exact H2_) | with_reducible exact H | (rw [hy372]; exact H) | exact H
  have Ny372 := Aside0.mk hy372
  clear hy372
  replace H := Option.bind_eq_some_iff.mp H
  obtain ⟨⟨t375, t376⟩, A40, H⟩ := H
  replace H : ((fixed_Max.f k (([(⟨a1_0, a1_1⟩ : S23), (⟨t375, t376⟩ : S23)] : List (S23)))).bind fun bt380 => (some (bt380.1, bt380.2))) = some (r1, r2) := H
  have A4 := Aside0.mk A40
  clear A40
  obtain ⟨y377, hy377⟩ : ∃ y_ : List (S23), y_ = (([(⟨a1_0, a1_1⟩ : S23), (⟨t375, t376⟩ : S23)] : List (S23))) := ⟨_, rfl⟩
  replace H : ((fixed_Max.f k y377).bind fun bt380 => (some (bt380.1, bt380.2))) = some (r1, r2) := by first | (rw [hy377]; with_reducible exact H) | (have H2_ := (Option.bind_some _ _).symm.trans H; rw [hy377]; with_reducible exact H2_) | (have H2_ := (Option.bind_some _ _).symm.trans H; with_reducible exact H2_) | with_reducible exact H | (rw [hy377]; exact H) | exact H
  have Ny377 := Aside0.mk hy377
  clear hy377
  replace H := Option.bind_eq_some_iff.mp H
  obtain ⟨⟨t380, t381⟩, A50, H⟩ := H
  replace H : (some (t380, t381)) = some (r1, r2) := H
  have A5 := Aside0.mk A50
  clear A50
  simp only [Option.some.injEq, Prod.mk.injEq] at H
  obtain ⟨rfl, rfl⟩ := H
  go_enter Try.func35, Try.ntmps35
  try go_wp2_with (first | ((with_reducible refine zzt (N := 3) rfl ?_); refine zzp ?hg (N := 3) ?hd (cs := #[.int .i64 a0_0, .bool a0_1]) (t := 23) ?hr ?_; (case hd => rfl); (case hg => rfl); (case hr => first | (go_simp; done) | (go_simp; rfl)); intro gb368 hg w6 hbox hb; have n0_ := Aside0.mk (zzl (by repeat (first | (with_reducible first | exact HB.out | apply zzf | apply zza | apply zzg) | exact HB.out)) hb); have n1_ := Aside0.mk (hbox); have n3_ := Aside0.mk ((by rw [hg]; exact (zzk (by repeat (first | (with_reducible first | exact HB.out | apply zzf | apply zza | apply zzg) | exact HB.out))) : w.heap.size ≤ gb368)); clear HB; have HB := n0_; have BK368 := n1_; have GE368 := n3_; clear n0_ n1_ n3_; clear hb hbox hg) | ((with_reducible refine zzt (N := 4) rfl ?_); refine zzp ?hg (N := 4) ?hd (cs := #[.int .i64 a1_0, .bool a1_1]) (t := 23) ?hr ?_; (case hd => rfl); (case hg => rfl); (case hr => first | (go_simp; done) | (go_simp; rfl)); intro gb369 hg w7 hbox hb; have n0_ := Aside0.mk (zzj (g := gb368) (o := .cells #[.int .i64 a0_0, .bool a0_1] 23 (0, 0)) (by (with_reducible repeat first | apply zzc | apply zzd | apply zzb); exact BK368.out) hb); have n1_ := Aside0.mk (zzl (by repeat (first | (with_reducible first | exact HB.out | apply zzf | apply zza | apply zzg | refine zze ?_ GE368.out) | exact HB.out)) hb); have n2_ := Aside0.mk (hbox); have n4_ := Aside0.mk ((by rw [hg]; exact (zzk (by repeat (first | (with_reducible first | exact HB.out | apply zzf | apply zza | apply zzg | refine zze ?_ GE368.out) | exact HB.out))) : w.heap.size ≤ gb369)); clear BK368; clear HB; have BK368 := n0_; have HB := n1_; have BK369 := n2_; have GE369 := n4_; clear n0_ n1_ n2_ n4_; clear hb hbox hg) | ((with_reducible refine zzt (N := 5) rfl ?_); refine zzp ?hg (N := 5) ?hd (cs := #[.int .i64 a2_0, .bool a2_1]) (t := 23) ?hr ?_; (case hd => rfl); (case hg => rfl); (case hr => first | (go_simp; done) | (go_simp; rfl)); intro gb370 hg w8 hbox hb; have n0_ := Aside0.mk (zzj (g := gb368) (o := .cells #[.int .i64 a0_0, .bool a0_1] 23 (0, 0)) (by (with_reducible repeat first | apply zzc | apply zzd | apply zzb); exact BK368.out) hb); have n1_ := Aside0.mk (zzj (g := gb369) (o := .cells #[.int .i64 a1_0, .bool a1_1] 23 (0, 0)) (by (with_reducible repeat first | apply zzc | apply zzd | apply zzb); exact BK369.out) hb); have n2_ := Aside0.mk (zzl (by repeat (first | (with_reducible first | exact HB.out | apply zzf | apply zza | apply zzg | refine zze ?_ GE368.out | refine zze ?_ GE369.out) | exact HB.out)) hb); have n3_ := Aside0.mk (hbox); have n5_ := Aside0.mk ((by rw [hg]; exact (zzk (by repeat (first | (with_reducible first | exact HB.out | apply zzf | apply zza | apply zzg | refine zze ?_ GE368.out | refine zze ?_ GE369.out) | exact HB.out))) : w.heap.size ≤ gb370)); clear BK368; clear BK369; clear HB; have BK368 := n0_; have BK369 := n1_; have HB := n2_; have BK370 := n3_; have GE370 := n5_; clear n0_ n1_ n2_ n3_ n5_; clear hb hbox hg) | ((with_reducible refine zzt (N := 6) rfl ?_); refine zzp ?hg (N := 6) ?hd (cs := #[.int .i64 0, .bool false]) (t := 23) ?hr ?_; (case hd => rfl); (case hg => rfl); (case hr => first | (go_simp; done) | (go_simp; rfl)); intro gb371 hg w9 hbox hb; have n0_ := Aside0.mk (zzj (g := gb368) (o := .cells #[.int .i64 a0_0, .bool a0_1] 23 (0, 0)) (by (with_reducible repeat first | apply zzc | apply zzd | apply zzb); exact BK368.out) hb); have n1_ := Aside0.mk (zzj (g := gb369) (o := .cells #[.int .i64 a1_0, .bool a1_1] 23 (0, 0)) (by (with_reducible repeat first | apply zzc | apply zzd | apply zzb); exact BK369.out) hb); have n2_ := Aside0.mk (zzj (g := gb370) (o := .cells #[.int .i64 a2_0, .bool a2_1] 23 (0, 0)) (by (with_reducible repeat first | apply zzc | apply zzd | apply zzb); exact BK370.out) hb); have n3_ := Aside0.mk (zzl (by repeat (first | (with_reducible first | exact HB.out | apply zzf | apply zza | apply zzg | refine zze ?_ GE368.out | refine zze ?_ GE369.out | refine zze ?_ GE370.out) | exact HB.out)) hb); have n4_ := Aside0.mk (hbox); have n6_ := Aside0.mk ((by rw [hg]; exact (zzk (by repeat (first | (with_reducible first | exact HB.out | apply zzf | apply zza | apply zzg | refine zze ?_ GE368.out | refine zze ?_ GE369.out | refine zze ?_ GE370.out) | exact HB.out))) : w.heap.size ≤ gb371)); have n7_ := Aside0.mk ((by rw [hg]; exact Nat.ne_of_lt (zzr (g := gb368) (o := .cells #[.int .i64 a0_0, .bool a0_1] 23 (0, 0)) (by (with_reducible repeat first | apply zzc | apply zzd | apply zzb); exact BK368.out)) : gb368 ≠ gb371)); have n8_ := Aside0.mk ((by rw [hg]; exact Nat.ne_of_gt (zzr (g := gb368) (o := .cells #[.int .i64 a0_0, .bool a0_1] 23 (0, 0)) (by (with_reducible repeat first | apply zzc | apply zzd | apply zzb); exact BK368.out)) : gb371 ≠ gb368)); have n9_ := Aside0.mk ((by rw [hg]; exact Nat.ne_of_lt (zzr (g := gb369) (o := .cells #[.int .i64 a1_0, .bool a1_1] 23 (0, 0)) (by (with_reducible repeat first | apply zzc | apply zzd | apply zzb); exact BK369.out)) : gb369 ≠ gb371)); have n10_ := Aside0.mk ((by rw [hg]; exact Nat.ne_of_gt (zzr (g := gb369) (o := .cells #[.int .i64 a1_0, .bool a1_1] 23 (0, 0)) (by (with_reducible repeat first | apply zzc | apply zzd | apply zzb); exact BK369.out)) : gb371 ≠ gb369)); have n11_ := Aside0.mk ((by rw [hg]; exact Nat.ne_of_lt (zzr (g := gb370) (o := .cells #[.int .i64 a2_0, .bool a2_1] 23 (0, 0)) (by (with_reducible repeat first | apply zzc | apply zzd | apply zzb); exact BK370.out)) : gb370 ≠ gb371)); have n12_ := Aside0.mk ((by rw [hg]; exact Nat.ne_of_gt (zzr (g := gb370) (o := .cells #[.int .i64 a2_0, .bool a2_1] 23 (0, 0)) (by (with_reducible repeat first | apply zzc | apply zzd | apply zzb); exact BK370.out)) : gb371 ≠ gb370)); clear BK368; clear BK369; clear BK370; clear HB; have BK368 := n0_; have BK369 := n1_; have BK370 := n2_; have HB := n3_; have BK371 := n4_; have GE371 := n6_; have NB368_371 := n7_; have NB371_368 := n8_; have NB369_371 := n9_; have NB371_369 := n10_; have NB370_371 := n11_; have NB371_370 := n12_; clear n0_ n1_ n2_ n3_ n4_ n6_ n7_ n8_ n9_ n10_ n11_ n12_; clear hb hbox hg))
  have n0_ := Aside0.mk (zzd BK368.out)
  have n1_ := Aside0.mk (zzd BK369.out)
  have n2_ := Aside0.mk (zzd BK370.out)
  have n3_ := Aside0.mk (zzd BK371.out)
  have n4_ := Aside0.mk (zzg HB.out)
  clear BK368
  clear BK369
  clear BK370
  clear BK371
  clear HB
  have BK368 := n0_
  have BK369 := n1_
  have BK370 := n2_
  have BK371 := n3_
  have HB := n4_
  clear n0_ n1_ n2_ n3_ n4_
  refine start_ (n := 8) (S := fun w' => w'.cell? ⟨gb369, 0, none⟩ = some (.int .i64 a1_0) ∧ w'.cell? ⟨gb369, 1, none⟩ = some (.bool a1_1) ∧ w'.cell? ⟨gb368, 0, none⟩ = some (.int .i64 a0_0) ∧ w'.cell? ⟨gb368, 1, none⟩ = some (.bool a0_1) ∧ w'.cell? ⟨gb370, 0, none⟩ = some (.int .i64 a2_0) ∧ w'.cell? ⟨gb370, 1, none⟩ = some (.bool a2_1)) (ds := []) #[false, false, false, false, false, false, false, false] (by kernel_rfl) rfl rfl ⟨(zzi BK369.out 0).trans rfl, (zzi BK369.out 1).trans rfl, (zzi BK368.out 0).trans rfl, (zzi BK368.out 1).trans rfl, (zzi BK370.out 0).trans rfl, (zzi BK370.out 1).trans rfl⟩ (fun hHeld => ?_); refine with_tabW fixed_Clamp.tab1 fixed_Clamp.bits1 (fun HT_ HW_ => ?_)
  generalize w9.drew = w10 at BK368 BK369 BK370 BK371 HB hHeld ⊢
  refine take_ (i := 0) (N := some 7) (v := ?_) (a' := ?_) #[true, false, false, false, false, false, false, false] rfl rfl (take_ofW HT_.out HW_.out (by kernel_rfl)) (fun _ _ _ h => h) (Or.inl ⟨by rfl, ?_⟩) hHeld ?_ ?_
  rotate_left
  · rintro w' ⟨s0, s1, s2, s3, s4, s5⟩
    go_simp
    with_reducible rfl
  rotate_left
  · simp only [Act.put, List.setIfInBounds_toArray, List.set_cons_zero, List.set_cons_succ, i64_w, i32_w]
    rfl
  refine take_ (i := 1) (N := some 8) (v := ?_) (a' := ?_) #[true, true, false, false, false, false, false, false] rfl rfl (take_ofW HT_.out HW_.out (by kernel_rfl)) (fun _ _ _ h => h) (Or.inl ⟨by rfl, ?_⟩) hHeld ?_ ?_
  rotate_left
  · rintro w' ⟨s0, s1, s2, s3, s4, s5⟩
    go_simp
    with_reducible rfl
  rotate_left
  · simp only [Act.put, List.setIfInBounds_toArray, List.set_cons_zero, List.set_cons_succ, i64_w, i32_w]
    rfl
  refine take_ (i := 2) (N := some 9) (v := ?_) (a' := ?_) #[true, true, true, false, false, false, false, false] rfl rfl (take_ofW HT_.out HW_.out (by kernel_rfl)) (fun _ _ _ h => h) (Or.inl ⟨by rfl, ?_⟩) hHeld ?_ ?_
  rotate_left
  · rintro w' ⟨s0, s1, s2, s3, s4, s5⟩
    go_simp
    with_reducible rfl
  rotate_left
  · simp only [Act.put, List.setIfInBounds_toArray, List.set_cons_zero, List.set_cons_succ, i64_w, i32_w]
    rfl
  refine one_ (i := 3) (N := some 10) #[true, true, true, true, false, false, false, false] rfl rfl (one_of HT_.out (by kernel_rfl)) (by decide) (fun K hK => ?_)
  refine Kd.R_lit_step k23 _ 23 ?hg (N := 10) ?hd (xs := ([(⟨a0_0, a0_1⟩ : S23), (⟨a2_0, a2_1⟩ : S23)] : List (S23))) (inner := [.int .i64 a0_0, .bool a0_1, .int .i64 a2_0, .bool a2_1]) (ok := fun _ => True) (okp := fun _ => True) ?hr ?hp (fun _ hk => hk) trivial (Below.refl _ _) (Nat.le_refl _) (by simp) ?_; (case hd => rfl); (case hg => rfl); (case hr => first | (go_simp; done) | (go_simp; rfl)); (case hp => exact (Reps.c2 (show Kd.M k23 _ _ _ (⟨a0_0, a0_1⟩ : S23) [.int .i64 a0_0, .bool a0_1] from (k23_mkM _ _ _ (⟨a0_0, a0_1⟩ : S23) )) (Reps.c2 (show Kd.M k23 _ _ _ (⟨a2_0, a2_1⟩ : S23) [.int .i64 a2_0, .bool a2_1] from (k23_mkM _ _ _ (⟨a2_0, a2_1⟩ : S23) )) (Reps.none _ _))))
  intro v373 w11 ho12 hb hg_ hnew_
  clear hg_ hnew_
  (first | rw [← Ny372.out] at ho12 | (simp only [Int.reduceToNat] at ho12; rw [← Ny372.out] at ho12))
  have n0_ := Aside0.mk (Kd.R_lower (Kd.R_newB (Kd.R_newB (Kd.R_newB (Kd.R_newB ho12 (g := gb368) (o := .cells #[.int .i64 a0_0, .bool a0_1] 23 (0, 0)) (by (with_reducible repeat first | apply zzc | apply zzd | apply zzb); exact BK368.out)) (g := gb369) (o := .cells #[.int .i64 a1_0, .bool a1_1] 23 (0, 0)) (by (with_reducible repeat first | apply zzc | apply zzd | apply zzb); exact BK369.out)) (g := gb370) (o := .cells #[.int .i64 a2_0, .bool a2_1] 23 (0, 0)) (by (with_reducible repeat first | apply zzc | apply zzd | apply zzb); exact BK370.out)) (g := gb371) (o := .cells #[.int .i64 0, .bool false] 23 (0, 0)) (by (with_reducible repeat first | apply zzc | apply zzd | apply zzb); exact BK371.out)) (zzk (by repeat (first | (with_reducible first | exact HB.out | apply zzf | apply zza | apply zzg | refine zze ?_ GE368.out | refine zze ?_ GE369.out | refine zze ?_ GE370.out | refine zze ?_ GE371.out) | exact HB.out))))
  have n1_ := Aside0.mk (zzj (g := gb368) (o := .cells #[.int .i64 a0_0, .bool a0_1] 23 (0, 0)) (by (with_reducible repeat first | apply zzc | apply zzd | apply zzb); exact BK368.out) hb)
  have n2_ := Aside0.mk (zzj (g := gb369) (o := .cells #[.int .i64 a1_0, .bool a1_1] 23 (0, 0)) (by (with_reducible repeat first | apply zzc | apply zzd | apply zzb); exact BK369.out) hb)
  have n3_ := Aside0.mk (zzj (g := gb370) (o := .cells #[.int .i64 a2_0, .bool a2_1] 23 (0, 0)) (by (with_reducible repeat first | apply zzc | apply zzd | apply zzb); exact BK370.out) hb)
  have n4_ := Aside0.mk (zzj (g := gb371) (o := .cells #[.int .i64 0, .bool false] 23 (0, 0)) (by (with_reducible repeat first | apply zzc | apply zzd | apply zzb); exact BK371.out) hb)
  have n5_ := Aside0.mk (zzl (by repeat (first | (with_reducible first | exact HB.out | apply zzf | apply zza | apply zzg | refine zze ?_ GE368.out | refine zze ?_ GE369.out | refine zze ?_ GE370.out | refine zze ?_ GE371.out) | exact HB.out)) hb)
  clear BK368
  clear BK369
  clear BK370
  clear BK371
  clear HB
  have HO374 := n0_
  have BK368 := n1_
  have BK369 := n2_
  have BK370 := n3_
  have BK371 := n4_
  have HB := n5_
  clear n0_ n1_ n2_ n3_ n4_ n5_
  clear hb ho12
  obtain ⟨Ao13, co13, eo13⟩ := Kd.R_slice HO374.out
  (first | subst eo13 | (injection eo13 with f1_ f2_ f3_; have f4_ := f1_.symm; have f5_ := f3_.symm; clear f1_ f2_ f3_; subst f4_; subst f5_))
  refine hK.out _ _ ⟨(zzi BK369.out 0).trans rfl, (zzi BK369.out 1).trans rfl, (zzi BK368.out 0).trans rfl, (zzi BK368.out 1).trans rfl, (zzi BK370.out 0).trans rfl, (zzi BK370.out 1).trans rfl⟩ (fun hHeld => ?_)
  clear hK K
  refine norm_ (a' := ?_) ?_ ?_
  rotate_left
  · show Act.put _ (some 10) _ = _
    simp only [Act.put, List.setIfInBounds_toArray, List.set_cons_zero, List.set_cons_succ, i64_w, i32_w]
    rfl
  refine one_ (i := 4) (N := some 11) #[true, true, true, true, true, false, false, false] rfl rfl (one_of HT_.out (by kernel_rfl)) (by decide) (fun K hK => ?_)
  refine goes_ Try.func28 (by kernel_rfl) rfl #[.slice Ao13 y372.length co13] (by rfl) rfl rfl (by (try simp only [List.map_toArray, List.map_cons, List.map_nil]); first | done | rfl | (simp only [List.length_drop, List.length_take]; rfl)) ?_
  with_reducible refine (fixed_Min.calls k _ _ y372 t375 t376 _ ?side1 ?side2 A4.out).mono ?_
  (case side1 => repeat (first | exact (Kd.R_reads' HO374.out).2.2 | (with_reducible refine Kd.C_alloc ?_ _) | (with_reducible refine Kd.C_drewN ?_ _) | (with_reducible refine Kd.C_drew ?_)))
  (case side2 => exact (Kd.R_reads' HO374.out).2.1)
  rintro e w14 ⟨rfl, hb⟩
  refine ⟨_, rfl, ?_⟩
  have n0_ := Aside0.mk (Kd.R_below (by (with_reducible repeat (first | apply Kd.R_alloc | apply Kd.R_drewN | apply Kd.R_drew)); exact HO374.out) hb)
  have n1_ := Aside0.mk (zzj (g := gb368) (o := .cells #[.int .i64 a0_0, .bool a0_1] 23 (0, 0)) (by (with_reducible repeat first | apply zzc | apply zzd | apply zzb); exact BK368.out) hb)
  have n2_ := Aside0.mk (zzj (g := gb369) (o := .cells #[.int .i64 a1_0, .bool a1_1] 23 (0, 0)) (by (with_reducible repeat first | apply zzc | apply zzd | apply zzb); exact BK369.out) hb)
  have n3_ := Aside0.mk (zzj (g := gb370) (o := .cells #[.int .i64 a2_0, .bool a2_1] 23 (0, 0)) (by (with_reducible repeat first | apply zzc | apply zzd | apply zzb); exact BK370.out) hb)
  have n4_ := Aside0.mk (zzj (g := gb371) (o := .cells #[.int .i64 0, .bool false] 23 (0, 0)) (by (with_reducible repeat first | apply zzc | apply zzd | apply zzb); exact BK371.out) hb)
  have n5_ := Aside0.mk (zzl (by repeat (first | (with_reducible first | exact HB.out | apply zzf | apply zza | apply zzg | refine zze ?_ GE368.out | refine zze ?_ GE369.out | refine zze ?_ GE370.out | refine zze ?_ GE371.out) | exact HB.out)) hb)
  clear HO374
  clear BK368
  clear BK369
  clear BK370
  clear BK371
  clear HB
  have HO374 := n0_
  have BK368 := n1_
  have BK369 := n2_
  have BK370 := n3_
  have BK371 := n4_
  have HB := n5_
  clear n0_ n1_ n2_ n3_ n4_ n5_
  (try clear hb)
  (try clear hb2)
  (try clear hk)
  (try clear hi)
  refine hK.out _ _ ⟨(zzi BK369.out 0).trans rfl, (zzi BK369.out 1).trans rfl, (zzi BK368.out 0).trans rfl, (zzi BK368.out 1).trans rfl, (zzi BK370.out 0).trans rfl, (zzi BK370.out 1).trans rfl⟩ (fun hHeld => ?_)
  clear hK K
  refine norm_ (a' := ?_) ?_ ?_
  rotate_left
  · show Act.put _ (some 11) _ = _
    simp only [Act.put, List.setIfInBounds_toArray, List.set_cons_zero, List.set_cons_succ, i64_w, i32_w]
    rfl
  refine one_ (i := 5) (N := some 12) #[true, true, true, true, true, true, false, false] rfl rfl (one_of HT_.out (by kernel_rfl)) (by decide) (fun K hK => ?_)
  refine Kd.R_lit_step k23 _ 23 ?hg (N := 12) ?hd (xs := ([(⟨a1_0, a1_1⟩ : S23), (⟨t375, t376⟩ : S23)] : List (S23))) (inner := [.int .i64 a1_0, .bool a1_1, .int .i64 t375, .bool t376]) (ok := fun _ => True) (okp := fun _ => True) ?hr ?hp (fun _ hk => hk) trivial (Below.refl _ _) (Nat.le_refl _) (by simp) ?_; (case hd => rfl); (case hg => rfl); (case hr => first | (go_simp; done) | (go_simp; rfl)); (case hp => exact (Reps.c2 (show Kd.M k23 _ _ _ (⟨a1_0, a1_1⟩ : S23) [.int .i64 a1_0, .bool a1_1] from (k23_mkM _ _ _ (⟨a1_0, a1_1⟩ : S23) )) (Reps.c2 (show Kd.M k23 _ _ _ (⟨t375, t376⟩ : S23) [.int .i64 t375, .bool t376] from (k23_mkM _ _ _ (⟨t375, t376⟩ : S23) )) (Reps.none _ _))))
  intro v378 w15 ho16 hb hg_ hnew_
  clear hg_ hnew_
  (first | rw [← Ny377.out] at ho16 | (simp only [Int.reduceToNat] at ho16; rw [← Ny377.out] at ho16))
  have n1_ := Aside0.mk (Kd.R_lower (Kd.R_newB (Kd.R_newB (Kd.R_newB (Kd.R_newB (Kd.R_new' ho16 (Kd.R_lt (by (with_reducible repeat (first | apply Kd.R_alloc | apply Kd.R_drewN | apply Kd.R_drew)); exact HO374.out))) (g := gb368) (o := .cells #[.int .i64 a0_0, .bool a0_1] 23 (0, 0)) (by (with_reducible repeat first | apply zzc | apply zzd | apply zzb); exact BK368.out)) (g := gb369) (o := .cells #[.int .i64 a1_0, .bool a1_1] 23 (0, 0)) (by (with_reducible repeat first | apply zzc | apply zzd | apply zzb); exact BK369.out)) (g := gb370) (o := .cells #[.int .i64 a2_0, .bool a2_1] 23 (0, 0)) (by (with_reducible repeat first | apply zzc | apply zzd | apply zzb); exact BK370.out)) (g := gb371) (o := .cells #[.int .i64 0, .bool false] 23 (0, 0)) (by (with_reducible repeat first | apply zzc | apply zzd | apply zzb); exact BK371.out)) (zzk (by repeat (first | (with_reducible first | exact HB.out | apply zzf | apply zza | apply zzg | refine zze ?_ GE368.out | refine zze ?_ GE369.out | refine zze ?_ GE370.out | refine zze ?_ GE371.out) | exact HB.out))))
  have n2_ := Aside0.mk (zzj (g := gb368) (o := .cells #[.int .i64 a0_0, .bool a0_1] 23 (0, 0)) (by (with_reducible repeat first | apply zzc | apply zzd | apply zzb); exact BK368.out) hb)
  have n3_ := Aside0.mk (zzj (g := gb369) (o := .cells #[.int .i64 a1_0, .bool a1_1] 23 (0, 0)) (by (with_reducible repeat first | apply zzc | apply zzd | apply zzb); exact BK369.out) hb)
  have n4_ := Aside0.mk (zzj (g := gb370) (o := .cells #[.int .i64 a2_0, .bool a2_1] 23 (0, 0)) (by (with_reducible repeat first | apply zzc | apply zzd | apply zzb); exact BK370.out) hb)
  have n5_ := Aside0.mk (zzj (g := gb371) (o := .cells #[.int .i64 0, .bool false] 23 (0, 0)) (by (with_reducible repeat first | apply zzc | apply zzd | apply zzb); exact BK371.out) hb)
  have n6_ := Aside0.mk (zzl (by repeat (first | (with_reducible first | exact HB.out | apply zzf | apply zza | apply zzg | refine zze ?_ GE368.out | refine zze ?_ GE369.out | refine zze ?_ GE370.out | refine zze ?_ GE371.out) | exact HB.out)) hb)
  clear BK368
  clear BK369
  clear BK370
  clear BK371
  clear HB
  have HO379 := n1_
  have BK368 := n2_
  have BK369 := n3_
  have BK370 := n4_
  have BK371 := n5_
  have HB := n6_
  clear n1_ n2_ n3_ n4_ n5_ n6_
  clear hb ho16
  obtain ⟨Ao17, co17, eo17⟩ := Kd.R_slice HO379.out
  (first | subst eo17 | (injection eo17 with f1_ f2_ f3_; have f4_ := f1_.symm; have f5_ := f3_.symm; clear f1_ f2_ f3_; subst f4_; subst f5_))
  refine hK.out _ _ ⟨(zzi BK369.out 0).trans rfl, (zzi BK369.out 1).trans rfl, (zzi BK368.out 0).trans rfl, (zzi BK368.out 1).trans rfl, (zzi BK370.out 0).trans rfl, (zzi BK370.out 1).trans rfl⟩ (fun hHeld => ?_)
  clear hK K
  refine norm_ (a' := ?_) ?_ ?_
  rotate_left
  · show Act.put _ (some 12) _ = _
    simp only [Act.put, List.setIfInBounds_toArray, List.set_cons_zero, List.set_cons_succ, i64_w, i32_w]
    rfl
  refine one_ (i := 6) (N := some 13) #[true, true, true, true, true, true, true, false] rfl rfl (one_of HT_.out (by kernel_rfl)) (by decide) (fun K hK => ?_)
  refine goes_ Try.func30 (by kernel_rfl) rfl #[.slice Ao17 y377.length co17] (by rfl) rfl rfl (by (try simp only [List.map_toArray, List.map_cons, List.map_nil]); first | done | rfl | (simp only [List.length_drop, List.length_take]; rfl)) ?_
  with_reducible refine (fixed_Max.calls k _ _ y377 t380 t381 _ ?side1 ?side2 A5.out).mono ?_
  (case side1 => repeat (first | exact (Kd.R_reads' HO379.out).2.2 | (with_reducible refine Kd.C_alloc ?_ _) | (with_reducible refine Kd.C_drewN ?_ _) | (with_reducible refine Kd.C_drew ?_)))
  (case side2 => exact (Kd.R_reads' HO379.out).2.1)
  rintro e w18 ⟨rfl, hb⟩
  refine ⟨_, rfl, ?_⟩
  have n2_ := Aside0.mk (zzj (g := gb368) (o := .cells #[.int .i64 a0_0, .bool a0_1] 23 (0, 0)) (by (with_reducible repeat first | apply zzc | apply zzd | apply zzb); exact BK368.out) hb)
  have n3_ := Aside0.mk (zzj (g := gb369) (o := .cells #[.int .i64 a1_0, .bool a1_1] 23 (0, 0)) (by (with_reducible repeat first | apply zzc | apply zzd | apply zzb); exact BK369.out) hb)
  have n4_ := Aside0.mk (zzj (g := gb370) (o := .cells #[.int .i64 a2_0, .bool a2_1] 23 (0, 0)) (by (with_reducible repeat first | apply zzc | apply zzd | apply zzb); exact BK370.out) hb)
  have n5_ := Aside0.mk (zzj (g := gb371) (o := .cells #[.int .i64 0, .bool false] 23 (0, 0)) (by (with_reducible repeat first | apply zzc | apply zzd | apply zzb); exact BK371.out) hb)
  have n6_ := Aside0.mk (zzl (by repeat (first | (with_reducible first | exact HB.out | apply zzf | apply zza | apply zzg | refine zze ?_ GE368.out | refine zze ?_ GE369.out | refine zze ?_ GE370.out | refine zze ?_ GE371.out) | exact HB.out)) hb)
  clear BK368
  clear BK369
  clear BK370
  clear BK371
  clear HB
  have BK368 := n2_
  have BK369 := n3_
  have BK370 := n4_
  have BK371 := n5_
  have HB := n6_
  clear n2_ n3_ n4_ n5_ n6_
  (try clear hb)
  (try clear hb2)
  (try clear hk)
  (try clear hi)
  refine hK.out _ _ ⟨(zzi BK369.out 0).trans rfl, (zzi BK369.out 1).trans rfl, (zzi BK368.out 0).trans rfl, (zzi BK368.out 1).trans rfl, (zzi BK370.out 0).trans rfl, (zzi BK370.out 1).trans rfl⟩ (fun hHeld => ?_)
  clear hK K
  refine norm_ (a' := ?_) ?_ ?_
  rotate_left
  · show Act.put _ (some 13) _ = _
    simp only [Act.put, List.setIfInBounds_toArray, List.set_cons_zero, List.set_cons_succ, i64_w, i32_w]
    rfl
  refine one_ (i := 7) (N := none) #[true, true, true, true, true, true, true, true] rfl rfl (one_of HT_.out (by kernel_rfl)) (by decide) (fun K hK => ?_)
  have hs19 : w18.cell? ⟨gb371, 0, none⟩ = some (.int .i64 0) := (zzi BK371.out 0).trans rfl
  have hfs19 := zzh BK371.out 0
  have hns19_0 := NB368_371.out
  have hns19_1 := NB369_371.out
  have hns19_2 := NB370_371.out
  have hms19_0 := NB371_368.out
  have hms19_1 := NB371_369.out
  have hms19_2 := NB371_370.out
  have hs20 : w18.cell? ⟨gb371, 1, none⟩ = some (.bool false) := (zzi BK371.out 1).trans rfl
  have hfs20 := zzh BK371.out 1
  have hns20_0 := NB368_371.out
  have hns20_1 := NB369_371.out
  have hns20_2 := NB370_371.out
  have hms20_0 := NB371_368.out
  have hms20_1 := NB371_369.out
  have hms20_2 := NB371_370.out
  refine skip_ (w1 := ?_) (by rfl) rfl ?_ ?_
  rotate_left
  · go_simp
    rfl
  refine hK.out _ _ ⟨((cell_far (p := ⟨gb371, _, none⟩) NB369_371.out _).trans (((cell_far (p := ⟨gb371, _, none⟩) NB369_371.out _).trans (hHeld.1)))), ((cell_far (p := ⟨gb371, _, none⟩) NB369_371.out _).trans (((cell_far (p := ⟨gb371, _, none⟩) NB369_371.out _).trans (hHeld.2.1)))), ((cell_far (p := ⟨gb371, _, none⟩) NB368_371.out _).trans (((cell_far (p := ⟨gb371, _, none⟩) NB368_371.out _).trans (hHeld.2.2.1)))), ((cell_far (p := ⟨gb371, _, none⟩) NB368_371.out _).trans (((cell_far (p := ⟨gb371, _, none⟩) NB368_371.out _).trans (hHeld.2.2.2.1)))), ((cell_far (p := ⟨gb371, _, none⟩) NB370_371.out _).trans (((cell_far (p := ⟨gb371, _, none⟩) NB370_371.out _).trans (hHeld.2.2.2.2.1)))), ((cell_far (p := ⟨gb371, _, none⟩) NB370_371.out _).trans (((cell_far (p := ⟨gb371, _, none⟩) NB370_371.out _).trans (hHeld.2.2.2.2.2))))⟩ (fun hHeld => ?_)
  clear hK K
  refine done_ (done_of HT_.out (by kernel_rfl)) ?_
  try go_wp2
  refine bodyPost_ret (results_cell_row rfl _ _ gb371 23 #[.int .i64 t380, .bool t381] (0, 0) _ rfl (by (with_reducible repeat first | apply zzc | apply zzd | apply zzb); refine zzo (cs := #[.int .i64 t380, .bool false]) ?_ 1 _ rfl; (with_reducible repeat first | apply zzc | apply zzd | apply zzb); refine zzo (cs := #[.int .i64 0, .bool false]) ?_ 0 _ rfl; (with_reducible repeat first | apply zzc | apply zzd | apply zzb); exact BK371.out) Try.underlying23 rfl (by kernel_rfl)) rfl ?_
  exact ⟨by first | rfl | (simp [zzn, zzm] <;> rfl) | (simp [*, zzn, zzm] <;> rfl), by repeat (first | (with_reducible first | exact HB.out | apply zzf | apply zza | apply zzg | refine zze ?_ GE368.out | refine zze ?_ GE369.out | refine zze ?_ GE370.out | refine zze ?_ GE371.out) | exact HB.out)⟩
def fixed_Wrap.f (a0_0 : Int) (a0_1 : Bool) : Option (Int × Bool) := (fixed_sound.f a0_0 a0_1).bind fun bt384 => (if (Int.tmod bt384.1 26986075409) > 13493037704 then (some (wrap64 ((Int.tmod bt384.1 26986075409) - 26986075409), bt384.2)) else (if (Int.tmod bt384.1 26986075409) < (-13493037704) then (some (wrap64 ((Int.tmod bt384.1 26986075409) + 26986075409), bt384.2)) else (some (Int.tmod bt384.1 26986075409, bt384.2))))
set_option maxHeartbeats 8000000 in
set_option maxRecDepth 100000 in
theorem fixed_Wrap.calls (a0_0 : Int) (a0_1 : Bool) (r1 : Int) (r2 : Bool) (w : World) (h : fixed_Wrap.f a0_0 a0_1 = some (r1, r2)) :
    Calls Try.prog 45 #[.agg #[.int .i64 a0_0, .bool a0_1]] w fun e w' => e = .returned (.agg #[.int .i64 r1, .bool r2]) ∧ Below w.heap.size w w' := by
  have hu23 := Try.underlying23
  have HB := Aside0.mk (Below.refl w.heap.size w)
  have H : ((fixed_sound.f a0_0 a0_1).bind fun bt384 => (if (Int.tmod bt384.1 26986075409) > 13493037704 then (some (wrap64 ((Int.tmod bt384.1 26986075409) - 26986075409), bt384.2)) else (if (Int.tmod bt384.1 26986075409) < (-13493037704) then (some (wrap64 ((Int.tmod bt384.1 26986075409) + 26986075409), bt384.2)) else (some (Int.tmod bt384.1 26986075409, bt384.2))))) = some (r1, r2) := h
  clear h
  replace H := Option.bind_eq_some_iff.mp H
  obtain ⟨⟨t384, t385⟩, A20, H⟩ := H
  replace H : (if (Int.tmod t384 26986075409) > 13493037704 then (some (wrap64 ((Int.tmod t384 26986075409) - 26986075409), t385)) else (if (Int.tmod t384 26986075409) < (-13493037704) then (some (wrap64 ((Int.tmod t384 26986075409) + 26986075409), t385)) else (some (Int.tmod t384 26986075409, t385)))) = some (r1, r2) := H
  have A2 := Aside0.mk A20
  clear A20
  by_cases c3 : (Int.tmod t384 26986075409) > 13493037704
  · rw [if_pos c3] at H
    have c3b0 : decide (13493037704 < (Int.tmod t384 26986075409)) = true := decide_eq_true c3
    clear c3
    simp only [Option.some.injEq, Prod.mk.injEq] at H
    obtain ⟨rfl, rfl⟩ := H
    go_enter Try.func45, Try.ntmps45
    go_wp2_with (first | ((with_reducible refine zzt (N := 1) rfl ?_); refine zzp ?hg (N := 1) ?hd (cs := #[.int .i64 a0_0, .bool a0_1]) (t := 23) ?hr ?_; (case hd => rfl); (case hg => rfl); (case hr => first | (go_simp; done) | (go_simp; rfl)); intro gb382 hg w4 hbox hb; have n0_ := Aside0.mk (zzl (by repeat (first | (with_reducible first | exact HB.out | apply zzf | apply zza | apply zzg) | exact HB.out)) hb); have n1_ := Aside0.mk (hbox); have n3_ := Aside0.mk ((by rw [hg]; exact (zzk (by repeat (first | (with_reducible first | exact HB.out | apply zzf | apply zza | apply zzg) | exact HB.out))) : w.heap.size ≤ gb382)); clear HB; have HB := n0_; have BK382 := n1_; have GE382 := n3_; clear n0_ n1_ n3_; clear hb hbox hg) | ((with_reducible refine zzt (N := 2) rfl ?_); refine zzp ?hg (N := 2) ?hd (cs := #[.int .i64 0, .bool false]) (t := 23) ?hr ?_; (case hd => rfl); (case hg => rfl); (case hr => first | (go_simp; done) | (go_simp; rfl)); intro gb383 hg w5 hbox hb; have n0_ := Aside0.mk (zzj (g := gb382) (o := .cells #[.int .i64 a0_0, .bool a0_1] 23 (0, 0)) (by (with_reducible repeat first | apply zzc | apply zzd | apply zzb); exact BK382.out) hb); have n1_ := Aside0.mk (zzl (by repeat (first | (with_reducible first | exact HB.out | apply zzf | apply zza | apply zzg | refine zze ?_ GE382.out) | exact HB.out)) hb); have n2_ := Aside0.mk (hbox); have n4_ := Aside0.mk ((by rw [hg]; exact (zzk (by repeat (first | (with_reducible first | exact HB.out | apply zzf | apply zza | apply zzg | refine zze ?_ GE382.out) | exact HB.out))) : w.heap.size ≤ gb383)); have n5_ := Aside0.mk ((by rw [hg]; exact Nat.ne_of_lt (zzr (g := gb382) (o := .cells #[.int .i64 a0_0, .bool a0_1] 23 (0, 0)) (by (with_reducible repeat first | apply zzc | apply zzd | apply zzb); exact BK382.out)) : gb382 ≠ gb383)); have n6_ := Aside0.mk ((by rw [hg]; exact Nat.ne_of_gt (zzr (g := gb382) (o := .cells #[.int .i64 a0_0, .bool a0_1] 23 (0, 0)) (by (with_reducible repeat first | apply zzc | apply zzd | apply zzb); exact BK382.out)) : gb383 ≠ gb382)); clear BK382; clear HB; have BK382 := n0_; have HB := n1_; have BK383 := n2_; have GE383 := n4_; have NB382_383 := n5_; have NB383_382 := n6_; clear n0_ n1_ n2_ n4_ n5_ n6_; clear hb hbox hg; have hnb6 := NB382_383.out; have hnc6 := NB383_382.out; have hcz7_0 : w5.cell? ⟨gb382, 0, none⟩ = some (.int .i64 a0_0) := (zzi BK382.out 0).trans rfl; have hcz7_1 : w5.cell? ⟨gb382, 1, none⟩ = some (.bool a0_1) := (zzi BK382.out 1).trans rfl; have hfz7_0 := zzh BK382.out 0; have hfz7_1 := zzh BK382.out 1) | ((with_reducible refine zzq (f := 72) rfl ?_); refine goesL_ (some 5) rfl rfl Try.func72 (by kernel_rfl) rfl #[.agg #[.int .i64 a0_0, .bool a0_1]] rfl (by (try simp only [List.map_toArray, List.map_cons, List.map_nil]); first | done | rfl | (simp only [List.length_drop, List.length_take]; rfl)) ?_; (with_reducible refine (fixed_sound.calls a0_0 a0_1 t384 t385 _ A2.out).mono ?_); rintro e w8 ⟨rfl, hb⟩; refine ⟨_, rfl, ?_⟩; have n0_ := Aside0.mk (zzj (g := gb382) (o := .cells #[.int .i64 a0_0, .bool a0_1] 23 (0, 0)) (by (with_reducible repeat first | apply zzc | apply zzd | apply zzb); exact BK382.out) hb); have n1_ := Aside0.mk (zzj (g := gb383) (o := .cells #[.int .i64 0, .bool false] 23 (0, 0)) (by (with_reducible repeat first | apply zzc | apply zzd | apply zzb); exact BK383.out) hb); have n2_ := Aside0.mk (zzl (by repeat (first | (with_reducible first | exact HB.out | apply zzf | apply zza | apply zzg | refine zze ?_ GE382.out | refine zze ?_ GE383.out) | exact HB.out)) hb); clear BK382; clear BK383; clear HB; have BK382 := n0_; have BK383 := n1_; have HB := n2_; clear n0_ n1_ n2_; have hcz9_0 : w8.cell? ⟨gb382, 0, none⟩ = some (.int .i64 a0_0) := (zzi BK382.out 0).trans rfl; have hcz9_1 : w8.cell? ⟨gb382, 1, none⟩ = some (.bool a0_1) := (zzi BK382.out 1).trans rfl; have hfz9_0 := zzh BK382.out 0; have hfz9_1 := zzh BK382.out 1; have hcz10_0 : w8.cell? ⟨gb383, 0, none⟩ = some (.int .i64 0) := (zzi BK383.out 0).trans rfl; have hcz10_1 : w8.cell? ⟨gb383, 1, none⟩ = some (.bool false) := (zzi BK383.out 1).trans rfl; have hfz10_0 := zzh BK383.out 0; have hfz10_1 := zzh BK383.out 1))
    refine bodyPost_ret (results_cell_row rfl _ _ gb383 23 #[.int .i64 (wrap64 ((Int.tmod t384 26986075409) - 26986075409)), .bool t385] (0, 0) _ rfl (by (with_reducible repeat first | apply zzc | apply zzd | apply zzb); refine zzo (cs := #[.int .i64 (wrap64 ((Int.tmod t384 26986075409) - 26986075409)), .bool false]) ?_ 1 _ rfl; (with_reducible repeat first | apply zzc | apply zzd | apply zzb); refine zzo (cs := #[.int .i64 0, .bool false]) ?_ 0 _ rfl; (with_reducible repeat first | apply zzc | apply zzd | apply zzb); refine zzs ?_ NB383_382.out _; (with_reducible repeat first | apply zzc | apply zzd | apply zzb); refine zzs ?_ NB383_382.out _; (with_reducible repeat first | apply zzc | apply zzd | apply zzb); exact BK383.out) Try.underlying23 rfl (by kernel_rfl)) rfl ?_
    exact ⟨by first | rfl | (simp [zzn, zzm] <;> rfl) | (simp [*, zzn, zzm] <;> rfl), by repeat (first | (with_reducible first | exact HB.out | apply zzf | apply zza | apply zzg | refine zze ?_ GE382.out | refine zze ?_ GE383.out) | exact HB.out)⟩
  · rw [if_neg c3] at H
    have c3b0 : decide (13493037704 < (Int.tmod t384 26986075409)) = false := decide_eq_false c3
    clear c3
    by_cases c11 : (Int.tmod t384 26986075409) < (-13493037704)
    · rw [if_pos c11] at H
      have c11b0 : decide ((Int.tmod t384 26986075409) < (-13493037704)) = true := decide_eq_true c11
      clear c11
      simp only [Option.some.injEq, Prod.mk.injEq] at H
      obtain ⟨rfl, rfl⟩ := H
      go_enter Try.func45, Try.ntmps45
      go_wp2_with (first | ((with_reducible refine zzt (N := 1) rfl ?_); refine zzp ?hg (N := 1) ?hd (cs := #[.int .i64 a0_0, .bool a0_1]) (t := 23) ?hr ?_; (case hd => rfl); (case hg => rfl); (case hr => first | (go_simp; done) | (go_simp; rfl)); intro gb382 hg w12 hbox hb; have n0_ := Aside0.mk (zzl (by repeat (first | (with_reducible first | exact HB.out | apply zzf | apply zza | apply zzg) | exact HB.out)) hb); have n1_ := Aside0.mk (hbox); have n3_ := Aside0.mk ((by rw [hg]; exact (zzk (by repeat (first | (with_reducible first | exact HB.out | apply zzf | apply zza | apply zzg) | exact HB.out))) : w.heap.size ≤ gb382)); clear HB; have HB := n0_; have BK382 := n1_; have GE382 := n3_; clear n0_ n1_ n3_; clear hb hbox hg) | ((with_reducible refine zzt (N := 2) rfl ?_); refine zzp ?hg (N := 2) ?hd (cs := #[.int .i64 0, .bool false]) (t := 23) ?hr ?_; (case hd => rfl); (case hg => rfl); (case hr => first | (go_simp; done) | (go_simp; rfl)); intro gb383 hg w13 hbox hb; have n0_ := Aside0.mk (zzj (g := gb382) (o := .cells #[.int .i64 a0_0, .bool a0_1] 23 (0, 0)) (by (with_reducible repeat first | apply zzc | apply zzd | apply zzb); exact BK382.out) hb); have n1_ := Aside0.mk (zzl (by repeat (first | (with_reducible first | exact HB.out | apply zzf | apply zza | apply zzg | refine zze ?_ GE382.out) | exact HB.out)) hb); have n2_ := Aside0.mk (hbox); have n4_ := Aside0.mk ((by rw [hg]; exact (zzk (by repeat (first | (with_reducible first | exact HB.out | apply zzf | apply zza | apply zzg | refine zze ?_ GE382.out) | exact HB.out))) : w.heap.size ≤ gb383)); have n5_ := Aside0.mk ((by rw [hg]; exact Nat.ne_of_lt (zzr (g := gb382) (o := .cells #[.int .i64 a0_0, .bool a0_1] 23 (0, 0)) (by (with_reducible repeat first | apply zzc | apply zzd | apply zzb); exact BK382.out)) : gb382 ≠ gb383)); have n6_ := Aside0.mk ((by rw [hg]; exact Nat.ne_of_gt (zzr (g := gb382) (o := .cells #[.int .i64 a0_0, .bool a0_1] 23 (0, 0)) (by (with_reducible repeat first | apply zzc | apply zzd | apply zzb); exact BK382.out)) : gb383 ≠ gb382)); clear BK382; clear HB; have BK382 := n0_; have HB := n1_; have BK383 := n2_; have GE383 := n4_; have NB382_383 := n5_; have NB383_382 := n6_; clear n0_ n1_ n2_ n4_ n5_ n6_; clear hb hbox hg; have hnb14 := NB382_383.out; have hnc14 := NB383_382.out; have hcz15_0 : w13.cell? ⟨gb382, 0, none⟩ = some (.int .i64 a0_0) := (zzi BK382.out 0).trans rfl; have hcz15_1 : w13.cell? ⟨gb382, 1, none⟩ = some (.bool a0_1) := (zzi BK382.out 1).trans rfl; have hfz15_0 := zzh BK382.out 0; have hfz15_1 := zzh BK382.out 1) | ((with_reducible refine zzq (f := 72) rfl ?_); refine goesL_ (some 5) rfl rfl Try.func72 (by kernel_rfl) rfl #[.agg #[.int .i64 a0_0, .bool a0_1]] rfl (by (try simp only [List.map_toArray, List.map_cons, List.map_nil]); first | done | rfl | (simp only [List.length_drop, List.length_take]; rfl)) ?_; (with_reducible refine (fixed_sound.calls a0_0 a0_1 t384 t385 _ A2.out).mono ?_); rintro e w16 ⟨rfl, hb⟩; refine ⟨_, rfl, ?_⟩; have n0_ := Aside0.mk (zzj (g := gb382) (o := .cells #[.int .i64 a0_0, .bool a0_1] 23 (0, 0)) (by (with_reducible repeat first | apply zzc | apply zzd | apply zzb); exact BK382.out) hb); have n1_ := Aside0.mk (zzj (g := gb383) (o := .cells #[.int .i64 0, .bool false] 23 (0, 0)) (by (with_reducible repeat first | apply zzc | apply zzd | apply zzb); exact BK383.out) hb); have n2_ := Aside0.mk (zzl (by repeat (first | (with_reducible first | exact HB.out | apply zzf | apply zza | apply zzg | refine zze ?_ GE382.out | refine zze ?_ GE383.out) | exact HB.out)) hb); clear BK382; clear BK383; clear HB; have BK382 := n0_; have BK383 := n1_; have HB := n2_; clear n0_ n1_ n2_; have hcz17_0 : w16.cell? ⟨gb382, 0, none⟩ = some (.int .i64 a0_0) := (zzi BK382.out 0).trans rfl; have hcz17_1 : w16.cell? ⟨gb382, 1, none⟩ = some (.bool a0_1) := (zzi BK382.out 1).trans rfl; have hfz17_0 := zzh BK382.out 0; have hfz17_1 := zzh BK382.out 1; have hcz18_0 : w16.cell? ⟨gb383, 0, none⟩ = some (.int .i64 0) := (zzi BK383.out 0).trans rfl; have hcz18_1 : w16.cell? ⟨gb383, 1, none⟩ = some (.bool false) := (zzi BK383.out 1).trans rfl; have hfz18_0 := zzh BK383.out 0; have hfz18_1 := zzh BK383.out 1))
      refine bodyPost_ret (results_cell_row rfl _ _ gb383 23 #[.int .i64 (wrap64 ((Int.tmod t384 26986075409) + 26986075409)), .bool t385] (0, 0) _ rfl (by (with_reducible repeat first | apply zzc | apply zzd | apply zzb); refine zzo (cs := #[.int .i64 (wrap64 ((Int.tmod t384 26986075409) + 26986075409)), .bool false]) ?_ 1 _ rfl; (with_reducible repeat first | apply zzc | apply zzd | apply zzb); refine zzo (cs := #[.int .i64 0, .bool false]) ?_ 0 _ rfl; (with_reducible repeat first | apply zzc | apply zzd | apply zzb); refine zzs ?_ NB383_382.out _; (with_reducible repeat first | apply zzc | apply zzd | apply zzb); refine zzs ?_ NB383_382.out _; (with_reducible repeat first | apply zzc | apply zzd | apply zzb); exact BK383.out) Try.underlying23 rfl (by kernel_rfl)) rfl ?_
      exact ⟨by first | rfl | (simp [zzn, zzm] <;> rfl) | (simp [*, zzn, zzm] <;> rfl), by repeat (first | (with_reducible first | exact HB.out | apply zzf | apply zza | apply zzg | refine zze ?_ GE382.out | refine zze ?_ GE383.out) | exact HB.out)⟩
    · rw [if_neg c11] at H
      have c11b0 : decide ((Int.tmod t384 26986075409) < (-13493037704)) = false := decide_eq_false c11
      clear c11
      simp only [Option.some.injEq, Prod.mk.injEq] at H
      obtain ⟨rfl, rfl⟩ := H
      go_enter Try.func45, Try.ntmps45
      go_wp2_with (first | ((with_reducible refine zzt (N := 1) rfl ?_); refine zzp ?hg (N := 1) ?hd (cs := #[.int .i64 a0_0, .bool a0_1]) (t := 23) ?hr ?_; (case hd => rfl); (case hg => rfl); (case hr => first | (go_simp; done) | (go_simp; rfl)); intro gb382 hg w19 hbox hb; have n0_ := Aside0.mk (zzl (by repeat (first | (with_reducible first | exact HB.out | apply zzf | apply zza | apply zzg) | exact HB.out)) hb); have n1_ := Aside0.mk (hbox); have n3_ := Aside0.mk ((by rw [hg]; exact (zzk (by repeat (first | (with_reducible first | exact HB.out | apply zzf | apply zza | apply zzg) | exact HB.out))) : w.heap.size ≤ gb382)); clear HB; have HB := n0_; have BK382 := n1_; have GE382 := n3_; clear n0_ n1_ n3_; clear hb hbox hg) | ((with_reducible refine zzt (N := 2) rfl ?_); refine zzp ?hg (N := 2) ?hd (cs := #[.int .i64 0, .bool false]) (t := 23) ?hr ?_; (case hd => rfl); (case hg => rfl); (case hr => first | (go_simp; done) | (go_simp; rfl)); intro gb383 hg w20 hbox hb; have n0_ := Aside0.mk (zzj (g := gb382) (o := .cells #[.int .i64 a0_0, .bool a0_1] 23 (0, 0)) (by (with_reducible repeat first | apply zzc | apply zzd | apply zzb); exact BK382.out) hb); have n1_ := Aside0.mk (zzl (by repeat (first | (with_reducible first | exact HB.out | apply zzf | apply zza | apply zzg | refine zze ?_ GE382.out) | exact HB.out)) hb); have n2_ := Aside0.mk (hbox); have n4_ := Aside0.mk ((by rw [hg]; exact (zzk (by repeat (first | (with_reducible first | exact HB.out | apply zzf | apply zza | apply zzg | refine zze ?_ GE382.out) | exact HB.out))) : w.heap.size ≤ gb383)); have n5_ := Aside0.mk ((by rw [hg]; exact Nat.ne_of_lt (zzr (g := gb382) (o := .cells #[.int .i64 a0_0, .bool a0_1] 23 (0, 0)) (by (with_reducible repeat first | apply zzc | apply zzd | apply zzb); exact BK382.out)) : gb382 ≠ gb383)); have n6_ := Aside0.mk ((by rw [hg]; exact Nat.ne_of_gt (zzr (g := gb382) (o := .cells #[.int .i64 a0_0, .bool a0_1] 23 (0, 0)) (by (with_reducible repeat first | apply zzc | apply zzd | apply zzb); exact BK382.out)) : gb383 ≠ gb382)); clear BK382; clear HB; have BK382 := n0_; have HB := n1_; have BK383 := n2_; have GE383 := n4_; have NB382_383 := n5_; have NB383_382 := n6_; clear n0_ n1_ n2_ n4_ n5_ n6_; clear hb hbox hg; have hnb21 := NB382_383.out; have hnc21 := NB383_382.out; have hcz22_0 : w20.cell? ⟨gb382, 0, none⟩ = some (.int .i64 a0_0) := (zzi BK382.out 0).trans rfl; have hcz22_1 : w20.cell? ⟨gb382, 1, none⟩ = some (.bool a0_1) := (zzi BK382.out 1).trans rfl; have hfz22_0 := zzh BK382.out 0; have hfz22_1 := zzh BK382.out 1) | ((with_reducible refine zzq (f := 72) rfl ?_); refine goesL_ (some 5) rfl rfl Try.func72 (by kernel_rfl) rfl #[.agg #[.int .i64 a0_0, .bool a0_1]] rfl (by (try simp only [List.map_toArray, List.map_cons, List.map_nil]); first | done | rfl | (simp only [List.length_drop, List.length_take]; rfl)) ?_; (with_reducible refine (fixed_sound.calls a0_0 a0_1 t384 t385 _ A2.out).mono ?_); rintro e w23 ⟨rfl, hb⟩; refine ⟨_, rfl, ?_⟩; have n0_ := Aside0.mk (zzj (g := gb382) (o := .cells #[.int .i64 a0_0, .bool a0_1] 23 (0, 0)) (by (with_reducible repeat first | apply zzc | apply zzd | apply zzb); exact BK382.out) hb); have n1_ := Aside0.mk (zzj (g := gb383) (o := .cells #[.int .i64 0, .bool false] 23 (0, 0)) (by (with_reducible repeat first | apply zzc | apply zzd | apply zzb); exact BK383.out) hb); have n2_ := Aside0.mk (zzl (by repeat (first | (with_reducible first | exact HB.out | apply zzf | apply zza | apply zzg | refine zze ?_ GE382.out | refine zze ?_ GE383.out) | exact HB.out)) hb); clear BK382; clear BK383; clear HB; have BK382 := n0_; have BK383 := n1_; have HB := n2_; clear n0_ n1_ n2_; have hcz24_0 : w23.cell? ⟨gb382, 0, none⟩ = some (.int .i64 a0_0) := (zzi BK382.out 0).trans rfl; have hcz24_1 : w23.cell? ⟨gb382, 1, none⟩ = some (.bool a0_1) := (zzi BK382.out 1).trans rfl; have hfz24_0 := zzh BK382.out 0; have hfz24_1 := zzh BK382.out 1; have hcz25_0 : w23.cell? ⟨gb383, 0, none⟩ = some (.int .i64 0) := (zzi BK383.out 0).trans rfl; have hcz25_1 : w23.cell? ⟨gb383, 1, none⟩ = some (.bool false) := (zzi BK383.out 1).trans rfl; have hfz25_0 := zzh BK383.out 0; have hfz25_1 := zzh BK383.out 1))
      refine bodyPost_ret (results_cell_row rfl _ _ gb383 23 #[.int .i64 (Int.tmod t384 26986075409), .bool t385] (0, 0) _ rfl (by (with_reducible repeat first | apply zzc | apply zzd | apply zzb); refine zzo (cs := #[.int .i64 (Int.tmod t384 26986075409), .bool false]) ?_ 1 _ rfl; (with_reducible repeat first | apply zzc | apply zzd | apply zzb); refine zzo (cs := #[.int .i64 0, .bool false]) ?_ 0 _ rfl; (with_reducible repeat first | apply zzc | apply zzd | apply zzb); refine zzs ?_ NB383_382.out _; (with_reducible repeat first | apply zzc | apply zzd | apply zzb); refine zzs ?_ NB383_382.out _; (with_reducible repeat first | apply zzc | apply zzd | apply zzb); exact BK383.out) Try.underlying23 rfl (by kernel_rfl)) rfl ?_
      exact ⟨by first | rfl | (simp [zzn, zzm] <;> rfl) | (simp [*, zzn, zzm] <;> rfl), by repeat (first | (with_reducible first | exact HB.out | apply zzf | apply zza | apply zzg | refine zze ?_ GE382.out | refine zze ?_ GE383.out) | exact HB.out)⟩
end Go.Proofs.Ytenpiaafkmfjfaa.B

end
section
namespace Go.Proofs.Ytenpiaafkmfjfaa.B
open Go.RowKit Go.Proofs.YtenpiaafkmfjfaaW.PrintWords Go.Proofs.YtenpiaafkmfjfaaW.PrintLast
def minS (m v : Int) : Int := if v < m then v else m
def maxS (m v : Int) : Int := if v > m then v else m
def minL : List Int → Int
  | [] => 0
  | v :: l => l.foldl minS v
def maxL : List Int → Int
  | [] => 0
  | v :: l => l.foldl maxS v
theorem rd_i {vs : List Int} {i : Nat} (h : i < vs.length) : rd vs (i : Int) = vs[i] := by
  unfold rd
  rw [Int.toNat_natCast, List.getD_eq_getElem?_getD, List.getElem?_eq_getElem h]; rfl
theorem ext_loop (s : Int) (st : Int → Int → Int) (hst : ∀ m v : Int, (if wrap64 (sgn3 v m * s) < 0 then v else m) = st m v) (vs : List Int) (hl : vs.length ≤ 1000000) :
    ∀ (n i k : Nat) (m : Int), n + i = vs.length → n + 1 ≤ k → fixed_extreme_int64.l0 k s m vs vs.length i = some ((vs.drop i).foldl st m) := by
  intro n
  induction n with
  | zero =>
    intro i k m hm hk
    obtain ⟨k, rfl⟩ : ∃ z, k = z + 1 := ⟨k - 1, by omega⟩
    rw [fixed_extreme_int64.l0, if_neg (by omega), List.drop_of_length_le (by omega)]
    rfl
  | succ n ih =>
    intro i k m hm hk
    obtain ⟨k, rfl⟩ : ∃ z, k = z + 1 := ⟨k - 1, by omega⟩
    have hi : i < vs.length := by omega
    rw [fixed_extreme_int64.l0, if_pos (by omega), if_pos (by omega), if_pos (by omega), rd_i hi, compare_i, Option.bind_some, List.drop_eq_getElem_cons hi, List.foldl_cons, ← hst, wrap64_id (x := (i : Int) + 1) (by omega) (by omega), show (i : Int) + 1 = ((i + 1 : Nat) : Int) by omega]
    by_cases h : wrap64 (sgn3 vs[i] m * s) < 0
    · rw [if_pos h, if_pos h, ih (i + 1) k _ (by omega) (by omega)]
    · rw [if_neg h, if_neg h, ih (i + 1) k _ (by omega) (by omega)]
theorem sgn_cases (x y : Int) : (x < y ∧ sgn3 x y = -1) ∨ (x = y ∧ sgn3 x y = 0) ∨ (x > y ∧ sgn3 x y = 1) := by
  unfold sgn3
  by_cases h : x < y
  · rw [if_pos h]; exact Or.inl ⟨h, rfl⟩
  · rw [if_neg h]
    by_cases h2 : x = y
    · rw [if_pos h2]; exact Or.inr (Or.inl ⟨h2, rfl⟩)
    · rw [if_neg h2]; exact Or.inr (Or.inr ⟨by omega, rfl⟩)
theorem st_min (m v : Int) : (if wrap64 (sgn3 v m * 1) < 0 then v else m) = minS m v := by
  have := sgn_cases v m
  rw [wrap64_id (by omega) (by omega)]
  unfold minS
  by_cases h : v < m
  · rw [if_pos h, if_pos (by omega)]
  · rw [if_neg h, if_neg (by omega)]
theorem st_max (m v : Int) : (if wrap64 (sgn3 v m * (-1)) < 0 then v else m) = maxS m v := by
  have := sgn_cases v m
  rw [wrap64_id (by omega) (by omega)]
  unfold maxS
  by_cases h : v > m
  · rw [if_pos h, if_pos (by omega)]
  · rw [if_neg h, if_neg (by omega)]
theorem most_f (s : Int) (st : Int → Int → Int) (hst : ∀ m v : Int, (if wrap64 (sgn3 v m * s) < 0 then v else m) = st m v) (L : List Int → Int) (hL0 : L [] = 0) (hL : ∀ v l, L (v :: l) = l.foldl st v)
    (l : List S23) (hl : l.length ≤ 1000000) (k : Nat) (hk : l.length + 1 ≤ k) : fixed_most.f k s l = some (L (vals l), anyF l) := by
  unfold fixed_most.f fixed_values.f
  cases l with
  | nil => rw [if_pos (by simp)]; show some (0, false) = some (L [], false); rw [hL0]
  | cons x l =>
    have hlen : (vals (x :: l)).length = (x :: l).length := by unfold vals; simp
    rw [if_neg (by rw [List.length_cons]; omega), if_pos hl, Option.bind_some]
    dsimp only
    rw [if_pos (by rw [hlen, List.length_cons]; omega), if_pos (by rw [hlen, List.length_cons]; omega)]
    have e : vals (x :: l) = sv x.f0 :: vals l := rfl
    rw [e, hL]
    unfold fixed_extreme_int64.f
    have hl2 : (vals l).length = l.length := by unfold vals; simp
    have hl3 : (x :: l).length = l.length + 1 := rfl
    have := ext_loop s st hst (vals l) (by omega) (vals l).length 0 k (sv x.f0) (by omega) (by omega)
    rw [show ((0 : Nat) : Int) = 0 from rfl] at this
    rw [show rd (sv x.f0 :: vals l) 0 = sv x.f0 from rfl, show (sv x.f0 :: vals l).drop 1 = vals l from rfl, this, Option.bind_some]
    rfl
theorem min_f (l : List S23) (hl : l.length ≤ 1000000) (k : Nat) (hk : l.length + 1 ≤ k) : fixed_Min.f k l = some (minL (vals l), anyF l) := by
  unfold fixed_Min.f
  rw [most_f 1 minS st_min minL rfl (fun _ _ => rfl) l hl k hk, Option.bind_some]
theorem max_f (l : List S23) (hl : l.length ≤ 1000000) (k : Nat) (hk : l.length + 1 ≤ k) : fixed_Max.f k l = some (maxL (vals l), anyF l) := by
  unfold fixed_Max.f
  rw [most_f (-1) maxS st_max maxL rfl (fun _ _ => rfl) l hl k hk, Option.bind_some]
def clampV (x lo hi : Int) : Int := maxS lo (minS x hi)
theorem minS_or (m v : Int) : minS m v = m ∨ minS m v = v := by unfold minS; split; exact Or.inr rfl; exact Or.inl rfl
theorem clamp_f (k : Nat) (hk : 3 ≤ k) {a b c : Int} (fa fb fc : Bool) (ha : I64 a) (hc : I64 c) : fixed_Clamp.f k a fa b fb c fc = some (clampV (sv a) (sv b) (sv c), (sf b fb || (sf a fa || sf c fc))) := by
  have hs : Snd (minS (sv a) (sv c)) := by rcases minS_or (sv a) (sv c) with e | e <;> rw [e] <;> apply sv_i64 <;> assumption
  unfold fixed_Clamp.f
  rw [min_f _ (by simp) k (by simpa using hk), Option.bind_some]
  dsimp only
  rw [max_f _ (by simp) k (by simpa using hk), Option.bind_some]
  have e1 : vals [(⟨a, fa⟩ : S23), ⟨c, fc⟩] = [sv a, sv c] := rfl
  have e2 : anyF [(⟨a, fa⟩ : S23), ⟨c, fc⟩] = (sf a fa || sf c fc) := by simp [anyF]
  have e3 : minL [sv a, sv c] = minS (sv a) (sv c) := rfl
  rw [e1, e2, e3]
  have e4 : ∀ f, vals [(⟨b, fb⟩ : S23), ⟨minS (sv a) (sv c), f⟩] = [sv b, sv (minS (sv a) (sv c))] := fun _ => rfl
  have e5 : ∀ f, anyF [(⟨b, fb⟩ : S23), ⟨minS (sv a) (sv c), f⟩] = (sf b fb || f) := fun f => by simp [anyF, sf_id hs]
  rw [e4, e5, sv_id hs]
  rfl
end Go.Proofs.Ytenpiaafkmfjfaa.B

end
