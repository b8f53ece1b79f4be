/- FixedTurns: part 7 of the proof. -/
import Derived.Test.YtenpiaafkmfjfaaQFixedTurns6
import Derived.Laws.IdiomStrings
section
namespace Go.Proofs.Ytenpiaafkmfjfaa.B
open Go.RowKit Go.Proofs.YtenpiaafkmfjfaaW.PrintWords Go.Proofs.YtenpiaafkmfjfaaW.PrintLast
set_option linter.unusedVariables false
set_option linter.unusedSimpArgs false
mutual
def fixed_Sin.j0 : Nat → Int → Bool → Option (Int × Bool)
  | 0, _, _ => none
  | k + 1, x391000, x391001 => fixed_Sin.l0 k 0 x391000 x391001 x391000 x391001 x391000 x391001
def fixed_Sin.l0 : Nat → Int → Int → Bool → Int → Bool → Int → Bool → Option (Int × Bool)
  | 0, _, _, _, _, _, _, _ => none
  | k + 1, x28, x391000, x391001, x392000, x392001, x393000, x393001 => if x28 < 8 then ((fixed_Mul.f k x392000 x392001 x391000 x391001).bind fun bt399 => ((fixed_Mul.f k bt399.1 bt399.2 x391000 x391001).bind fun bt401 => ((fixed_Int.f k (wrap64 ((wrap64 (2 * (wrap64 (x28 + 1)))) * (wrap64 ((wrap64 (2 * (wrap64 (x28 + 1)))) + 1))))).bind fun bt403 => ((fixed_Div.f k bt401.1 bt401.2 bt403.1 bt403.2).bind fun bt405 => ((fixed_Neg.f bt405.1 bt405.2).bind fun bt407 => ((fixed_Add.f k x393000 x393001 bt407.1 bt407.2).bind fun bt409 => (fixed_Sin.l0 k (wrap64 (x28 + 1)) x391000 x391001 bt407.1 bt407.2 bt409.1 bt409.2))))))) else ((fixed_Int.f k (-1)).bind fun bt393 => ((fixed_Int.f k 1).bind fun bt395 => ((fixed_Clamp.f k x393000 x393001 bt393.1 bt393.2 bt395.1 bt395.2).bind fun bt397 => (some (bt397.1, bt397.2)))))
end
def fixed_Sin.f (k : Nat) (a0_0 : Int) (a0_1 : Bool) : Option (Int × Bool) := (fixed_Wrap.f a0_0 a0_1).bind fun bt388 => (if bt388.1 > 6746518852 then (fixed_Sin.j0 k (wrap64 (13493037704 - bt388.1)) bt388.2) else (if bt388.1 < (-6746518852) then (fixed_Sin.j0 k (wrap64 ((-13493037704) - bt388.1)) bt388.2) else (fixed_Sin.j0 k bt388.1 bt388.2)))
def fixed_Sin.T11 : Bool × List (List Nat × List Nat) := (true, [([], []), ([], []), ([0, 1], [0, 1]), ([], []), ([2, 3, 2], [2, 3]), ([], []), ([], []), ([6], [6]), ([5, 7], [5, 7]), ([8, 4], [8]), ([4, 9, 9], [4, 9]), ([10, 10], [10]), ([11, 11, 0, 1, 2, 3, 4, 5, 6, 7, 8, 9, 10, 11], [11])])
def fixed_Sin.B11 : List Nat := [0, 0, 3, 0, 15, 0, 0, 64, 224, 511, 1023, 2047, 4095]
theorem fixed_Sin.tab11 : rtab .any (opsOf Try.f46 11) = fixed_Sin.T11 := by kernel_rfl
theorem fixed_Sin.bits11 : waitsOk fixed_Sin.T11.2 fixed_Sin.B11 = true := by kernel_rfl
set_option maxHeartbeats 8000000 in
set_option maxRecDepth 100000 in
theorem fixed_Sin.calls (k : Nat) (a0_0 : Int) (a0_1 : Bool) (r1 : Int) (r2 : Bool) (w : World) (h : fixed_Sin.f k a0_0 a0_1 = some (r1, r2)) :
    Calls Try.prog 46 #[.agg #[.int .i64 a0_0, .bool a0_1]] w fun e w' => e = .returned (.agg #[.int .i64 r1, .bool r2]) ∧ Below w.heap.size w w' := by
  have hu23 := Try.underlying23
  have HB := Aside0.mk (Below.refl w.heap.size w)
  have H : ((fixed_Wrap.f a0_0 a0_1).bind fun bt388 => (if bt388.1 > 6746518852 then (fixed_Sin.j0 k (wrap64 (13493037704 - bt388.1)) bt388.2) else (if bt388.1 < (-6746518852) then (fixed_Sin.j0 k (wrap64 ((-13493037704) - bt388.1)) bt388.2) else (fixed_Sin.j0 k bt388.1 bt388.2)))) = some (r1, r2) := h
  clear h
  replace H := Option.bind_eq_some_iff.mp H
  obtain ⟨⟨t388, t389⟩, A20, H⟩ := H
  replace H : (if t388 > 6746518852 then (fixed_Sin.j0 k (wrap64 (13493037704 - t388)) t389) else (if t388 < (-6746518852) then (fixed_Sin.j0 k (wrap64 ((-13493037704) - t388)) t389) else (fixed_Sin.j0 k t388 t389))) = some (r1, r2) := H
  have A2 := Aside0.mk A20
  clear A20
  have HC3 := Aside0.mk H
  clear H
  go_enter Try.func46, Try.ntmps46
  go_upto_block 0 with (first | ((with_reducible refine zzt (N := 1) rfl ?_); refine zzp ?hg (N := 1) ?hd (cs := #[.int .i64 a0_0, .bool a0_1]) (t := 23) ?hr ?_; (case hd => rfl); (case hg => rfl); (case hr => first | (go_simp; done) | (go_simp; rfl)); intro gb386 hg w4 hbox hb; have n0_ := Aside0.mk (zzl (by repeat (first | (with_reducible first | exact HB.out | apply zzf | apply zza | apply zzg) | exact HB.out)) hb); have n1_ := Aside0.mk (hbox); have n3_ := Aside0.mk ((by rw [hg]; exact (zzk (by repeat (first | (with_reducible first | exact HB.out | apply zzf | apply zza | apply zzg) | exact HB.out))) : w.heap.size ≤ gb386)); clear HB; have HB := n0_; have BK386 := n1_; have GE386 := n3_; clear n0_ n1_ n3_; clear hb hbox hg) | ((with_reducible refine zzt (N := 2) rfl ?_); refine zzp ?hg (N := 2) ?hd (cs := #[.int .i64 0, .bool false]) (t := 23) ?hr ?_; (case hd => rfl); (case hg => rfl); (case hr => first | (go_simp; done) | (go_simp; rfl)); intro gb387 hg w5 hbox hb; have n0_ := Aside0.mk (zzj (g := gb386) (o := .cells #[.int .i64 a0_0, .bool a0_1] 23 (0, 0)) (by (with_reducible repeat first | apply zzc | apply zzd | apply zzb); exact BK386.out) hb); have n1_ := Aside0.mk (zzl (by repeat (first | (with_reducible first | exact HB.out | apply zzf | apply zza | apply zzg | refine zze ?_ GE386.out) | exact HB.out)) hb); have n2_ := Aside0.mk (hbox); have n4_ := Aside0.mk ((by rw [hg]; exact (zzk (by repeat (first | (with_reducible first | exact HB.out | apply zzf | apply zza | apply zzg | refine zze ?_ GE386.out) | exact HB.out))) : w.heap.size ≤ gb387)); have n5_ := Aside0.mk ((by rw [hg]; exact Nat.ne_of_lt (zzr (g := gb386) (o := .cells #[.int .i64 a0_0, .bool a0_1] 23 (0, 0)) (by (with_reducible repeat first | apply zzc | apply zzd | apply zzb); exact BK386.out)) : gb386 ≠ gb387)); have n6_ := Aside0.mk ((by rw [hg]; exact Nat.ne_of_gt (zzr (g := gb386) (o := .cells #[.int .i64 a0_0, .bool a0_1] 23 (0, 0)) (by (with_reducible repeat first | apply zzc | apply zzd | apply zzb); exact BK386.out)) : gb387 ≠ gb386)); clear BK386; clear HB; have BK386 := n0_; have HB := n1_; have BK387 := n2_; have GE387 := n4_; have NB386_387 := n5_; have NB387_386 := n6_; clear n0_ n1_ n2_ n4_ n5_ n6_; clear hb hbox hg; have hnb6 := NB386_387.out; have hnc6 := NB387_386.out; have hcz7_0 : w5.cell? ⟨gb386, 0, none⟩ = some (.int .i64 a0_0) := (zzi BK386.out 0).trans rfl; have hcz7_1 : w5.cell? ⟨gb386, 1, none⟩ = some (.bool a0_1) := (zzi BK386.out 1).trans rfl; have hfz7_0 := zzh BK386.out 0; have hfz7_1 := zzh BK386.out 1) | ((with_reducible refine zzq (f := 45) rfl ?_); refine goesL_ (some 9) rfl rfl Try.func45 (by kernel_rfl) rfl #[.agg #[.int .i64 a0_0, .bool a0_1]] rfl (by (try simp only [List.map_toArray, List.map_cons, List.map_nil]); first | done | rfl | (simp only [List.length_drop, List.length_take]; rfl)) ?_; (with_reducible refine (fixed_Wrap.calls a0_0 a0_1 t388 t389 _ A2.out).mono ?_); rintro e w8 ⟨rfl, hb⟩; refine ⟨_, rfl, ?_⟩; have n0_ := Aside0.mk (zzj (g := gb386) (o := .cells #[.int .i64 a0_0, .bool a0_1] 23 (0, 0)) (by (with_reducible repeat first | apply zzc | apply zzd | apply zzb); exact BK386.out) hb); have n1_ := Aside0.mk (zzj (g := gb387) (o := .cells #[.int .i64 0, .bool false] 23 (0, 0)) (by (with_reducible repeat first | apply zzc | apply zzd | apply zzb); exact BK387.out) hb); have n2_ := Aside0.mk (zzl (by repeat (first | (with_reducible first | exact HB.out | apply zzf | apply zza | apply zzg | refine zze ?_ GE386.out | refine zze ?_ GE387.out) | exact HB.out)) hb); clear BK386; clear BK387; clear HB; have BK386 := n0_; have BK387 := n1_; have HB := n2_; clear n0_ n1_ n2_; (try clear hi)) | ((with_reducible refine zzt (N := 3) rfl ?_); refine zzp ?hg (N := 3) ?hd (cs := #[.int .i64 0, .bool false]) (t := 23) ?hr ?_; (case hd => rfl); (case hg => rfl); (case hr => first | (go_simp; done) | (go_simp; rfl)); intro gb390 hg w9 hbox hb; have n0_ := Aside0.mk (zzj (g := gb386) (o := .cells #[.int .i64 a0_0, .bool a0_1] 23 (0, 0)) (by (with_reducible repeat first | apply zzc | apply zzd | apply zzb); exact BK386.out) hb); have n1_ := Aside0.mk (zzj (g := gb387) (o := .cells #[.int .i64 0, .bool false] 23 (0, 0)) (by (with_reducible repeat first | apply zzc | apply zzd | apply zzb); exact BK387.out) hb); have n2_ := Aside0.mk (zzl (by repeat (first | (with_reducible first | exact HB.out | apply zzf | apply zza | apply zzg | refine zze ?_ GE386.out | refine zze ?_ GE387.out) | exact HB.out)) hb); have n3_ := Aside0.mk (hbox); have n5_ := Aside0.mk ((by rw [hg]; exact (zzk (by repeat (first | (with_reducible first | exact HB.out | apply zzf | apply zza | apply zzg | refine zze ?_ GE386.out | refine zze ?_ GE387.out) | exact HB.out))) : w.heap.size ≤ gb390)); have n6_ := Aside0.mk ((by rw [hg]; exact Nat.ne_of_lt (zzr (g := gb386) (o := .cells #[.int .i64 a0_0, .bool a0_1] 23 (0, 0)) (by (with_reducible repeat first | apply zzc | apply zzd | apply zzb); exact BK386.out)) : gb386 ≠ gb390)); have n7_ := Aside0.mk ((by rw [hg]; exact Nat.ne_of_gt (zzr (g := gb386) (o := .cells #[.int .i64 a0_0, .bool a0_1] 23 (0, 0)) (by (with_reducible repeat first | apply zzc | apply zzd | apply zzb); exact BK386.out)) : gb390 ≠ gb386)); have n8_ := Aside0.mk ((by rw [hg]; exact Nat.ne_of_lt (zzr (g := gb387) (o := .cells #[.int .i64 0, .bool false] 23 (0, 0)) (by (with_reducible repeat first | apply zzc | apply zzd | apply zzb); exact BK387.out)) : gb387 ≠ gb390)); have n9_ := Aside0.mk ((by rw [hg]; exact Nat.ne_of_gt (zzr (g := gb387) (o := .cells #[.int .i64 0, .bool false] 23 (0, 0)) (by (with_reducible repeat first | apply zzc | apply zzd | apply zzb); exact BK387.out)) : gb390 ≠ gb387)); clear BK386; clear BK387; clear HB; have BK386 := n0_; have BK387 := n1_; have HB := n2_; have BK390 := n3_; have GE390 := n5_; have NB386_390 := n6_; have NB390_386 := n7_; have NB387_390 := n8_; have NB390_387 := n9_; clear n0_ n1_ n2_ n3_ n5_ n6_ n7_ n8_ n9_; clear hb hbox hg; have hnb10 := NB390_386.out; have hnc10 := NB386_390.out; have hnb11 := NB390_387.out; have hnc11 := NB387_390.out; have hcz12_0 : w9.cell? ⟨gb390, 0, none⟩ = some (.int .i64 0) := (zzi BK390.out 0).trans rfl; have hcz12_1 : w9.cell? ⟨gb390, 1, none⟩ = some (.bool false) := (zzi BK390.out 1).trans rfl; have hfz12_0 := zzh BK390.out 0; have hfz12_1 := zzh BK390.out 1))
  (try simp only [Act.put, List.setIfInBounds_toArray, List.set_cons_zero, List.set_cons_succ])
  go_cut [] (fun wc => ∃ (kq : Nat) (x391000_2 : Int), Aside0 (fixed_Sin.j0 kq x391000_2 t389 = some (r1, r2)) ∧ Aside0 (kq ≤ k) ∧ Aside0 (wc.heap[gb386]? = some (.cells #[.int .i64 a0_0, .bool a0_1] 23 (0, 0))) ∧ Aside0 (wc.heap[gb387]? = some (.cells #[.int .i64 0, .bool false] 23 (0, 0))) ∧ Aside0 (wc.heap[gb390]? = some (.cells #[.int .i64 x391000_2, .bool t389] 23 (0, 0))) ∧ Aside0 (Below w.heap.size w wc))
  case first =>
    have H := HC3.out
    clear HC3
    by_cases c13 : t388 > 6746518852
    · rw [if_pos c13] at H
      have c13b0 : decide (6746518852 < t388) = true := decide_eq_true c13
      clear c13
      (first | rw [c13b0] | (simp only [i64_w, i32_w]; rw [c13b0]) | skip)
      have H' := Aside0.mk H
      clear H
      have hnb14 := NB390_386.out
      have hnc14 := NB386_390.out
      have hnb15 := NB390_387.out
      have hnc15 := NB387_390.out
      have hcz16_0 : w9.cell? ⟨gb390, 0, none⟩ = some (.int .i64 0) := (zzi BK390.out 0).trans rfl
      have hcz16_1 : w9.cell? ⟨gb390, 1, none⟩ = some (.bool false) := (zzi BK390.out 1).trans rfl
      have hfz16_0 := zzh BK390.out 0
      have hfz16_1 := zzh BK390.out 1
      go_wp2
      go_meet
      case rel => exact ⟨_, (wrap64 (13493037704 - t388)), H', ⟨by first | omega | exact Nat.le_refl _⟩, ⟨by (with_reducible repeat first | apply zzc | apply zzd | apply zzb); refine zzs ?_ NB386_390.out _; (with_reducible repeat first | apply zzc | apply zzd | apply zzb); refine zzs ?_ NB386_390.out _; (with_reducible repeat first | apply zzc | apply zzd | apply zzb); refine zzs ?_ NB386_390.out _; (with_reducible repeat first | apply zzc | apply zzd | apply zzb); exact BK386.out⟩, ⟨by (with_reducible repeat first | apply zzc | apply zzd | apply zzb); refine zzs ?_ NB387_390.out _; (with_reducible repeat first | apply zzc | apply zzd | apply zzb); refine zzs ?_ NB387_390.out _; (with_reducible repeat first | apply zzc | apply zzd | apply zzb); refine zzs ?_ NB387_390.out _; (with_reducible repeat first | apply zzc | apply zzd | apply zzb); exact BK387.out⟩, ⟨by (with_reducible repeat first | apply zzc | apply zzd | apply zzb); refine zzo (cs := #[.int .i64 t388, .bool t389]) ?_ 0 _ rfl; (with_reducible repeat first | apply zzc | apply zzd | apply zzb); refine zzo (cs := #[.int .i64 t388, .bool false]) ?_ 1 _ rfl; (with_reducible repeat first | apply zzc | apply zzd | apply zzb); refine zzo (cs := #[.int .i64 0, .bool false]) ?_ 0 _ rfl; (with_reducible repeat first | apply zzc | apply zzd | apply zzb); exact BK390.out⟩, ⟨by repeat (first | (with_reducible first | exact HB.out | apply zzf | apply zza | apply zzg | refine zze ?_ GE386.out | refine zze ?_ GE387.out | refine zze ?_ GE390.out) | exact HB.out)⟩⟩
    · rw [if_neg c13] at H
      have c13b0 : decide (6746518852 < t388) = false := decide_eq_false c13
      clear c13
      (first | rw [c13b0] | (simp only [i64_w, i32_w]; rw [c13b0]) | skip)
      by_cases c17 : t388 < (-6746518852)
      · rw [if_pos c17] at H
        have c17b0 : decide (t388 < (-6746518852)) = true := decide_eq_true c17
        clear c17
        have H' := Aside0.mk H
        clear H
        have hnb18 := NB390_386.out
        have hnc18 := NB386_390.out
        have hnb19 := NB390_387.out
        have hnc19 := NB387_390.out
        have hcz20_0 : w9.cell? ⟨gb390, 0, none⟩ = some (.int .i64 0) := (zzi BK390.out 0).trans rfl
        have hcz20_1 : w9.cell? ⟨gb390, 1, none⟩ = some (.bool false) := (zzi BK390.out 1).trans rfl
        have hfz20_0 := zzh BK390.out 0
        have hfz20_1 := zzh BK390.out 1
        go_wp2
        go_meet
        case rel => exact ⟨_, (wrap64 ((-13493037704) - t388)), H', ⟨by first | omega | exact Nat.le_refl _⟩, ⟨by (with_reducible repeat first | apply zzc | apply zzd | apply zzb); refine zzs ?_ NB386_390.out _; (with_reducible repeat first | apply zzc | apply zzd | apply zzb); refine zzs ?_ NB386_390.out _; (with_reducible repeat first | apply zzc | apply zzd | apply zzb); refine zzs ?_ NB386_390.out _; (with_reducible repeat first | apply zzc | apply zzd | apply zzb); exact BK386.out⟩, ⟨by (with_reducible repeat first | apply zzc | apply zzd | apply zzb); refine zzs ?_ NB387_390.out _; (with_reducible repeat first | apply zzc | apply zzd | apply zzb); refine zzs ?_ NB387_390.out _; (with_reducible repeat first | apply zzc | apply zzd | apply zzb); refine zzs ?_ NB387_390.out _; (with_reducible repeat first | apply zzc | apply zzd | apply zzb); exact BK387.out⟩, ⟨by (with_reducible repeat first | apply zzc | apply zzd | apply zzb); refine zzo (cs := #[.int .i64 t388, .bool t389]) ?_ 0 _ rfl; (with_reducible repeat first | apply zzc | apply zzd | apply zzb); refine zzo (cs := #[.int .i64 t388, .bool false]) ?_ 1 _ rfl; (with_reducible repeat first | apply zzc | apply zzd | apply zzb); refine zzo (cs := #[.int .i64 0, .bool false]) ?_ 0 _ rfl; (with_reducible repeat first | apply zzc | apply zzd | apply zzb); exact BK390.out⟩, ⟨by repeat (first | (with_reducible first | exact HB.out | apply zzf | apply zza | apply zzg | refine zze ?_ GE386.out | refine zze ?_ GE387.out | refine zze ?_ GE390.out) | exact HB.out)⟩⟩
      · rw [if_neg c17] at H
        have c17b0 : decide (t388 < (-6746518852)) = false := decide_eq_false c17
        clear c17
        have H' := Aside0.mk H
        clear H
        have hnb21 := NB390_386.out
        have hnc21 := NB386_390.out
        have hnb22 := NB390_387.out
        have hnc22 := NB387_390.out
        have hcz23_0 : w9.cell? ⟨gb390, 0, none⟩ = some (.int .i64 0) := (zzi BK390.out 0).trans rfl
        have hcz23_1 : w9.cell? ⟨gb390, 1, none⟩ = some (.bool false) := (zzi BK390.out 1).trans rfl
        have hfz23_0 := zzh BK390.out 0
        have hfz23_1 := zzh BK390.out 1
        go_wp2
        go_meet
        case rel => exact ⟨_, (t388), H', ⟨by first | omega | exact Nat.le_refl _⟩, ⟨by (with_reducible repeat first | apply zzc | apply zzd | apply zzb); refine zzs ?_ NB386_390.out _; (with_reducible repeat first | apply zzc | apply zzd | apply zzb); refine zzs ?_ NB386_390.out _; (with_reducible repeat first | apply zzc | apply zzd | apply zzb); exact BK386.out⟩, ⟨by (with_reducible repeat first | apply zzc | apply zzd | apply zzb); refine zzs ?_ NB387_390.out _; (with_reducible repeat first | apply zzc | apply zzd | apply zzb); refine zzs ?_ NB387_390.out _; (with_reducible repeat first | apply zzc | apply zzd | apply zzb); exact BK387.out⟩, ⟨by (with_reducible repeat first | apply zzc | apply zzd | apply zzb); refine zzo (cs := #[.int .i64 t388, .bool false]) ?_ 1 _ rfl; (with_reducible repeat first | apply zzc | apply zzd | apply zzb); refine zzo (cs := #[.int .i64 0, .bool false]) ?_ 0 _ rfl; (with_reducible repeat first | apply zzc | apply zzd | apply zzb); exact BK390.out⟩, ⟨by repeat (first | (with_reducible first | exact HB.out | apply zzf | apply zza | apply zzg | refine zze ?_ GE386.out | refine zze ?_ GE387.out | refine zze ?_ GE390.out) | exact HB.out)⟩⟩
  case rest =>
    clear HC3
    obtain ⟨kq, x391000_2, HA, HJ2, BK386, BK387, BK390, HB⟩ := hcut
    cases kq with
    | zero => exact absurd HA.out (by simp [fixed_Sin.j0])
    | succ kj2 =>
      have H := HA.out
      clear HA
      simp only [fixed_Sin.j0] at H
      have H' := Aside0.mk H
      clear H
      try go_wp2
      have n0_ := Aside0.mk (zzd BK386.out)
      have n1_ := Aside0.mk (zzd BK387.out)
      have n2_ := Aside0.mk (zzd BK390.out)
      have n3_ := Aside0.mk (zzg HB.out)
      clear BK386
      clear BK387
      clear BK390
      clear HB
      have BK386 := n0_
      have BK387 := n1_
      have BK390 := n2_
      have HB := n3_
      clear n0_ n1_ n2_ n3_
      refine start_ (n := 6) (S := fun w' => w'.cell? ⟨gb390, 0, none⟩ = some (.int .i64 x391000_2) ∧ w'.cell? ⟨gb390, 1, none⟩ = some (.bool t389)) (ds := []) #[false, false, false, false, false, false] (by kernel_rfl) rfl rfl ⟨(zzi BK390.out 0).trans rfl, (zzi BK390.out 1).trans rfl⟩ (fun hHeld => ?_)
      generalize wc.drew = w24 at BK386 BK387 BK390 HB hHeld ⊢
      refine take_ (i := 0) (N := some 26) (v := ?_) (a' := ?_) #[true, false, false, false, false, false] rfl rfl (by kernel_rfl) (fun _ _ _ h => h) (Or.inl ⟨by rfl, ?_⟩) hHeld ?_ ?_
      rotate_left
      · rintro w' ⟨s0, s1⟩
        go_simp
        with_reducible rfl
      rotate_left
      · simp only [Act.put, List.setIfInBounds_toArray, List.set_cons_zero, List.set_cons_succ, i64_w, i32_w]
        rfl
      refine take_ (i := 1) (N := some 27) (v := ?_) (a' := ?_) #[true, true, false, false, false, false] rfl rfl (by kernel_rfl) (fun _ _ _ h => h) (Or.inl ⟨by rfl, ?_⟩) hHeld ?_ ?_
      rotate_left
      · rintro w' ⟨s0, s1⟩
        go_simp
        with_reducible rfl
      rotate_left
      · simp only [Act.put, List.setIfInBounds_toArray, List.set_cons_zero, List.set_cons_succ, i64_w, i32_w]
        rfl
      refine join_ (σ := Nat × Nat) 2 #[true, true, true, true, false, false] (fun s_ => [(4, .pointer (some ⟨s_.1, 0, none⟩)), (5, .pointer (some ⟨s_.2, 0, none⟩))]) (fun s_ w' => (w'.cell? ⟨gb390, 0, none⟩ = some (.int .i64 x391000_2) ∧ w'.cell? ⟨gb390, 1, none⟩ = some (.bool t389)) ∧ (w'.heap[gb386]? = some (.cells #[.int .i64 a0_0, .bool a0_1] 23 (0, 0))) ∧ (w'.heap[gb387]? = some (.cells #[.int .i64 0, .bool false] 23 (0, 0))) ∧ (w'.heap[gb390]? = some (.cells #[.int .i64 x391000_2, .bool t389] 23 (0, 0))) ∧ (w'.heap[s_.1]? = some (.cells #[.int .i64 0, .bool false] 23 (0, 0))) ∧ (w'.heap[s_.2]? = some (.cells #[.int .i64 0, .bool false] 23 (0, 0))) ∧ (w.heap.size ≤ s_.1) ∧ (w.heap.size ≤ s_.1) ∧ (gb386 ≠ s_.1) ∧ (s_.1 ≠ gb386) ∧ (gb387 ≠ s_.1) ∧ (s_.1 ≠ gb387) ∧ (gb390 ≠ s_.1) ∧ (s_.1 ≠ gb390) ∧ (s_.2 ≠ s_.1) ∧ (s_.1 ≠ s_.2) ∧ (w.heap.size ≤ s_.2) ∧ (w.heap.size ≤ s_.2) ∧ (gb386 ≠ s_.2) ∧ (s_.2 ≠ gb386) ∧ (gb387 ≠ s_.2) ∧ (s_.2 ≠ gb387) ∧ (gb390 ≠ s_.2) ∧ (s_.2 ≠ gb390) ∧ (Below w.heap.size w w')) ?_ ?_
      rotate_left
      · intro hCont
        refine two_ (i := 2) (j := 3) (Ni := some 4) (Nj := some 5) #[true, true, true, false, false, false] #[true, true, false, true, false, false] rfl rfl rfl rfl (by kernel_rfl) (by decide) (by decide) (fun K hK => ?_) (fun K hK => ?_)
        · skip
          refine box_step ?hg (N := 4) ?hd (cs := #[.int .i64 0, .bool false]) (t := 23) ?hr ?_; (case hd => rfl); (case hg => rfl); (case hr => first | (go_simp; done) | (go_simp; rfl))
          intro gb391 hg w25 hbox hb
          have n0_ := Aside0.mk (zzj (g := gb386) (o := .cells #[.int .i64 a0_0, .bool a0_1] 23 (0, 0)) (by (with_reducible repeat first | apply zzc | apply zzd | apply zzb); exact BK386.out) hb)
          have n1_ := Aside0.mk (zzj (g := gb387) (o := .cells #[.int .i64 0, .bool false] 23 (0, 0)) (by (with_reducible repeat first | apply zzc | apply zzd | apply zzb); exact BK387.out) hb)
          have n2_ := Aside0.mk (zzj (g := gb390) (o := .cells #[.int .i64 x391000_2, .bool t389] 23 (0, 0)) (by (with_reducible repeat first | apply zzc | apply zzd | apply zzb); exact BK390.out) hb)
          have n3_ := Aside0.mk (zzl (by repeat (first | (with_reducible first | exact HB.out | apply zzf | apply zza | apply zzg | refine zze ?_ GE386.out | refine zze ?_ GE387.out | refine zze ?_ GE390.out) | exact HB.out)) hb)
          have n4_ := Aside0.mk (hbox)
          have n5_ := Aside0.mk ((by rw [hg]; exact (zzk (by repeat (first | (with_reducible first | exact HB.out | apply zzf | apply zza | apply zzg | refine zze ?_ GE386.out | refine zze ?_ GE387.out | refine zze ?_ GE390.out) | exact HB.out))) : w.heap.size ≤ gb391))
          have n7_ := Aside0.mk ((by rw [hg]; exact Nat.ne_of_lt (zzr (g := gb386) (o := .cells #[.int .i64 a0_0, .bool a0_1] 23 (0, 0)) (by (with_reducible repeat first | apply zzc | apply zzd | apply zzb); exact BK386.out)) : gb386 ≠ gb391))
          have n8_ := Aside0.mk ((by rw [hg]; exact Nat.ne_of_gt (zzr (g := gb386) (o := .cells #[.int .i64 a0_0, .bool a0_1] 23 (0, 0)) (by (with_reducible repeat first | apply zzc | apply zzd | apply zzb); exact BK386.out)) : gb391 ≠ gb386))
          have n9_ := Aside0.mk ((by rw [hg]; exact Nat.ne_of_lt (zzr (g := gb387) (o := .cells #[.int .i64 0, .bool false] 23 (0, 0)) (by (with_reducible repeat first | apply zzc | apply zzd | apply zzb); exact BK387.out)) : gb387 ≠ gb391))
          have n10_ := Aside0.mk ((by rw [hg]; exact Nat.ne_of_gt (zzr (g := gb387) (o := .cells #[.int .i64 0, .bool false] 23 (0, 0)) (by (with_reducible repeat first | apply zzc | apply zzd | apply zzb); exact BK387.out)) : gb391 ≠ gb387))
          have n11_ := Aside0.mk ((by rw [hg]; exact Nat.ne_of_lt (zzr (g := gb390) (o := .cells #[.int .i64 x391000_2, .bool t389] 23 (0, 0)) (by (with_reducible repeat first | apply zzc | apply zzd | apply zzb); exact BK390.out)) : gb390 ≠ gb391))
          have n12_ := Aside0.mk ((by rw [hg]; exact Nat.ne_of_gt (zzr (g := gb390) (o := .cells #[.int .i64 x391000_2, .bool t389] 23 (0, 0)) (by (with_reducible repeat first | apply zzc | apply zzd | apply zzb); exact BK390.out)) : gb391 ≠ gb390))
          clear BK386
          clear BK387
          clear BK390
          clear HB
          have BK386 := n0_
          have BK387 := n1_
          have BK390 := n2_
          have HB := n3_
          have BK391 := n4_
          have GW391 := n5_
          have GE391 := n5_
          have NB386_391 := n7_
          have NB391_386 := n8_
          have NB387_391 := n9_
          have NB391_387 := n10_
          have NB390_391 := n11_
          have NB391_390 := n12_
          clear n0_ n1_ n2_ n3_ n4_ n5_ n7_ n8_ n9_ n10_ n11_ n12_
          clear hb hbox hg
          refine hK.out _ _ ⟨(zzi BK390.out 0).trans rfl, (zzi BK390.out 1).trans rfl⟩ (fun hHeld => ?_)
          clear hK K
          refine norm_ (a' := ?_) ?_ ?_
          rotate_left
          · show Act.put _ (some 4) _ = _
            simp only [Act.put, List.setIfInBounds_toArray, List.set_cons_zero, List.set_cons_succ, i64_w, i32_w]
            rfl
          refine one_ (i := 3) (N := some 5) #[true, true, true, true, false, false] rfl rfl (by kernel_rfl) (by decide) (fun K hK => ?_)
          refine box_step ?hg (N := 5) ?hd (cs := #[.int .i64 0, .bool false]) (t := 23) ?hr ?_; (case hd => rfl); (case hg => rfl); (case hr => first | (go_simp; done) | (go_simp; rfl))
          intro gb392 hg w26 hbox hb
          have n0_ := Aside0.mk (zzj (g := gb386) (o := .cells #[.int .i64 a0_0, .bool a0_1] 23 (0, 0)) (by (with_reducible repeat first | apply zzc | apply zzd | apply zzb); exact BK386.out) hb)
          have n1_ := Aside0.mk (zzj (g := gb387) (o := .cells #[.int .i64 0, .bool false] 23 (0, 0)) (by (with_reducible repeat first | apply zzc | apply zzd | apply zzb); exact BK387.out) hb)
          have n2_ := Aside0.mk (zzj (g := gb390) (o := .cells #[.int .i64 x391000_2, .bool t389] 23 (0, 0)) (by (with_reducible repeat first | apply zzc | apply zzd | apply zzb); exact BK390.out) hb)
          have n3_ := Aside0.mk (zzj (g := gb391) (o := .cells #[.int .i64 0, .bool false] 23 (0, 0)) (by (with_reducible repeat first | apply zzc | apply zzd | apply zzb); exact BK391.out) hb)
          have n4_ := Aside0.mk (zzl (by repeat (first | (with_reducible first | exact HB.out | apply zzf | apply zza | apply zzg | refine zze ?_ GE386.out | refine zze ?_ GE387.out | refine zze ?_ GE390.out | refine zze ?_ GE391.out) | exact HB.out)) hb)
          have n5_ := Aside0.mk (hbox)
          have n6_ := Aside0.mk ((by rw [hg]; exact (zzk (by repeat (first | (with_reducible first | exact HB.out | apply zzf | apply zza | apply zzg | refine zze ?_ GE386.out | refine zze ?_ GE387.out | refine zze ?_ GE390.out | refine zze ?_ GE391.out) | exact HB.out))) : w.heap.size ≤ gb392))
          have n8_ := Aside0.mk ((by rw [hg]; exact Nat.ne_of_lt (zzr (g := gb386) (o := .cells #[.int .i64 a0_0, .bool a0_1] 23 (0, 0)) (by (with_reducible repeat first | apply zzc | apply zzd | apply zzb); exact BK386.out)) : gb386 ≠ gb392))
          have n9_ := Aside0.mk ((by rw [hg]; exact Nat.ne_of_gt (zzr (g := gb386) (o := .cells #[.int .i64 a0_0, .bool a0_1] 23 (0, 0)) (by (with_reducible repeat first | apply zzc | apply zzd | apply zzb); exact BK386.out)) : gb392 ≠ gb386))
          have n10_ := Aside0.mk ((by rw [hg]; exact Nat.ne_of_lt (zzr (g := gb387) (o := .cells #[.int .i64 0, .bool false] 23 (0, 0)) (by (with_reducible repeat first | apply zzc | apply zzd | apply zzb); exact BK387.out)) : gb387 ≠ gb392))
          have n11_ := Aside0.mk ((by rw [hg]; exact Nat.ne_of_gt (zzr (g := gb387) (o := .cells #[.int .i64 0, .bool false] 23 (0, 0)) (by (with_reducible repeat first | apply zzc | apply zzd | apply zzb); exact BK387.out)) : gb392 ≠ gb387))
          have n12_ := Aside0.mk ((by rw [hg]; exact Nat.ne_of_lt (zzr (g := gb390) (o := .cells #[.int .i64 x391000_2, .bool t389] 23 (0, 0)) (by (with_reducible repeat first | apply zzc | apply zzd | apply zzb); exact BK390.out)) : gb390 ≠ gb392))
          have n13_ := Aside0.mk ((by rw [hg]; exact Nat.ne_of_gt (zzr (g := gb390) (o := .cells #[.int .i64 x391000_2, .bool t389] 23 (0, 0)) (by (with_reducible repeat first | apply zzc | apply zzd | apply zzb); exact BK390.out)) : gb392 ≠ gb390))
          have n14_ := Aside0.mk ((by rw [hg]; exact Nat.ne_of_lt (zzr (g := gb391) (o := .cells #[.int .i64 0, .bool false] 23 (0, 0)) (by (with_reducible repeat first | apply zzc | apply zzd | apply zzb); exact BK391.out)) : gb391 ≠ gb392))
          have n15_ := Aside0.mk ((by rw [hg]; exact Nat.ne_of_gt (zzr (g := gb391) (o := .cells #[.int .i64 0, .bool false] 23 (0, 0)) (by (with_reducible repeat first | apply zzc | apply zzd | apply zzb); exact BK391.out)) : gb392 ≠ gb391))
          clear BK386
          clear BK387
          clear BK390
          clear BK391
          clear HB
          have BK386 := n0_
          have BK387 := n1_
          have BK390 := n2_
          have BK391 := n3_
          have HB := n4_
          have BK392 := n5_
          have GW392 := n6_
          have GE392 := n6_
          have NB386_392 := n8_
          have NB392_386 := n9_
          have NB387_392 := n10_
          have NB392_387 := n11_
          have NB390_392 := n12_
          have NB392_390 := n13_
          have NB391_392 := n14_
          have NB392_391 := n15_
          clear n0_ n1_ n2_ n3_ n4_ n5_ n6_ n8_ n9_ n10_ n11_ n12_ n13_ n14_ n15_
          clear hb hbox hg
          refine hK.out _ _ ⟨(zzi BK390.out 0).trans rfl, (zzi BK390.out 1).trans rfl⟩ (fun hHeld => ?_)
          clear hK K
          refine norm_ (a' := ?_) ?_ ?_
          rotate_left
          · show Act.put _ (some 5) _ = _
            simp only [Act.put, List.setIfInBounds_toArray, List.set_cons_zero, List.set_cons_succ, i64_w, i32_w]
            rfl
          exact norm_ (by simp only [putAll, Act.put, List.setIfInBounds_toArray, List.set_cons_zero, List.set_cons_succ]) (hCont (gb391, gb392) _ ⟨hHeld, (by (with_reducible repeat first | apply zzc | apply zzd | apply zzb); exact BK386.out), (by (with_reducible repeat first | apply zzc | apply zzd | apply zzb); exact BK387.out), (by (with_reducible repeat first | apply zzc | apply zzd | apply zzb); exact BK390.out), (by (with_reducible repeat first | apply zzc | apply zzd | apply zzb); exact BK391.out), (by (with_reducible repeat first | apply zzc | apply zzd | apply zzb); exact BK392.out), GW391.out, GE391.out, NB386_391.out, NB391_386.out, NB387_391.out, NB391_387.out, NB390_391.out, NB391_390.out, NB392_391.out, NB391_392.out, GW392.out, GE392.out, NB386_392.out, NB392_386.out, NB387_392.out, NB392_387.out, NB390_392.out, NB392_390.out, (by repeat (first | (with_reducible first | exact HB.out | apply zzf | apply zza | apply zzg | refine zze ?_ GE386.out | refine zze ?_ GE387.out | refine zze ?_ GE390.out | refine zze ?_ GE391.out | refine zze ?_ GE392.out) | exact HB.out))⟩)
        · skip
          refine box_step ?hg (N := 5) ?hd (cs := #[.int .i64 0, .bool false]) (t := 23) ?hr ?_; (case hd => rfl); (case hg => rfl); (case hr => first | (go_simp; done) | (go_simp; rfl))
          intro gb392 hg w25 hbox hb
          have n0_ := Aside0.mk (zzj (g := gb386) (o := .cells #[.int .i64 a0_0, .bool a0_1] 23 (0, 0)) (by (with_reducible repeat first | apply zzc | apply zzd | apply zzb); exact BK386.out) hb)
          have n1_ := Aside0.mk (zzj (g := gb387) (o := .cells #[.int .i64 0, .bool false] 23 (0, 0)) (by (with_reducible repeat first | apply zzc | apply zzd | apply zzb); exact BK387.out) hb)
          have n2_ := Aside0.mk (zzj (g := gb390) (o := .cells #[.int .i64 x391000_2, .bool t389] 23 (0, 0)) (by (with_reducible repeat first | apply zzc | apply zzd | apply zzb); exact BK390.out) hb)
          have n3_ := Aside0.mk (zzl (by repeat (first | (with_reducible first | exact HB.out | apply zzf | apply zza | apply zzg | refine zze ?_ GE386.out | refine zze ?_ GE387.out | refine zze ?_ GE390.out) | exact HB.out)) hb)
          have n4_ := Aside0.mk (hbox)
          have n5_ := Aside0.mk ((by rw [hg]; exact (zzk (by repeat (first | (with_reducible first | exact HB.out | apply zzf | apply zza | apply zzg | refine zze ?_ GE386.out | refine zze ?_ GE387.out | refine zze ?_ GE390.out) | exact HB.out))) : w.heap.size ≤ gb392))
          have n7_ := Aside0.mk ((by rw [hg]; exact Nat.ne_of_lt (zzr (g := gb386) (o := .cells #[.int .i64 a0_0, .bool a0_1] 23 (0, 0)) (by (with_reducible repeat first | apply zzc | apply zzd | apply zzb); exact BK386.out)) : gb386 ≠ gb392))
          have n8_ := Aside0.mk ((by rw [hg]; exact Nat.ne_of_gt (zzr (g := gb386) (o := .cells #[.int .i64 a0_0, .bool a0_1] 23 (0, 0)) (by (with_reducible repeat first | apply zzc | apply zzd | apply zzb); exact BK386.out)) : gb392 ≠ gb386))
          have n9_ := Aside0.mk ((by rw [hg]; exact Nat.ne_of_lt (zzr (g := gb387) (o := .cells #[.int .i64 0, .bool false] 23 (0, 0)) (by (with_reducible repeat first | apply zzc | apply zzd | apply zzb); exact BK387.out)) : gb387 ≠ gb392))
          have n10_ := Aside0.mk ((by rw [hg]; exact Nat.ne_of_gt (zzr (g := gb387) (o := .cells #[.int .i64 0, .bool false] 23 (0, 0)) (by (with_reducible repeat first | apply zzc | apply zzd | apply zzb); exact BK387.out)) : gb392 ≠ gb387))
          have n11_ := Aside0.mk ((by rw [hg]; exact Nat.ne_of_lt (zzr (g := gb390) (o := .cells #[.int .i64 x391000_2, .bool t389] 23 (0, 0)) (by (with_reducible repeat first | apply zzc | apply zzd | apply zzb); exact BK390.out)) : gb390 ≠ gb392))
          have n12_ := Aside0.mk ((by rw [hg]; exact Nat.ne_of_gt (zzr (g := gb390) (o := .cells #[.int .i64 x391000_2, .bool t389] 23 (0, 0)) (by (with_reducible repeat first | apply zzc | apply zzd | apply zzb); exact BK390.out)) : gb392 ≠ gb390))
          clear BK386
          clear BK387
          clear BK390
          clear HB
          have BK386 := n0_
          have BK387 := n1_
          have BK390 := n2_
          have HB := n3_
          have BK392 := n4_
          have GW392 := n5_
          have GE392 := n5_
          have NB386_392 := n7_
          have NB392_386 := n8_
          have NB387_392 := n9_
          have NB392_387 := n10_
          have NB390_392 := n11_
          have NB392_390 := n12_
          clear n0_ n1_ n2_ n3_ n4_ n5_ n7_ n8_ n9_ n10_ n11_ n12_
          clear hb hbox hg
          refine hK.out _ _ ⟨(zzi BK390.out 0).trans rfl, (zzi BK390.out 1).trans rfl⟩ (fun hHeld => ?_)
          clear hK K
          refine norm_ (a' := ?_) ?_ ?_
          rotate_left
          · show Act.put _ (some 5) _ = _
            simp only [Act.put, List.setIfInBounds_toArray, List.set_cons_zero, List.set_cons_succ, i64_w, i32_w]
            rfl
          refine one_ (i := 2) (N := some 4) #[true, true, true, true, false, false] rfl rfl (by kernel_rfl) (by decide) (fun K hK => ?_)
          refine box_step ?hg (N := 4) ?hd (cs := #[.int .i64 0, .bool false]) (t := 23) ?hr ?_; (case hd => rfl); (case hg => rfl); (case hr => first | (go_simp; done) | (go_simp; rfl))
          intro gb391 hg w26 hbox hb
          have n0_ := Aside0.mk (zzj (g := gb386) (o := .cells #[.int .i64 a0_0, .bool a0_1] 23 (0, 0)) (by (with_reducible repeat first | apply zzc | apply zzd | apply zzb); exact BK386.out) hb)
          have n1_ := Aside0.mk (zzj (g := gb387) (o := .cells #[.int .i64 0, .bool false] 23 (0, 0)) (by (with_reducible repeat first | apply zzc | apply zzd | apply zzb); exact BK387.out) hb)
          have n2_ := Aside0.mk (zzj (g := gb390) (o := .cells #[.int .i64 x391000_2, .bool t389] 23 (0, 0)) (by (with_reducible repeat first | apply zzc | apply zzd | apply zzb); exact BK390.out) hb)
          have n3_ := Aside0.mk (zzj (g := gb392) (o := .cells #[.int .i64 0, .bool false] 23 (0, 0)) (by (with_reducible repeat first | apply zzc | apply zzd | apply zzb); exact BK392.out) hb)
          have n4_ := Aside0.mk (zzl (by repeat (first | (with_reducible first | exact HB.out | apply zzf | apply zza | apply zzg | refine zze ?_ GE386.out | refine zze ?_ GE387.out | refine zze ?_ GE390.out | refine zze ?_ GE392.out) | exact HB.out)) hb)
          have n5_ := Aside0.mk (hbox)
          have n6_ := Aside0.mk ((by rw [hg]; exact (zzk (by repeat (first | (with_reducible first | exact HB.out | apply zzf | apply zza | apply zzg | refine zze ?_ GE386.out | refine zze ?_ GE387.out | refine zze ?_ GE390.out | refine zze ?_ GE392.out) | exact HB.out))) : w.heap.size ≤ gb391))
          have n8_ := Aside0.mk ((by rw [hg]; exact Nat.ne_of_lt (zzr (g := gb386) (o := .cells #[.int .i64 a0_0, .bool a0_1] 23 (0, 0)) (by (with_reducible repeat first | apply zzc | apply zzd | apply zzb); exact BK386.out)) : gb386 ≠ gb391))
          have n9_ := Aside0.mk ((by rw [hg]; exact Nat.ne_of_gt (zzr (g := gb386) (o := .cells #[.int .i64 a0_0, .bool a0_1] 23 (0, 0)) (by (with_reducible repeat first | apply zzc | apply zzd | apply zzb); exact BK386.out)) : gb391 ≠ gb386))
          have n10_ := Aside0.mk ((by rw [hg]; exact Nat.ne_of_lt (zzr (g := gb387) (o := .cells #[.int .i64 0, .bool false] 23 (0, 0)) (by (with_reducible repeat first | apply zzc | apply zzd | apply zzb); exact BK387.out)) : gb387 ≠ gb391))
          have n11_ := Aside0.mk ((by rw [hg]; exact Nat.ne_of_gt (zzr (g := gb387) (o := .cells #[.int .i64 0, .bool false] 23 (0, 0)) (by (with_reducible repeat first | apply zzc | apply zzd | apply zzb); exact BK387.out)) : gb391 ≠ gb387))
          have n12_ := Aside0.mk ((by rw [hg]; exact Nat.ne_of_lt (zzr (g := gb390) (o := .cells #[.int .i64 x391000_2, .bool t389] 23 (0, 0)) (by (with_reducible repeat first | apply zzc | apply zzd | apply zzb); exact BK390.out)) : gb390 ≠ gb391))
          have n13_ := Aside0.mk ((by rw [hg]; exact Nat.ne_of_gt (zzr (g := gb390) (o := .cells #[.int .i64 x391000_2, .bool t389] 23 (0, 0)) (by (with_reducible repeat first | apply zzc | apply zzd | apply zzb); exact BK390.out)) : gb391 ≠ gb390))
          have n14_ := Aside0.mk ((by rw [hg]; exact Nat.ne_of_lt (zzr (g := gb392) (o := .cells #[.int .i64 0, .bool false] 23 (0, 0)) (by (with_reducible repeat first | apply zzc | apply zzd | apply zzb); exact BK392.out)) : gb392 ≠ gb391))
          have n15_ := Aside0.mk ((by rw [hg]; exact Nat.ne_of_gt (zzr (g := gb392) (o := .cells #[.int .i64 0, .bool false] 23 (0, 0)) (by (with_reducible repeat first | apply zzc | apply zzd | apply zzb); exact BK392.out)) : gb391 ≠ gb392))
          clear BK386
          clear BK387
          clear BK390
          clear BK392
          clear HB
          have BK386 := n0_
          have BK387 := n1_
          have BK390 := n2_
          have BK392 := n3_
          have HB := n4_
          have BK391 := n5_
          have GW391 := n6_
          have GE391 := n6_
          have NB386_391 := n8_
          have NB391_386 := n9_
          have NB387_391 := n10_
          have NB391_387 := n11_
          have NB390_391 := n12_
          have NB391_390 := n13_
          have NB392_391 := n14_
          have NB391_392 := n15_
          clear n0_ n1_ n2_ n3_ n4_ n5_ n6_ n8_ n9_ n10_ n11_ n12_ n13_ n14_ n15_
          clear hb hbox hg
          refine hK.out _ _ ⟨(zzi BK390.out 0).trans rfl, (zzi BK390.out 1).trans rfl⟩ (fun hHeld => ?_)
          clear hK K
          refine norm_ (a' := ?_) ?_ ?_
          rotate_left
          · show Act.put _ (some 4) _ = _
            simp only [Act.put, List.setIfInBounds_toArray, List.set_cons_zero, List.set_cons_succ, i64_w, i32_w]
            rfl
          exact norm_ (by simp only [putAll, Act.put, List.setIfInBounds_toArray, List.set_cons_zero, List.set_cons_succ]) (hCont (gb391, gb392) _ ⟨hHeld, (by (with_reducible repeat first | apply zzc | apply zzd | apply zzb); exact BK386.out), (by (with_reducible repeat first | apply zzc | apply zzd | apply zzb); exact BK387.out), (by (with_reducible repeat first | apply zzc | apply zzd | apply zzb); exact BK390.out), (by (with_reducible repeat first | apply zzc | apply zzd | apply zzb); exact BK391.out), (by (with_reducible repeat first | apply zzc | apply zzd | apply zzb); exact BK392.out), GW391.out, GE391.out, NB386_391.out, NB391_386.out, NB387_391.out, NB391_387.out, NB390_391.out, NB391_390.out, NB392_391.out, NB391_392.out, GW392.out, GE392.out, NB386_392.out, NB392_386.out, NB387_392.out, NB392_387.out, NB390_392.out, NB392_390.out, (by repeat (first | (with_reducible first | exact HB.out | apply zzf | apply zza | apply zzg | refine zze ?_ GE386.out | refine zze ?_ GE387.out | refine zze ?_ GE390.out | refine zze ?_ GE392.out | refine zze ?_ GE391.out) | exact HB.out))⟩)
      rintro ⟨gb391, gb392⟩ w27 ⟨hS_, h0_, h1_, h2_, h3_, h4_, h5_, h6_, h7_, h8_, h9_, h10_, h11_, h12_, h13_, h14_, h15_, h16_, h17_, h18_, h19_, h20_, h21_, h22_, h23_⟩
      have n0_ : Aside0 (w27.heap[gb386]? = some (.cells #[.int .i64 a0_0, .bool a0_1] 23 (0, 0))) := ⟨h0_⟩
      have n1_ : Aside0 (w27.heap[gb387]? = some (.cells #[.int .i64 0, .bool false] 23 (0, 0))) := ⟨h1_⟩
      have n2_ : Aside0 (w27.heap[gb390]? = some (.cells #[.int .i64 x391000_2, .bool t389] 23 (0, 0))) := ⟨h2_⟩
      have n3_ : Aside0 (w27.heap[gb391]? = some (.cells #[.int .i64 0, .bool false] 23 (0, 0))) := ⟨h3_⟩
      have n4_ : Aside0 (w27.heap[gb392]? = some (.cells #[.int .i64 0, .bool false] 23 (0, 0))) := ⟨h4_⟩
      have n5_ : Aside0 (w.heap.size ≤ gb391) := ⟨h5_⟩
      have n6_ : Aside0 (w.heap.size ≤ gb391) := ⟨h6_⟩
      have n7_ : Aside0 (gb386 ≠ gb391) := ⟨h7_⟩
      have n8_ : Aside0 (gb391 ≠ gb386) := ⟨h8_⟩
      have n9_ : Aside0 (gb387 ≠ gb391) := ⟨h9_⟩
      have n10_ : Aside0 (gb391 ≠ gb387) := ⟨h10_⟩
      have n11_ : Aside0 (gb390 ≠ gb391) := ⟨h11_⟩
      have n12_ : Aside0 (gb391 ≠ gb390) := ⟨h12_⟩
      have n13_ : Aside0 (gb392 ≠ gb391) := ⟨h13_⟩
      have n14_ : Aside0 (gb391 ≠ gb392) := ⟨h14_⟩
      have n15_ : Aside0 (w.heap.size ≤ gb392) := ⟨h15_⟩
      have n16_ : Aside0 (w.heap.size ≤ gb392) := ⟨h16_⟩
      have n17_ : Aside0 (gb386 ≠ gb392) := ⟨h17_⟩
      have n18_ : Aside0 (gb392 ≠ gb386) := ⟨h18_⟩
      have n19_ : Aside0 (gb387 ≠ gb392) := ⟨h19_⟩
      have n20_ : Aside0 (gb392 ≠ gb387) := ⟨h20_⟩
      have n21_ : Aside0 (gb390 ≠ gb392) := ⟨h21_⟩
      have n22_ : Aside0 (gb392 ≠ gb390) := ⟨h22_⟩
      have n23_ : Aside0 (Below w.heap.size w w27) := ⟨h23_⟩
      clear BK386
      clear BK387
      clear BK390
      clear HB
      clear h0_ h1_ h2_ h3_ h4_ h5_ h6_ h7_ h8_ h9_ h10_ h11_ h12_ h13_ h14_ h15_ h16_ h17_ h18_ h19_ h20_ h21_ h22_ h23_
      have BK386 := n0_
      have BK387 := n1_
      have BK390 := n2_
      have BK391 := n3_
      have BK392 := n4_
      have GW391 := n5_
      have GE391 := n6_
      have NB386_391 := n7_
      have NB391_386 := n8_
      have NB387_391 := n9_
      have NB391_387 := n10_
      have NB390_391 := n11_
      have NB391_390 := n12_
      have NB392_391 := n13_
      have NB391_392 := n14_
      have GW392 := n15_
      have GE392 := n16_
      have NB386_392 := n17_
      have NB392_386 := n18_
      have NB387_392 := n19_
      have NB392_387 := n20_
      have NB390_392 := n21_
      have NB392_390 := n22_
      have HB := n23_
      clear n0_ n1_ n2_ n3_ n4_ n5_ n6_ n7_ n8_ n9_ n10_ n11_ n12_ n13_ n14_ n15_ n16_ n17_ n18_ n19_ n20_ n21_ n22_ n23_
      have hHeld : w27.cell? ⟨gb390, 0, none⟩ = some (.int .i64 x391000_2) ∧ w27.cell? ⟨gb390, 1, none⟩ = some (.bool t389) := hS_
      refine norm_ (a' := ?_) ?_ ?_
      rotate_left
      · simp only [putAll, Act.put, List.setIfInBounds_toArray, List.set_cons_zero, List.set_cons_succ]
        rfl
      refine one_ (i := 4) (N := none) #[true, true, true, true, true, false] rfl rfl (by kernel_rfl) (by decide) (fun K hK => ?_)
      have hs28 : w27.cell? ⟨gb391, 0, none⟩ = some (.int .i64 0) := (zzi BK391.out 0).trans rfl
      have hfs28 := zzh BK391.out 0
      have hns28_0 := NB386_391.out
      have hns28_1 := NB387_391.out
      have hns28_2 := NB390_391.out
      have hns28_4 := NB392_391.out
      have hms28_0 := NB391_386.out
      have hms28_1 := NB391_387.out
      have hms28_2 := NB391_390.out
      have hms28_4 := NB391_392.out
      have hs29 : w27.cell? ⟨gb391, 1, none⟩ = some (.bool false) := (zzi BK391.out 1).trans rfl
      have hfs29 := zzh BK391.out 1
      have hns29_0 := NB386_391.out
      have hns29_1 := NB387_391.out
      have hns29_2 := NB390_391.out
      have hns29_4 := NB392_391.out
      have hms29_0 := NB391_386.out
      have hms29_1 := NB391_387.out
      have hms29_2 := NB391_390.out
      have hms29_4 := NB391_392.out
      refine skip_ (w1 := ?_) (by rfl) rfl ?_ ?_
      rotate_left
      · go_simp
        rfl
      refine hK.out _ _ ⟨((cell_far (p := ⟨gb391, _, none⟩) NB390_391.out _).trans (((cell_far (p := ⟨gb391, _, none⟩) NB390_391.out _).trans (hHeld.1)))), ((cell_far (p := ⟨gb391, _, none⟩) NB390_391.out _).trans (((cell_far (p := ⟨gb391, _, none⟩) NB390_391.out _).trans (hHeld.2))))⟩ (fun hHeld => ?_)
      clear hK K
      refine one_ (i := 5) (N := none) #[true, true, true, true, true, true] rfl rfl (by kernel_rfl) (by decide) (fun K hK => ?_)
      have hs30 : w27.cell? ⟨gb392, 0, none⟩ = some (.int .i64 0) := (zzi BK392.out 0).trans rfl
      have hfs30 := zzh BK392.out 0
      have hns30_0 := NB386_392.out
      have hns30_1 := NB387_392.out
      have hns30_2 := NB390_392.out
      have hns30_3 := NB391_392.out
      have hms30_0 := NB392_386.out
      have hms30_1 := NB392_387.out
      have hms30_2 := NB392_390.out
      have hms30_3 := NB392_391.out
      have hs31 : w27.cell? ⟨gb392, 1, none⟩ = some (.bool false) := (zzi BK392.out 1).trans rfl
      have hfs31 := zzh BK392.out 1
      have hns31_0 := NB386_392.out
      have hns31_1 := NB387_392.out
      have hns31_2 := NB390_392.out
      have hns31_3 := NB391_392.out
      have hms31_0 := NB392_386.out
      have hms31_1 := NB392_387.out
      have hms31_2 := NB392_390.out
      have hms31_3 := NB392_391.out
      refine skip_ (w1 := ?_) (by rfl) rfl ?_ ?_
      rotate_left
      · go_simp
        rfl
      refine hK.out _ _ ⟨((cell_far (p := ⟨gb392, _, none⟩) NB390_392.out _).trans (((cell_far (p := ⟨gb392, _, none⟩) NB390_392.out _).trans (hHeld.1)))), ((cell_far (p := ⟨gb392, _, none⟩) NB390_392.out _).trans (((cell_far (p := ⟨gb392, _, none⟩) NB390_392.out _).trans (hHeld.2))))⟩ (fun hHeld => ?_)
      clear hK K
      refine done_ (by kernel_rfl) ?_
      try go_wp2
      go_loopg [28] kj2 (fun kq v28 w' => ∃ (x28_2 : Int) (x392000_2 : Int) (x392001_2 : Bool) (x393000_2 : Int) (x393001_2 : Bool), v28 = .int .i64 x28_2 ∧ Aside0 (fixed_Sin.l0 kq x28_2 x391000_2 t389 x392000_2 x392001_2 x393000_2 x393001_2 = some (r1, r2)) ∧ Aside0 (kq ≤ kj2) ∧ Aside0 (w'.heap[gb386]? = some (.cells #[.int .i64 a0_0, .bool a0_1] 23 (0, 0))) ∧ Aside0 (w'.heap[gb387]? = some (.cells #[.int .i64 0, .bool false] 23 (0, 0))) ∧ Aside0 (w'.heap[gb390]? = some (.cells #[.int .i64 x391000_2, .bool t389] 23 (0, 0))) ∧ Aside0 (w'.heap[gb391]? = some (.cells #[.int .i64 x392000_2, .bool x392001_2] 23 (0, 0))) ∧ Aside0 (w'.heap[gb392]? = some (.cells #[.int .i64 x393000_2, .bool x393001_2] 23 (0, 0))) ∧ Aside0 (Below w.heap.size w w'))
      case atStart => exact ⟨(0), (x391000_2), (t389), (x391000_2), (t389), (by first | rfl | (simp; done) | (simp [*]; done)), H', ⟨Nat.le_refl _⟩, ⟨by (with_reducible repeat first | apply zzc | apply zzd | apply zzb); refine zzs ?_ NB386_392.out _; (with_reducible repeat first | apply zzc | apply zzd | apply zzb); refine zzs ?_ NB386_392.out _; (with_reducible repeat first | apply zzc | apply zzd | apply zzb); refine zzs ?_ NB386_391.out _; (with_reducible repeat first | apply zzc | apply zzd | apply zzb); refine zzs ?_ NB386_391.out _; (with_reducible repeat first | apply zzc | apply zzd | apply zzb); exact BK386.out⟩, ⟨by (with_reducible repeat first | apply zzc | apply zzd | apply zzb); refine zzs ?_ NB387_392.out _; (with_reducible repeat first | apply zzc | apply zzd | apply zzb); refine zzs ?_ NB387_392.out _; (with_reducible repeat first | apply zzc | apply zzd | apply zzb); refine zzs ?_ NB387_391.out _; (with_reducible repeat first | apply zzc | apply zzd | apply zzb); refine zzs ?_ NB387_391.out _; (with_reducible repeat first | apply zzc | apply zzd | apply zzb); exact BK387.out⟩, ⟨by (with_reducible repeat first | apply zzc | apply zzd | apply zzb); refine zzs ?_ NB390_392.out _; (with_reducible repeat first | apply zzc | apply zzd | apply zzb); refine zzs ?_ NB390_392.out _; (with_reducible repeat first | apply zzc | apply zzd | apply zzb); refine zzs ?_ NB390_391.out _; (with_reducible repeat first | apply zzc | apply zzd | apply zzb); refine zzs ?_ NB390_391.out _; (with_reducible repeat first | apply zzc | apply zzd | apply zzb); exact BK390.out⟩, ⟨by (with_reducible repeat first | apply zzc | apply zzd | apply zzb); refine zzs ?_ NB391_392.out _; (with_reducible repeat first | apply zzc | apply zzd | apply zzb); refine zzs ?_ NB391_392.out _; (with_reducible repeat first | apply zzc | apply zzd | apply zzb); refine zzo (cs := #[.int .i64 x391000_2, .bool false]) ?_ 1 _ rfl; (with_reducible repeat first | apply zzc | apply zzd | apply zzb); refine zzo (cs := #[.int .i64 0, .bool false]) ?_ 0 _ rfl; (with_reducible repeat first | apply zzc | apply zzd | apply zzb); exact BK391.out⟩, ⟨by (with_reducible repeat first | apply zzc | apply zzd | apply zzb); refine zzo (cs := #[.int .i64 x391000_2, .bool false]) ?_ 1 _ rfl; (with_reducible repeat first | apply zzc | apply zzd | apply zzb); refine zzo (cs := #[.int .i64 0, .bool false]) ?_ 0 _ rfl; (with_reducible repeat first | apply zzc | apply zzd | apply zzb); refine zzs ?_ NB392_391.out _; (with_reducible repeat first | apply zzc | apply zzd | apply zzb); refine zzs ?_ NB392_391.out _; (with_reducible repeat first | apply zzc | apply zzd | apply zzb); exact BK392.out⟩, ⟨by repeat (first | (with_reducible first | exact HB.out | apply zzf | apply zza | apply zzg | refine zze ?_ GE386.out | refine zze ?_ GE387.out | refine zze ?_ GE390.out | refine zze ?_ GE391.out | refine zze ?_ GE392.out) | exact HB.out)⟩⟩
      case round =>
        clear H'
        obtain ⟨x28_2, x392000_2, x392001_2, x393000_2, x393001_2, rfl, HA, HK2, BK386, BK387, BK390, BK391, BK392, HB⟩ := hrel
        cases gk with
        | zero => exact absurd HA.out (by simp [fixed_Sin.l0])
        | succ k2 =>
          have H := HA.out
          clear HA
          simp only [fixed_Sin.l0] at H
          by_cases c32 : x28_2 < 8
          · rw [if_pos c32] at H
            have c32b0 : decide (x28_2 < 8) = true := decide_eq_true c32
            clear c32
            replace H := Option.bind_eq_some_iff.mp H
            obtain ⟨⟨t399, t400⟩, A330, H⟩ := H
            replace H : ((fixed_Mul.f k2 t399 t400 x391000_2 t389).bind fun bt401 => ((fixed_Int.f k2 (wrap64 ((wrap64 (2 * (wrap64 (x28_2 + 1)))) * (wrap64 ((wrap64 (2 * (wrap64 (x28_2 + 1)))) + 1))))).bind fun bt403 => ((fixed_Div.f k2 bt401.1 bt401.2 bt403.1 bt403.2).bind fun bt405 => ((fixed_Neg.f bt405.1 bt405.2).bind fun bt407 => ((fixed_Add.f k2 x393000_2 x393001_2 bt407.1 bt407.2).bind fun bt409 => (fixed_Sin.l0 k2 (wrap64 (x28_2 + 1)) x391000_2 t389 bt407.1 bt407.2 bt409.1 bt409.2)))))) = some (r1, r2) := H
            have A33 := Aside0.mk A330
            clear A330
            replace H := Option.bind_eq_some_iff.mp H
            obtain ⟨⟨t401, t402⟩, A340, H⟩ := H
            replace H : ((fixed_Int.f k2 (wrap64 ((wrap64 (2 * (wrap64 (x28_2 + 1)))) * (wrap64 ((wrap64 (2 * (wrap64 (x28_2 + 1)))) + 1))))).bind fun bt403 => ((fixed_Div.f k2 t401 t402 bt403.1 bt403.2).bind fun bt405 => ((fixed_Neg.f bt405.1 bt405.2).bind fun bt407 => ((fixed_Add.f k2 x393000_2 x393001_2 bt407.1 bt407.2).bind fun bt409 => (fixed_Sin.l0 k2 (wrap64 (x28_2 + 1)) x391000_2 t389 bt407.1 bt407.2 bt409.1 bt409.2))))) = some (r1, r2) := H
            have A34 := Aside0.mk A340
            clear A340
            replace H := Option.bind_eq_some_iff.mp H
            obtain ⟨⟨t403, t404⟩, A350, H⟩ := H
            replace H : ((fixed_Div.f k2 t401 t402 t403 t404).bind fun bt405 => ((fixed_Neg.f bt405.1 bt405.2).bind fun bt407 => ((fixed_Add.f k2 x393000_2 x393001_2 bt407.1 bt407.2).bind fun bt409 => (fixed_Sin.l0 k2 (wrap64 (x28_2 + 1)) x391000_2 t389 bt407.1 bt407.2 bt409.1 bt409.2)))) = some (r1, r2) := H
            have A35 := Aside0.mk A350
            clear A350
            replace H := Option.bind_eq_some_iff.mp H
            obtain ⟨⟨t405, t406⟩, A360, H⟩ := H
            replace H : ((fixed_Neg.f t405 t406).bind fun bt407 => ((fixed_Add.f k2 x393000_2 x393001_2 bt407.1 bt407.2).bind fun bt409 => (fixed_Sin.l0 k2 (wrap64 (x28_2 + 1)) x391000_2 t389 bt407.1 bt407.2 bt409.1 bt409.2))) = some (r1, r2) := H
            have A36 := Aside0.mk A360
            clear A360
            replace H := Option.bind_eq_some_iff.mp H
            obtain ⟨⟨t407, t408⟩, A370, H⟩ := H
            replace H : ((fixed_Add.f k2 x393000_2 x393001_2 t407 t408).bind fun bt409 => (fixed_Sin.l0 k2 (wrap64 (x28_2 + 1)) x391000_2 t389 t407 t408 bt409.1 bt409.2)) = some (r1, r2) := H
            have A37 := Aside0.mk A370
            clear A370
            replace H := Option.bind_eq_some_iff.mp H
            obtain ⟨⟨t409, t410⟩, A380, H⟩ := H
            replace H : (fixed_Sin.l0 k2 (wrap64 (x28_2 + 1)) x391000_2 t389 t407 t408 t409 t410) = some (r1, r2) := H
            have A38 := Aside0.mk A380
            clear A380
            have H' := Aside0.mk H
            clear H
            try go_wp2
            have n0_ := Aside0.mk (zzd BK386.out)
            have n1_ := Aside0.mk (zzd BK387.out)
            have n2_ := Aside0.mk (zzd BK390.out)
            have n3_ := Aside0.mk (zzd BK391.out)
            have n4_ := Aside0.mk (zzd BK392.out)
            have n5_ := Aside0.mk (zzg HB.out)
            clear BK386
            clear BK387
            clear BK390
            clear BK391
            clear BK392
            clear HB
            have BK386 := n0_
            have BK387 := n1_
            have BK390 := n2_
            have BK391 := n3_
            have BK392 := n4_
            have HB := n5_
            clear n0_ n1_ n2_ n3_ n4_ n5_
            refine start_ (n := 13) (S := fun w' => w'.cell? ⟨gb391, 0, none⟩ = some (.int .i64 x392000_2) ∧ w'.cell? ⟨gb391, 1, none⟩ = some (.bool x392001_2) ∧ w'.cell? ⟨gb390, 0, none⟩ = some (.int .i64 x391000_2) ∧ w'.cell? ⟨gb390, 1, none⟩ = some (.bool t389)) (ds := [12]) #[false, false, false, false, false, false, false, false, false, false, false, false, false] (by kernel_rfl) rfl rfl ⟨(zzi BK391.out 0).trans rfl, (zzi BK391.out 1).trans rfl, (zzi BK390.out 0).trans rfl, (zzi BK390.out 1).trans rfl⟩ (fun hHeld => ?_); refine with_tabW fixed_Sin.tab11 fixed_Sin.bits11 (fun HT_ HW_ => ?_)
            generalize wr.drew = w39 at BK386 BK387 BK390 BK391 BK392 HB hHeld ⊢
            refine pure_ (i := 5) (N := some 39) (v := ?_) (a' := ?_) #[false, false, false, false, false, true, false, false, false, false, false, false, false] rfl rfl (any_of HT_.out (by kernel_rfl)) (fun _ _ _ h => h) (Or.inl ⟨by rfl, ?_⟩) ?_ ?_
            rotate_left
            · intro w'
              go_simp
              with_reducible rfl
            rotate_left
            · simp only [Act.put, List.setIfInBounds_toArray, List.set_cons_zero, List.set_cons_succ, i64_w, i32_w]
              rfl
            refine pure_ (i := 6) (N := some 40) (v := ?_) (a' := ?_) #[false, false, false, false, false, true, true, false, false, false, false, false, false] rfl rfl (any_of HT_.out (by kernel_rfl)) (fun _ _ _ h => h) (Or.inl ⟨by rfl, ?_⟩) ?_ ?_
            rotate_left
            · intro w'
              go_simp
              with_reducible rfl
            rotate_left
            · simp only [Act.put, List.setIfInBounds_toArray, List.set_cons_zero, List.set_cons_succ, i64_w, i32_w]
              rfl
            refine pure_ (i := 7) (N := some 41) (v := ?_) (a' := ?_) #[false, false, false, false, false, true, true, true, false, false, false, false, false] rfl rfl (any_of HT_.out (by kernel_rfl)) (fun _ _ _ h => h) (Or.inl ⟨by rfl, ?_⟩) ?_ ?_
            rotate_left
            · intro w'
              go_simp
              with_reducible rfl
            rotate_left
            · simp only [Act.put, List.setIfInBounds_toArray, List.set_cons_zero, List.set_cons_succ, i64_w, i32_w]
              rfl
            refine pure_ (i := 8) (N := some 42) (v := ?_) (a' := ?_) #[false, false, false, false, false, true, true, true, true, false, false, false, false] rfl rfl (any_of HT_.out (by kernel_rfl)) (fun _ _ _ h => h) (Or.inl ⟨by rfl, ?_⟩) ?_ ?_
            rotate_left
            · intro w'
              go_simp
              with_reducible rfl
            rotate_left
            · simp only [Act.put, List.setIfInBounds_toArray, List.set_cons_zero, List.set_cons_succ, i64_w, i32_w]
              rfl
            refine take_ (i := 0) (N := some 34) (v := ?_) (a' := ?_) #[true, false, false, false, false, true, true, true, true, false, false, false, false] rfl rfl (take_ofW HT_.out HW_.out (by kernel_rfl)) (fun _ _ _ h => h) (Or.inl ⟨by rfl, ?_⟩) hHeld ?_ ?_
            rotate_left
            · rintro w' ⟨s0, s1, s2, s3⟩
              go_simp
              with_reducible rfl
            rotate_left
            · simp only [Act.put, List.setIfInBounds_toArray, List.set_cons_zero, List.set_cons_succ, i64_w, i32_w]
              rfl
            refine take_ (i := 1) (N := some 35) (v := ?_) (a' := ?_) #[true, true, false, false, false, true, true, true, true, false, false, false, false] rfl rfl (take_ofW HT_.out HW_.out (by kernel_rfl)) (fun _ _ _ h => h) (Or.inl ⟨by rfl, ?_⟩) hHeld ?_ ?_
            rotate_left
            · rintro w' ⟨s0, s1, s2, s3⟩
              go_simp
              with_reducible rfl
            rotate_left
            · simp only [Act.put, List.setIfInBounds_toArray, List.set_cons_zero, List.set_cons_succ, i64_w, i32_w]
              rfl
            refine take_ (i := 3) (N := some 37) (v := ?_) (a' := ?_) #[true, true, false, true, false, true, true, true, true, false, false, false, false] rfl rfl (take_ofW HT_.out HW_.out (by kernel_rfl)) (fun _ _ _ h => h) (Or.inl ⟨by rfl, ?_⟩) hHeld ?_ ?_
            rotate_left
            · rintro w' ⟨s0, s1, s2, s3⟩
              go_simp
              with_reducible rfl
            rotate_left
            · simp only [Act.put, List.setIfInBounds_toArray, List.set_cons_zero, List.set_cons_succ, i64_w, i32_w]
              rfl
            refine one_ (i := 2) (N := some 36) #[true, true, true, true, false, true, true, true, true, false, false, false, false] rfl rfl (one_of HT_.out (by kernel_rfl)) (by decide) (fun K hK => ?_)
            refine goes_ Try.func39 (by kernel_rfl) rfl #[.agg #[.int .i64 x392000_2, .bool x392001_2], .agg #[.int .i64 x391000_2, .bool t389]] (by rfl) rfl rfl (by (try simp only [List.map_toArray, List.map_cons, List.map_nil]); first | done | rfl | (simp only [List.length_drop, List.length_take]; rfl)) ?_
            with_reducible refine (fixed_Mul.calls k2 x392000_2 x392001_2 x391000_2 t389 t399 t400 _ A33.out).mono ?_
            rintro e w40 ⟨rfl, hb⟩
            refine ⟨_, rfl, ?_⟩
            have n0_ := Aside0.mk (zzj (g := gb386) (o := .cells #[.int .i64 a0_0, .bool a0_1] 23 (0, 0)) (by (with_reducible repeat first | apply zzc | apply zzd | apply zzb); exact BK386.out) hb)
            have n1_ := Aside0.mk (zzj (g := gb387) (o := .cells #[.int .i64 0, .bool false] 23 (0, 0)) (by (with_reducible repeat first | apply zzc | apply zzd | apply zzb); exact BK387.out) hb)
            have n2_ := Aside0.mk (zzj (g := gb390) (o := .cells #[.int .i64 x391000_2, .bool t389] 23 (0, 0)) (by (with_reducible repeat first | apply zzc | apply zzd | apply zzb); exact BK390.out) hb)
            have n3_ := Aside0.mk (zzj (g := gb391) (o := .cells #[.int .i64 x392000_2, .bool x392001_2] 23 (0, 0)) (by (with_reducible repeat first | apply zzc | apply zzd | apply zzb); exact BK391.out) hb)
            have n4_ := Aside0.mk (zzj (g := gb392) (o := .cells #[.int .i64 x393000_2, .bool x393001_2] 23 (0, 0)) (by (with_reducible repeat first | apply zzc | apply zzd | apply zzb); exact BK392.out) hb)
            have n5_ := Aside0.mk (zzl (by repeat (first | (with_reducible first | exact HB.out | apply zzf | apply zza | apply zzg | refine zze ?_ GE386.out | refine zze ?_ GE387.out | refine zze ?_ GE390.out | refine zze ?_ GE391.out | refine zze ?_ GE392.out) | exact HB.out)) hb)
            clear BK386
            clear BK387
            clear BK390
            clear BK391
            clear BK392
            clear HB
            have BK386 := n0_
            have BK387 := n1_
            have BK390 := n2_
            have BK391 := n3_
            have BK392 := n4_
            have HB := n5_
            clear n0_ n1_ n2_ n3_ n4_ n5_
            (try clear hb)
            (try clear hb2)
            (try clear hk)
            (try clear hi)
            refine hK.out _ _ ⟨(zzi BK391.out 0).trans rfl, (zzi BK391.out 1).trans rfl, (zzi BK390.out 0).trans rfl, (zzi BK390.out 1).trans rfl⟩ (fun hHeld => ?_)
            clear hK K
            refine norm_ (a' := ?_) ?_ ?_
            rotate_left
            · show Act.put _ (some 36) _ = _
              simp only [Act.put, List.setIfInBounds_toArray, List.set_cons_zero, List.set_cons_succ, i64_w, i32_w]
              rfl
            refine one_ (i := 4) (N := some 38) #[true, true, true, true, true, true, true, true, true, false, false, false, false] rfl rfl (one_of HT_.out (by kernel_rfl)) (by decide) (fun K hK => ?_)
            refine goes_ Try.func39 (by kernel_rfl) rfl #[.agg #[.int .i64 t399, .bool t400], .agg #[.int .i64 x391000_2, .bool t389]] (by rfl) rfl rfl (by (try simp only [List.map_toArray, List.map_cons, List.map_nil]); first | done | rfl | (simp only [List.length_drop, List.length_take]; rfl)) ?_
            with_reducible refine (fixed_Mul.calls k2 t399 t400 x391000_2 t389 t401 t402 _ A34.out).mono ?_
            rintro e w41 ⟨rfl, hb⟩
            refine ⟨_, rfl, ?_⟩
            have n0_ := Aside0.mk (zzj (g := gb386) (o := .cells #[.int .i64 a0_0, .bool a0_1] 23 (0, 0)) (by (with_reducible repeat first | apply zzc | apply zzd | apply zzb); exact BK386.out) hb)
            have n1_ := Aside0.mk (zzj (g := gb387) (o := .cells #[.int .i64 0, .bool false] 23 (0, 0)) (by (with_reducible repeat first | apply zzc | apply zzd | apply zzb); exact BK387.out) hb)
            have n2_ := Aside0.mk (zzj (g := gb390) (o := .cells #[.int .i64 x391000_2, .bool t389] 23 (0, 0)) (by (with_reducible repeat first | apply zzc | apply zzd | apply zzb); exact BK390.out) hb)
            have n3_ := Aside0.mk (zzj (g := gb391) (o := .cells #[.int .i64 x392000_2, .bool x392001_2] 23 (0, 0)) (by (with_reducible repeat first | apply zzc | apply zzd | apply zzb); exact BK391.out) hb)
            have n4_ := Aside0.mk (zzj (g := gb392) (o := .cells #[.int .i64 x393000_2, .bool x393001_2] 23 (0, 0)) (by (with_reducible repeat first | apply zzc | apply zzd | apply zzb); exact BK392.out) hb)
            have n5_ := Aside0.mk (zzl (by repeat (first | (with_reducible first | exact HB.out | apply zzf | apply zza | apply zzg | refine zze ?_ GE386.out | refine zze ?_ GE387.out | refine zze ?_ GE390.out | refine zze ?_ GE391.out | refine zze ?_ GE392.out) | exact HB.out)) hb)
            clear BK386
            clear BK387
            clear BK390
            clear BK391
            clear BK392
            clear HB
            have BK386 := n0_
            have BK387 := n1_
            have BK390 := n2_
            have BK391 := n3_
            have BK392 := n4_
            have HB := n5_
            clear n0_ n1_ n2_ n3_ n4_ n5_
            (try clear hb)
            (try clear hb2)
            (try clear hk)
            (try clear hi)
            refine hK.out _ _ ⟨(zzi BK391.out 0).trans rfl, (zzi BK391.out 1).trans rfl, (zzi BK390.out 0).trans rfl, (zzi BK390.out 1).trans rfl⟩ (fun hHeld => ?_)
            clear hK K
            refine norm_ (a' := ?_) ?_ ?_
            rotate_left
            · show Act.put _ (some 38) _ = _
              simp only [Act.put, List.setIfInBounds_toArray, List.set_cons_zero, List.set_cons_succ, i64_w, i32_w]
              rfl
            refine one_ (i := 9) (N := some 43) #[true, true, true, true, true, true, true, true, true, true, false, false, false] rfl rfl (one_of HT_.out (by kernel_rfl)) (by decide) (fun K hK => ?_)
            refine goes_ Try.func49 (by kernel_rfl) rfl #[.int .i64 (wrap64 ((wrap64 (2 * (wrap64 (x28_2 + 1)))) * (wrap64 ((wrap64 (2 * (wrap64 (x28_2 + 1)))) + 1))))] (by rfl) rfl rfl (by (try simp only [List.map_toArray, List.map_cons, List.map_nil]); first | done | rfl | (simp only [List.length_drop, List.length_take]; rfl)) ?_
            with_reducible refine (fixed_Int.calls k2 (wrap64 ((wrap64 (2 * (wrap64 (x28_2 + 1)))) * (wrap64 ((wrap64 (2 * (wrap64 (x28_2 + 1)))) + 1)))) t403 t404 _ A35.out).mono ?_
            rintro e w42 ⟨rfl, hb⟩
            refine ⟨_, rfl, ?_⟩
            have n0_ := Aside0.mk (zzj (g := gb386) (o := .cells #[.int .i64 a0_0, .bool a0_1] 23 (0, 0)) (by (with_reducible repeat first | apply zzc | apply zzd | apply zzb); exact BK386.out) hb)
            have n1_ := Aside0.mk (zzj (g := gb387) (o := .cells #[.int .i64 0, .bool false] 23 (0, 0)) (by (with_reducible repeat first | apply zzc | apply zzd | apply zzb); exact BK387.out) hb)
            have n2_ := Aside0.mk (zzj (g := gb390) (o := .cells #[.int .i64 x391000_2, .bool t389] 23 (0, 0)) (by (with_reducible repeat first | apply zzc | apply zzd | apply zzb); exact BK390.out) hb)
            have n3_ := Aside0.mk (zzj (g := gb391) (o := .cells #[.int .i64 x392000_2, .bool x392001_2] 23 (0, 0)) (by (with_reducible repeat first | apply zzc | apply zzd | apply zzb); exact BK391.out) hb)
            have n4_ := Aside0.mk (zzj (g := gb392) (o := .cells #[.int .i64 x393000_2, .bool x393001_2] 23 (0, 0)) (by (with_reducible repeat first | apply zzc | apply zzd | apply zzb); exact BK392.out) hb)
            have n5_ := Aside0.mk (zzl (by repeat (first | (with_reducible first | exact HB.out | apply zzf | apply zza | apply zzg | refine zze ?_ GE386.out | refine zze ?_ GE387.out | refine zze ?_ GE390.out | refine zze ?_ GE391.out | refine zze ?_ GE392.out) | exact HB.out)) hb)
            clear BK386
            clear BK387
            clear BK390
            clear BK391
            clear BK392
            clear HB
            have BK386 := n0_
            have BK387 := n1_
            have BK390 := n2_
            have BK391 := n3_
            have BK392 := n4_
            have HB := n5_
            clear n0_ n1_ n2_ n3_ n4_ n5_
            (try clear hb)
            (try clear hb2)
            (try clear hk)
            (try clear hi)
            refine hK.out _ _ ⟨(zzi BK391.out 0).trans rfl, (zzi BK391.out 1).trans rfl, (zzi BK390.out 0).trans rfl, (zzi BK390.out 1).trans rfl⟩ (fun hHeld => ?_)
            clear hK K
            refine norm_ (a' := ?_) ?_ ?_
            rotate_left
            · show Act.put _ (some 43) _ = _
              simp only [Act.put, List.setIfInBounds_toArray, List.set_cons_zero, List.set_cons_succ, i64_w, i32_w]
              rfl
            refine one_ (i := 10) (N := some 44) #[true, true, true, true, true, true, true, true, true, true, true, false, false] rfl rfl (one_of HT_.out (by kernel_rfl)) (by decide) (fun K hK => ?_)
            refine goes_ Try.func40 (by kernel_rfl) rfl #[.agg #[.int .i64 t401, .bool t402], .agg #[.int .i64 t403, .bool t404]] (by rfl) rfl rfl (by (try simp only [List.map_toArray, List.map_cons, List.map_nil]); first | done | rfl | (simp only [List.length_drop, List.length_take]; rfl)) ?_
            with_reducible refine (fixed_Div.calls k2 t401 t402 t403 t404 t405 t406 _ A36.out).mono ?_
            rintro e w43 ⟨rfl, hb⟩
            refine ⟨_, rfl, ?_⟩
            have n0_ := Aside0.mk (zzj (g := gb386) (o := .cells #[.int .i64 a0_0, .bool a0_1] 23 (0, 0)) (by (with_reducible repeat first | apply zzc | apply zzd | apply zzb); exact BK386.out) hb)
            have n1_ := Aside0.mk (zzj (g := gb387) (o := .cells #[.int .i64 0, .bool false] 23 (0, 0)) (by (with_reducible repeat first | apply zzc | apply zzd | apply zzb); exact BK387.out) hb)
            have n2_ := Aside0.mk (zzj (g := gb390) (o := .cells #[.int .i64 x391000_2, .bool t389] 23 (0, 0)) (by (with_reducible repeat first | apply zzc | apply zzd | apply zzb); exact BK390.out) hb)
            have n3_ := Aside0.mk (zzj (g := gb391) (o := .cells #[.int .i64 x392000_2, .bool x392001_2] 23 (0, 0)) (by (with_reducible repeat first | apply zzc | apply zzd | apply zzb); exact BK391.out) hb)
            have n4_ := Aside0.mk (zzj (g := gb392) (o := .cells #[.int .i64 x393000_2, .bool x393001_2] 23 (0, 0)) (by (with_reducible repeat first | apply zzc | apply zzd | apply zzb); exact BK392.out) hb)
            have n5_ := Aside0.mk (zzl (by repeat (first | (with_reducible first | exact HB.out | apply zzf | apply zza | apply zzg | refine zze ?_ GE386.out | refine zze ?_ GE387.out | refine zze ?_ GE390.out | refine zze ?_ GE391.out | refine zze ?_ GE392.out) | exact HB.out)) hb)
            clear BK386
            clear BK387
            clear BK390
            clear BK391
            clear BK392
            clear HB
            have BK386 := n0_
            have BK387 := n1_
            have BK390 := n2_
            have BK391 := n3_
            have BK392 := n4_
            have HB := n5_
            clear n0_ n1_ n2_ n3_ n4_ n5_
            (try clear hb)
            (try clear hb2)
            (try clear hk)
            (try clear hi)
            refine hK.out _ _ ⟨(zzi BK391.out 0).trans rfl, (zzi BK391.out 1).trans rfl, (zzi BK390.out 0).trans rfl, (zzi BK390.out 1).trans rfl⟩ (fun hHeld => ?_)
            clear hK K
            refine norm_ (a' := ?_) ?_ ?_
            rotate_left
            · show Act.put _ (some 44) _ = _
              simp only [Act.put, List.setIfInBounds_toArray, List.set_cons_zero, List.set_cons_succ, i64_w, i32_w]
              rfl
            refine one_ (i := 11) (N := some 45) #[true, true, true, true, true, true, true, true, true, true, true, true, false] rfl rfl (one_of HT_.out (by kernel_rfl)) (by decide) (fun K hK => ?_)
            refine goes_ Try.func41 (by kernel_rfl) rfl #[.agg #[.int .i64 t405, .bool t406]] (by rfl) rfl rfl (by (try simp only [List.map_toArray, List.map_cons, List.map_nil]); first | done | rfl | (simp only [List.length_drop, List.length_take]; rfl)) ?_
            with_reducible refine (fixed_Neg.calls t405 t406 t407 t408 _ A37.out).mono ?_
            rintro e w44 ⟨rfl, hb⟩
            refine ⟨_, rfl, ?_⟩
            have n0_ := Aside0.mk (zzj (g := gb386) (o := .cells #[.int .i64 a0_0, .bool a0_1] 23 (0, 0)) (by (with_reducible repeat first | apply zzc | apply zzd | apply zzb); exact BK386.out) hb)
            have n1_ := Aside0.mk (zzj (g := gb387) (o := .cells #[.int .i64 0, .bool false] 23 (0, 0)) (by (with_reducible repeat first | apply zzc | apply zzd | apply zzb); exact BK387.out) hb)
            have n2_ := Aside0.mk (zzj (g := gb390) (o := .cells #[.int .i64 x391000_2, .bool t389] 23 (0, 0)) (by (with_reducible repeat first | apply zzc | apply zzd | apply zzb); exact BK390.out) hb)
            have n3_ := Aside0.mk (zzj (g := gb391) (o := .cells #[.int .i64 x392000_2, .bool x392001_2] 23 (0, 0)) (by (with_reducible repeat first | apply zzc | apply zzd | apply zzb); exact BK391.out) hb)
            have n4_ := Aside0.mk (zzj (g := gb392) (o := .cells #[.int .i64 x393000_2, .bool x393001_2] 23 (0, 0)) (by (with_reducible repeat first | apply zzc | apply zzd | apply zzb); exact BK392.out) hb)
            have n5_ := Aside0.mk (zzl (by repeat (first | (with_reducible first | exact HB.out | apply zzf | apply zza | apply zzg | refine zze ?_ GE386.out | refine zze ?_ GE387.out | refine zze ?_ GE390.out | refine zze ?_ GE391.out | refine zze ?_ GE392.out) | exact HB.out)) hb)
            clear BK386
            clear BK387
            clear BK390
            clear BK391
            clear BK392
            clear HB
            have BK386 := n0_
            have BK387 := n1_
            have BK390 := n2_
            have BK391 := n3_
            have BK392 := n4_
            have HB := n5_
            clear n0_ n1_ n2_ n3_ n4_ n5_
            (try clear hb)
            (try clear hb2)
            (try clear hk)
            (try clear hi)
            refine hK.out _ _ ⟨(zzi BK391.out 0).trans rfl, (zzi BK391.out 1).trans rfl, (zzi BK390.out 0).trans rfl, (zzi BK390.out 1).trans rfl⟩ (fun hHeld => ?_)
            clear hK K
            refine norm_ (a' := ?_) ?_ ?_
            rotate_left
            · show Act.put _ (some 45) _ = _
              simp only [Act.put, List.setIfInBounds_toArray, List.set_cons_zero, List.set_cons_succ, i64_w, i32_w]
              rfl
            refine last_ (i := 12) (N := none) #[true, true, true, true, true, true, true, true, true, true, true, true, true] rfl rfl (one_of HT_.out (by kernel_rfl)) (by decide) (fun K hK => ?_)
            have hs45 : w44.cell? ⟨gb391, 0, none⟩ = some (.int .i64 x392000_2) := (zzi BK391.out 0).trans rfl
            have hfs45 := zzh BK391.out 0
            have hns45_0 := NB386_391.out
            have hns45_1 := NB387_391.out
            have hns45_2 := NB390_391.out
            have hns45_4 := NB392_391.out
            have hms45_0 := NB391_386.out
            have hms45_1 := NB391_387.out
            have hms45_2 := NB391_390.out
            have hms45_4 := NB391_392.out
            have hs46 : w44.cell? ⟨gb391, 1, none⟩ = some (.bool x392001_2) := (zzi BK391.out 1).trans rfl
            have hfs46 := zzh BK391.out 1
            have hns46_0 := NB386_391.out
            have hns46_1 := NB387_391.out
            have hns46_2 := NB390_391.out
            have hns46_4 := NB392_391.out
            have hms46_0 := NB391_386.out
            have hms46_1 := NB391_387.out
            have hms46_2 := NB391_390.out
            have hms46_4 := NB391_392.out
            refine skip_ (w1 := ?_) (by rfl) rfl ?_ ?_
            rotate_left
            · go_simp
              rfl
            refine hK.out _ _ ?_
            clear hK K
            refine done_ (done_of HT_.out (by kernel_rfl)) ?_
            have hnb47 := NB392_386.out
            have hnc47 := NB386_392.out
            have hnb48 := NB392_387.out
            have hnc48 := NB387_392.out
            have hnb49 := NB392_390.out
            have hnc49 := NB390_392.out
            have hnb50 := NB392_391.out
            have hnc50 := NB391_392.out
            have hcz51_0 : w44.cell? ⟨gb392, 0, none⟩ = some (.int .i64 x393000_2) := (zzi BK392.out 0).trans rfl
            have hcz51_1 : w44.cell? ⟨gb392, 1, none⟩ = some (.bool x393001_2) := (zzi BK392.out 1).trans rfl
            have hfz51_0 := zzh BK392.out 0
            have hfz51_1 := zzh BK392.out 1
            have hnb52 := NB391_386.out
            have hnc52 := NB386_391.out
            have hnb53 := NB391_387.out
            have hnc53 := NB387_391.out
            have hnb54 := NB391_390.out
            have hnc54 := NB390_391.out
            have hcz55_0 : w44.cell? ⟨gb391, 0, none⟩ = some (.int .i64 x392000_2) := (zzi BK391.out 0).trans rfl
            have hcz55_1 : w44.cell? ⟨gb391, 1, none⟩ = some (.bool x392001_2) := (zzi BK391.out 1).trans rfl
            have hfz55_0 := zzh BK391.out 0
            have hfz55_1 := zzh BK391.out 1
            try go_wp2_with (first | ((with_reducible refine zzq (f := 25) rfl ?_); refine goesL_ (some 48) rfl rfl Try.func25 (by kernel_rfl) rfl #[.agg #[.int .i64 x393000_2, .bool x393001_2], .agg #[.int .i64 t407, .bool t408]] rfl (by (try simp only [List.map_toArray, List.map_cons, List.map_nil]); first | done | rfl | (simp only [List.length_drop, List.length_take]; rfl)) ?_; (with_reducible refine (fixed_Add.calls k2 x393000_2 x393001_2 t407 t408 t409 t410 _ A38.out).mono ?_); rintro e w56 ⟨rfl, hb⟩; refine ⟨_, rfl, ?_⟩; have n0_ := Aside0.mk (zzj (g := gb386) (o := .cells #[.int .i64 a0_0, .bool a0_1] 23 (0, 0)) (by (with_reducible repeat first | apply zzc | apply zzd | apply zzb); refine zzs ?_ NB386_391.out _; (with_reducible repeat first | apply zzc | apply zzd | apply zzb); refine zzs ?_ NB386_391.out _; (with_reducible repeat first | apply zzc | apply zzd | apply zzb); exact BK386.out) hb); have n1_ := Aside0.mk (zzj (g := gb387) (o := .cells #[.int .i64 0, .bool false] 23 (0, 0)) (by (with_reducible repeat first | apply zzc | apply zzd | apply zzb); refine zzs ?_ NB387_391.out _; (with_reducible repeat first | apply zzc | apply zzd | apply zzb); refine zzs ?_ NB387_391.out _; (with_reducible repeat first | apply zzc | apply zzd | apply zzb); exact BK387.out) hb); have n2_ := Aside0.mk (zzj (g := gb390) (o := .cells #[.int .i64 x391000_2, .bool t389] 23 (0, 0)) (by (with_reducible repeat first | apply zzc | apply zzd | apply zzb); refine zzs ?_ NB390_391.out _; (with_reducible repeat first | apply zzc | apply zzd | apply zzb); refine zzs ?_ NB390_391.out _; (with_reducible repeat first | apply zzc | apply zzd | apply zzb); exact BK390.out) hb); have n3_ := Aside0.mk (zzj (g := gb391) (o := .cells #[.int .i64 t407, .bool t408] 23 (0, 0)) (by (with_reducible repeat first | apply zzc | apply zzd | apply zzb); refine zzo (cs := #[.int .i64 t407, .bool x392001_2]) ?_ 1 _ rfl; (with_reducible repeat first | apply zzc | apply zzd | apply zzb); refine zzo (cs := #[.int .i64 x392000_2, .bool x392001_2]) ?_ 0 _ rfl; (with_reducible repeat first | apply zzc | apply zzd | apply zzb); exact BK391.out) hb); have n4_ := Aside0.mk (zzj (g := gb392) (o := .cells #[.int .i64 x393000_2, .bool x393001_2] 23 (0, 0)) (by (with_reducible repeat first | apply zzc | apply zzd | apply zzb); refine zzs ?_ NB392_391.out _; (with_reducible repeat first | apply zzc | apply zzd | apply zzb); refine zzs ?_ NB392_391.out _; (with_reducible repeat first | apply zzc | apply zzd | apply zzb); exact BK392.out) hb); have n5_ := Aside0.mk (zzl (by repeat (first | (with_reducible first | exact HB.out | apply zzf | apply zza | apply zzg | refine zze ?_ GE386.out | refine zze ?_ GE387.out | refine zze ?_ GE390.out | refine zze ?_ GE391.out | refine zze ?_ GE392.out) | exact HB.out)) hb); clear BK386; clear BK387; clear BK390; clear BK391; clear BK392; clear HB; have BK386 := n0_; have BK387 := n1_; have BK390 := n2_; have BK391 := n3_; have BK392 := n4_; have HB := n5_; clear n0_ n1_ n2_ n3_ n4_ n5_; have hcz57_0 : w56.cell? ⟨gb392, 0, none⟩ = some (.int .i64 x393000_2) := (zzi BK392.out 0).trans rfl; have hcz57_1 : w56.cell? ⟨gb392, 1, none⟩ = some (.bool x393001_2) := (zzi BK392.out 1).trans rfl; have hfz57_0 := zzh BK392.out 0; have hfz57_1 := zzh BK392.out 1))
            go_roundg k2
            case measure => have := HJ2.out; have := HK2.out; omega
            case rel => exact ⟨(wrap64 (x28_2 + 1)), (t407), (t408), (t409), (t410), (by first | rfl | (simp; done) | (simp [*]; done)), H', ⟨by have := HJ2.out; have := HK2.out; omega⟩, ⟨by (with_reducible repeat first | apply zzc | apply zzd | apply zzb); refine zzs ?_ NB386_392.out _; (with_reducible repeat first | apply zzc | apply zzd | apply zzb); refine zzs ?_ NB386_392.out _; (with_reducible repeat first | apply zzc | apply zzd | apply zzb); exact BK386.out⟩, ⟨by (with_reducible repeat first | apply zzc | apply zzd | apply zzb); refine zzs ?_ NB387_392.out _; (with_reducible repeat first | apply zzc | apply zzd | apply zzb); refine zzs ?_ NB387_392.out _; (with_reducible repeat first | apply zzc | apply zzd | apply zzb); exact BK387.out⟩, ⟨by (with_reducible repeat first | apply zzc | apply zzd | apply zzb); refine zzs ?_ NB390_392.out _; (with_reducible repeat first | apply zzc | apply zzd | apply zzb); refine zzs ?_ NB390_392.out _; (with_reducible repeat first | apply zzc | apply zzd | apply zzb); exact BK390.out⟩, ⟨by (with_reducible repeat first | apply zzc | apply zzd | apply zzb); refine zzs ?_ NB391_392.out _; (with_reducible repeat first | apply zzc | apply zzd | apply zzb); refine zzs ?_ NB391_392.out _; (with_reducible repeat first | apply zzc | apply zzd | apply zzb); exact BK391.out⟩, ⟨by (with_reducible repeat first | apply zzc | apply zzd | apply zzb); refine zzo (cs := #[.int .i64 t409, .bool x393001_2]) ?_ 1 _ rfl; (with_reducible repeat first | apply zzc | apply zzd | apply zzb); refine zzo (cs := #[.int .i64 x393000_2, .bool x393001_2]) ?_ 0 _ rfl; (with_reducible repeat first | apply zzc | apply zzd | apply zzb); exact BK392.out⟩, ⟨by repeat (first | (with_reducible first | exact HB.out | apply zzf | apply zza | apply zzg | refine zze ?_ GE386.out | refine zze ?_ GE387.out | refine zze ?_ GE390.out | refine zze ?_ GE391.out | refine zze ?_ GE392.out) | exact HB.out)⟩⟩
          · rw [if_neg c32] at H
            have c32b0 : decide (x28_2 < 8) = false := decide_eq_false c32
            clear c32
            replace H := Option.bind_eq_some_iff.mp H
            obtain ⟨⟨t393, t394⟩, A580, H⟩ := H
            replace H : ((fixed_Int.f k2 1).bind fun bt395 => ((fixed_Clamp.f k2 x393000_2 x393001_2 t393 t394 bt395.1 bt395.2).bind fun bt397 => (some (bt397.1, bt397.2)))) = some (r1, r2) := H
            have A58 := Aside0.mk A580
            clear A580
            replace H := Option.bind_eq_some_iff.mp H
            obtain ⟨⟨t395, t396⟩, A590, H⟩ := H
            replace H : ((fixed_Clamp.f k2 x393000_2 x393001_2 t393 t394 t395 t396).bind fun bt397 => (some (bt397.1, bt397.2))) = some (r1, r2) := H
            have A59 := Aside0.mk A590
            clear A590
            replace H := Option.bind_eq_some_iff.mp H
            obtain ⟨⟨t397, t398⟩, A600, H⟩ := H
            replace H : (some (t397, t398)) = some (r1, r2) := H
            have A60 := Aside0.mk A600
            clear A600
            simp only [Option.some.injEq, Prod.mk.injEq] at H
            obtain ⟨rfl, rfl⟩ := H
            try go_wp2
            have n0_ := Aside0.mk (zzd BK386.out)
            have n1_ := Aside0.mk (zzd BK387.out)
            have n2_ := Aside0.mk (zzd BK390.out)
            have n3_ := Aside0.mk (zzd BK391.out)
            have n4_ := Aside0.mk (zzd BK392.out)
            have n5_ := Aside0.mk (zzg HB.out)
            clear BK386
            clear BK387
            clear BK390
            clear BK391
            clear BK392
            clear HB
            have BK386 := n0_
            have BK387 := n1_
            have BK390 := n2_
            have BK391 := n3_
            have BK392 := n4_
            have HB := n5_
            clear n0_ n1_ n2_ n3_ n4_ n5_
            refine start_ (n := 5) (S := fun w' => w'.cell? ⟨gb392, 0, none⟩ = some (.int .i64 x393000_2) ∧ w'.cell? ⟨gb392, 1, none⟩ = some (.bool x393001_2)) (ds := []) #[false, false, false, false, false] (by kernel_rfl) rfl rfl ⟨(zzi BK392.out 0).trans rfl, (zzi BK392.out 1).trans rfl⟩ (fun hHeld => ?_)
            generalize wr.drew = w61 at BK386 BK387 BK390 BK391 BK392 HB hHeld ⊢
            refine take_ (i := 0) (N := some 50) (v := ?_) (a' := ?_) #[true, false, false, false, false] rfl rfl (by kernel_rfl) (fun _ _ _ h => h) (Or.inl ⟨by rfl, ?_⟩) hHeld ?_ ?_
            rotate_left
            · rintro w' ⟨s0, s1⟩
              go_simp
              with_reducible rfl
            rotate_left
            · simp only [Act.put, List.setIfInBounds_toArray, List.set_cons_zero, List.set_cons_succ, i64_w, i32_w]
              rfl
            refine one_ (i := 1) (N := some 51) #[true, true, false, false, false] rfl rfl (by kernel_rfl) (by decide) (fun K hK => ?_)
            refine goes_ Try.func49 (by kernel_rfl) rfl #[.int .i64 (-1)] (by rfl) rfl rfl (by (try simp only [List.map_toArray, List.map_cons, List.map_nil]); first | done | rfl | (simp only [List.length_drop, List.length_take]; rfl)) ?_
            with_reducible refine (fixed_Int.calls k2 (-1) t393 t394 _ A58.out).mono ?_
            rintro e w62 ⟨rfl, hb⟩
            refine ⟨_, rfl, ?_⟩
            have n1_ := Aside0.mk (zzj (g := gb387) (o := .cells #[.int .i64 0, .bool false] 23 (0, 0)) (by (with_reducible repeat first | apply zzc | apply zzd | apply zzb); exact BK387.out) hb)
            have n4_ := Aside0.mk (zzj (g := gb392) (o := .cells #[.int .i64 x393000_2, .bool x393001_2] 23 (0, 0)) (by (with_reducible repeat first | apply zzc | apply zzd | apply zzb); exact BK392.out) hb)
            have n5_ := Aside0.mk (zzl (by repeat (first | (with_reducible first | exact HB.out | apply zzf | apply zza | apply zzg | refine zze ?_ GE386.out | refine zze ?_ GE387.out | refine zze ?_ GE390.out | refine zze ?_ GE391.out | refine zze ?_ GE392.out) | exact HB.out)) hb)
            clear BK387
            clear BK392
            clear HB
            have BK387 := n1_
            have BK392 := n4_
            have HB := n5_
            clear n1_ n4_ n5_
            (try clear hb)
            (try clear hb2)
            (try clear hk)
            (try clear hi)
            refine hK.out _ _ ⟨(zzi BK392.out 0).trans rfl, (zzi BK392.out 1).trans rfl⟩ (fun hHeld => ?_)
            clear hK K
            refine norm_ (a' := ?_) ?_ ?_
            rotate_left
            · show Act.put _ (some 51) _ = _
              simp only [Act.put, List.setIfInBounds_toArray, List.set_cons_zero, List.set_cons_succ, i64_w, i32_w]
              rfl
            refine one_ (i := 2) (N := some 52) #[true, true, true, false, false] rfl rfl (by kernel_rfl) (by decide) (fun K hK => ?_)
            refine goes_ Try.func49 (by kernel_rfl) rfl #[.int .i64 1] (by rfl) rfl rfl (by (try simp only [List.map_toArray, List.map_cons, List.map_nil]); first | done | rfl | (simp only [List.length_drop, List.length_take]; rfl)) ?_
            with_reducible refine (fixed_Int.calls k2 1 t395 t396 _ A59.out).mono ?_
            rintro e w63 ⟨rfl, hb⟩
            refine ⟨_, rfl, ?_⟩
            have n1_ := Aside0.mk (zzj (g := gb387) (o := .cells #[.int .i64 0, .bool false] 23 (0, 0)) (by (with_reducible repeat first | apply zzc | apply zzd | apply zzb); exact BK387.out) hb)
            have n4_ := Aside0.mk (zzj (g := gb392) (o := .cells #[.int .i64 x393000_2, .bool x393001_2] 23 (0, 0)) (by (with_reducible repeat first | apply zzc | apply zzd | apply zzb); exact BK392.out) hb)
            have n5_ := Aside0.mk (zzl (by repeat (first | (with_reducible first | exact HB.out | apply zzf | apply zza | apply zzg | refine zze ?_ GE386.out | refine zze ?_ GE387.out | refine zze ?_ GE390.out | refine zze ?_ GE391.out | refine zze ?_ GE392.out) | exact HB.out)) hb)
            clear BK387
            clear BK392
            clear HB
            have BK387 := n1_
            have BK392 := n4_
            have HB := n5_
            clear n1_ n4_ n5_
            (try clear hb)
            (try clear hb2)
            (try clear hk)
            (try clear hi)
            refine hK.out _ _ ⟨(zzi BK392.out 0).trans rfl, (zzi BK392.out 1).trans rfl⟩ (fun hHeld => ?_)
            clear hK K
            refine norm_ (a' := ?_) ?_ ?_
            rotate_left
            · show Act.put _ (some 52) _ = _
              simp only [Act.put, List.setIfInBounds_toArray, List.set_cons_zero, List.set_cons_succ, i64_w, i32_w]
              rfl
            refine one_ (i := 3) (N := some 53) #[true, true, true, true, false] rfl rfl (by kernel_rfl) (by decide) (fun K hK => ?_)
            refine goes_ Try.func35 (by kernel_rfl) rfl #[.agg #[.int .i64 x393000_2, .bool x393001_2], .agg #[.int .i64 t393, .bool t394], .agg #[.int .i64 t395, .bool t396]] (by rfl) rfl rfl (by (try simp only [List.map_toArray, List.map_cons, List.map_nil]); first | done | rfl | (simp only [List.length_drop, List.length_take]; rfl)) ?_
            with_reducible refine (fixed_Clamp.calls k2 x393000_2 x393001_2 t393 t394 t395 t396 t397 t398 _ A60.out).mono ?_
            rintro e w64 ⟨rfl, hb⟩
            refine ⟨_, rfl, ?_⟩
            have n1_ := Aside0.mk (zzj (g := gb387) (o := .cells #[.int .i64 0, .bool false] 23 (0, 0)) (by (with_reducible repeat first | apply zzc | apply zzd | apply zzb); exact BK387.out) hb)
            have n4_ := Aside0.mk (zzj (g := gb392) (o := .cells #[.int .i64 x393000_2, .bool x393001_2] 23 (0, 0)) (by (with_reducible repeat first | apply zzc | apply zzd | apply zzb); exact BK392.out) hb)
            have n5_ := Aside0.mk (zzl (by repeat (first | (with_reducible first | exact HB.out | apply zzf | apply zza | apply zzg | refine zze ?_ GE386.out | refine zze ?_ GE387.out | refine zze ?_ GE390.out | refine zze ?_ GE391.out | refine zze ?_ GE392.out) | exact HB.out)) hb)
            clear BK387
            clear BK392
            clear HB
            have BK387 := n1_
            have BK392 := n4_
            have HB := n5_
            clear n1_ n4_ n5_
            (try clear hb)
            (try clear hb2)
            (try clear hk)
            (try clear hi)
            refine hK.out _ _ ⟨(zzi BK392.out 0).trans rfl, (zzi BK392.out 1).trans rfl⟩ (fun hHeld => ?_)
            clear hK K
            refine norm_ (a' := ?_) ?_ ?_
            rotate_left
            · show Act.put _ (some 53) _ = _
              simp only [Act.put, List.setIfInBounds_toArray, List.set_cons_zero, List.set_cons_succ, i64_w, i32_w]
              rfl
            refine one_ (i := 4) (N := none) #[true, true, true, true, true] rfl rfl (by kernel_rfl) (by decide) (fun K hK => ?_)
            have hs65 : w64.cell? ⟨gb387, 0, none⟩ = some (.int .i64 0) := (zzi BK387.out 0).trans rfl
            have hfs65 := zzh BK387.out 0
            have hns65_0 := NB386_387.out
            have hns65_2 := NB390_387.out
            have hns65_3 := NB391_387.out
            have hns65_4 := NB392_387.out
            have hms65_0 := NB387_386.out
            have hms65_2 := NB387_390.out
            have hms65_3 := NB387_391.out
            have hms65_4 := NB387_392.out
            have hs66 : w64.cell? ⟨gb387, 1, none⟩ = some (.bool false) := (zzi BK387.out 1).trans rfl
            have hfs66 := zzh BK387.out 1
            have hns66_0 := NB386_387.out
            have hns66_2 := NB390_387.out
            have hns66_3 := NB391_387.out
            have hns66_4 := NB392_387.out
            have hms66_0 := NB387_386.out
            have hms66_2 := NB387_390.out
            have hms66_3 := NB387_391.out
            have hms66_4 := NB387_392.out
            refine skip_ (w1 := ?_) (by rfl) rfl ?_ ?_
            rotate_left
            · go_simp
              rfl
            refine hK.out _ _ ⟨((cell_far (p := ⟨gb387, _, none⟩) NB392_387.out _).trans (((cell_far (p := ⟨gb387, _, none⟩) NB392_387.out _).trans (hHeld.1)))), ((cell_far (p := ⟨gb387, _, none⟩) NB392_387.out _).trans (((cell_far (p := ⟨gb387, _, none⟩) NB392_387.out _).trans (hHeld.2))))⟩ (fun hHeld => ?_)
            clear hK K
            refine done_ (by kernel_rfl) ?_
            try go_wp2
            refine bodyPost_ret (results_cell_row rfl _ _ gb387 23 #[.int .i64 t397, .bool t398] (0, 0) _ rfl (by (with_reducible repeat first | apply zzc | apply zzd | apply zzb); refine zzo (cs := #[.int .i64 t397, .bool false]) ?_ 1 _ rfl; (with_reducible repeat first | apply zzc | apply zzd | apply zzb); refine zzo (cs := #[.int .i64 0, .bool false]) ?_ 0 _ rfl; (with_reducible repeat first | apply zzc | apply zzd | apply zzb); exact BK387.out) Try.underlying23 rfl (by kernel_rfl)) rfl ?_
            exact ⟨by first | rfl | (simp [zzn, zzm] <;> rfl) | (simp [*, zzn, zzm] <;> rfl), by repeat (first | (with_reducible first | exact HB.out | apply zzf | apply zza | apply zzg | refine zze ?_ GE386.out | refine zze ?_ GE387.out | refine zze ?_ GE390.out | refine zze ?_ GE391.out | refine zze ?_ GE392.out) | exact HB.out)⟩
end Go.Proofs.Ytenpiaafkmfjfaa.B

end
section
namespace Go.Proofs.Ytenpiaafkmfjfaa.B
open Go.RowKit Go.Proofs.YtenpiaafkmfjfaaW.PrintWords Go.Proofs.YtenpiaafkmfjfaaW.PrintLast
def RowD (w : World) (g : Nat) (l : List Nat) : Prop :=
  ∃ (cs : Array Value) (m : Nat), w.heap[g]? = some (.cells cs 5 (m, m + 1)) ∧ l.length ≤ m ∧ m = cs.size ∧ ∀ (j d : Nat), l[j]? = some d → cs[j]? = some (Value.int .u8 (48 + d : Nat))
theorem RowD.cell {w : World} {g : Nat} {l : List Nat} (h : RowD w g l) (j : Nat) (d : Nat) (hj : l[j]? = some d) : w.cell? ⟨g, j, none⟩ = some (.int .u8 (48 + d : Nat)) := by
  obtain ⟨cs, m, hb, _, _, hc⟩ := h
  rw [cell_of_row w g j cs 5 (m, m + 1) hb]
  exact hc j d hj
theorem RowD.free {w : World} {g : Nat} {l : List Nat} (h : RowD w g l) (j : Nat) (hj : j < l.length) : w.frozen? ⟨g, j, none⟩ = false := by
  obtain ⟨cs, m, hb, hm, _, _⟩ := h
  simp [World.frozen?, hb]
  omega
end Go.Proofs.Ytenpiaafkmfjfaa.B

end
section
namespace Go.Proofs.Ytenpiaafkmfjfaa.B
open Go.RowKit Go.Proofs.YtenpiaafkmfjfaaW.PrintWords Go.Proofs.YtenpiaafkmfjfaaW.PrintLast
set_option linter.unusedVariables false
set_option linter.unusedSimpArgs false
def fixed_Cos.f (k : Nat) (a0_0 : Int) (a0_1 : Bool) : Option (Int × Bool) := (fixed_Wrap.f a0_0 a0_1).bind fun bt413 => ((fixed_Of.f 6746518852).bind fun bt415 => ((fixed_Add.f k bt413.1 bt413.2 bt415.1 bt415.2).bind fun bt417 => ((fixed_Sin.f k bt417.1 bt417.2).bind fun bt419 => (some (bt419.1, bt419.2)))))
set_option maxHeartbeats 8000000 in
set_option maxRecDepth 100000 in
theorem fixed_Cos.calls (k : Nat) (a0_0 : Int) (a0_1 : Bool) (r1 : Int) (r2 : Bool) (w : World) (h : fixed_Cos.f k a0_0 a0_1 = some (r1, r2)) :
    Calls Try.prog 47 #[.agg #[.int .i64 a0_0, .bool a0_1]] w fun e w' => e = .returned (.agg #[.int .i64 r1, .bool r2]) ∧ Below w.heap.size w w' := by
  have hu23 := Try.underlying23
  have HB := Aside0.mk (Below.refl w.heap.size w)
  have H : ((fixed_Wrap.f a0_0 a0_1).bind fun bt413 => ((fixed_Of.f 6746518852).bind fun bt415 => ((fixed_Add.f k bt413.1 bt413.2 bt415.1 bt415.2).bind fun bt417 => ((fixed_Sin.f k bt417.1 bt417.2).bind fun bt419 => (some (bt419.1, bt419.2)))))) = some (r1, r2) := h
  clear h
  replace H := Option.bind_eq_some_iff.mp H
  obtain ⟨⟨t413, t414⟩, A20, H⟩ := H
  replace H : ((fixed_Of.f 6746518852).bind fun bt415 => ((fixed_Add.f k t413 t414 bt415.1 bt415.2).bind fun bt417 => ((fixed_Sin.f k bt417.1 bt417.2).bind fun bt419 => (some (bt419.1, bt419.2))))) = some (r1, r2) := H
  have A2 := Aside0.mk A20
  clear A20
  replace H := Option.bind_eq_some_iff.mp H
  obtain ⟨⟨t415, t416⟩, A30, H⟩ := H
  replace H : ((fixed_Add.f k t413 t414 t415 t416).bind fun bt417 => ((fixed_Sin.f k bt417.1 bt417.2).bind fun bt419 => (some (bt419.1, bt419.2)))) = some (r1, r2) := H
  have A3 := Aside0.mk A30
  clear A30
  replace H := Option.bind_eq_some_iff.mp H
  obtain ⟨⟨t417, t418⟩, A40, H⟩ := H
  replace H : ((fixed_Sin.f k t417 t418).bind fun bt419 => (some (bt419.1, bt419.2))) = some (r1, r2) := H
  have A4 := Aside0.mk A40
  clear A40
  replace H := Option.bind_eq_some_iff.mp H
  obtain ⟨⟨t419, t420⟩, A50, H⟩ := H
  replace H : (some (t419, t420)) = some (r1, r2) := H
  have A5 := Aside0.mk A50
  clear A50
  simp only [Option.some.injEq, Prod.mk.injEq] at H
  obtain ⟨rfl, rfl⟩ := H
  go_enter Try.func47, Try.ntmps47
  go_wp2_with (first | ((with_reducible refine zzt (N := 1) rfl ?_); refine zzp ?hg (N := 1) ?hd (cs := #[.int .i64 a0_0, .bool a0_1]) (t := 23) ?hr ?_; (case hd => rfl); (case hg => rfl); (case hr => first | (go_simp; done) | (go_simp; rfl)); intro gb411 hg w6 hbox hb; have n0_ := Aside0.mk (zzl (by repeat (first | (with_reducible first | exact HB.out | apply zzf | apply zza | apply zzg) | exact HB.out)) hb); have n1_ := Aside0.mk (hbox); have n3_ := Aside0.mk ((by rw [hg]; exact (zzk (by repeat (first | (with_reducible first | exact HB.out | apply zzf | apply zza | apply zzg) | exact HB.out))) : w.heap.size ≤ gb411)); clear HB; have HB := n0_; have BK411 := n1_; have GE411 := n3_; clear n0_ n1_ n3_; clear hb hbox hg) | ((with_reducible refine zzt (N := 2) rfl ?_); refine zzp ?hg (N := 2) ?hd (cs := #[.int .i64 0, .bool false]) (t := 23) ?hr ?_; (case hd => rfl); (case hg => rfl); (case hr => first | (go_simp; done) | (go_simp; rfl)); intro gb412 hg w7 hbox hb; have n0_ := Aside0.mk (zzj (g := gb411) (o := .cells #[.int .i64 a0_0, .bool a0_1] 23 (0, 0)) (by (with_reducible repeat first | apply zzc | apply zzd | apply zzb); exact BK411.out) hb); have n1_ := Aside0.mk (zzl (by repeat (first | (with_reducible first | exact HB.out | apply zzf | apply zza | apply zzg | refine zze ?_ GE411.out) | exact HB.out)) hb); have n2_ := Aside0.mk (hbox); have n4_ := Aside0.mk ((by rw [hg]; exact (zzk (by repeat (first | (with_reducible first | exact HB.out | apply zzf | apply zza | apply zzg | refine zze ?_ GE411.out) | exact HB.out))) : w.heap.size ≤ gb412)); have n5_ := Aside0.mk ((by rw [hg]; exact Nat.ne_of_lt (zzr (g := gb411) (o := .cells #[.int .i64 a0_0, .bool a0_1] 23 (0, 0)) (by (with_reducible repeat first | apply zzc | apply zzd | apply zzb); exact BK411.out)) : gb411 ≠ gb412)); have n6_ := Aside0.mk ((by rw [hg]; exact Nat.ne_of_gt (zzr (g := gb411) (o := .cells #[.int .i64 a0_0, .bool a0_1] 23 (0, 0)) (by (with_reducible repeat first | apply zzc | apply zzd | apply zzb); exact BK411.out)) : gb412 ≠ gb411)); clear BK411; clear HB; have BK411 := n0_; have HB := n1_; have BK412 := n2_; have GE412 := n4_; have NB411_412 := n5_; have NB412_411 := n6_; clear n0_ n1_ n2_ n4_ n5_ n6_; clear hb hbox hg; have hnb8 := NB411_412.out; have hnc8 := NB412_411.out; have hcz9_0 : w7.cell? ⟨gb411, 0, none⟩ = some (.int .i64 a0_0) := (zzi BK411.out 0).trans rfl; have hcz9_1 : w7.cell? ⟨gb411, 1, none⟩ = some (.bool a0_1) := (zzi BK411.out 1).trans rfl; have hfz9_0 := zzh BK411.out 0; have hfz9_1 := zzh BK411.out 1) | ((with_reducible refine zzq (f := 45) rfl ?_); refine goesL_ (some 4) rfl rfl Try.func45 (by kernel_rfl) rfl #[.agg #[.int .i64 a0_0, .bool a0_1]] rfl (by (try simp only [List.map_toArray, List.map_cons, List.map_nil]); first | done | rfl | (simp only [List.length_drop, List.length_take]; rfl)) ?_; (with_reducible refine (fixed_Wrap.calls a0_0 a0_1 t413 t414 _ A2.out).mono ?_); rintro e w10 ⟨rfl, hb⟩; refine ⟨_, rfl, ?_⟩; have n1_ := Aside0.mk (zzj (g := gb412) (o := .cells #[.int .i64 0, .bool false] 23 (0, 0)) (by (with_reducible repeat first | apply zzc | apply zzd | apply zzb); exact BK412.out) hb); have n2_ := Aside0.mk (zzl (by repeat (first | (with_reducible first | exact HB.out | apply zzf | apply zza | apply zzg | refine zze ?_ GE411.out | refine zze ?_ GE412.out) | exact HB.out)) hb); clear BK412; clear HB; have BK412 := n1_; have HB := n2_; clear n1_ n2_; (try clear hi)) | ((with_reducible refine zzq (f := 53) rfl ?_); refine goesL_ (some 5) rfl rfl Try.func53 (by kernel_rfl) rfl #[.int .i64 6746518852] rfl (by (try simp only [List.map_toArray, List.map_cons, List.map_nil]); first | done | rfl | (simp only [List.length_drop, List.length_take]; rfl)) ?_; (with_reducible refine (fixed_Of.calls 6746518852 t415 t416 _ A3.out).mono ?_); rintro e w11 ⟨rfl, hb⟩; refine ⟨_, rfl, ?_⟩; have n1_ := Aside0.mk (zzj (g := gb412) (o := .cells #[.int .i64 0, .bool false] 23 (0, 0)) (by (with_reducible repeat first | apply zzc | apply zzd | apply zzb); exact BK412.out) hb); have n2_ := Aside0.mk (zzl (by repeat (first | (with_reducible first | exact HB.out | apply zzf | apply zza | apply zzg | refine zze ?_ GE411.out | refine zze ?_ GE412.out) | exact HB.out)) hb); clear BK412; clear HB; have BK412 := n1_; have HB := n2_; clear n1_ n2_; (try clear hi)) | ((with_reducible refine zzq (f := 25) rfl ?_); refine goesL_ (some 6) rfl rfl Try.func25 (by kernel_rfl) rfl #[.agg #[.int .i64 t413, .bool t414], .agg #[.int .i64 t415, .bool t416]] rfl (by (try simp only [List.map_toArray, List.map_cons, List.map_nil]); first | done | rfl | (simp only [List.length_drop, List.length_take]; rfl)) ?_; (with_reducible refine (fixed_Add.calls k t413 t414 t415 t416 t417 t418 _ A4.out).mono ?_); rintro e w12 ⟨rfl, hb⟩; refine ⟨_, rfl, ?_⟩; have n1_ := Aside0.mk (zzj (g := gb412) (o := .cells #[.int .i64 0, .bool false] 23 (0, 0)) (by (with_reducible repeat first | apply zzc | apply zzd | apply zzb); exact BK412.out) hb); have n2_ := Aside0.mk (zzl (by repeat (first | (with_reducible first | exact HB.out | apply zzf | apply zza | apply zzg | refine zze ?_ GE411.out | refine zze ?_ GE412.out) | exact HB.out)) hb); clear BK412; clear HB; have BK412 := n1_; have HB := n2_; clear n1_ n2_; (try clear hi)) | ((with_reducible refine zzq (f := 46) rfl ?_); refine goesL_ (some 7) rfl rfl Try.func46 (by kernel_rfl) rfl #[.agg #[.int .i64 t417, .bool t418]] rfl (by (try simp only [List.map_toArray, List.map_cons, List.map_nil]); first | done | rfl | (simp only [List.length_drop, List.length_take]; rfl)) ?_; (with_reducible refine (fixed_Sin.calls k t417 t418 t419 t420 _ A5.out).mono ?_); rintro e w13 ⟨rfl, hb⟩; refine ⟨_, rfl, ?_⟩; have n1_ := Aside0.mk (zzj (g := gb412) (o := .cells #[.int .i64 0, .bool false] 23 (0, 0)) (by (with_reducible repeat first | apply zzc | apply zzd | apply zzb); exact BK412.out) hb); have n2_ := Aside0.mk (zzl (by repeat (first | (with_reducible first | exact HB.out | apply zzf | apply zza | apply zzg | refine zze ?_ GE411.out | refine zze ?_ GE412.out) | exact HB.out)) hb); clear BK412; clear HB; have BK412 := n1_; have HB := n2_; clear n1_ n2_; have hcz14_0 : w13.cell? ⟨gb412, 0, none⟩ = some (.int .i64 0) := (zzi BK412.out 0).trans rfl; have hcz14_1 : w13.cell? ⟨gb412, 1, none⟩ = some (.bool false) := (zzi BK412.out 1).trans rfl; have hfz14_0 := zzh BK412.out 0; have hfz14_1 := zzh BK412.out 1))
  refine bodyPost_ret (results_cell_row rfl _ _ gb412 23 #[.int .i64 t419, .bool t420] (0, 0) _ rfl (by (with_reducible repeat first | apply zzc | apply zzd | apply zzb); refine zzo (cs := #[.int .i64 t419, .bool false]) ?_ 1 _ rfl; (with_reducible repeat first | apply zzc | apply zzd | apply zzb); refine zzo (cs := #[.int .i64 0, .bool false]) ?_ 0 _ rfl; (with_reducible repeat first | apply zzc | apply zzd | apply zzb); exact BK412.out) Try.underlying23 rfl (by kernel_rfl)) rfl ?_
  exact ⟨by first | rfl | (simp [zzn, zzm] <;> rfl) | (simp [*, zzn, zzm] <;> rfl), by repeat (first | (with_reducible first | exact HB.out | apply zzf | apply zza | apply zzg | refine zze ?_ GE411.out | refine zze ?_ GE412.out) | exact HB.out)⟩
end Go.Proofs.Ytenpiaafkmfjfaa.B

end
section
namespace Go.Proofs.Ytenpiaafkmfjfaa.B
open Go.RowKit Go.Proofs.YtenpiaafkmfjfaaW.PrintWords Go.Proofs.YtenpiaafkmfjfaaW.PrintLast
def mulP (p q : Int × Bool) : Int × Bool := (fitV ((p.1 * q.1).tdiv 4294967296), fitF ((p.1 * q.1).tdiv 4294967296) (p.2 || q.2))
def divP (p q : Int × Bool) : Int × Bool := (fitV ((p.1 * 4294967296).tdiv q.1), fitF ((p.1 * 4294967296).tdiv q.1) (p.2 || q.2))
def negP (p : Int × Bool) : Int × Bool := (-p.1, p.2)
def addP (p q : Int × Bool) : Int × Bool := (fitV (p.1 + q.1), fitF (p.1 + q.1) (p.2 || q.2))
def intP (n : Int) : Int × Bool := (n * 4294967296, false)
theorem mul_p (k : Nat) (hk : 3 ≤ k) {p q : Int × Bool} (hp : Snd p.1) (hq : Snd q.1) : fixed_Mul.f k p.1 p.2 q.1 q.2 = some (mulP p q) := by
  rw [mul_f k hk p.2 q.2 hp.i64 hq.i64, sv_id hp, sv_id hq, sf_id hp, sf_id hq]; rfl
theorem div_p (k : Nat) (hk : 14 ≤ k) {p q : Int × Bool} (hp : Snd p.1) (hq : Snd q.1) (h0 : q.1 ≠ 0) : fixed_Div.f k p.1 p.2 q.1 q.2 = some (divP p q) := by
  rw [div_f k hk p.2 q.2 hp.i64 hq.i64 (by rw [sv_id hq]; exact h0), sv_id hp, sv_id hq, sf_id hp, sf_id hq]; rfl
theorem neg_p {p : Int × Bool} (hp : Snd p.1) : fixed_Neg.f p.1 p.2 = some (negP p) := by
  rw [neg_f p.2 hp.i64, sv_id hp, sf_id hp]; rfl
theorem add_p (k : Nat) (hk : 7 ≤ k) {p q : Int × Bool} (hp : Snd p.1) (hq : Snd q.1) : fixed_Add.f k p.1 p.2 q.1 q.2 = some (addP p q) := by
  rw [add_f k hk p.2 q.2 hp.i64 hq.i64, sv_id hp, sv_id hq, sf_id hp, sf_id hq]; rfl
theorem int_p (k : Nat) (hk : 1 ≤ k) {n : Int} (h : -2147483647 ≤ n ∧ n ≤ 2147483647) : fixed_Int.f k n = some (intP n) := by
  rw [int_f k hk (by unfold I64; omega), fitV_id (by unfold Snd; omega), fitF_id (by unfold Snd; omega)]; rfl
theorem mulP_snd (p q : Int × Bool) : Snd (mulP p q).1 := fitV_snd _
theorem divP_snd (p q : Int × Bool) : Snd (divP p q).1 := fitV_snd _
theorem addP_snd (p q : Int × Bool) : Snd (addP p q).1 := fitV_snd _
theorem negP_snd {p : Int × Bool} (h : Snd p.1) : Snd (negP p).1 := h.neg
theorem intP_snd {n : Int} (h : -2147483647 ≤ n ∧ n ≤ 2147483647) : Snd (intP n).1 := by unfold intP Snd; dsimp only; omega
def stepP (x t : Int × Bool) (i : Int) : Int × Bool := negP (divP (mulP (mulP t x) x) (intP (2 * i * (2 * i + 1))))
def sinL (x : Int × Bool) : Nat → Int → Int × Bool → Int × Bool → Int × Bool
  | 0, _, _, s => s
  | n + 1, i, t, s => sinL x n (i + 1) (stepP x t i) (addP s (stepP x t i))
theorem stepP_snd (x t : Int × Bool) (i : Int) : Snd (stepP x t i).1 := negP_snd (divP_snd _ _)
def clampP (s : Int × Bool) : Int × Bool := (clampV s.1 (-4294967296) 4294967296, s.2)
theorem clamp_p (k : Nat) (hk : 3 ≤ k) {s : Int × Bool} (hs : Snd s.1) : fixed_Clamp.f k s.1 s.2 (-4294967296) false 4294967296 false = some (clampP s) := by
  have h1 : Snd (-4294967296) := by unfold Snd; omega
  have h2 : Snd 4294967296 := by unfold Snd; omega
  rw [clamp_f k hk _ _ _ hs.i64 h2.i64, sv_id hs, sv_id h1, sv_id h2, sf_id hs, sf_id h1, sf_id h2]
  unfold clampP
  simp
theorem sin_l0 (x : Int × Bool) (hx : Snd x.1) : ∀ (n : Nat) (i : Int) (k : Nat) (t s : Int × Bool), i + n = 8 → 0 ≤ i → n + 20 ≤ k → Snd t.1 → Snd s.1 →
    fixed_Sin.l0 k i x.1 x.2 t.1 t.2 s.1 s.2 = some (clampP (sinL x n (i + 1) t s)) := by
  intro n
  induction n with
  | zero =>
    intro i k t s hi h0 hk ht hs
    obtain ⟨k, rfl⟩ : ∃ z, k = z + 1 := ⟨k - 1, by omega⟩
    rw [fixed_Sin.l0, if_neg (by omega), int_p k (by omega) (by omega), Option.bind_some, int_p k (by omega) (by omega), Option.bind_some]
    show (fixed_Clamp.f k s.1 s.2 (-1 * 4294967296) false (1 * 4294967296) false).bind _ = _
    rw [show (-1 * 4294967296 : Int) = -4294967296 from rfl, show (1 * 4294967296 : Int) = 4294967296 from rfl, clamp_p k (by omega) hs, Option.bind_some]
    rfl
  | succ n ih =>
    intro i k t s hi h0 hk ht hs
    obtain ⟨k, rfl⟩ : ∃ z, k = z + 1 := ⟨k - 1, by omega⟩
    have e : wrap64 (wrap64 (2 * wrap64 (i + 1)) * wrap64 (wrap64 (2 * wrap64 (i + 1)) + 1)) = 2 * (i + 1) * (2 * (i + 1) + 1) := by
      have : 2 * (i + 1) * (2 * (i + 1) + 1) ≤ 16 * 17 := mul_bound (by omega) (by omega) (by omega) (by omega)
      have h2 := Int.mul_nonneg (show 0 ≤ 2 * (i + 1) by omega) (show 0 ≤ 2 * (i + 1) + 1 by omega)
      rw [wrap64_id (x := i + 1) (by omega) (by omega), wrap64_id (x := 2 * (i + 1)) (by omega) (by omega), wrap64_id (x := 2 * (i + 1) + 1) (by omega) (by omega), wrap64_id (by omega) (by omega)]
    have hb : 2 * (i + 1) * (2 * (i + 1) + 1) ≤ 16 * 17 := mul_bound (by omega) (by omega) (by omega) (by omega)
    have hb1 : 1 ≤ 2 * (i + 1) * (2 * (i + 1) + 1) := by
      have := mul_bound (a := 1) (b := 1) (A := 2 * (i + 1)) (B := 2 * (i + 1) + 1) (by omega) (by omega) (by omega) (by omega)
      omega
    rw [fixed_Sin.l0, if_pos (by omega), mul_p k (by omega) ht hx, Option.bind_some, mul_p k (by omega) (mulP_snd _ _) hx, Option.bind_some, e, int_p k (by omega) (by omega), Option.bind_some,
      div_p k (by omega) (mulP_snd _ _) (intP_snd (by omega)) (by unfold intP; dsimp only; omega), Option.bind_some, neg_p (divP_snd _ _), Option.bind_some, add_p k (by omega) hs (negP_snd (divP_snd _ _)), Option.bind_some, wrap64_id (x := i + 1) (by omega) (by omega)]
    exact ih (i + 1) k (stepP x t (i + 1)) (addP s (stepP x t (i + 1))) (by omega) (by omega) (by omega) (stepP_snd _ _ _) (addP_snd _ _)
def wrapV (v : Int) : Int := if v.tmod 26986075409 > 13493037704 then v.tmod 26986075409 - 26986075409 else if v.tmod 26986075409 < -13493037704 then v.tmod 26986075409 + 26986075409 else v.tmod 26986075409
theorem tmod_range (v : Int) : -26986075408 ≤ v.tmod 26986075409 ∧ v.tmod 26986075409 ≤ 26986075408 := by
  have h1 := Int.tmod_lt_of_pos v (show (0 : Int) < 26986075409 by decide)
  have h2 : -26986075409 < v.tmod 26986075409 := by
    have := Int.tmod_lt_of_pos (-v) (show (0 : Int) < 26986075409 by decide)
    rw [Int.neg_tmod] at this
    omega
  omega
theorem wrapV_range (v : Int) : -13493037704 ≤ wrapV v ∧ wrapV v ≤ 13493037704 := by
  have := tmod_range v
  unfold wrapV
  split
  · omega
  · split <;> omega
theorem wrap_f (v : Int) (f : Bool) : fixed_Wrap.f v f = some (wrapV (sv v), sf v f) := by
  have := tmod_range (sv v)
  unfold fixed_Wrap.f wrapV
  rw [sound_f, Option.bind_some]
  dsimp only
  by_cases h : (sv v).tmod 26986075409 > 13493037704
  · rw [if_pos h, if_pos h, wrap64_id (by omega) (by omega)]
  · rw [if_neg h, if_neg h]
    by_cases h2 : (sv v).tmod 26986075409 < -13493037704
    · rw [if_pos h2, if_pos h2, wrap64_id (by omega) (by omega)]
    · rw [if_neg h2, if_neg h2]
def foldV (w : Int) : Int := if w > 6746518852 then 13493037704 - w else if w < -6746518852 then -13493037704 - w else w
theorem foldV_snd (v : Int) : Snd (foldV (wrapV v)) := by
  have := wrapV_range v
  unfold foldV Snd
  split
  · omega
  · split <;> omega
def sinP (v : Int) (f : Bool) : Int × Bool := clampP (sinL (foldV (wrapV (sv v)), sf v f) 8 1 (foldV (wrapV (sv v)), sf v f) (foldV (wrapV (sv v)), sf v f))
theorem sin_f (k : Nat) (hk : 40 ≤ k) (v : Int) (f : Bool) : fixed_Sin.f k v f = some (sinP v f) := by
  obtain ⟨k, rfl⟩ : ∃ z, k = z + 1 := ⟨k - 1, by omega⟩
  have hr := wrapV_range (sv v)
  have hs := foldV_snd (sv v)
  have key := sin_l0 (foldV (wrapV (sv v)), sf v f) hs 8 0 k (foldV (wrapV (sv v)), sf v f) (foldV (wrapV (sv v)), sf v f) (by omega) (by omega) (by omega) hs hs
  have key2 : fixed_Sin.j0 (k + 1) (foldV (wrapV (sv v))) (sf v f) = some (sinP v f) := by rw [fixed_Sin.j0]; exact key
  unfold fixed_Sin.f
  rw [wrap_f, Option.bind_some]
  dsimp only
  unfold foldV at key2
  by_cases h : wrapV (sv v) > 6746518852
  · rw [if_pos h, wrap64_id (by omega) (by omega)]
    rw [if_pos h] at key2; exact key2
  · rw [if_neg h]
    rw [if_neg h] at key2
    by_cases h2 : wrapV (sv v) < -6746518852
    · rw [if_pos h2, wrap64_id (by omega) (by omega)]
      rw [if_pos h2] at key2; exact key2
    · rw [if_neg h2]
      rw [if_neg h2] at key2; exact key2
def cosP (v : Int) (f : Bool) : Int × Bool := sinP (wrapV (sv v) + 6746518852) (sf v f)
theorem cos_f (k : Nat) (hk : 40 ≤ k) (v : Int) (f : Bool) : fixed_Cos.f k v f = some (cosP v f) := by
  have hr := wrapV_range (sv v)
  have h1 : Snd 6746518852 := by unfold Snd; omega
  have h2 : Snd (wrapV (sv v)) := by unfold Snd; omega
  have h3 : Snd (wrapV (sv v) + 6746518852) := by unfold Snd; omega
  unfold fixed_Cos.f fixed_Of.f
  rw [wrap_f, Option.bind_some, sound_f, Option.bind_some, Option.bind_some]
  dsimp only
  rw [sv_id h1, sf_id h1, add_f k (by omega) (sf v f) false h2.i64 h1.i64, sv_id h2, sv_id h1, sf_id h2, sf_id h1, fitV_id h3, fitF_id h3, Option.bind_some, Bool.or_false]
  dsimp only
  rw [sin_f k hk, Option.bind_some]
  rfl
end Go.Proofs.Ytenpiaafkmfjfaa.B

end
section
namespace Go.Proofs.Ytenpiaafkmfjfaa.B
open Go.RowKit Go.Proofs.YtenpiaafkmfjfaaW.PrintWords Go.Proofs.YtenpiaafkmfjfaaW.PrintLast
theorem mul_q (k : Nat) (hk : 3 ≤ k) {p q : Int × Bool} (hp : Snd p.1) (hq : Snd q.1) : r_Mul.f k p.1 p.2 q.1 q.2 = some (mulP p q) := by
  rw [mul_r k hk p.2 q.2 hp.i64 hq.i64, sv_id hp, sv_id hq, sf_id hp, sf_id hq]; rfl
theorem div_q (k : Nat) (hk : 129 ≤ k) {p q : Int × Bool} (hp : Snd p.1) (hq : Snd q.1) (h0 : q.1 ≠ 0) : r_Div.f k p.1 p.2 q.1 q.2 = some (divP p q) := by
  rw [div_r k hk p.2 q.2 hp.i64 hq.i64 (by rw [sv_id hq]; exact h0), sv_id hp, sv_id hq, sf_id hp, sf_id hq]; rfl
theorem neg_q {p : Int × Bool} (hp : Snd p.1) : r_Neg.f p.1 p.2 = some (negP p) := by
  rw [neg_r p.2 hp.i64, sv_id hp, sf_id hp]; rfl
theorem add_q (k : Nat) (hk : 7 ≤ k) {p q : Int × Bool} (hp : Snd p.1) (hq : Snd q.1) : r_Add.f k p.1 p.2 q.1 q.2 = some (addP p q) := by
  rw [add_r k hk p.2 q.2 hp.i64 hq.i64, sv_id hp, sv_id hq, sf_id hp, sf_id hq]; rfl
theorem int_q (k : Nat) (hk : 1 ≤ k) {n : Int} (h : -2147483647 ≤ n ∧ n ≤ 2147483647) : r_Int.f k n = some (intP n) := by
  rw [int_r k hk (by unfold I64; omega), fitV_id (by unfold Snd; omega), fitF_id (by unfold Snd; omega)]; rfl
theorem clamp_q (k : Nat) (hk : 6 ≤ k) {s : Int × Bool} (hs : Snd s.1) : r_Clamp.f k s.1 s.2 (-4294967296) false 4294967296 false = some (clampP s) := by
  have h1 : Snd (-4294967296) := by unfold Snd; omega
  have h2 : Snd 4294967296 := by unfold Snd; omega
  rw [clamp_r k hk _ _ _ hs.i64 h2.i64, sv_id hs, sv_id h1, sv_id h2, sf_id hs, sf_id h1, sf_id h2]
  unfold clampP
  simp
theorem sin_l0r (x : Int × Bool) (hx : Snd x.1) : ∀ (n : Nat) (i : Int) (k : Nat) (t s : Int × Bool), i + n = 9 → 1 ≤ i → n + 140 ≤ k → Snd t.1 → Snd s.1 →
    r_Sin.l0 k i x.1 x.2 t.1 t.2 s.1 s.2 = some (clampP (sinL x n i t s)) := by
  intro n
  induction n with
  | zero =>
    intro i k t s hi h0 hk ht hs
    obtain ⟨k, rfl⟩ : ∃ z, k = z + 1 := ⟨k - 1, by omega⟩
    rw [r_Sin.l0, if_neg (by omega), clamp_q k (by omega) hs, Option.bind_some]
    rfl
  | succ n ih =>
    intro i k t s hi h0 hk ht hs
    obtain ⟨k, rfl⟩ : ∃ z, k = z + 1 := ⟨k - 1, by omega⟩
    have e : wrap64 (wrap64 (2 * i) * wrap64 (wrap64 (2 * i) + 1)) = 2 * i * (2 * i + 1) := by
      have : 2 * i * (2 * i + 1) ≤ 16 * 17 := mul_bound (by omega) (by omega) (by omega) (by omega)
      have h2 := Int.mul_nonneg (show 0 ≤ 2 * i by omega) (show 0 ≤ 2 * i + 1 by omega)
      rw [wrap64_id (x := 2 * i) (by omega) (by omega), wrap64_id (x := 2 * i + 1) (by omega) (by omega), wrap64_id (by omega) (by omega)]
    have hb : 2 * i * (2 * i + 1) ≤ 16 * 17 := mul_bound (by omega) (by omega) (by omega) (by omega)
    have hb1 : 1 ≤ 2 * i * (2 * i + 1) := by
      have := mul_bound (a := 1) (b := 1) (A := 2 * i) (B := 2 * i + 1) (by omega) (by omega) (by omega) (by omega)
      omega
    rw [r_Sin.l0, if_pos (by omega), mul_q k (by omega) ht hx, Option.bind_some, mul_q k (by omega) (mulP_snd _ _) hx, Option.bind_some, e, int_q k (by omega) (by omega), Option.bind_some,
      div_q k (by omega) (mulP_snd _ _) (intP_snd (by omega)) (by unfold intP; dsimp only; omega), Option.bind_some, neg_q (divP_snd _ _), Option.bind_some, add_q k (by omega) hs (negP_snd (divP_snd _ _)), Option.bind_some, wrap64_id (x := i + 1) (by omega) (by omega)]
    exact ih (i + 1) k (stepP x t i) (addP s (stepP x t i)) (by omega) (by omega) (by omega) (stepP_snd _ _ _) (addP_snd _ _)
theorem wrap_r (v : Int) (f : Bool) : r_Wrap.f v f = some (wrapV (sv v), sf v f) := by
  have := tmod_range (sv v)
  unfold r_Wrap.f wrapV
  rw [whole_f, Option.bind_some]
  dsimp only
  by_cases h : (sv v).tmod 26986075409 > 13493037704
  · rw [if_pos h, if_pos h, wrap64_id (x := (sv v).tmod 26986075409 - 26986075409) (by omega) (by omega), if_neg (by omega)]
  · rw [if_neg h, if_neg h]
    by_cases h2 : (sv v).tmod 26986075409 < -13493037704
    · rw [if_pos h2, if_pos h2, wrap64_id (by omega) (by omega)]
    · rw [if_neg h2, if_neg h2]
theorem sin_r (k : Nat) (hk : 160 ≤ k) (v : Int) (f : Bool) : r_Sin.f k v f = some (sinP v f) := by
  obtain ⟨k, rfl⟩ : ∃ z, k = z + 2 := ⟨k - 2, by omega⟩
  have hr := wrapV_range (sv v)
  have hs := foldV_snd (sv v)
  have key := sin_l0r (foldV (wrapV (sv v)), sf v f) hs 8 1 k (foldV (wrapV (sv v)), sf v f) (foldV (wrapV (sv v)), sf v f) (by omega) (by omega) (by omega) hs hs
  have key2 : r_Sin.j1 (k + 1) (foldV (wrapV (sv v))) (sf v f) = some (sinP v f) := by rw [r_Sin.j1]; exact key
  unfold r_Sin.f
  rw [wrap_r, Option.bind_some]
  dsimp only
  unfold foldV at key2
  by_cases h : wrapV (sv v) > 6746518852
  · rw [if_pos h] at key2
    rw [if_pos h, wrap64_id (by omega) (by omega), r_Sin.j0, if_neg (by omega)]
    exact key2
  · rw [if_neg h] at key2
    rw [if_neg h, r_Sin.j0]
    by_cases h2 : wrapV (sv v) < -6746518852
    · rw [if_pos h2] at key2
      rw [if_pos h2, wrap64_id (by omega) (by omega)]
      exact key2
    · rw [if_neg h2] at key2
      rw [if_neg h2]
      exact key2
theorem cos_r (k : Nat) (hk : 160 ≤ k) (v : Int) (f : Bool) : r_Cos.f k v f = some (cosP v f) := by
  have hr := wrapV_range (sv v)
  have h1 : Snd 6746518852 := by unfold Snd; omega
  have h2 : Snd (wrapV (sv v)) := by unfold Snd; omega
  have h3 : Snd (wrapV (sv v) + 6746518852) := by unfold Snd; omega
  unfold r_Cos.f
  rw [wrap_r, Option.bind_some]
  dsimp only
  rw [add_r k (by omega) (sf v f) false h2.i64 h1.i64, sv_id h2, sv_id h1, sf_id h2, sf_id h1, fitV_id h3, fitF_id h3, Option.bind_some, Bool.or_false]
  dsimp only
  rw [sin_r k hk, Option.bind_some]
  rfl
end Go.Proofs.Ytenpiaafkmfjfaa.B

end
section
namespace Go.Proofs.Ytenpiaafkmfjfaa.B
open Go.RowKit Go.Proofs.YtenpiaafkmfjfaaW.PrintWords Go.Proofs.YtenpiaafkmfjfaaW.PrintLast
set_option linter.unusedVariables false
set_option linter.unusedSimpArgs false
attribute [local go_sem high] eqA23
def l_FixedTurns.f (k : Nat) (a0_0 : Int) (a0_1 : Bool) : Option (Bool) := (fixed_Wrap.f a0_0 a0_1).bind fun bt503 => ((r_Wrap.f a0_0 a0_1).bind fun bt505 => (if (bt503.1 == bt505.1 && (bt503.2 == bt505.2)) = true then ((fixed_Sin.f k a0_0 a0_1).bind fun bt507 => ((r_Sin.f k a0_0 a0_1).bind fun bt509 => (if (bt507.1 == bt509.1 && (bt507.2 == bt509.2)) = true then ((fixed_Cos.f k a0_0 a0_1).bind fun bt511 => ((r_Cos.f k a0_0 a0_1).bind fun bt513 => (if (bt511.1 == bt513.1 && (bt511.2 == bt513.2)) = true then ((l_awake.f k).bind fun t515 => (some t515)) else (none)))) else (none)))) else (none)))
def l_FixedTurns.T1 : Bool × List (List Nat × List Nat) := (true, [([], []), ([0], [0]), ([], []), ([2, 1], [2]), ([1, 3], [1, 3]), ([4, 3], [4]), ([5], [5]), ([6, 5, 5], [5, 6]), ([5], [5]), ([8, 7, 5], [5, 8]), ([7, 9, 5], [5, 7, 9]), ([5, 10], [5, 10]), ([11, 9], [11]), ([12], [12]), ([13, 12, 12], [12, 13]), ([12], [12]), ([15, 14, 12], [12, 15]), ([14, 16, 12], [12, 14, 16]), ([12, 17], [12, 17]), ([18, 16], [18]), ([19, 19], [19]), ([19, 20], [19, 20]), ([21, 20, 0, 1, 2, 3, 4, 5, 6, 7, 8, 9, 10, 11, 12, 13, 14, 15, 16, 17, 18, 19, 20, 21], [21])])
def l_FixedTurns.B1 : List Nat := [0, 1, 0, 7, 15, 31, 63, 127, 63, 511, 1023, 2047, 4095, 8191, 16383, 8191, 65535, 131071, 262143, 524287, 1048575, 2097151, 4194303]
theorem l_FixedTurns.tab1 : rtab .any (opsOf Try.f15 1) = l_FixedTurns.T1 := by kernel_rfl
theorem l_FixedTurns.bits1 : waitsOk l_FixedTurns.T1.2 l_FixedTurns.B1 = true := by kernel_rfl
set_option maxHeartbeats 8000000 in
set_option maxRecDepth 100000 in
theorem l_FixedTurns.calls (k : Nat) (a0_0 : Int) (a0_1 : Bool) (r : Bool) (w : World) (h : l_FixedTurns.f k a0_0 a0_1 = some r) :
    Calls Try.prog 15 #[.agg #[.int .i64 a0_0, .bool a0_1]] w fun e w' => e = .returned (.bool r) ∧ Below w.heap.size w w' := by
  have hu23 := Try.underlying23
  have HB := Aside0.mk (Below.refl w.heap.size w)
  have H : ((fixed_Wrap.f a0_0 a0_1).bind fun bt503 => ((r_Wrap.f a0_0 a0_1).bind fun bt505 => (if (bt503.1 == bt505.1 && (bt503.2 == bt505.2)) = true then ((fixed_Sin.f k a0_0 a0_1).bind fun bt507 => ((r_Sin.f k a0_0 a0_1).bind fun bt509 => (if (bt507.1 == bt509.1 && (bt507.2 == bt509.2)) = true then ((fixed_Cos.f k a0_0 a0_1).bind fun bt511 => ((r_Cos.f k a0_0 a0_1).bind fun bt513 => (if (bt511.1 == bt513.1 && (bt511.2 == bt513.2)) = true then ((l_awake.f k).bind fun t515 => (some t515)) else (none)))) else (none)))) else (none)))) = some r := h
  clear h
  replace H := Option.bind_eq_some_iff.mp H
  obtain ⟨⟨t503, t504⟩, A20, H⟩ := H
  replace H : ((r_Wrap.f a0_0 a0_1).bind fun bt505 => (if (t503 == bt505.1 && (t504 == bt505.2)) = true then ((fixed_Sin.f k a0_0 a0_1).bind fun bt507 => ((r_Sin.f k a0_0 a0_1).bind fun bt509 => (if (bt507.1 == bt509.1 && (bt507.2 == bt509.2)) = true then ((fixed_Cos.f k a0_0 a0_1).bind fun bt511 => ((r_Cos.f k a0_0 a0_1).bind fun bt513 => (if (bt511.1 == bt513.1 && (bt511.2 == bt513.2)) = true then ((l_awake.f k).bind fun t515 => (some t515)) else (none)))) else (none)))) else (none))) = some r := H
  have A2 := Aside0.mk A20
  clear A20
  replace H := Option.bind_eq_some_iff.mp H
  obtain ⟨⟨t505, t506⟩, A30, H⟩ := H
  replace H : (if (t503 == t505 && (t504 == t506)) = true then ((fixed_Sin.f k a0_0 a0_1).bind fun bt507 => ((r_Sin.f k a0_0 a0_1).bind fun bt509 => (if (bt507.1 == bt509.1 && (bt507.2 == bt509.2)) = true then ((fixed_Cos.f k a0_0 a0_1).bind fun bt511 => ((r_Cos.f k a0_0 a0_1).bind fun bt513 => (if (bt511.1 == bt513.1 && (bt511.2 == bt513.2)) = true then ((l_awake.f k).bind fun t515 => (some t515)) else (none)))) else (none)))) else (none)) = some r := H
  have A3 := Aside0.mk A30
  clear A30
  by_cases c4 : (t503 == t505 && (t504 == t506)) = true
  · rw [if_pos c4] at H
    have c4b0 : (t503 == t505 && (t504 == t506)) = true := c4
    (try (have c4b1 : decide (t503 = t505 && (t504 == t506)) = true := by simpa using c4))
    (try (have c4b2 : (t503 == t505 && (t504 == t506)) = true := by simpa using c4))
    clear c4
    replace H := Option.bind_eq_some_iff.mp H
    obtain ⟨⟨t507, t508⟩, A50, H⟩ := H
    replace H : ((r_Sin.f k a0_0 a0_1).bind fun bt509 => (if (t507 == bt509.1 && (t508 == bt509.2)) = true then ((fixed_Cos.f k a0_0 a0_1).bind fun bt511 => ((r_Cos.f k a0_0 a0_1).bind fun bt513 => (if (bt511.1 == bt513.1 && (bt511.2 == bt513.2)) = true then ((l_awake.f k).bind fun t515 => (some t515)) else (none)))) else (none))) = some r := H
    have A5 := Aside0.mk A50
    clear A50
    replace H := Option.bind_eq_some_iff.mp H
    obtain ⟨⟨t509, t510⟩, A60, H⟩ := H
    replace H : (if (t507 == t509 && (t508 == t510)) = true then ((fixed_Cos.f k a0_0 a0_1).bind fun bt511 => ((r_Cos.f k a0_0 a0_1).bind fun bt513 => (if (bt511.1 == bt513.1 && (bt511.2 == bt513.2)) = true then ((l_awake.f k).bind fun t515 => (some t515)) else (none)))) else (none)) = some r := H
    have A6 := Aside0.mk A60
    clear A60
    by_cases c7 : (t507 == t509 && (t508 == t510)) = true
    · rw [if_pos c7] at H
      have c7b0 : (t507 == t509 && (t508 == t510)) = true := c7
      (try (have c7b1 : decide (t507 = t509 && (t508 == t510)) = true := by simpa using c7))
      (try (have c7b2 : (t507 == t509 && (t508 == t510)) = true := by simpa using c7))
      clear c7
      replace H := Option.bind_eq_some_iff.mp H
      obtain ⟨⟨t511, t512⟩, A80, H⟩ := H
      replace H : ((r_Cos.f k a0_0 a0_1).bind fun bt513 => (if (t511 == bt513.1 && (t512 == bt513.2)) = true then ((l_awake.f k).bind fun t515 => (some t515)) else (none))) = some r := H
      have A8 := Aside0.mk A80
      clear A80
      replace H := Option.bind_eq_some_iff.mp H
      obtain ⟨⟨t513, t514⟩, A90, H⟩ := H
      replace H : (if (t511 == t513 && (t512 == t514)) = true then ((l_awake.f k).bind fun t515 => (some t515)) else (none)) = some r := H
      have A9 := Aside0.mk A90
      clear A90
      by_cases c10 : (t511 == t513 && (t512 == t514)) = true
      · rw [if_pos c10] at H
        have c10b0 : (t511 == t513 && (t512 == t514)) = true := c10
        (try (have c10b1 : decide (t511 = t513 && (t512 == t514)) = true := by simpa using c10))
        (try (have c10b2 : (t511 == t513 && (t512 == t514)) = true := by simpa using c10))
        clear c10
        replace H := Option.bind_eq_some_iff.mp H
        obtain ⟨t515, A110, H⟩ := H
        replace H : (some t515) = some r := H
        have A11 := Aside0.mk A110
        clear A110
        obtain rfl := Option.some.inj H
        go_enter Try.func15, Try.ntmps15
        try go_wp2_with (first | ((with_reducible refine zzt (N := 1) rfl ?_); refine zzp ?hg (N := 1) ?hd (cs := #[.int .i64 a0_0, .bool a0_1]) (t := 23) ?hr ?_; (case hd => rfl); (case hg => rfl); (case hr => first | (go_simp; done) | (go_simp; rfl)); intro gb502 hg w12 hbox hb; have n0_ := Aside0.mk (zzl (by repeat (first | (with_reducible first | exact HB.out | apply zzf | apply zza | apply zzg) | exact HB.out)) hb); have n1_ := Aside0.mk (hbox); have n3_ := Aside0.mk ((by rw [hg]; exact (zzk (by repeat (first | (with_reducible first | exact HB.out | apply zzf | apply zza | apply zzg) | exact HB.out))) : w.heap.size ≤ gb502)); clear HB; have HB := n0_; have BK502 := n1_; have GE502 := n3_; clear n0_ n1_ n3_; clear hb hbox hg))
        have n0_ := Aside0.mk (zzd BK502.out)
        have n1_ := Aside0.mk (zzg HB.out)
        clear BK502
        clear HB
        have BK502 := n0_
        have HB := n1_
        clear n0_ n1_
        refine start_ (n := 23) (S := fun w' => w'.cell? ⟨gb502, 0, none⟩ = some (.int .i64 a0_0) ∧ w'.cell? ⟨gb502, 1, none⟩ = some (.bool a0_1)) (ds := []) #[false, false, false, false, false, false, false, false, false, false, false, false, false, false, false, false, false, false, false, false, false, false, false] (by kernel_rfl) rfl rfl ⟨(zzi BK502.out 0).trans rfl, (zzi BK502.out 1).trans rfl⟩ (fun hHeld => ?_); refine with_tabW l_FixedTurns.tab1 l_FixedTurns.bits1 (fun HT_ HW_ => ?_)
        generalize w12.drew = w13 at BK502 HB hHeld ⊢
        refine take_ (i := 0) (N := some 3) (v := ?_) (a' := ?_) #[true, false, false, false, false, false, false, false, false, false, false, false, false, false, false, false, false, false, false, false, false, false, false] rfl rfl (take_ofW HT_.out HW_.out (by kernel_rfl)) (fun _ _ _ h => h) (Or.inl ⟨by rfl, ?_⟩) hHeld ?_ ?_
        rotate_left
        · rintro w' ⟨s0, s1⟩
          go_simp
          with_reducible rfl
        rotate_left
        · simp only [Act.put, List.setIfInBounds_toArray, List.set_cons_zero, List.set_cons_succ, i64_w, i32_w]
          rfl
        refine take_ (i := 2) (N := some 5) (v := ?_) (a' := ?_) #[true, false, true, false, false, false, false, false, false, false, false, false, false, false, false, false, false, false, false, false, false, false, false] rfl rfl (take_ofW HT_.out HW_.out (by kernel_rfl)) (fun _ _ _ h => h) (Or.inl ⟨by rfl, ?_⟩) hHeld ?_ ?_
        rotate_left
        · rintro w' ⟨s0, s1⟩
          go_simp
          with_reducible rfl
        rotate_left
        · simp only [Act.put, List.setIfInBounds_toArray, List.set_cons_zero, List.set_cons_succ, i64_w, i32_w]
          rfl
        refine one_ (i := 1) (N := some 4) #[true, true, true, false, false, false, false, false, false, false, false, false, false, false, false, false, false, false, false, false, false, false, false] rfl rfl (one_of HT_.out (by kernel_rfl)) (by decide) (fun K hK => ?_)
        refine goes_ Try.func45 (by kernel_rfl) rfl #[.agg #[.int .i64 a0_0, .bool a0_1]] (by rfl) rfl rfl (by (try simp only [List.map_toArray, List.map_cons, List.map_nil]); first | done | rfl | (simp only [List.length_drop, List.length_take]; rfl)) ?_
        with_reducible refine (fixed_Wrap.calls a0_0 a0_1 t503 t504 _ A2.out).mono ?_
        rintro e w14 ⟨rfl, hb⟩
        refine ⟨_, rfl, ?_⟩
        have n0_ := Aside0.mk (zzj (g := gb502) (o := .cells #[.int .i64 a0_0, .bool a0_1] 23 (0, 0)) (by (with_reducible repeat first | apply zzc | apply zzd | apply zzb); exact BK502.out) hb)
        have n1_ := Aside0.mk (zzl (by repeat (first | (with_reducible first | exact HB.out | apply zzf | apply zza | apply zzg | refine zze ?_ GE502.out) | exact HB.out)) hb)
        clear BK502
        clear HB
        have BK502 := n0_
        have HB := n1_
        clear n0_ n1_
        (try clear hb)
        (try clear hb2)
        (try clear hk)
        (try clear hi)
        refine hK.out _ _ ⟨(zzi BK502.out 0).trans rfl, (zzi BK502.out 1).trans rfl⟩ (fun hHeld => ?_)
        clear hK K
        refine norm_ (a' := ?_) ?_ ?_
        rotate_left
        · show Act.put _ (some 4) _ = _
          simp only [Act.put, List.setIfInBounds_toArray, List.set_cons_zero, List.set_cons_succ, i64_w, i32_w]
          rfl
        refine one_ (i := 3) (N := some 6) #[true, true, true, true, false, false, false, false, false, false, false, false, false, false, false, false, false, false, false, false, false, false, false] rfl rfl (one_of HT_.out (by kernel_rfl)) (by decide) (fun K hK => ?_)
        refine goes_ Try.func69 (by kernel_rfl) rfl #[.agg #[.int .i64 a0_0, .bool a0_1]] (by rfl) rfl rfl (by (try simp only [List.map_toArray, List.map_cons, List.map_nil]); first | done | rfl | (simp only [List.length_drop, List.length_take]; rfl)) ?_
        with_reducible refine (r_Wrap.calls a0_0 a0_1 t505 t506 _ A3.out).mono ?_
        rintro e w15 ⟨rfl, hb⟩
        refine ⟨_, rfl, ?_⟩
        have n0_ := Aside0.mk (zzj (g := gb502) (o := .cells #[.int .i64 a0_0, .bool a0_1] 23 (0, 0)) (by (with_reducible repeat first | apply zzc | apply zzd | apply zzb); exact BK502.out) hb)
        have n1_ := Aside0.mk (zzl (by repeat (first | (with_reducible first | exact HB.out | apply zzf | apply zza | apply zzg | refine zze ?_ GE502.out) | exact HB.out)) hb)
        clear BK502
        clear HB
        have BK502 := n0_
        have HB := n1_
        clear n0_ n1_
        (try clear hb)
        (try clear hb2)
        (try clear hk)
        (try clear hi)
        refine hK.out _ _ ⟨(zzi BK502.out 0).trans rfl, (zzi BK502.out 1).trans rfl⟩ (fun hHeld => ?_)
        clear hK K
        refine norm_ (a' := ?_) ?_ ?_
        rotate_left
        · show Act.put _ (some 6) _ = _
          simp only [Act.put, List.setIfInBounds_toArray, List.set_cons_zero, List.set_cons_succ, i64_w, i32_w]
          rfl
        refine pure_ (i := 4) (N := some 7) (v := ?_) (a' := ?_) #[true, true, true, true, true, false, false, false, false, false, false, false, false, false, false, false, false, false, false, false, false, false, false] rfl rfl (any_of HT_.out (by kernel_rfl)) (fun _ _ _ h => h) (Or.inl ⟨by rfl, ?_⟩) ?_ ?_
        rotate_left
        · intro w'
          go_simp
          with_reducible rfl
        rotate_left
        · simp only [Act.put, List.setIfInBounds_toArray, List.set_cons_zero, List.set_cons_succ, i64_w, i32_w]
          rfl
        refine pure_ (i := 5) (N := some 8) (v := ?_) (a' := ?_) #[true, true, true, true, true, true, false, false, false, false, false, false, false, false, false, false, false, false, false, false, false, false, false] rfl rfl (any_of HT_.out (by kernel_rfl)) (fun _ _ _ h => h) (Or.inl ⟨by rfl, ?_⟩) ?_ ?_
        rotate_left
        · intro w'
          go_simp
          with_reducible rfl
        rotate_left
        · simp only [Act.put, List.setIfInBounds_toArray, List.set_cons_zero, List.set_cons_succ, i64_w, i32_w]
          rfl
        refine take_ (i := 6) (N := some 9) (v := ?_) (a' := ?_) #[true, true, true, true, true, true, true, false, false, false, false, false, false, false, false, false, false, false, false, false, false, false, false] rfl rfl (take_ofW HT_.out HW_.out (by kernel_rfl)) (fun _ _ _ h => h) (Or.inl ⟨by rfl, ?_⟩) hHeld ?_ ?_
        rotate_left
        · rintro w' ⟨s0, s1⟩
          go_simp
          with_reducible rfl
        rotate_left
        · simp only [Act.put, List.setIfInBounds_toArray, List.set_cons_zero, List.set_cons_succ, i64_w, i32_w]
          rfl
        refine take_ (i := 8) (N := some 11) (v := ?_) (a' := ?_) #[true, true, true, true, true, true, true, false, true, false, false, false, false, false, false, false, false, false, false, false, false, false, false] rfl rfl (take_ofW HT_.out HW_.out (by kernel_rfl)) (fun _ _ _ h => h) (Or.inl ⟨by rfl, ?_⟩) hHeld ?_ ?_
        rotate_left
        · rintro w' ⟨s0, s1⟩
          go_simp
          with_reducible rfl
        rotate_left
        · simp only [Act.put, List.setIfInBounds_toArray, List.set_cons_zero, List.set_cons_succ, i64_w, i32_w]
          rfl
        refine one_ (i := 7) (N := some 10) #[true, true, true, true, true, true, true, true, true, false, false, false, false, false, false, false, false, false, false, false, false, false, false] rfl rfl (one_of HT_.out (by kernel_rfl)) (by decide) (fun K hK => ?_)
        refine goes_ Try.func46 (by kernel_rfl) rfl #[.agg #[.int .i64 a0_0, .bool a0_1]] (by rfl) rfl rfl (by (try simp only [List.map_toArray, List.map_cons, List.map_nil]); first | done | rfl | (simp only [List.length_drop, List.length_take]; rfl)) ?_
        with_reducible refine (fixed_Sin.calls k a0_0 a0_1 t507 t508 _ A5.out).mono ?_
        rintro e w16 ⟨rfl, hb⟩
        refine ⟨_, rfl, ?_⟩
        have n0_ := Aside0.mk (zzj (g := gb502) (o := .cells #[.int .i64 a0_0, .bool a0_1] 23 (0, 0)) (by (with_reducible repeat first | apply zzc | apply zzd | apply zzb); exact BK502.out) hb)
        have n1_ := Aside0.mk (zzl (by repeat (first | (with_reducible first | exact HB.out | apply zzf | apply zza | apply zzg | refine zze ?_ GE502.out) | exact HB.out)) hb)
        clear BK502
        clear HB
        have BK502 := n0_
        have HB := n1_
        clear n0_ n1_
        (try clear hb)
        (try clear hb2)
        (try clear hk)
        (try clear hi)
        refine hK.out _ _ ⟨(zzi BK502.out 0).trans rfl, (zzi BK502.out 1).trans rfl⟩ (fun hHeld => ?_)
        clear hK K
        refine norm_ (a' := ?_) ?_ ?_
        rotate_left
        · show Act.put _ (some 10) _ = _
          simp only [Act.put, List.setIfInBounds_toArray, List.set_cons_zero, List.set_cons_succ, i64_w, i32_w]
          rfl
        refine one_ (i := 9) (N := some 12) #[true, true, true, true, true, true, true, true, true, true, false, false, false, false, false, false, false, false, false, false, false, false, false] rfl rfl (one_of HT_.out (by kernel_rfl)) (by decide) (fun K hK => ?_)
        refine goes_ Try.func70 (by kernel_rfl) rfl #[.agg #[.int .i64 a0_0, .bool a0_1]] (by rfl) rfl rfl (by (try simp only [List.map_toArray, List.map_cons, List.map_nil]); first | done | rfl | (simp only [List.length_drop, List.length_take]; rfl)) ?_
        with_reducible refine (r_Sin.calls k a0_0 a0_1 t509 t510 _ A6.out).mono ?_
        rintro e w17 ⟨rfl, hb⟩
        refine ⟨_, rfl, ?_⟩
        have n0_ := Aside0.mk (zzj (g := gb502) (o := .cells #[.int .i64 a0_0, .bool a0_1] 23 (0, 0)) (by (with_reducible repeat first | apply zzc | apply zzd | apply zzb); exact BK502.out) hb)
        have n1_ := Aside0.mk (zzl (by repeat (first | (with_reducible first | exact HB.out | apply zzf | apply zza | apply zzg | refine zze ?_ GE502.out) | exact HB.out)) hb)
        clear BK502
        clear HB
        have BK502 := n0_
        have HB := n1_
        clear n0_ n1_
        (try clear hb)
        (try clear hb2)
        (try clear hk)
        (try clear hi)
        refine hK.out _ _ ⟨(zzi BK502.out 0).trans rfl, (zzi BK502.out 1).trans rfl⟩ (fun hHeld => ?_)
        clear hK K
        refine norm_ (a' := ?_) ?_ ?_
        rotate_left
        · show Act.put _ (some 12) _ = _
          simp only [Act.put, List.setIfInBounds_toArray, List.set_cons_zero, List.set_cons_succ, i64_w, i32_w]
          rfl
        refine pure_ (i := 10) (N := some 13) (v := ?_) (a' := ?_) #[true, true, true, true, true, true, true, true, true, true, true, false, false, false, false, false, false, false, false, false, false, false, false] rfl rfl (any_of HT_.out (by kernel_rfl)) (fun _ _ _ h => h) (Or.inl ⟨by rfl, ?_⟩) ?_ ?_
        rotate_left
        · intro w'
          go_simp
          with_reducible rfl
        rotate_left
        · simp only [Act.put, List.setIfInBounds_toArray, List.set_cons_zero, List.set_cons_succ, i64_w, i32_w]
          rfl
        refine pure_ (i := 11) (N := some 14) (v := ?_) (a' := ?_) #[true, true, true, true, true, true, true, true, true, true, true, true, false, false, false, false, false, false, false, false, false, false, false] rfl rfl (any_of HT_.out (by kernel_rfl)) (fun _ _ _ h => h) (Or.inl ⟨by rfl, ?_⟩) ?_ ?_
        rotate_left
        · intro w'
          go_simp
          with_reducible rfl
        rotate_left
        · simp only [Act.put, List.setIfInBounds_toArray, List.set_cons_zero, List.set_cons_succ, i64_w, i32_w]
          rfl
        refine pure_ (i := 12) (N := some 15) (v := ?_) (a' := ?_) #[true, true, true, true, true, true, true, true, true, true, true, true, true, false, false, false, false, false, false, false, false, false, false] rfl rfl (any_of HT_.out (by kernel_rfl)) (fun _ _ _ h => h) (Or.inl ⟨by rfl, ?_⟩) ?_ ?_
        rotate_left
        · intro w'
          go_simp
          with_reducible rfl
        rotate_left
        · simp only [Act.put, List.setIfInBounds_toArray, List.set_cons_zero, List.set_cons_succ, i64_w, i32_w]
          rfl
        refine take_ (i := 13) (N := some 16) (v := ?_) (a' := ?_) #[true, true, true, true, true, true, true, true, true, true, true, true, true, true, false, false, false, false, false, false, false, false, false] rfl rfl (take_ofW HT_.out HW_.out (by kernel_rfl)) (fun _ _ _ h => h) (Or.inl ⟨by rfl, ?_⟩) hHeld ?_ ?_
        rotate_left
        · rintro w' ⟨s0, s1⟩
          go_simp
          with_reducible rfl
        rotate_left
        · simp only [Act.put, List.setIfInBounds_toArray, List.set_cons_zero, List.set_cons_succ, i64_w, i32_w]
          rfl
        refine take_ (i := 15) (N := some 18) (v := ?_) (a' := ?_) #[true, true, true, true, true, true, true, true, true, true, true, true, true, true, false, true, false, false, false, false, false, false, false] rfl rfl (take_ofW HT_.out HW_.out (by kernel_rfl)) (fun _ _ _ h => h) (Or.inl ⟨by rfl, ?_⟩) hHeld ?_ ?_
        rotate_left
        · rintro w' ⟨s0, s1⟩
          go_simp
          with_reducible rfl
        rotate_left
        · simp only [Act.put, List.setIfInBounds_toArray, List.set_cons_zero, List.set_cons_succ, i64_w, i32_w]
          rfl
        refine one_ (i := 14) (N := some 17) #[true, true, true, true, true, true, true, true, true, true, true, true, true, true, true, true, false, false, false, false, false, false, false] rfl rfl (one_of HT_.out (by kernel_rfl)) (by decide) (fun K hK => ?_)
        refine goes_ Try.func47 (by kernel_rfl) rfl #[.agg #[.int .i64 a0_0, .bool a0_1]] (by rfl) rfl rfl (by (try simp only [List.map_toArray, List.map_cons, List.map_nil]); first | done | rfl | (simp only [List.length_drop, List.length_take]; rfl)) ?_
        with_reducible refine (fixed_Cos.calls k a0_0 a0_1 t511 t512 _ A8.out).mono ?_
        rintro e w18 ⟨rfl, hb⟩
        refine ⟨_, rfl, ?_⟩
        have n0_ := Aside0.mk (zzj (g := gb502) (o := .cells #[.int .i64 a0_0, .bool a0_1] 23 (0, 0)) (by (with_reducible repeat first | apply zzc | apply zzd | apply zzb); exact BK502.out) hb)
        have n1_ := Aside0.mk (zzl (by repeat (first | (with_reducible first | exact HB.out | apply zzf | apply zza | apply zzg | refine zze ?_ GE502.out) | exact HB.out)) hb)
        clear BK502
        clear HB
        have BK502 := n0_
        have HB := n1_
        clear n0_ n1_
        (try clear hb)
        (try clear hb2)
        (try clear hk)
        (try clear hi)
        refine hK.out _ _ ⟨(zzi BK502.out 0).trans rfl, (zzi BK502.out 1).trans rfl⟩ (fun hHeld => ?_)
        clear hK K
        refine norm_ (a' := ?_) ?_ ?_
        rotate_left
        · show Act.put _ (some 17) _ = _
          simp only [Act.put, List.setIfInBounds_toArray, List.set_cons_zero, List.set_cons_succ, i64_w, i32_w]
          rfl
        refine one_ (i := 16) (N := some 19) #[true, true, true, true, true, true, true, true, true, true, true, true, true, true, true, true, true, false, false, false, false, false, false] rfl rfl (one_of HT_.out (by kernel_rfl)) (by decide) (fun K hK => ?_)
        refine goes_ Try.func71 (by kernel_rfl) rfl #[.agg #[.int .i64 a0_0, .bool a0_1]] (by rfl) rfl rfl (by (try simp only [List.map_toArray, List.map_cons, List.map_nil]); first | done | rfl | (simp only [List.length_drop, List.length_take]; rfl)) ?_
        with_reducible refine (r_Cos.calls k a0_0 a0_1 t513 t514 _ A9.out).mono ?_
        rintro e w19 ⟨rfl, hb⟩
        refine ⟨_, rfl, ?_⟩
        have n0_ := Aside0.mk (zzj (g := gb502) (o := .cells #[.int .i64 a0_0, .bool a0_1] 23 (0, 0)) (by (with_reducible repeat first | apply zzc | apply zzd | apply zzb); exact BK502.out) hb)
        have n1_ := Aside0.mk (zzl (by repeat (first | (with_reducible first | exact HB.out | apply zzf | apply zza | apply zzg | refine zze ?_ GE502.out) | exact HB.out)) hb)
        clear BK502
        clear HB
        have BK502 := n0_
        have HB := n1_
        clear n0_ n1_
        (try clear hb)
        (try clear hb2)
        (try clear hk)
        (try clear hi)
        refine hK.out _ _ ⟨(zzi BK502.out 0).trans rfl, (zzi BK502.out 1).trans rfl⟩ (fun hHeld => ?_)
        clear hK K
        refine norm_ (a' := ?_) ?_ ?_
        rotate_left
        · show Act.put _ (some 19) _ = _
          simp only [Act.put, List.setIfInBounds_toArray, List.set_cons_zero, List.set_cons_succ, i64_w, i32_w]
          rfl
        refine pure_ (i := 17) (N := some 20) (v := ?_) (a' := ?_) #[true, true, true, true, true, true, true, true, true, true, true, true, true, true, true, true, true, true, false, false, false, false, false] rfl rfl (any_of HT_.out (by kernel_rfl)) (fun _ _ _ h => h) (Or.inl ⟨by rfl, ?_⟩) ?_ ?_
        rotate_left
        · intro w'
          go_simp
          with_reducible rfl
        rotate_left
        · simp only [Act.put, List.setIfInBounds_toArray, List.set_cons_zero, List.set_cons_succ, i64_w, i32_w]
          rfl
        refine pure_ (i := 18) (N := some 21) (v := ?_) (a' := ?_) #[true, true, true, true, true, true, true, true, true, true, true, true, true, true, true, true, true, true, true, false, false, false, false] rfl rfl (any_of HT_.out (by kernel_rfl)) (fun _ _ _ h => h) (Or.inl ⟨by rfl, ?_⟩) ?_ ?_
        rotate_left
        · intro w'
          go_simp
          with_reducible rfl
        rotate_left
        · simp only [Act.put, List.setIfInBounds_toArray, List.set_cons_zero, List.set_cons_succ, i64_w, i32_w]
          rfl
        refine pure_ (i := 19) (N := some 22) (v := ?_) (a' := ?_) #[true, true, true, true, true, true, true, true, true, true, true, true, true, true, true, true, true, true, true, true, false, false, false] rfl rfl (any_of HT_.out (by kernel_rfl)) (fun _ _ _ h => h) (Or.inl ⟨by rfl, ?_⟩) ?_ ?_
        rotate_left
        · intro w'
          go_simp
          with_reducible rfl
        rotate_left
        · simp only [Act.put, List.setIfInBounds_toArray, List.set_cons_zero, List.set_cons_succ, i64_w, i32_w]
          rfl
        refine one_ (i := 20) (N := some 23) #[true, true, true, true, true, true, true, true, true, true, true, true, true, true, true, true, true, true, true, true, true, false, false] rfl rfl (one_of HT_.out (by kernel_rfl)) (by decide) (fun K hK => ?_)
        refine goes_ Try.func23 (by kernel_rfl) rfl #[] (by rfl) rfl rfl (by (try simp only [List.map_toArray, List.map_cons, List.map_nil]); first | done | rfl | (simp only [List.length_drop, List.length_take]; rfl)) ?_
        with_reducible refine (l_awake.calls k  t515 _ A11.out).mono ?_
        rintro e w20 ⟨rfl, hb⟩
        refine ⟨_, rfl, ?_⟩
        have n0_ := Aside0.mk (zzj (g := gb502) (o := .cells #[.int .i64 a0_0, .bool a0_1] 23 (0, 0)) (by (with_reducible repeat first | apply zzc | apply zzd | apply zzb); exact BK502.out) hb)
        have n1_ := Aside0.mk (zzl (by repeat (first | (with_reducible first | exact HB.out | apply zzf | apply zza | apply zzg | refine zze ?_ GE502.out) | exact HB.out)) hb)
        clear BK502
        clear HB
        have BK502 := n0_
        have HB := n1_
        clear n0_ n1_
        (try clear hb)
        (try clear hb2)
        (try clear hk)
        (try clear hi)
        refine hK.out _ _ ⟨(zzi BK502.out 0).trans rfl, (zzi BK502.out 1).trans rfl⟩ (fun hHeld => ?_)
        clear hK K
        refine norm_ (a' := ?_) ?_ ?_
        rotate_left
        · show Act.put _ (some 23) _ = _
          simp only [Act.put, List.setIfInBounds_toArray, List.set_cons_zero, List.set_cons_succ, i64_w, i32_w]
          rfl
        refine pure_ (i := 21) (N := some 24) (v := ?_) (a' := ?_) #[true, true, true, true, true, true, true, true, true, true, true, true, true, true, true, true, true, true, true, true, true, true, false] rfl rfl (any_of HT_.out (by kernel_rfl)) (fun _ _ _ h => h) (Or.inl ⟨by rfl, ?_⟩) ?_ ?_
        rotate_left
        · intro w'
          go_simp
          with_reducible rfl
        rotate_left
        · simp only [Act.put, List.setIfInBounds_toArray, List.set_cons_zero, List.set_cons_succ, i64_w, i32_w]
          rfl
        refine pure_ (i := 22) (N := some 2) (v := ?_) (a' := ?_) #[true, true, true, true, true, true, true, true, true, true, true, true, true, true, true, true, true, true, true, true, true, true, true] rfl rfl (any_of HT_.out (by kernel_rfl)) (fun _ _ _ h => h) (Or.inl ⟨by rfl, ?_⟩) ?_ ?_
        rotate_left
        · intro w'
          go_simp
          with_reducible rfl
        rotate_left
        · simp only [Act.put, List.setIfInBounds_toArray, List.set_cons_zero, List.set_cons_succ, i64_w, i32_w]
          rfl
        refine done_ (done_of HT_.out (by kernel_rfl)) ?_
        try go_wp2
        go_ret
        exact ⟨by first | rfl | (simp [zzn, zzm] <;> rfl) | (simp [*, zzn, zzm] <;> rfl), by repeat (first | (with_reducible first | exact HB.out | apply zzf | apply zza | apply zzg | refine zze ?_ GE502.out) | exact HB.out)⟩
      · rw [if_neg c10] at H
        have c10b0 : (t511 == t513 && (t512 == t514)) = false := by simpa using c10
        (try (have c10b1 : decide (t511 = t513 && (t512 == t514)) = false := by simpa using c10))
        (try (have c10b2 : (t511 == t513 && (t512 == t514)) = false := by simpa using c10))
        (try (have c10b3 : ¬ (t511 = t513 && (t512 == t514)) := by simpa using c10))
        clear c10
        exact absurd H (by simp)
    · rw [if_neg c7] at H
      have c7b0 : (t507 == t509 && (t508 == t510)) = false := by simpa using c7
      (try (have c7b1 : decide (t507 = t509 && (t508 == t510)) = false := by simpa using c7))
      (try (have c7b2 : (t507 == t509 && (t508 == t510)) = false := by simpa using c7))
      (try (have c7b3 : ¬ (t507 = t509 && (t508 == t510)) := by simpa using c7))
      clear c7
      exact absurd H (by simp)
  · rw [if_neg c4] at H
    have c4b0 : (t503 == t505 && (t504 == t506)) = false := by simpa using c4
    (try (have c4b1 : decide (t503 = t505 && (t504 == t506)) = false := by simpa using c4))
    (try (have c4b2 : (t503 == t505 && (t504 == t506)) = false := by simpa using c4))
    (try (have c4b3 : ¬ (t503 = t505 && (t504 == t506)) := by simpa using c4))
    clear c4
    exact absurd H (by simp)
end Go.Proofs.Ytenpiaafkmfjfaa.B

end
section
namespace Go.Proofs.Ytenpiaafkmfjfaa.B
open Go.RowKit
theorem fixedTurns_f (k : Nat) (hk : 160 ≤ k) (v : Int) (f : Bool) : l_FixedTurns.f k v f = some true := by
  unfold l_FixedTurns.f
  rw [wrap_f, Option.bind_some, wrap_r, Option.bind_some]
  dsimp only
  rw [if_pos (by simp), sin_f k (by omega), Option.bind_some, sin_r k hk, Option.bind_some, if_pos (by simp), cos_f k (by omega), Option.bind_some, cos_r k hk, Option.bind_some, if_pos (by simp), awake_f k (by omega)]
  rfl
theorem fixedTurns_walk (v : Int) (f : Bool) (w : World) (_hv : I64 v) :
    Calls Try.prog 15 #[.agg #[.int .i64 v, .bool f]] w fun e w' => e = .returned (.bool true) ∧ Below w.heap.size w w' :=
  l_FixedTurns.calls 160 v f true w (fixedTurns_f 160 (Nat.le_refl _) v f)
end Go.Proofs.Ytenpiaafkmfjfaa.B

end
section
namespace Go.Proofs.Ytenpiaafkmfjfaa.B
open Go.ChangeShapes Go.WideShapes Go.ChangeAt Go.RowKit Go.Joins
open Go.ChangeMaps (open_string shut_string)
set_option linter.unusedVariables false
set_option maxRecDepth 100000 in
theorem fixedTurns_lifted (os : Os) (started : os.Started) (H : Type) (enc : TypeId × Value → H) :
    ReturnsInHanded {} Try.checked os 15 .any (Rows.fixedTurnsSpec.pre6 enc Try.prog Try.f15 Rows.fixedTurnsRow.domain false) (Rows.fixedTurnsSpec.post enc Try.prog Try.f15 false true false false) := by
  refine returnsInHanded_of_change_sized (C := Try.checked) own started (by kernel_rfl) Try.func15
    (ChangeSpec.witness6 (enc := enc) (C := Try.checked) false ⟨#[], #[.agg #[.int .i64 0, .bool false]], []⟩ 8 (by kernel_rfl) (by kernel_rfl) (by kernel_rfl) (by kernel_rfl)) ?_
  intro W base args ds gs before hval0 hW hcnd hsz0 _
  have hsz : (DataW.weightsEach Try.prog (Try.f15.params.toList ++ Rows.fixedTurnsSpec.plain.varTypes Try.prog) (ds ++ gs)).all (· ≤ reachBytes) = true := hsz0
  have hval : ∀ (j : Nat) t v, Try.f15.params[j]? = some t → args[j]? = some v → Value.okWide Try.prog W .any base t v := hval0
  have hW' := hW
  obtain ⟨p, q, hA0, hV, rfl, hfz, hnd⟩ := hW
  have hA : DataW.TrodAll enc Try.prog W 0 (fun _ => true) true Try.f15.params.toList args.toList ds p := hA0
  rw [Try.params15] at hA hval hsz
  obtain ⟨v0, vs0, d0, ds0, p0, q0, hargs, rfl, rfl, h0, r0⟩ := trodAll_cons hA
  obtain ⟨rfl, rfl, rfl⟩ := trodAll_nil r0
  obtain rfl : args = #[v0] := by cases args; simp_all
  obtain ⟨rfl, rfl⟩ := trodVars_none hV
  obtain ⟨a0, f0, rfl, rfl, rfl, w0⟩ := open_num (hval 0 23 v0 rfl rfl) h0
  clear hA0 hval0 hsz0 hsz
  refine (fixedTurns_walk a0 f0 W (wf_i64 w0)).mono fun e W' ⟨he, bel⟩ => ?_
  subst he
  exact ⟨_, rfl, _, _, _, [], _, [], hW', trodAll_mk1 (shut_bool Try.underlying4 _), (trodAll_cons_mk (shut_num a0 f0 w0) trodAll_mk0), rfl, bel.frame _, fun h => by cases h⟩
theorem fixedTurns_over : Rows.fixedTurnsRow.holds Try.pinned (OpenSpec.ofChange Rows.fixedTurnsSpec) :=
  OpenClaim.holds_of_wide 15 Try.f15 rfl rfl rfl rfl rfl rfl rfl ⟨rfl, rfl, rfl, rfl, rfl⟩ rfl rfl rfl rfl rfl (by kernel_rfl) Try.func15 (by kernel_rfl)
    (of_decide_eq_true (by kernel_rfl)) (by unfold Func.isWrapper; first | (rw [if_pos (by decide +kernel)]; kernel_rfl) | (rw [if_neg (by decide +kernel)]; exact ⟨rfl, rfl⟩))
    (fun os started H enc _ => fixedTurns_lifted os started H enc)
end Go.Proofs.Ytenpiaafkmfjfaa.B
namespace Go.Proofs.Ytenpiaafkmfjfaa
theorem fixedTurns_holds : Rows.FixedTurnsSaid := B.fixedTurns_over
end Go.Proofs.Ytenpiaafkmfjfaa

end
#print axioms Go.Proofs.Ytenpiaafkmfjfaa.fixedTurns_holds
