/- FixedTurns: part 2 of the proof. -/
import Derived.Test.YtenpiaafkmfjfaaQFixedTurns1
import Derived.Test.YtenpiaafkmfjfaaRows
import Derived.ProofKit
import Derived.OpenShut
import Derived.ShutString
import Derived.ChangeOld
import Derived.SizedLaws
import Derived.Lib.SmallJoins
import Derived.Laws.Bits64
import Derived.Laws.Bits64b
import Derived.Test.YtenpiaafkmfjfaaProg
import Derived.Shelf.Strconv.Itoa0
import Derived.Laws.Externs
import Derived.RegionTactic
section
namespace Go.Proofs.Ytenpiaafkmfjfaa.B
open Go.ChangeShapes Go.WideShapes Go.ChangeAt Go.RowKit Go.Joins
theorem own : ownKnob Try.prog.godebug = none := by kernel_rfl
section
variable {H : Type} {enc : TypeId × Value → H} {w : World} {base : Nat} {spare : Nat → Bool} {held : Bool}
set_option maxRecDepth 100000 in
theorem open_num {r : Reach} {b0 : Nat} {v : Value} {d : DataW H} {p : List MemPlace} (hv : Value.okWide Try.prog w r b0 23 v) (h : DataW.Trod enc Try.prog w base spare held 23 v d p) :
    ∃ (a : Int) (f : Bool), v = .agg #[.int .i64 a, .bool f] ∧ d = .agg [.lit (.int .i64 a), .lit (.bool f)] ∧ p = [] ∧ (Lit.int .i64 a).wf = true := by
  obtain ⟨c0, c1, y0, y1, m, rfl, rfl, rfl, hy0, hy1⟩ := open_agg2 Try.underlying23 (by kernel_rfl) (by kernel_rfl) hv h
  obtain ⟨a, e0, rfl, wa⟩ := DataW.trod_int (k := .i64) (t := 2) Try.underlying2 hy0
  obtain ⟨f, e1, rfl⟩ := DataW.trod_bool (t := 4) Try.underlying4 hy1
  simp at e0 e1
  subst e0 e1
  exact ⟨a, f, rfl, rfl, rfl, wa⟩
set_option maxRecDepth 100000 in
theorem shut_num (a : Int) (f : Bool) (wa : (Lit.int .i64 a).wf = true) : DataW.Trod enc Try.prog w base spare held 23 (.agg #[.int .i64 a, .bool f]) (.agg [.lit (.int .i64 a), .lit (.bool f)]) [] :=
  shut_agg2 (y0 := (.lit (.int .i64 a), [])) (y1 := (.lit (.bool f), [])) Try.underlying23 (by kernel_rfl) (by kernel_rfl) ⟨1, by simp [DataW.trod, wa]⟩ ⟨1, by simp [DataW.trod]⟩
theorem wf_i64 {a : Int} (h : (Lit.int .i64 a).wf = true) : -9223372036854775808 ≤ a ∧ a ≤ 9223372036854775807 := by
  simp only [Lit.wf, IntKind.min, IntKind.max, IntKind.signed, IntKind.bits, Bool.and_eq_true, decide_eq_true_eq, if_true] at h
  omega
end
end Go.Proofs.Ytenpiaafkmfjfaa.B

end
section
namespace Go.Proofs.Ytenpiaafkmfjfaa.B
open Go.RowKit
def fitV (x : Int) : Int := if 9223372036854775807 < x then 9223372036854775807 else if x < -9223372036854775807 then -9223372036854775807 else x
def fitF (x : Int) (f : Bool) : Bool := if 9223372036854775807 < x then true else if x < -9223372036854775807 then true else f
def Snd (v : Int) : Prop := -9223372036854775807 ≤ v ∧ v ≤ 9223372036854775807
theorem fitV_snd (x : Int) : Snd (fitV x) := by
  unfold fitV Snd
  by_cases h : 9223372036854775807 < x
  · rw [if_pos h]; omega
  · rw [if_neg h]
    by_cases h2 : x < -9223372036854775807
    · rw [if_pos h2]; omega
    · rw [if_neg h2]; omega
theorem fitV_id {x : Int} (h : Snd x) : fitV x = x := by
  unfold Snd at h; unfold fitV; rw [if_neg (by omega), if_neg (by omega)]
theorem fitF_id {x : Int} (h : Snd x) (f : Bool) : fitF x f = f := by
  unfold Snd at h; unfold fitF; rw [if_neg (by omega), if_neg (by omega)]
structure Ex (n : Bool) (lo hi x : Int) : Prop where
  lo0 : 0 ≤ lo
  lo1 : lo < 18446744073709551616
  hi0 : 0 ≤ hi
  hi1 : hi < 9223372036854775808
  p : n = false → x = hi * 18446744073709551616 + lo
  m : n = true → x = -(hi * 18446744073709551616 + lo)
theorem Ex.abs {n : Bool} {lo hi x : Int} (h : Ex n lo hi x) : (x.natAbs : Int) = hi * 18446744073709551616 + lo := by
  have h0 := h.lo0; have h1 := h.hi0
  cases n
  · have := h.p rfl; omega
  · have := h.m rfl; omega
theorem wrap64_id {x : Int} (h1 : -9223372036854775808 ≤ x) (h2 : x ≤ 9223372036854775807) : wrap64 x = x := by unfold wrap64; omega
theorem u64_id {x : Int} (h1 : 0 ≤ x) (h2 : x < 18446744073709551616) : IntKind.u64.wrap x = x := by rw [IntKind.wrap_u64]; omega
theorem or_add (i : Nat) (a b : Nat) (hb : b < 2 ^ i) (h : 2 ^ i * a + b < 18446744073709551616) : bits .or .u64 ((2 ^ i * a : Nat) : Int) (b : Int) = ((2 ^ i * a + b : Nat) : Int) := by
  rw [bits_or_u64_nat _ _ (by omega) (by omega), ← Nat.two_pow_add_eq_or_of_lt hb a]
theorem or32 (a b : Int) (ha : 0 ≤ a) (hb0 : 0 ≤ b) (hb : b < 4294967296) (h : a < 4294967296) : bits .or .u64 (a * 4294967296) b = a * 4294967296 + b := by
  obtain ⟨a, rfl⟩ := Int.eq_ofNat_of_zero_le ha
  obtain ⟨b, rfl⟩ := Int.eq_ofNat_of_zero_le hb0
  have e := or_add 32 a b (by simp; omega) (by simp; omega)
  have e1 : ((2 ^ 32 * a : Nat) : Int) = (a : Int) * 4294967296 := by simp; omega
  have e2 : ((2 ^ 32 * a + b : Nat) : Int) = (a : Int) * 4294967296 + (b : Int) := by simp; omega
  rw [e1, e2] at e
  exact e
end Go.Proofs.Ytenpiaafkmfjfaa.B

end
section
namespace Go.Proofs.Ytenpiaafkmfjfaa.B
open Go.RowKit Go.Proofs.YtenpiaafkmfjfaaW.PrintWords Go.Proofs.YtenpiaafkmfjfaaW.PrintLast
set_option linter.unusedVariables false
set_option linter.unusedSimpArgs false
def errW : Option Int → Value
  | none => .nilIface
  | some c => .iface 0 (.int .i64 c)
theorem zzn : errW none = .nilIface := rfl
theorem zzm (c : Int) : errW (some c) = .iface 0 (.int .i64 c) := rfl
theorem info2 : (Try.prog.info? 2).map (fun i => (i.zero, i.size, i.bytes)) = some (some (.int .i64 0), 1, 8) := by kernel_rfl
theorem info5 : (Try.prog.info? 5).map (fun i => (i.zero, i.size, i.bytes)) = some (some (.int .u8 0), 1, 1) := by kernel_rfl
structure S23 where
  f0 : Int
  f1 : Bool
def z23 : S23 := ⟨(0 : Int), false⟩
def k23 : Kd S23 := Kd.iso (Kd.pair (Kd.int .i64) Kd.bool) (fun x : S23 => (x.f0, x.f1))
theorem k23_open {w : World} {x : S23} {cs : List Value} (h : k23.K w x cs) : cs = [.int .i64 x.f0, .bool x.f1] := by
  obtain ⟨_, _, rfl, rfl, rfl⟩ := h
  exact rfl
theorem k23_mkM (w : World) (base : Nat) (ok : Nat → Prop) (x : S23)  : k23.M w base ok x [.int .i64 x.f0, .bool x.f1] := ⟨[.int .i64 x.f0], [.bool x.f1], rfl, rfl, rfl⟩
def rd_T23 (xs : List S23) (i : Int) : S23 := xs.getD i.toNat z23
theorem at_T23 {w : World} {A : Option Addr} {n : Nat} {xs : List S23} (h : Kd.C k23 w A n xs) (i : Int) (h0 : 0 ≤ i) (h1 : i < n) : ∃ ad , A = some ad ∧ w.cell? (ad.add (i.toNat * 2)) = some (.int .i64 (rd_T23 xs i).f0) ∧ w.cell? ⟨(ad.add (i.toNat * 2)).block, (ad.add (i.toNat * 2)).off + 1, none⟩ = some (.bool (rd_T23 xs i).f1) := by
  obtain ⟨ad, c, e, _, hK, hc0⟩ := Kd.C_get h z23 i h0 h1
  have hc : ∀ j u, c[j]? = some u → w.cell? (ad.add (i.toNat * 2 + j)) = some u := hc0
  obtain rfl := k23_open hK
  exact ⟨ad, e, hc 0 _ rfl, by rw [← add_field _ _ 1 (by omega)]; exact hc 1 _ rfl⟩
end Go.Proofs.Ytenpiaafkmfjfaa.B

end
section
namespace Go.Proofs.Ytenpiaafkmfjfaa.B
open Go.Shelf Go.RowKit
def lays129_ren : Go.Shelf.Ren := ⟨fun | 129 => 113 | n => n, fun | 53 => 56 | 3 => 3 | 4 => 4 | 46 => 31 | 5 => 5 | 9 => 9 | n => n, fun | n => n⟩
theorem lays129 : Go.Proofs.Lays.n129 Try.prog lays129_ren := {
  mixed := by kernel_rfl
  f129 := Try.func113.trans (congrArg some (by kernel_rfl))
  t3 := Try.underlying3
  a3 := Try.isAgg3
  z3 := Try.sizeOf3
  v3 := Try.zeroValue3
  t4 := Try.underlying4
  a4 := Try.isAgg4
  z4 := Try.sizeOf4
  v4 := Try.zeroValue4
  t5 := Try.underlying5
  a5 := Try.isAgg5
  z5 := Try.sizeOf5
  v5 := Try.zeroValue5
  t9 := Try.underlying9
  a9 := Try.isAgg9
  z9 := Try.sizeOf9
  v9 := Try.zeroValue9
  t46 := Try.underlying31
  a46 := Try.isAgg31
  z46 := Try.sizeOf31
  v46 := Try.zeroValue31
  t53 := Try.underlying56
  a53 := Try.isAgg56
  z53 := Try.sizeOf56
  v53 := Try.zeroValue56 }
theorem shelf_Len64 (x : Int) (w : World) (h0 : 0 ≤ x) (h1 : x ≤ 18446744073709551615) :
    Calls Try.prog 113 #[.int .u64 x] w fun e w' => e = .returned (.int .i64 (Lib.bitLen x.toNat)) ∧ w' = w := Any.bits_Len64 lays129 x w h0 h1
def bits_Len64.f (a0 : Int) : Option Int := if 0 ≤ a0 then (if a0 ≤ 18446744073709551615 then some (Lib.bitLen a0.toNat : Int) else none) else none
theorem bits_Len64.calls (a0 r : Int) (w : World) (h : bits_Len64.f a0 = some r) :
    Calls Try.prog 113 #[.int .u64 a0] w fun e w' => e = .returned (.int .i64 r) ∧ Below w.heap.size w w' := by
  unfold bits_Len64.f at h
  by_cases h0 : 0 ≤ a0
  · by_cases h1 : a0 ≤ 18446744073709551615
    · rw [if_pos h0, if_pos h1] at h
      obtain rfl := Option.some.inj h
      refine (shelf_Len64 a0 w h0 h1).mono ?_
      rintro e w' ⟨rfl, rfl⟩
      exact ⟨rfl, Below.refl _ _⟩
    · rw [if_pos h0, if_neg h1] at h
      cases h
  · rw [if_neg h0] at h
    cases h
end Go.Proofs.Ytenpiaafkmfjfaa.B

end
section
namespace Go.Proofs.Ytenpiaafkmfjfaa.B
open Go.RowKit Go.Proofs.YtenpiaafkmfjfaaW.PrintWords Go.Proofs.YtenpiaafkmfjfaaW.PrintLast
set_option linter.unusedVariables false
set_option linter.unusedSimpArgs false
def fixed_of.f (a0 : Int) : Option (Bool × Int × Int) := if a0 < 0 then (some (true, IntKind.u64.wrap (-(IntKind.u64.wrap (a0))), 0)) else (some (false, IntKind.u64.wrap (a0), 0))
set_option maxHeartbeats 8000000 in
set_option maxRecDepth 100000 in
theorem fixed_of.calls (a0 : Int) (r1 : Bool) (r2 : Int) (r3 : Int) (w : World) (h : fixed_of.f a0 = some (r1, r2, r3)) :
    Calls Try.prog 82 #[.int .i64 a0] w fun e w' => e = .returned (.agg #[.bool r1, .int .u64 r2, .int .u64 r3]) ∧ Below w.heap.size w w' := by
  have hu60 := Try.underlying60
  have hu58 := Try.underlying58
  have HB := Aside0.mk (Below.refl w.heap.size w)
  have H : (if a0 < 0 then (some (true, IntKind.u64.wrap (-(IntKind.u64.wrap (a0))), 0)) else (some (false, IntKind.u64.wrap (a0), 0))) = some (r1, r2, r3) := h
  clear h
  by_cases c2 : a0 < 0
  · rw [if_pos c2] at H
    have c2b0 : decide (a0 < 0) = true := decide_eq_true c2
    clear c2
    simp only [Option.some.injEq, Prod.mk.injEq] at H
    obtain ⟨rfl, rfl, rfl⟩ := H
    go_enter Try.func82, Try.ntmps82
    go_wp2_with (first | ((with_reducible refine zzt (N := 2) rfl ?_); refine zzp ?hg (N := 2) ?hd (cs := #[.bool false, .int .u64 0, .int .u64 0]) (t := 60) ?hr ?_; (case hd => rfl); (case hg => rfl); (case hr => first | (go_simp; done) | (go_simp; rfl)); intro gb101 hg w3 hbox hb; have n0_ := Aside0.mk (zzl (by repeat (first | (with_reducible first | exact HB.out | apply zzf | apply zza | apply zzg) | exact HB.out)) hb); have n1_ := Aside0.mk (hbox); have n3_ := Aside0.mk ((by rw [hg]; exact (zzk (by repeat (first | (with_reducible first | exact HB.out | apply zzf | apply zza | apply zzg) | exact HB.out))) : w.heap.size ≤ gb101)); clear HB; have HB := n0_; have BK101 := n1_; have GE101 := n3_; clear n0_ n1_ n3_; clear hb hbox hg; have hcz4_0 : w3.cell? ⟨gb101, 0, none⟩ = some (.bool false) := (zzi BK101.out 0).trans rfl; have hcz4_1 : w3.cell? ⟨gb101, 1, none⟩ = some (.int .u64 0) := (zzi BK101.out 1).trans rfl; have hcz4_2 : w3.cell? ⟨gb101, 2, none⟩ = some (.int .u64 0) := (zzi BK101.out 2).trans rfl; have hfz4_0 := zzh BK101.out 0; have hfz4_1 := zzh BK101.out 1; have hfz4_2 := zzh BK101.out 2))
    refine bodyPost_ret (results_cell_row rfl _ _ gb101 60 #[.bool true, .int .u64 (IntKind.u64.wrap (-(IntKind.u64.wrap (a0)))), .int .u64 0] (0, 0) _ rfl (by (with_reducible repeat first | apply zzc | apply zzd | apply zzb); refine zzo (cs := #[.bool true, .int .u64 (IntKind.u64.wrap (-(IntKind.u64.wrap (a0)))), .int .u64 0]) ?_ 2 _ rfl; (with_reducible repeat first | apply zzc | apply zzd | apply zzb); refine zzo (cs := #[.bool true, .int .u64 0, .int .u64 0]) ?_ 1 _ rfl; (with_reducible repeat first | apply zzc | apply zzd | apply zzb); refine zzo (cs := #[.bool false, .int .u64 0, .int .u64 0]) ?_ 0 _ rfl; (with_reducible repeat first | apply zzc | apply zzd | apply zzb); exact BK101.out) Try.underlying60 rfl (by kernel_rfl)) rfl ?_
    exact ⟨by first | rfl | (simp [zzn, zzm] <;> rfl) | (simp [*, zzn, zzm] <;> rfl), by repeat (first | (with_reducible first | exact HB.out | apply zzf | apply zza | apply zzg | refine zze ?_ GE101.out) | exact HB.out)⟩
  · rw [if_neg c2] at H
    have c2b0 : decide (a0 < 0) = false := decide_eq_false c2
    clear c2
    simp only [Option.some.injEq, Prod.mk.injEq] at H
    obtain ⟨rfl, rfl, rfl⟩ := H
    go_enter Try.func82, Try.ntmps82
    go_wp2_with (first | ((with_reducible refine zzt (N := 2) rfl ?_); refine zzp ?hg (N := 2) ?hd (cs := #[.bool false, .int .u64 0, .int .u64 0]) (t := 60) ?hr ?_; (case hd => rfl); (case hg => rfl); (case hr => first | (go_simp; done) | (go_simp; rfl)); intro gb101 hg w5 hbox hb; have n0_ := Aside0.mk (zzl (by repeat (first | (with_reducible first | exact HB.out | apply zzf | apply zza | apply zzg) | exact HB.out)) hb); have n1_ := Aside0.mk (hbox); have n3_ := Aside0.mk ((by rw [hg]; exact (zzk (by repeat (first | (with_reducible first | exact HB.out | apply zzf | apply zza | apply zzg) | exact HB.out))) : w.heap.size ≤ gb101)); clear HB; have HB := n0_; have BK101 := n1_; have GE101 := n3_; clear n0_ n1_ n3_; clear hb hbox hg; have hcz6_0 : w5.cell? ⟨gb101, 0, none⟩ = some (.bool false) := (zzi BK101.out 0).trans rfl; have hcz6_1 : w5.cell? ⟨gb101, 1, none⟩ = some (.int .u64 0) := (zzi BK101.out 1).trans rfl; have hcz6_2 : w5.cell? ⟨gb101, 2, none⟩ = some (.int .u64 0) := (zzi BK101.out 2).trans rfl; have hfz6_0 := zzh BK101.out 0; have hfz6_1 := zzh BK101.out 1; have hfz6_2 := zzh BK101.out 2))
    refine bodyPost_ret (results_cell_row rfl _ _ gb101 60 #[.bool false, .int .u64 (IntKind.u64.wrap (a0)), .int .u64 0] (0, 0) _ rfl (by (with_reducible repeat first | apply zzc | apply zzd | apply zzb); refine zzo (cs := #[.bool false, .int .u64 (IntKind.u64.wrap (a0)), .int .u64 0]) ?_ 2 _ rfl; (with_reducible repeat first | apply zzc | apply zzd | apply zzb); refine zzo (cs := #[.bool false, .int .u64 0, .int .u64 0]) ?_ 1 _ rfl; (with_reducible repeat first | apply zzc | apply zzd | apply zzb); refine zzo (cs := #[.bool false, .int .u64 0, .int .u64 0]) ?_ 0 _ rfl; (with_reducible repeat first | apply zzc | apply zzd | apply zzb); exact BK101.out) Try.underlying60 rfl (by kernel_rfl)) rfl ?_
    exact ⟨by first | rfl | (simp [zzn, zzm] <;> rfl) | (simp [*, zzn, zzm] <;> rfl), by repeat (first | (with_reducible first | exact HB.out | apply zzf | apply zza | apply zzg | refine zze ?_ GE101.out) | exact HB.out)⟩
def fixed_exact_fit.j0 : Nat → Bool → Bool → Bool → Int → Int → Int → Bool → Option (Int × Bool)
  | 0, _, _, _, _, _, _, _ => none
  | k + 1, x1, x16, x103000, x103001, x103002, x105000, x105001 => if x16 = true then (if x103000 = true then (some (wrap64 (-(wrap64 (x103001))), x1)) else (some (wrap64 (x103001), x1))) else (if x103000 = true then (some (wrap64 (-x105000), x105001)) else (some (x105000, x105001)))
def fixed_exact_fit.f (k : Nat) (a0_0 : Bool) (a0_1 : Int) (a0_2 : Int) (a1 : Bool) : Option (Int × Bool) := if a0_2 = 0 then (fixed_exact_fit.j0 k a1 (decide (a0_1 ≤ 9223372036854775807)) a0_0 a0_1 a0_2 9223372036854775807 true) else (fixed_exact_fit.j0 k a1 false a0_0 a0_1 a0_2 9223372036854775807 true)
set_option maxHeartbeats 8000000 in
set_option maxRecDepth 100000 in
theorem fixed_exact_fit.calls (k : Nat) (a0_0 : Bool) (a0_1 : Int) (a0_2 : Int) (a1 : Bool) (r1 : Int) (r2 : Bool) (w : World) (h : fixed_exact_fit.f k a0_0 a0_1 a0_2 a1 = some (r1, r2)) :
    Calls Try.prog 83 #[.agg #[.bool a0_0, .int .u64 a0_1, .int .u64 a0_2], .bool a1] w fun e w' => e = .returned (.agg #[.int .i64 r1, .bool r2]) ∧ Below w.heap.size w w' := by
  have hu60 := Try.underlying60
  have hu23 := Try.underlying23
  have hu58 := Try.underlying58
  have HB := Aside0.mk (Below.refl w.heap.size w)
  have H : (if a0_2 = 0 then (fixed_exact_fit.j0 k a1 (decide (a0_1 ≤ 9223372036854775807)) a0_0 a0_1 a0_2 9223372036854775807 true) else (fixed_exact_fit.j0 k a1 false a0_0 a0_1 a0_2 9223372036854775807 true)) = some (r1, r2) := h
  clear h
  have HC3 := Aside0.mk H
  clear H
  go_enter Try.func83, Try.ntmps83
  go_upto_region 2 with (first | ((with_reducible refine zzt (N := 2) rfl ?_); refine zzp ?hg (N := 2) ?hd (cs := #[.bool a0_0, .int .u64 a0_1, .int .u64 a0_2]) (t := 60) ?hr ?_; (case hd => rfl); (case hg => rfl); (case hr => first | (go_simp; done) | (go_simp; rfl)); intro gb102 hg w4 hbox hb; have n0_ := Aside0.mk (zzl (by repeat (first | (with_reducible first | exact HB.out | apply zzf | apply zza | apply zzg) | exact HB.out)) hb); have n1_ := Aside0.mk (hbox); have n3_ := Aside0.mk ((by rw [hg]; exact (zzk (by repeat (first | (with_reducible first | exact HB.out | apply zzf | apply zza | apply zzg) | exact HB.out))) : w.heap.size ≤ gb102)); clear HB; have HB := n0_; have BK102 := n1_; have GE102 := n3_; clear n0_ n1_ n3_; clear hb hbox hg) | ((with_reducible refine zzt (N := 4) rfl ?_); refine zzp ?hg (N := 4) ?hd (cs := #[.int .i64 0, .bool false]) (t := 23) ?hr ?_; (case hd => rfl); (case hg => rfl); (case hr => first | (go_simp; done) | (go_simp; rfl)); intro gb103 hg w5 hbox hb; have n0_ := Aside0.mk (zzj (g := gb102) (o := .cells #[.bool a0_0, .int .u64 a0_1, .int .u64 a0_2] 60 (0, 0)) (by (with_reducible repeat first | apply zzc | apply zzd | apply zzb); exact BK102.out) hb); have n1_ := Aside0.mk (zzl (by repeat (first | (with_reducible first | exact HB.out | apply zzf | apply zza | apply zzg | refine zze ?_ GE102.out) | exact HB.out)) hb); have n2_ := Aside0.mk (hbox); have n4_ := Aside0.mk ((by rw [hg]; exact (zzk (by repeat (first | (with_reducible first | exact HB.out | apply zzf | apply zza | apply zzg | refine zze ?_ GE102.out) | exact HB.out))) : w.heap.size ≤ gb103)); have n5_ := Aside0.mk ((by rw [hg]; exact Nat.ne_of_lt (zzr (g := gb102) (o := .cells #[.bool a0_0, .int .u64 a0_1, .int .u64 a0_2] 60 (0, 0)) (by (with_reducible repeat first | apply zzc | apply zzd | apply zzb); exact BK102.out)) : gb102 ≠ gb103)); have n6_ := Aside0.mk ((by rw [hg]; exact Nat.ne_of_gt (zzr (g := gb102) (o := .cells #[.bool a0_0, .int .u64 a0_1, .int .u64 a0_2] 60 (0, 0)) (by (with_reducible repeat first | apply zzc | apply zzd | apply zzb); exact BK102.out)) : gb103 ≠ gb102)); clear BK102; clear HB; have BK102 := n0_; have HB := n1_; have BK103 := n2_; have GE103 := n4_; have NB102_103 := n5_; have NB103_102 := n6_; clear n0_ n1_ n2_ n4_ n5_ n6_; clear hb hbox hg) | ((with_reducible refine zzt (N := 5) rfl ?_); refine zzp ?hg (N := 5) ?hd (cs := #[.int .i64 0, .bool false]) (t := 23) ?hr ?_; (case hd => rfl); (case hg => rfl); (case hr => first | (go_simp; done) | (go_simp; rfl)); intro gb104 hg w6 hbox hb; have n0_ := Aside0.mk (zzj (g := gb102) (o := .cells #[.bool a0_0, .int .u64 a0_1, .int .u64 a0_2] 60 (0, 0)) (by (with_reducible repeat first | apply zzc | apply zzd | apply zzb); exact BK102.out) hb); have n1_ := Aside0.mk (zzj (g := gb103) (o := .cells #[.int .i64 0, .bool false] 23 (0, 0)) (by (with_reducible repeat first | apply zzc | apply zzd | apply zzb); exact BK103.out) hb); have n2_ := Aside0.mk (zzl (by repeat (first | (with_reducible first | exact HB.out | apply zzf | apply zza | apply zzg | refine zze ?_ GE102.out | refine zze ?_ GE103.out) | exact HB.out)) hb); have n3_ := Aside0.mk (hbox); have n5_ := Aside0.mk ((by rw [hg]; exact (zzk (by repeat (first | (with_reducible first | exact HB.out | apply zzf | apply zza | apply zzg | refine zze ?_ GE102.out | refine zze ?_ GE103.out) | exact HB.out))) : w.heap.size ≤ gb104)); have n6_ := Aside0.mk ((by rw [hg]; exact Nat.ne_of_lt (zzr (g := gb102) (o := .cells #[.bool a0_0, .int .u64 a0_1, .int .u64 a0_2] 60 (0, 0)) (by (with_reducible repeat first | apply zzc | apply zzd | apply zzb); exact BK102.out)) : gb102 ≠ gb104)); have n7_ := Aside0.mk ((by rw [hg]; exact Nat.ne_of_gt (zzr (g := gb102) (o := .cells #[.bool a0_0, .int .u64 a0_1, .int .u64 a0_2] 60 (0, 0)) (by (with_reducible repeat first | apply zzc | apply zzd | apply zzb); exact BK102.out)) : gb104 ≠ gb102)); have n8_ := Aside0.mk ((by rw [hg]; exact Nat.ne_of_lt (zzr (g := gb103) (o := .cells #[.int .i64 0, .bool false] 23 (0, 0)) (by (with_reducible repeat first | apply zzc | apply zzd | apply zzb); exact BK103.out)) : gb103 ≠ gb104)); have n9_ := Aside0.mk ((by rw [hg]; exact Nat.ne_of_gt (zzr (g := gb103) (o := .cells #[.int .i64 0, .bool false] 23 (0, 0)) (by (with_reducible repeat first | apply zzc | apply zzd | apply zzb); exact BK103.out)) : gb104 ≠ gb103)); clear BK102; clear BK103; clear HB; have BK102 := n0_; have BK103 := n1_; have HB := n2_; have BK104 := n3_; have GE104 := n5_; have NB102_104 := n6_; have NB104_102 := n7_; have NB103_104 := n8_; have NB104_103 := n9_; clear n0_ n1_ n2_ n3_ n5_ n6_ n7_ n8_ n9_; clear hb hbox hg; have hnb7 := NB104_102.out; have hnc7 := NB102_104.out; have hnb8 := NB104_103.out; have hnc8 := NB103_104.out; have hcz9_0 : w6.cell? ⟨gb104, 0, none⟩ = some (.int .i64 0) := (zzi BK104.out 0).trans rfl; have hcz9_1 : w6.cell? ⟨gb104, 1, none⟩ = some (.bool false) := (zzi BK104.out 1).trans rfl; have hfz9_0 := zzh BK104.out 0; have hfz9_1 := zzh BK104.out 1))
  (try simp only [Act.put, List.setIfInBounds_toArray, List.set_cons_zero, List.set_cons_succ])
  go_cut [16] (fun v16 wc => ∃ (kq : Nat) (x16_2 : Bool), v16 = .bool x16_2 ∧ Aside0 (fixed_exact_fit.j0 kq a1 x16_2 a0_0 a0_1 a0_2 9223372036854775807 true = some (r1, r2)) ∧ Aside0 (kq ≤ k) ∧ Aside0 (wc.heap[gb102]? = some (.cells #[.bool a0_0, .int .u64 a0_1, .int .u64 a0_2] 60 (0, 0))) ∧ Aside0 (wc.heap[gb103]? = some (.cells #[.int .i64 0, .bool false] 23 (0, 0))) ∧ Aside0 (wc.heap[gb104]? = some (.cells #[.int .i64 9223372036854775807, .bool true] 23 (0, 0))) ∧ Aside0 (Below w.heap.size w wc))
  case first =>
    have H := HC3.out
    clear HC3
    by_cases c10 : a0_2 = 0
    · rw [if_pos c10] at H
      have c10b0 : (a0_2 == 0) = true := beq_iff_eq.mpr c10
      have c10b1 : (a0_2 != 0) = false := bne_eq_false_iff_eq.mpr c10
      clear c10
      (first | rw [c10b0] | (simp only [i64_w, i32_w]; rw [c10b0]) | skip)
      have H' := Aside0.mk H
      clear H
      have hnb11 := NB102_103.out
      have hnc11 := NB103_102.out
      have hnb12 := NB102_104.out
      have hnc12 := NB104_102.out
      have hcz13_0 : w6.cell? ⟨gb102, 0, none⟩ = some (.bool a0_0) := (zzi BK102.out 0).trans rfl
      have hcz13_1 : w6.cell? ⟨gb102, 1, none⟩ = some (.int .u64 a0_1) := (zzi BK102.out 1).trans rfl
      have hcz13_2 : w6.cell? ⟨gb102, 2, none⟩ = some (.int .u64 a0_2) := (zzi BK102.out 2).trans rfl
      have hfz13_0 := zzh BK102.out 0
      have hfz13_1 := zzh BK102.out 1
      have hfz13_2 := zzh BK102.out 2
      go_wp2
      go_meet
      case rel => exact ⟨_, (decide (a0_1 ≤ 9223372036854775807)), (by first | rfl | (simp; done) | (simp [*]; done)), H', ⟨by first | omega | exact Nat.le_refl _⟩, ⟨by (with_reducible repeat first | apply zzc | apply zzd | apply zzb); refine zzs ?_ NB102_104.out _; (with_reducible repeat first | apply zzc | apply zzd | apply zzb); refine zzs ?_ NB102_104.out _; (with_reducible repeat first | apply zzc | apply zzd | apply zzb); exact BK102.out⟩, ⟨by (with_reducible repeat first | apply zzc | apply zzd | apply zzb); refine zzs ?_ NB103_104.out _; (with_reducible repeat first | apply zzc | apply zzd | apply zzb); refine zzs ?_ NB103_104.out _; (with_reducible repeat first | apply zzc | apply zzd | apply zzb); exact BK103.out⟩, ⟨by (with_reducible repeat first | apply zzc | apply zzd | apply zzb); refine zzo (cs := #[.int .i64 9223372036854775807, .bool false]) ?_ 1 _ rfl; (with_reducible repeat first | apply zzc | apply zzd | apply zzb); refine zzo (cs := #[.int .i64 0, .bool false]) ?_ 0 _ rfl; (with_reducible repeat first | apply zzc | apply zzd | apply zzb); exact BK104.out⟩, ⟨by repeat (first | (with_reducible first | exact HB.out | apply zzf | apply zza | apply zzg | refine zze ?_ GE102.out | refine zze ?_ GE103.out | refine zze ?_ GE104.out) | exact HB.out)⟩⟩
    · rw [if_neg c10] at H
      have c10b0 : (a0_2 == 0) = false := beq_eq_false_iff_ne.mpr c10
      have c10b1 : (a0_2 != 0) = true := bne_iff_ne.mpr c10
      (first | rw [c10b0] | (simp only [i64_w, i32_w]; rw [c10b0]) | skip)
      have H' := Aside0.mk H
      clear H
      have hnb14 := NB102_103.out
      have hnc14 := NB103_102.out
      have hnb15 := NB102_104.out
      have hnc15 := NB104_102.out
      have hcz16_0 : w6.cell? ⟨gb102, 0, none⟩ = some (.bool a0_0) := (zzi BK102.out 0).trans rfl
      have hcz16_1 : w6.cell? ⟨gb102, 1, none⟩ = some (.int .u64 a0_1) := (zzi BK102.out 1).trans rfl
      have hcz16_2 : w6.cell? ⟨gb102, 2, none⟩ = some (.int .u64 a0_2) := (zzi BK102.out 2).trans rfl
      have hfz16_0 := zzh BK102.out 0
      have hfz16_1 := zzh BK102.out 1
      have hfz16_2 := zzh BK102.out 2
      go_wp2
      go_meet
      case rel => exact ⟨_, (false), (by first | rfl | (simp; done) | (simp [*]; done)), H', ⟨by first | omega | exact Nat.le_refl _⟩, ⟨by (with_reducible repeat first | apply zzc | apply zzd | apply zzb); refine zzs ?_ NB102_104.out _; (with_reducible repeat first | apply zzc | apply zzd | apply zzb); refine zzs ?_ NB102_104.out _; (with_reducible repeat first | apply zzc | apply zzd | apply zzb); exact BK102.out⟩, ⟨by (with_reducible repeat first | apply zzc | apply zzd | apply zzb); refine zzs ?_ NB103_104.out _; (with_reducible repeat first | apply zzc | apply zzd | apply zzb); refine zzs ?_ NB103_104.out _; (with_reducible repeat first | apply zzc | apply zzd | apply zzb); exact BK103.out⟩, ⟨by (with_reducible repeat first | apply zzc | apply zzd | apply zzb); refine zzo (cs := #[.int .i64 9223372036854775807, .bool false]) ?_ 1 _ rfl; (with_reducible repeat first | apply zzc | apply zzd | apply zzb); refine zzo (cs := #[.int .i64 0, .bool false]) ?_ 0 _ rfl; (with_reducible repeat first | apply zzc | apply zzd | apply zzb); exact BK104.out⟩, ⟨by repeat (first | (with_reducible first | exact HB.out | apply zzf | apply zza | apply zzg | refine zze ?_ GE102.out | refine zze ?_ GE103.out | refine zze ?_ GE104.out) | exact HB.out)⟩⟩
  case rest =>
    clear HC3
    obtain ⟨kq, x16_2, rfl, HA, HJ2, BK102, BK103, BK104, HB⟩ := hcut
    cases kq with
    | zero => exact absurd HA.out (by simp [fixed_exact_fit.j0])
    | succ kj2 =>
      have H := HA.out
      clear HA
      simp only [fixed_exact_fit.j0] at H
      by_cases c17 : x16_2 = true
      · subst c17
        have H1 : (if a0_0 = true then (some (wrap64 (-(wrap64 (a0_1))), a1)) else (some (wrap64 (a0_1), a1))) = some (r1, r2) := by rw [if_pos rfl] at H; exact H
        clear H
        have H := H1
        clear H1
        by_cases c18 : a0_0 = true
        · subst c18
          have H1 : (some (wrap64 (-(wrap64 (a0_1))), a1)) = some (r1, r2) := by rw [if_pos rfl] at H; exact H
          clear H
          have H := H1
          clear H1
          simp only [Option.some.injEq, Prod.mk.injEq] at H
          obtain ⟨rfl, rfl⟩ := H
          have hnb19 := NB102_103.out
          have hnc19 := NB103_102.out
          have hnb20 := NB102_104.out
          have hnc20 := NB104_102.out
          have hcz21_0 : wc.cell? ⟨gb102, 0, none⟩ = some (.bool true) := (zzi BK102.out 0).trans rfl
          have hcz21_1 : wc.cell? ⟨gb102, 1, none⟩ = some (.int .u64 a0_1) := (zzi BK102.out 1).trans rfl
          have hcz21_2 : wc.cell? ⟨gb102, 2, none⟩ = some (.int .u64 a0_2) := (zzi BK102.out 2).trans rfl
          have hfz21_0 := zzh BK102.out 0
          have hfz21_1 := zzh BK102.out 1
          have hfz21_2 := zzh BK102.out 2
          have hnb22 := NB104_103.out
          have hnc22 := NB103_104.out
          have hcz23_0 : wc.cell? ⟨gb104, 0, none⟩ = some (.int .i64 9223372036854775807) := (zzi BK104.out 0).trans rfl
          have hcz23_1 : wc.cell? ⟨gb104, 1, none⟩ = some (.bool true) := (zzi BK104.out 1).trans rfl
          have hfz23_0 := zzh BK104.out 0
          have hfz23_1 := zzh BK104.out 1
          have hcz24_0 : wc.cell? ⟨gb103, 0, none⟩ = some (.int .i64 0) := (zzi BK103.out 0).trans rfl
          have hcz24_1 : wc.cell? ⟨gb103, 1, none⟩ = some (.bool false) := (zzi BK103.out 1).trans rfl
          have hfz24_0 := zzh BK103.out 0
          have hfz24_1 := zzh BK103.out 1
          go_wp2
          refine bodyPost_ret (results_cell_row rfl _ _ gb103 23 #[.int .i64 (wrap64 (-(wrap64 (a0_1)))), .bool a1] (0, 0) _ rfl (by (with_reducible repeat first | apply zzc | apply zzd | apply zzb); refine zzo (cs := #[.int .i64 (wrap64 (-(wrap64 (a0_1)))), .bool false]) ?_ 1 _ rfl; (with_reducible repeat first | apply zzc | apply zzd | apply zzb); refine zzo (cs := #[.int .i64 0, .bool false]) ?_ 0 _ rfl; (with_reducible repeat first | apply zzc | apply zzd | apply zzb); refine zzs ?_ NB103_104.out _; (with_reducible repeat first | apply zzc | apply zzd | apply zzb); refine zzs ?_ NB103_104.out _; (with_reducible repeat first | apply zzc | apply zzd | apply zzb); refine zzs ?_ NB103_104.out _; (with_reducible repeat first | apply zzc | apply zzd | apply zzb); exact BK103.out) Try.underlying23 rfl (by kernel_rfl)) rfl ?_
          exact ⟨by first | rfl | (simp [zzn, zzm] <;> rfl) | (simp [*, zzn, zzm] <;> rfl), by repeat (first | (with_reducible first | exact HB.out | apply zzf | apply zza | apply zzg | refine zze ?_ GE102.out | refine zze ?_ GE103.out | refine zze ?_ GE104.out) | exact HB.out)⟩
        · replace c18 := Bool.eq_false_iff.mpr c18
          subst c18
          have H1 : (some (wrap64 (a0_1), a1)) = some (r1, r2) := by rw [if_neg (show ¬ (false = true) by decide)] at H; exact H
          clear H
          have H := H1
          clear H1
          simp only [Option.some.injEq, Prod.mk.injEq] at H
          obtain ⟨rfl, rfl⟩ := H
          have hnb25 := NB102_103.out
          have hnc25 := NB103_102.out
          have hnb26 := NB102_104.out
          have hnc26 := NB104_102.out
          have hcz27_0 : wc.cell? ⟨gb102, 0, none⟩ = some (.bool false) := (zzi BK102.out 0).trans rfl
          have hcz27_1 : wc.cell? ⟨gb102, 1, none⟩ = some (.int .u64 a0_1) := (zzi BK102.out 1).trans rfl
          have hcz27_2 : wc.cell? ⟨gb102, 2, none⟩ = some (.int .u64 a0_2) := (zzi BK102.out 2).trans rfl
          have hfz27_0 := zzh BK102.out 0
          have hfz27_1 := zzh BK102.out 1
          have hfz27_2 := zzh BK102.out 2
          have hnb28 := NB104_103.out
          have hnc28 := NB103_104.out
          have hcz29_0 : wc.cell? ⟨gb104, 0, none⟩ = some (.int .i64 9223372036854775807) := (zzi BK104.out 0).trans rfl
          have hcz29_1 : wc.cell? ⟨gb104, 1, none⟩ = some (.bool true) := (zzi BK104.out 1).trans rfl
          have hfz29_0 := zzh BK104.out 0
          have hfz29_1 := zzh BK104.out 1
          have hcz30_0 : wc.cell? ⟨gb103, 0, none⟩ = some (.int .i64 0) := (zzi BK103.out 0).trans rfl
          have hcz30_1 : wc.cell? ⟨gb103, 1, none⟩ = some (.bool false) := (zzi BK103.out 1).trans rfl
          have hfz30_0 := zzh BK103.out 0
          have hfz30_1 := zzh BK103.out 1
          go_wp2
          refine bodyPost_ret (results_cell_row rfl _ _ gb103 23 #[.int .i64 (wrap64 (a0_1)), .bool a1] (0, 0) _ rfl (by (with_reducible repeat first | apply zzc | apply zzd | apply zzb); refine zzo (cs := #[.int .i64 (wrap64 (a0_1)), .bool false]) ?_ 1 _ rfl; (with_reducible repeat first | apply zzc | apply zzd | apply zzb); refine zzo (cs := #[.int .i64 0, .bool false]) ?_ 0 _ rfl; (with_reducible repeat first | apply zzc | apply zzd | apply zzb); refine zzs ?_ NB103_104.out _; (with_reducible repeat first | apply zzc | apply zzd | apply zzb); refine zzs ?_ NB103_104.out _; (with_reducible repeat first | apply zzc | apply zzd | apply zzb); exact BK103.out) Try.underlying23 rfl (by kernel_rfl)) rfl ?_
          exact ⟨by first | rfl | (simp [zzn, zzm] <;> rfl) | (simp [*, zzn, zzm] <;> rfl), by repeat (first | (with_reducible first | exact HB.out | apply zzf | apply zza | apply zzg | refine zze ?_ GE102.out | refine zze ?_ GE103.out | refine zze ?_ GE104.out) | exact HB.out)⟩
      · replace c17 := Bool.eq_false_iff.mpr c17
        subst c17
        have H1 : (if a0_0 = true then (some (wrap64 (-9223372036854775807), true)) else (some (9223372036854775807, true))) = some (r1, r2) := by rw [if_neg (show ¬ (false = true) by decide)] at H; exact H
        clear H
        have H := H1
        clear H1
        by_cases c31 : a0_0 = true
        · subst c31
          have H1 : (some ((-9223372036854775807), true)) = some (r1, r2) := by rw [if_pos rfl, show wrap64 (-9223372036854775807) = (-9223372036854775807) from by unfold wrap64; omega] at H; exact H
          clear H
          have H := H1
          clear H1
          simp only [Option.some.injEq, Prod.mk.injEq] at H
          obtain ⟨rfl, rfl⟩ := H
          have hnb32 := NB102_103.out
          have hnc32 := NB103_102.out
          have hnb33 := NB102_104.out
          have hnc33 := NB104_102.out
          have hcz34_0 : wc.cell? ⟨gb102, 0, none⟩ = some (.bool true) := (zzi BK102.out 0).trans rfl
          have hcz34_1 : wc.cell? ⟨gb102, 1, none⟩ = some (.int .u64 a0_1) := (zzi BK102.out 1).trans rfl
          have hcz34_2 : wc.cell? ⟨gb102, 2, none⟩ = some (.int .u64 a0_2) := (zzi BK102.out 2).trans rfl
          have hfz34_0 := zzh BK102.out 0
          have hfz34_1 := zzh BK102.out 1
          have hfz34_2 := zzh BK102.out 2
          have hnb35 := NB104_103.out
          have hnc35 := NB103_104.out
          have hcz36_0 : wc.cell? ⟨gb104, 0, none⟩ = some (.int .i64 9223372036854775807) := (zzi BK104.out 0).trans rfl
          have hcz36_1 : wc.cell? ⟨gb104, 1, none⟩ = some (.bool true) := (zzi BK104.out 1).trans rfl
          have hfz36_0 := zzh BK104.out 0
          have hfz36_1 := zzh BK104.out 1
          have hcz37_0 : wc.cell? ⟨gb103, 0, none⟩ = some (.int .i64 0) := (zzi BK103.out 0).trans rfl
          have hcz37_1 : wc.cell? ⟨gb103, 1, none⟩ = some (.bool false) := (zzi BK103.out 1).trans rfl
          have hfz37_0 := zzh BK103.out 0
          have hfz37_1 := zzh BK103.out 1
          go_wp2
          refine bodyPost_ret (results_cell_row rfl _ _ gb103 23 #[.int .i64 (-9223372036854775807), .bool true] (0, 0) _ rfl (by (with_reducible repeat first | apply zzc | apply zzd | apply zzb); refine zzo (cs := #[.int .i64 (-9223372036854775807), .bool false]) ?_ 1 _ rfl; (with_reducible repeat first | apply zzc | apply zzd | apply zzb); refine zzo (cs := #[.int .i64 0, .bool false]) ?_ 0 _ rfl; (with_reducible repeat first | apply zzc | apply zzd | apply zzb); refine zzs ?_ NB103_104.out _; (with_reducible repeat first | apply zzc | apply zzd | apply zzb); exact BK103.out) Try.underlying23 rfl (by kernel_rfl)) rfl ?_
          exact ⟨by first | rfl | (simp [zzn, zzm] <;> rfl) | (simp [*, zzn, zzm] <;> rfl), by repeat (first | (with_reducible first | exact HB.out | apply zzf | apply zza | apply zzg | refine zze ?_ GE102.out | refine zze ?_ GE103.out | refine zze ?_ GE104.out) | exact HB.out)⟩
        · replace c31 := Bool.eq_false_iff.mpr c31
          subst c31
          have H1 : (some (9223372036854775807, true)) = some (r1, r2) := by rw [if_neg (show ¬ (false = true) by decide)] at H; exact H
          clear H
          have H := H1
          clear H1
          simp only [Option.some.injEq, Prod.mk.injEq] at H
          obtain ⟨rfl, rfl⟩ := H
          have hnb38 := NB102_103.out
          have hnc38 := NB103_102.out
          have hnb39 := NB102_104.out
          have hnc39 := NB104_102.out
          have hcz40_0 : wc.cell? ⟨gb102, 0, none⟩ = some (.bool false) := (zzi BK102.out 0).trans rfl
          have hcz40_1 : wc.cell? ⟨gb102, 1, none⟩ = some (.int .u64 a0_1) := (zzi BK102.out 1).trans rfl
          have hcz40_2 : wc.cell? ⟨gb102, 2, none⟩ = some (.int .u64 a0_2) := (zzi BK102.out 2).trans rfl
          have hfz40_0 := zzh BK102.out 0
          have hfz40_1 := zzh BK102.out 1
          have hfz40_2 := zzh BK102.out 2
          have hnb41 := NB104_103.out
          have hnc41 := NB103_104.out
          have hcz42_0 : wc.cell? ⟨gb104, 0, none⟩ = some (.int .i64 9223372036854775807) := (zzi BK104.out 0).trans rfl
          have hcz42_1 : wc.cell? ⟨gb104, 1, none⟩ = some (.bool true) := (zzi BK104.out 1).trans rfl
          have hfz42_0 := zzh BK104.out 0
          have hfz42_1 := zzh BK104.out 1
          have hcz43_0 : wc.cell? ⟨gb103, 0, none⟩ = some (.int .i64 0) := (zzi BK103.out 0).trans rfl
          have hcz43_1 : wc.cell? ⟨gb103, 1, none⟩ = some (.bool false) := (zzi BK103.out 1).trans rfl
          have hfz43_0 := zzh BK103.out 0
          have hfz43_1 := zzh BK103.out 1
          go_wp2
          refine bodyPost_ret (results_cell_row rfl _ _ gb103 23 #[.int .i64 9223372036854775807, .bool true] (0, 0) _ rfl (by (with_reducible repeat first | apply zzc | apply zzd | apply zzb); refine zzo (cs := #[.int .i64 9223372036854775807, .bool false]) ?_ 1 _ rfl; (with_reducible repeat first | apply zzc | apply zzd | apply zzb); refine zzo (cs := #[.int .i64 0, .bool false]) ?_ 0 _ rfl; (with_reducible repeat first | apply zzc | apply zzd | apply zzb); exact BK103.out) Try.underlying23 rfl (by kernel_rfl)) rfl ?_
          exact ⟨by first | rfl | (simp [zzn, zzm] <;> rfl) | (simp [*, zzn, zzm] <;> rfl), by repeat (first | (with_reducible first | exact HB.out | apply zzf | apply zza | apply zzg | refine zze ?_ GE102.out | refine zze ?_ GE103.out | refine zze ?_ GE104.out) | exact HB.out)⟩
def fixed_exact_up.f (a0_0 : Bool) (a0_1 : Int) (a0_2 : Int) : Option (Bool × Int × Int) := some (a0_0, IntKind.u64.wrap (a0_1 * 4294967296), Go.bits .or .u64 (IntKind.u64.wrap (a0_2 * 4294967296)) (a0_1 / 4294967296))
set_option maxHeartbeats 8000000 in
set_option maxRecDepth 100000 in
theorem fixed_exact_up.calls (a0_0 : Bool) (a0_1 : Int) (a0_2 : Int) (r1 : Bool) (r2 : Int) (r3 : Int) (w : World) (h : fixed_exact_up.f a0_0 a0_1 a0_2 = some (r1, r2, r3)) :
    Calls Try.prog 89 #[.agg #[.bool a0_0, .int .u64 a0_1, .int .u64 a0_2]] w fun e w' => e = .returned (.agg #[.bool r1, .int .u64 r2, .int .u64 r3]) ∧ Below w.heap.size w w' := by
  have hu60 := Try.underlying60
  have hu58 := Try.underlying58
  have HB := Aside0.mk (Below.refl w.heap.size w)
  have H : (some (a0_0, IntKind.u64.wrap (a0_1 * 4294967296), Go.bits .or .u64 (IntKind.u64.wrap (a0_2 * 4294967296)) (a0_1 / 4294967296))) = some (r1, r2, r3) := h
  clear h
  simp only [Option.some.injEq, Prod.mk.injEq] at H
  obtain ⟨rfl, rfl, rfl⟩ := H
  go_enter Try.func89, Try.ntmps89
  go_wp2_with (first | ((with_reducible refine zzt (N := 1) rfl ?_); refine zzp ?hg (N := 1) ?hd (cs := #[.bool a0_0, .int .u64 a0_1, .int .u64 a0_2]) (t := 60) ?hr ?_; (case hd => rfl); (case hg => rfl); (case hr => first | (go_simp; done) | (go_simp; rfl)); intro gb105 hg w2 hbox hb; have n0_ := Aside0.mk (zzl (by repeat (first | (with_reducible first | exact HB.out | apply zzf | apply zza | apply zzg) | exact HB.out)) hb); have n1_ := Aside0.mk (hbox); have n3_ := Aside0.mk ((by rw [hg]; exact (zzk (by repeat (first | (with_reducible first | exact HB.out | apply zzf | apply zza | apply zzg) | exact HB.out))) : w.heap.size ≤ gb105)); clear HB; have HB := n0_; have BK105 := n1_; have GE105 := n3_; clear n0_ n1_ n3_; clear hb hbox hg) | ((with_reducible refine zzt (N := 2) rfl ?_); refine zzp ?hg (N := 2) ?hd (cs := #[.bool false, .int .u64 0, .int .u64 0]) (t := 60) ?hr ?_; (case hd => rfl); (case hg => rfl); (case hr => first | (go_simp; done) | (go_simp; rfl)); intro gb106 hg w3 hbox hb; have n0_ := Aside0.mk (zzj (g := gb105) (o := .cells #[.bool a0_0, .int .u64 a0_1, .int .u64 a0_2] 60 (0, 0)) (by (with_reducible repeat first | apply zzc | apply zzd | apply zzb); exact BK105.out) hb); have n1_ := Aside0.mk (zzl (by repeat (first | (with_reducible first | exact HB.out | apply zzf | apply zza | apply zzg | refine zze ?_ GE105.out) | exact HB.out)) hb); have n2_ := Aside0.mk (hbox); have n4_ := Aside0.mk ((by rw [hg]; exact (zzk (by repeat (first | (with_reducible first | exact HB.out | apply zzf | apply zza | apply zzg | refine zze ?_ GE105.out) | exact HB.out))) : w.heap.size ≤ gb106)); have n5_ := Aside0.mk ((by rw [hg]; exact Nat.ne_of_lt (zzr (g := gb105) (o := .cells #[.bool a0_0, .int .u64 a0_1, .int .u64 a0_2] 60 (0, 0)) (by (with_reducible repeat first | apply zzc | apply zzd | apply zzb); exact BK105.out)) : gb105 ≠ gb106)); have n6_ := Aside0.mk ((by rw [hg]; exact Nat.ne_of_gt (zzr (g := gb105) (o := .cells #[.bool a0_0, .int .u64 a0_1, .int .u64 a0_2] 60 (0, 0)) (by (with_reducible repeat first | apply zzc | apply zzd | apply zzb); exact BK105.out)) : gb106 ≠ gb105)); clear BK105; clear HB; have BK105 := n0_; have HB := n1_; have BK106 := n2_; have GE106 := n4_; have NB105_106 := n5_; have NB106_105 := n6_; clear n0_ n1_ n2_ n4_ n5_ n6_; clear hb hbox hg; have hnb4 := NB105_106.out; have hnc4 := NB106_105.out; have hcz5_0 : w3.cell? ⟨gb105, 0, none⟩ = some (.bool a0_0) := (zzi BK105.out 0).trans rfl; have hcz5_1 : w3.cell? ⟨gb105, 1, none⟩ = some (.int .u64 a0_1) := (zzi BK105.out 1).trans rfl; have hcz5_2 : w3.cell? ⟨gb105, 2, none⟩ = some (.int .u64 a0_2) := (zzi BK105.out 2).trans rfl; have hfz5_0 := zzh BK105.out 0; have hfz5_1 := zzh BK105.out 1; have hfz5_2 := zzh BK105.out 2; have hcz6_0 : w3.cell? ⟨gb106, 0, none⟩ = some (.bool false) := (zzi BK106.out 0).trans rfl; have hcz6_1 : w3.cell? ⟨gb106, 1, none⟩ = some (.int .u64 0) := (zzi BK106.out 1).trans rfl; have hcz6_2 : w3.cell? ⟨gb106, 2, none⟩ = some (.int .u64 0) := (zzi BK106.out 2).trans rfl; have hfz6_0 := zzh BK106.out 0; have hfz6_1 := zzh BK106.out 1; have hfz6_2 := zzh BK106.out 2))
  refine bodyPost_ret (results_cell_row rfl _ _ gb106 60 #[.bool a0_0, .int .u64 (IntKind.u64.wrap (a0_1 * 4294967296)), .int .u64 (Go.bits .or .u64 (IntKind.u64.wrap (a0_2 * 4294967296)) (a0_1 / 4294967296))] (0, 0) _ rfl (by (with_reducible repeat first | apply zzc | apply zzd | apply zzb); refine zzo (cs := #[.bool a0_0, .int .u64 (IntKind.u64.wrap (a0_1 * 4294967296)), .int .u64 0]) ?_ 2 _ rfl; (with_reducible repeat first | apply zzc | apply zzd | apply zzb); refine zzo (cs := #[.bool a0_0, .int .u64 0, .int .u64 0]) ?_ 1 _ rfl; (with_reducible repeat first | apply zzc | apply zzd | apply zzb); refine zzo (cs := #[.bool false, .int .u64 0, .int .u64 0]) ?_ 0 _ rfl; (with_reducible repeat first | apply zzc | apply zzd | apply zzb); refine zzs ?_ NB106_105.out _; (with_reducible repeat first | apply zzc | apply zzd | apply zzb); refine zzs ?_ NB106_105.out _; (with_reducible repeat first | apply zzc | apply zzd | apply zzb); exact BK106.out) Try.underlying60 rfl (by kernel_rfl)) rfl ?_
  exact ⟨by first | rfl | (simp [zzn, zzm] <;> rfl) | (simp [*, zzn, zzm] <;> rfl), by repeat (first | (with_reducible first | exact HB.out | apply zzf | apply zza | apply zzg | refine zze ?_ GE105.out | refine zze ?_ GE106.out) | exact HB.out)⟩
def fixed_Int.f (k : Nat) (a0 : Int) : Option (Int × Bool) := (fixed_of.f a0).bind fun bt108 => ((fixed_exact_up.f bt108.1 bt108.2.1 bt108.2.2).bind fun bt111 => ((fixed_exact_fit.f k bt111.1 bt111.2.1 bt111.2.2 false).bind fun bt114 => (some (bt114.1, bt114.2))))
set_option maxHeartbeats 8000000 in
set_option maxRecDepth 100000 in
theorem fixed_Int.calls (k : Nat) (a0 : Int) (r1 : Int) (r2 : Bool) (w : World) (h : fixed_Int.f k a0 = some (r1, r2)) :
    Calls Try.prog 49 #[.int .i64 a0] w fun e w' => e = .returned (.agg #[.int .i64 r1, .bool r2]) ∧ Below w.heap.size w w' := by
  have hu23 := Try.underlying23
  have HB := Aside0.mk (Below.refl w.heap.size w)
  have H : ((fixed_of.f a0).bind fun bt108 => ((fixed_exact_up.f bt108.1 bt108.2.1 bt108.2.2).bind fun bt111 => ((fixed_exact_fit.f k bt111.1 bt111.2.1 bt111.2.2 false).bind fun bt114 => (some (bt114.1, bt114.2))))) = some (r1, r2) := h
  clear h
  replace H := Option.bind_eq_some_iff.mp H
  obtain ⟨⟨t108, t109, t110⟩, A20, H⟩ := H
  replace H : ((fixed_exact_up.f t108 t109 t110).bind fun bt111 => ((fixed_exact_fit.f k bt111.1 bt111.2.1 bt111.2.2 false).bind fun bt114 => (some (bt114.1, bt114.2)))) = some (r1, r2) := H
  have A2 := Aside0.mk A20
  clear A20
  replace H := Option.bind_eq_some_iff.mp H
  obtain ⟨⟨t111, t112, t113⟩, A30, H⟩ := H
  replace H : ((fixed_exact_fit.f k t111 t112 t113 false).bind fun bt114 => (some (bt114.1, bt114.2))) = some (r1, r2) := H
  have A3 := Aside0.mk A30
  clear A30
  replace H := Option.bind_eq_some_iff.mp H
  obtain ⟨⟨t114, t115⟩, A40, H⟩ := H
  replace H : (some (t114, t115)) = some (r1, r2) := H
  have A4 := Aside0.mk A40
  clear A40
  simp only [Option.some.injEq, Prod.mk.injEq] at H
  obtain ⟨rfl, rfl⟩ := H
  go_enter Try.func49, Try.ntmps49
  go_wp2_with (first | ((with_reducible refine zzt (N := 2) rfl ?_); refine zzp ?hg (N := 2) ?hd (cs := #[.int .i64 0, .bool false]) (t := 23) ?hr ?_; (case hd => rfl); (case hg => rfl); (case hr => first | (go_simp; done) | (go_simp; rfl)); intro gb107 hg w5 hbox hb; have n0_ := Aside0.mk (zzl (by repeat (first | (with_reducible first | exact HB.out | apply zzf | apply zza | apply zzg) | exact HB.out)) hb); have n1_ := Aside0.mk (hbox); have n3_ := Aside0.mk ((by rw [hg]; exact (zzk (by repeat (first | (with_reducible first | exact HB.out | apply zzf | apply zza | apply zzg) | exact HB.out))) : w.heap.size ≤ gb107)); clear HB; have HB := n0_; have BK107 := n1_; have GE107 := n3_; clear n0_ n1_ n3_; clear hb hbox hg) | ((with_reducible refine zzq (f := 82) rfl ?_); refine goesL_ (some 4) rfl rfl Try.func82 (by kernel_rfl) rfl #[.int .i64 a0] rfl (by (try simp only [List.map_toArray, List.map_cons, List.map_nil]); first | done | rfl | (simp only [List.length_drop, List.length_take]; rfl)) ?_; (with_reducible refine (fixed_of.calls a0 t108 t109 t110 _ A2.out).mono ?_); rintro e w6 ⟨rfl, hb⟩; refine ⟨_, rfl, ?_⟩; have n0_ := Aside0.mk (zzj (g := gb107) (o := .cells #[.int .i64 0, .bool false] 23 (0, 0)) (by (with_reducible repeat first | apply zzc | apply zzd | apply zzb); exact BK107.out) hb); have n1_ := Aside0.mk (zzl (by repeat (first | (with_reducible first | exact HB.out | apply zzf | apply zza | apply zzg | refine zze ?_ GE107.out) | exact HB.out)) hb); clear BK107; clear HB; have BK107 := n0_; have HB := n1_; clear n0_ n1_; (try clear hi)) | ((with_reducible refine zzq (f := 89) rfl ?_); refine goesL_ (some 5) rfl rfl Try.func89 (by kernel_rfl) rfl #[.agg #[.bool t108, .int .u64 t109, .int .u64 t110]] rfl (by (try simp only [List.map_toArray, List.map_cons, List.map_nil]); first | done | rfl | (simp only [List.length_drop, List.length_take]; rfl)) ?_; (with_reducible refine (fixed_exact_up.calls t108 t109 t110 t111 t112 t113 _ A3.out).mono ?_); rintro e w7 ⟨rfl, hb⟩; refine ⟨_, rfl, ?_⟩; have n0_ := Aside0.mk (zzj (g := gb107) (o := .cells #[.int .i64 0, .bool false] 23 (0, 0)) (by (with_reducible repeat first | apply zzc | apply zzd | apply zzb); exact BK107.out) hb); have n1_ := Aside0.mk (zzl (by repeat (first | (with_reducible first | exact HB.out | apply zzf | apply zza | apply zzg | refine zze ?_ GE107.out) | exact HB.out)) hb); clear BK107; clear HB; have BK107 := n0_; have HB := n1_; clear n0_ n1_; (try clear hi)) | ((with_reducible refine zzq (f := 83) rfl ?_); refine goesL_ (some 6) rfl rfl Try.func83 (by kernel_rfl) rfl #[.agg #[.bool t111, .int .u64 t112, .int .u64 t113], .bool false] rfl (by (try simp only [List.map_toArray, List.map_cons, List.map_nil]); first | done | rfl | (simp only [List.length_drop, List.length_take]; rfl)) ?_; (with_reducible refine (fixed_exact_fit.calls k t111 t112 t113 false t114 t115 _ A4.out).mono ?_); rintro e w8 ⟨rfl, hb⟩; refine ⟨_, rfl, ?_⟩; have n0_ := Aside0.mk (zzj (g := gb107) (o := .cells #[.int .i64 0, .bool false] 23 (0, 0)) (by (with_reducible repeat first | apply zzc | apply zzd | apply zzb); exact BK107.out) hb); have n1_ := Aside0.mk (zzl (by repeat (first | (with_reducible first | exact HB.out | apply zzf | apply zza | apply zzg | refine zze ?_ GE107.out) | exact HB.out)) hb); clear BK107; clear HB; have BK107 := n0_; have HB := n1_; clear n0_ n1_; have hcz9_0 : w8.cell? ⟨gb107, 0, none⟩ = some (.int .i64 0) := (zzi BK107.out 0).trans rfl; have hcz9_1 : w8.cell? ⟨gb107, 1, none⟩ = some (.bool false) := (zzi BK107.out 1).trans rfl; have hfz9_0 := zzh BK107.out 0; have hfz9_1 := zzh BK107.out 1))
  refine bodyPost_ret (results_cell_row rfl _ _ gb107 23 #[.int .i64 t114, .bool t115] (0, 0) _ rfl (by (with_reducible repeat first | apply zzc | apply zzd | apply zzb); refine zzo (cs := #[.int .i64 t114, .bool false]) ?_ 1 _ rfl; (with_reducible repeat first | apply zzc | apply zzd | apply zzb); refine zzo (cs := #[.int .i64 0, .bool false]) ?_ 0 _ rfl; (with_reducible repeat first | apply zzc | apply zzd | apply zzb); exact BK107.out) Try.underlying23 rfl (by kernel_rfl)) rfl ?_
  exact ⟨by first | rfl | (simp [zzn, zzm] <;> rfl) | (simp [*, zzn, zzm] <;> rfl), by repeat (first | (with_reducible first | exact HB.out | apply zzf | apply zza | apply zzg | refine zze ?_ GE107.out) | exact HB.out)⟩
def fixed_sound.f (a0_0 : Int) (a0_1 : Bool) : Option (Int × Bool) := if a0_0 = (-9223372036854775808) then (some ((-9223372036854775807), true)) else (some (a0_0, a0_1))
set_option maxHeartbeats 8000000 in
set_option maxRecDepth 100000 in
theorem fixed_sound.calls (a0_0 : Int) (a0_1 : Bool) (r1 : Int) (r2 : Bool) (w : World) (h : fixed_sound.f a0_0 a0_1 = some (r1, r2)) :
    Calls Try.prog 72 #[.agg #[.int .i64 a0_0, .bool a0_1]] w fun e w' => e = .returned (.agg #[.int .i64 r1, .bool r2]) ∧ Below w.heap.size w w' := by
  have hu23 := Try.underlying23
  have HB := Aside0.mk (Below.refl w.heap.size w)
  have H : (if a0_0 = (-9223372036854775808) then (some ((-9223372036854775807), true)) else (some (a0_0, a0_1))) = some (r1, r2) := h
  clear h
  by_cases c2 : a0_0 = (-9223372036854775808)
  · rw [if_pos c2] at H
    have c2b0 : (a0_0 == (-9223372036854775808)) = true := beq_iff_eq.mpr c2
    have c2b1 : (a0_0 != (-9223372036854775808)) = false := bne_eq_false_iff_eq.mpr c2
    clear c2
    simp only [Option.some.injEq, Prod.mk.injEq] at H
    obtain ⟨rfl, rfl⟩ := H
    go_enter Try.func72, Try.ntmps72
    go_wp2_with (first | ((with_reducible refine zzt (N := 1) rfl ?_); refine zzp ?hg (N := 1) ?hd (cs := #[.int .i64 a0_0, .bool a0_1]) (t := 23) ?hr ?_; (case hd => rfl); (case hg => rfl); (case hr => first | (go_simp; done) | (go_simp; rfl)); intro gb116 hg w3 hbox hb; have n0_ := Aside0.mk (zzl (by repeat (first | (with_reducible first | exact HB.out | apply zzf | apply zza | apply zzg) | exact HB.out)) hb); have n1_ := Aside0.mk (hbox); have n3_ := Aside0.mk ((by rw [hg]; exact (zzk (by repeat (first | (with_reducible first | exact HB.out | apply zzf | apply zza | apply zzg) | exact HB.out))) : w.heap.size ≤ gb116)); clear HB; have HB := n0_; have BK116 := n1_; have GE116 := n3_; clear n0_ n1_ n3_; clear hb hbox hg) | ((with_reducible refine zzt (N := 2) rfl ?_); refine zzp ?hg (N := 2) ?hd (cs := #[.int .i64 0, .bool false]) (t := 23) ?hr ?_; (case hd => rfl); (case hg => rfl); (case hr => first | (go_simp; done) | (go_simp; rfl)); intro gb117 hg w4 hbox hb; have n0_ := Aside0.mk (zzj (g := gb116) (o := .cells #[.int .i64 a0_0, .bool a0_1] 23 (0, 0)) (by (with_reducible repeat first | apply zzc | apply zzd | apply zzb); exact BK116.out) hb); have n1_ := Aside0.mk (zzl (by repeat (first | (with_reducible first | exact HB.out | apply zzf | apply zza | apply zzg | refine zze ?_ GE116.out) | exact HB.out)) hb); have n2_ := Aside0.mk (hbox); have n4_ := Aside0.mk ((by rw [hg]; exact (zzk (by repeat (first | (with_reducible first | exact HB.out | apply zzf | apply zza | apply zzg | refine zze ?_ GE116.out) | exact HB.out))) : w.heap.size ≤ gb117)); have n5_ := Aside0.mk ((by rw [hg]; exact Nat.ne_of_lt (zzr (g := gb116) (o := .cells #[.int .i64 a0_0, .bool a0_1] 23 (0, 0)) (by (with_reducible repeat first | apply zzc | apply zzd | apply zzb); exact BK116.out)) : gb116 ≠ gb117)); have n6_ := Aside0.mk ((by rw [hg]; exact Nat.ne_of_gt (zzr (g := gb116) (o := .cells #[.int .i64 a0_0, .bool a0_1] 23 (0, 0)) (by (with_reducible repeat first | apply zzc | apply zzd | apply zzb); exact BK116.out)) : gb117 ≠ gb116)); clear BK116; clear HB; have BK116 := n0_; have HB := n1_; have BK117 := n2_; have GE117 := n4_; have NB116_117 := n5_; have NB117_116 := n6_; clear n0_ n1_ n2_ n4_ n5_ n6_; clear hb hbox hg; have hnb5 := NB116_117.out; have hnc5 := NB117_116.out; have hcz6_0 : w4.cell? ⟨gb116, 0, none⟩ = some (.int .i64 a0_0) := (zzi BK116.out 0).trans rfl; have hcz6_1 : w4.cell? ⟨gb116, 1, none⟩ = some (.bool a0_1) := (zzi BK116.out 1).trans rfl; have hfz6_0 := zzh BK116.out 0; have hfz6_1 := zzh BK116.out 1; have hcz7_0 : w4.cell? ⟨gb117, 0, none⟩ = some (.int .i64 0) := (zzi BK117.out 0).trans rfl; have hcz7_1 : w4.cell? ⟨gb117, 1, none⟩ = some (.bool false) := (zzi BK117.out 1).trans rfl; have hfz7_0 := zzh BK117.out 0; have hfz7_1 := zzh BK117.out 1))
    refine bodyPost_ret (results_cell_row rfl _ _ gb117 23 #[.int .i64 (-9223372036854775807), .bool true] (0, 0) _ rfl (by (with_reducible repeat first | apply zzc | apply zzd | apply zzb); refine zzo (cs := #[.int .i64 (-9223372036854775807), .bool false]) ?_ 1 _ rfl; (with_reducible repeat first | apply zzc | apply zzd | apply zzb); refine zzo (cs := #[.int .i64 0, .bool false]) ?_ 0 _ rfl; (with_reducible repeat first | apply zzc | apply zzd | apply zzb); exact BK117.out) Try.underlying23 rfl (by kernel_rfl)) rfl ?_
    exact ⟨by first | rfl | (simp [zzn, zzm] <;> rfl) | (simp [*, zzn, zzm] <;> rfl), by repeat (first | (with_reducible first | exact HB.out | apply zzf | apply zza | apply zzg | refine zze ?_ GE116.out | refine zze ?_ GE117.out) | exact HB.out)⟩
  · rw [if_neg c2] at H
    have c2b0 : (a0_0 == (-9223372036854775808)) = false := beq_eq_false_iff_ne.mpr c2
    have c2b1 : (a0_0 != (-9223372036854775808)) = true := bne_iff_ne.mpr c2
    simp only [Option.some.injEq, Prod.mk.injEq] at H
    obtain ⟨rfl, rfl⟩ := H
    go_enter Try.func72, Try.ntmps72
    go_wp2_with (first | ((with_reducible refine zzt (N := 1) rfl ?_); refine zzp ?hg (N := 1) ?hd (cs := #[.int .i64 a0_0, .bool a0_1]) (t := 23) ?hr ?_; (case hd => rfl); (case hg => rfl); (case hr => first | (go_simp; done) | (go_simp; rfl)); intro gb116 hg w8 hbox hb; have n0_ := Aside0.mk (zzl (by repeat (first | (with_reducible first | exact HB.out | apply zzf | apply zza | apply zzg) | exact HB.out)) hb); have n1_ := Aside0.mk (hbox); have n3_ := Aside0.mk ((by rw [hg]; exact (zzk (by repeat (first | (with_reducible first | exact HB.out | apply zzf | apply zza | apply zzg) | exact HB.out))) : w.heap.size ≤ gb116)); clear HB; have HB := n0_; have BK116 := n1_; have GE116 := n3_; clear n0_ n1_ n3_; clear hb hbox hg) | ((with_reducible refine zzt (N := 2) rfl ?_); refine zzp ?hg (N := 2) ?hd (cs := #[.int .i64 0, .bool false]) (t := 23) ?hr ?_; (case hd => rfl); (case hg => rfl); (case hr => first | (go_simp; done) | (go_simp; rfl)); intro gb117 hg w9 hbox hb; have n0_ := Aside0.mk (zzj (g := gb116) (o := .cells #[.int .i64 a0_0, .bool a0_1] 23 (0, 0)) (by (with_reducible repeat first | apply zzc | apply zzd | apply zzb); exact BK116.out) hb); have n1_ := Aside0.mk (zzl (by repeat (first | (with_reducible first | exact HB.out | apply zzf | apply zza | apply zzg | refine zze ?_ GE116.out) | exact HB.out)) hb); have n2_ := Aside0.mk (hbox); have n4_ := Aside0.mk ((by rw [hg]; exact (zzk (by repeat (first | (with_reducible first | exact HB.out | apply zzf | apply zza | apply zzg | refine zze ?_ GE116.out) | exact HB.out))) : w.heap.size ≤ gb117)); have n5_ := Aside0.mk ((by rw [hg]; exact Nat.ne_of_lt (zzr (g := gb116) (o := .cells #[.int .i64 a0_0, .bool a0_1] 23 (0, 0)) (by (with_reducible repeat first | apply zzc | apply zzd | apply zzb); exact BK116.out)) : gb116 ≠ gb117)); have n6_ := Aside0.mk ((by rw [hg]; exact Nat.ne_of_gt (zzr (g := gb116) (o := .cells #[.int .i64 a0_0, .bool a0_1] 23 (0, 0)) (by (with_reducible repeat first | apply zzc | apply zzd | apply zzb); exact BK116.out)) : gb117 ≠ gb116)); clear BK116; clear HB; have BK116 := n0_; have HB := n1_; have BK117 := n2_; have GE117 := n4_; have NB116_117 := n5_; have NB117_116 := n6_; clear n0_ n1_ n2_ n4_ n5_ n6_; clear hb hbox hg; have hnb10 := NB116_117.out; have hnc10 := NB117_116.out; have hcz11_0 : w9.cell? ⟨gb116, 0, none⟩ = some (.int .i64 a0_0) := (zzi BK116.out 0).trans rfl; have hcz11_1 : w9.cell? ⟨gb116, 1, none⟩ = some (.bool a0_1) := (zzi BK116.out 1).trans rfl; have hfz11_0 := zzh BK116.out 0; have hfz11_1 := zzh BK116.out 1; have hcz12_0 : w9.cell? ⟨gb117, 0, none⟩ = some (.int .i64 0) := (zzi BK117.out 0).trans rfl; have hcz12_1 : w9.cell? ⟨gb117, 1, none⟩ = some (.bool false) := (zzi BK117.out 1).trans rfl; have hfz12_0 := zzh BK117.out 0; have hfz12_1 := zzh BK117.out 1))
    refine bodyPost_ret (results_cell_row rfl _ _ gb117 23 #[.int .i64 a0_0, .bool a0_1] (0, 0) _ rfl (by (with_reducible repeat first | apply zzc | apply zzd | apply zzb); refine zzo (cs := #[.int .i64 a0_0, .bool false]) ?_ 1 _ rfl; (with_reducible repeat first | apply zzc | apply zzd | apply zzb); refine zzo (cs := #[.int .i64 0, .bool false]) ?_ 0 _ rfl; (with_reducible repeat first | apply zzc | apply zzd | apply zzb); exact BK117.out) Try.underlying23 rfl (by kernel_rfl)) rfl ?_
    exact ⟨by first | rfl | (simp [zzn, zzm] <;> rfl) | (simp [*, zzn, zzm] <;> rfl), by repeat (first | (with_reducible first | exact HB.out | apply zzf | apply zza | apply zzg | refine zze ?_ GE116.out | refine zze ?_ GE117.out) | exact HB.out)⟩
def fixed_Of.f (a0 : Int) : Option (Int × Bool) := (fixed_sound.f a0 false).bind fun bt119 => (some (bt119.1, bt119.2))
set_option maxHeartbeats 8000000 in
set_option maxRecDepth 100000 in
theorem fixed_Of.calls (a0 : Int) (r1 : Int) (r2 : Bool) (w : World) (h : fixed_Of.f a0 = some (r1, r2)) :
    Calls Try.prog 53 #[.int .i64 a0] w fun e w' => e = .returned (.agg #[.int .i64 r1, .bool r2]) ∧ Below w.heap.size w w' := by
  have hu23 := Try.underlying23
  have HB := Aside0.mk (Below.refl w.heap.size w)
  have H : ((fixed_sound.f a0 false).bind fun bt119 => (some (bt119.1, bt119.2))) = some (r1, r2) := h
  clear h
  replace H := Option.bind_eq_some_iff.mp H
  obtain ⟨⟨t119, t120⟩, A20, H⟩ := H
  replace H : (some (t119, t120)) = some (r1, r2) := H
  have A2 := Aside0.mk A20
  clear A20
  simp only [Option.some.injEq, Prod.mk.injEq] at H
  obtain ⟨rfl, rfl⟩ := H
  go_enter Try.func53, Try.ntmps53
  go_wp2_with (first | ((with_reducible refine zzt (N := 2) rfl ?_); refine zzp ?hg (N := 2) ?hd (cs := #[.int .i64 0, .bool false]) (t := 23) ?hr ?_; (case hd => rfl); (case hg => rfl); (case hr => first | (go_simp; done) | (go_simp; rfl)); intro gb118 hg w3 hbox hb; have n0_ := Aside0.mk (zzl (by repeat (first | (with_reducible first | exact HB.out | apply zzf | apply zza | apply zzg) | exact HB.out)) hb); have n1_ := Aside0.mk (hbox); have n3_ := Aside0.mk ((by rw [hg]; exact (zzk (by repeat (first | (with_reducible first | exact HB.out | apply zzf | apply zza | apply zzg) | exact HB.out))) : w.heap.size ≤ gb118)); clear HB; have HB := n0_; have BK118 := n1_; have GE118 := n3_; clear n0_ n1_ n3_; clear hb hbox hg) | ((with_reducible refine zzq (f := 72) rfl ?_); refine goesL_ (some 5) rfl rfl Try.func72 (by kernel_rfl) rfl #[.agg #[.int .i64 a0, .bool false]] rfl (by (try simp only [List.map_toArray, List.map_cons, List.map_nil]); first | done | rfl | (simp only [List.length_drop, List.length_take]; rfl)) ?_; (with_reducible refine (fixed_sound.calls a0 false t119 t120 _ A2.out).mono ?_); rintro e w4 ⟨rfl, hb⟩; refine ⟨_, rfl, ?_⟩; have n0_ := Aside0.mk (zzj (g := gb118) (o := .cells #[.int .i64 0, .bool false] 23 (0, 0)) (by (with_reducible repeat first | apply zzc | apply zzd | apply zzb); exact BK118.out) hb); have n1_ := Aside0.mk (zzl (by repeat (first | (with_reducible first | exact HB.out | apply zzf | apply zza | apply zzg | refine zze ?_ GE118.out) | exact HB.out)) hb); clear BK118; clear HB; have BK118 := n0_; have HB := n1_; clear n0_ n1_; have hcz5_0 : w4.cell? ⟨gb118, 0, none⟩ = some (.int .i64 0) := (zzi BK118.out 0).trans rfl; have hcz5_1 : w4.cell? ⟨gb118, 1, none⟩ = some (.bool false) := (zzi BK118.out 1).trans rfl; have hfz5_0 := zzh BK118.out 0; have hfz5_1 := zzh BK118.out 1))
  refine bodyPost_ret (results_cell_row rfl _ _ gb118 23 #[.int .i64 t119, .bool t120] (0, 0) _ rfl (by (with_reducible repeat first | apply zzc | apply zzd | apply zzb); refine zzo (cs := #[.int .i64 t119, .bool false]) ?_ 1 _ rfl; (with_reducible repeat first | apply zzc | apply zzd | apply zzb); refine zzo (cs := #[.int .i64 0, .bool false]) ?_ 0 _ rfl; (with_reducible repeat first | apply zzc | apply zzd | apply zzb); exact BK118.out) Try.underlying23 rfl (by kernel_rfl)) rfl ?_
  exact ⟨by first | rfl | (simp [zzn, zzm] <;> rfl) | (simp [*, zzn, zzm] <;> rfl), by repeat (first | (with_reducible first | exact HB.out | apply zzf | apply zza | apply zzg | refine zze ?_ GE118.out) | exact HB.out)⟩
def cmp_isNaN_int64.f (a0 : Int) : Option (Bool) := some (a0 != a0)
set_option maxHeartbeats 8000000 in
set_option maxRecDepth 100000 in
theorem cmp_isNaN_int64.calls (a0 : Int) (r : Bool) (w : World) (h : cmp_isNaN_int64.f a0 = some r) :
    Calls Try.prog 111 #[.int .i64 a0] w fun e w' => e = .returned (.bool r) ∧ Drawn0 w w' := by
  have H : (some (a0 != a0)) = some r := h
  clear h
  obtain rfl := Option.some.inj H
  go_enter Try.func111, Try.ntmps111
  go_wp2
  go_ret
  exact ⟨by first | rfl | (simp; done) | (simp [*]; done), by repeat (first | exact Drawn0.refl _ | apply Drawn0.step)⟩
def cmp_Compare_int64.f (a0 : Int) (a1 : Int) : Option (Int) := (cmp_isNaN_int64.f a0).bind fun t121 => ((cmp_isNaN_int64.f a1).bind fun t122 => (if t121 = true then (if t122 = true then (some 0) else (some (-1))) else (if t122 = true then (some 1) else (if a0 < a1 then (some (-1)) else (if a0 > a1 then (some 1) else (some 0))))))
set_option maxHeartbeats 8000000 in
set_option maxRecDepth 100000 in
theorem cmp_Compare_int64.calls (a0 : Int) (a1 : Int) (r : Int) (w : World) (h : cmp_Compare_int64.f a0 a1 = some r) :
    Calls Try.prog 78 #[.int .i64 a0, .int .i64 a1] w fun e w' => e = .returned (.int .i64 r) ∧ Drawn0 w w' := by
  have H : ((cmp_isNaN_int64.f a0).bind fun t121 => ((cmp_isNaN_int64.f a1).bind fun t122 => (if t121 = true then (if t122 = true then (some 0) else (some (-1))) else (if t122 = true then (some 1) else (if a0 < a1 then (some (-1)) else (if a0 > a1 then (some 1) else (some 0))))))) = some r := h
  clear h
  replace H := Option.bind_eq_some_iff.mp H
  obtain ⟨t121, A30, H⟩ := H
  replace H : ((cmp_isNaN_int64.f a1).bind fun t122 => (if t121 = true then (if t122 = true then (some 0) else (some (-1))) else (if t122 = true then (some 1) else (if a0 < a1 then (some (-1)) else (if a0 > a1 then (some 1) else (some 0)))))) = some r := H
  have A3 := Aside0.mk A30
  clear A30
  replace H := Option.bind_eq_some_iff.mp H
  obtain ⟨t122, A40, H⟩ := H
  replace H : (if t121 = true then (if t122 = true then (some 0) else (some (-1))) else (if t122 = true then (some 1) else (if a0 < a1 then (some (-1)) else (if a0 > a1 then (some 1) else (some 0))))) = some r := H
  have A4 := Aside0.mk A40
  clear A40
  by_cases c5 : t121 = true
  · subst c5
    have H1 : (if t122 = true then (some 0) else (some (-1))) = some r := by rw [if_pos rfl] at H; exact H
    clear H
    have H := H1
    clear H1
    by_cases c6 : t122 = true
    · subst c6
      have H1 : (some 0) = some r := by rw [if_pos rfl] at H; exact H
      clear H
      have H := H1
      clear H1
      obtain rfl := Option.some.inj H
      go_enter Try.func78, Try.ntmps78
      go_wp2_with (first | ((with_reducible refine zzq (f := 111) rfl ?_); refine goesL_ (some 8) rfl rfl Try.func111 (by kernel_rfl) rfl #[.int .i64 a0] rfl (by (try simp only [List.map_toArray, List.map_cons, List.map_nil]); first | done | rfl | (simp only [List.length_drop, List.length_take]; rfl)) ?_; (with_reducible refine (cmp_isNaN_int64.calls a0 true _ A3.out).mono ?_); rintro e w' ⟨rfl, ⟨nd, rfl⟩⟩; refine ⟨_, rfl, ?_⟩) | ((with_reducible refine zzq (f := 111) rfl ?_); refine goesL_ (some 10) rfl rfl Try.func111 (by kernel_rfl) rfl #[.int .i64 a1] rfl (by (try simp only [List.map_toArray, List.map_cons, List.map_nil]); first | done | rfl | (simp only [List.length_drop, List.length_take]; rfl)) ?_; (with_reducible refine (cmp_isNaN_int64.calls a1 true _ A4.out).mono ?_); rintro e w' ⟨rfl, ⟨nd, rfl⟩⟩; refine ⟨_, rfl, ?_⟩))
      go_ret
      exact ⟨by first | rfl | (simp; done) | (simp [*]; done), by repeat (first | exact Drawn0.refl _ | apply Drawn0.step)⟩
    · replace c6 := Bool.eq_false_iff.mpr c6
      subst c6
      have H1 : (some (-1)) = some r := by rw [if_neg (show ¬ (false = true) by decide)] at H; exact H
      clear H
      have H := H1
      clear H1
      obtain rfl := Option.some.inj H
      go_enter Try.func78, Try.ntmps78
      go_wp2_with (first | ((with_reducible refine zzq (f := 111) rfl ?_); refine goesL_ (some 8) rfl rfl Try.func111 (by kernel_rfl) rfl #[.int .i64 a0] rfl (by (try simp only [List.map_toArray, List.map_cons, List.map_nil]); first | done | rfl | (simp only [List.length_drop, List.length_take]; rfl)) ?_; (with_reducible refine (cmp_isNaN_int64.calls a0 true _ A3.out).mono ?_); rintro e w' ⟨rfl, ⟨nd, rfl⟩⟩; refine ⟨_, rfl, ?_⟩) | ((with_reducible refine zzq (f := 111) rfl ?_); refine goesL_ (some 10) rfl rfl Try.func111 (by kernel_rfl) rfl #[.int .i64 a1] rfl (by (try simp only [List.map_toArray, List.map_cons, List.map_nil]); first | done | rfl | (simp only [List.length_drop, List.length_take]; rfl)) ?_; (with_reducible refine (cmp_isNaN_int64.calls a1 false _ A4.out).mono ?_); rintro e w' ⟨rfl, ⟨nd, rfl⟩⟩; refine ⟨_, rfl, ?_⟩))
      go_ret
      exact ⟨by first | rfl | (simp; done) | (simp [*]; done), by repeat (first | exact Drawn0.refl _ | apply Drawn0.step)⟩
  · replace c5 := Bool.eq_false_iff.mpr c5
    subst c5
    have H1 : (if t122 = true then (some 1) else (if a0 < a1 then (some (-1)) else (if a0 > a1 then (some 1) else (some 0)))) = some r := by rw [if_neg (show ¬ (false = true) by decide)] at H; exact H
    clear H
    have H := H1
    clear H1
    by_cases c7 : t122 = true
    · subst c7
      have H1 : (some 1) = some r := by rw [if_pos rfl] at H; exact H
      clear H
      have H := H1
      clear H1
      obtain rfl := Option.some.inj H
      go_enter Try.func78, Try.ntmps78
      go_wp2_with (first | ((with_reducible refine zzq (f := 111) rfl ?_); refine goesL_ (some 8) rfl rfl Try.func111 (by kernel_rfl) rfl #[.int .i64 a0] rfl (by (try simp only [List.map_toArray, List.map_cons, List.map_nil]); first | done | rfl | (simp only [List.length_drop, List.length_take]; rfl)) ?_; (with_reducible refine (cmp_isNaN_int64.calls a0 false _ A3.out).mono ?_); rintro e w' ⟨rfl, ⟨nd, rfl⟩⟩; refine ⟨_, rfl, ?_⟩) | ((with_reducible refine zzq (f := 111) rfl ?_); refine goesL_ (some 10) rfl rfl Try.func111 (by kernel_rfl) rfl #[.int .i64 a1] rfl (by (try simp only [List.map_toArray, List.map_cons, List.map_nil]); first | done | rfl | (simp only [List.length_drop, List.length_take]; rfl)) ?_; (with_reducible refine (cmp_isNaN_int64.calls a1 true _ A4.out).mono ?_); rintro e w' ⟨rfl, ⟨nd, rfl⟩⟩; refine ⟨_, rfl, ?_⟩))
      go_ret
      exact ⟨by first | rfl | (simp; done) | (simp [*]; done), by repeat (first | exact Drawn0.refl _ | apply Drawn0.step)⟩
    · replace c7 := Bool.eq_false_iff.mpr c7
      subst c7
      have H1 : (if a0 < a1 then (some (-1)) else (if a0 > a1 then (some 1) else (some 0))) = some r := by rw [if_neg (show ¬ (false = true) by decide)] at H; exact H
      clear H
      have H := H1
      clear H1
      by_cases c8 : a0 < a1
      · rw [if_pos c8] at H
        have c8b0 : decide (a0 < a1) = true := decide_eq_true c8
        clear c8
        obtain rfl := Option.some.inj H
        go_enter Try.func78, Try.ntmps78
        go_wp2_with (first | ((with_reducible refine zzq (f := 111) rfl ?_); refine goesL_ (some 8) rfl rfl Try.func111 (by kernel_rfl) rfl #[.int .i64 a0] rfl (by (try simp only [List.map_toArray, List.map_cons, List.map_nil]); first | done | rfl | (simp only [List.length_drop, List.length_take]; rfl)) ?_; (with_reducible refine (cmp_isNaN_int64.calls a0 false _ A3.out).mono ?_); rintro e w' ⟨rfl, ⟨nd, rfl⟩⟩; refine ⟨_, rfl, ?_⟩) | ((with_reducible refine zzq (f := 111) rfl ?_); refine goesL_ (some 10) rfl rfl Try.func111 (by kernel_rfl) rfl #[.int .i64 a1] rfl (by (try simp only [List.map_toArray, List.map_cons, List.map_nil]); first | done | rfl | (simp only [List.length_drop, List.length_take]; rfl)) ?_; (with_reducible refine (cmp_isNaN_int64.calls a1 false _ A4.out).mono ?_); rintro e w' ⟨rfl, ⟨nd, rfl⟩⟩; refine ⟨_, rfl, ?_⟩))
        go_ret
        exact ⟨by first | rfl | (simp; done) | (simp [*]; done), by repeat (first | exact Drawn0.refl _ | apply Drawn0.step)⟩
      · rw [if_neg c8] at H
        have c8b0 : decide (a0 < a1) = false := decide_eq_false c8
        clear c8
        by_cases c9 : a0 > a1
        · rw [if_pos c9] at H
          have c9b0 : decide (a1 < a0) = true := decide_eq_true c9
          clear c9
          obtain rfl := Option.some.inj H
          go_enter Try.func78, Try.ntmps78
          go_wp2_with (first | ((with_reducible refine zzq (f := 111) rfl ?_); refine goesL_ (some 8) rfl rfl Try.func111 (by kernel_rfl) rfl #[.int .i64 a0] rfl (by (try simp only [List.map_toArray, List.map_cons, List.map_nil]); first | done | rfl | (simp only [List.length_drop, List.length_take]; rfl)) ?_; (with_reducible refine (cmp_isNaN_int64.calls a0 false _ A3.out).mono ?_); rintro e w' ⟨rfl, ⟨nd, rfl⟩⟩; refine ⟨_, rfl, ?_⟩) | ((with_reducible refine zzq (f := 111) rfl ?_); refine goesL_ (some 10) rfl rfl Try.func111 (by kernel_rfl) rfl #[.int .i64 a1] rfl (by (try simp only [List.map_toArray, List.map_cons, List.map_nil]); first | done | rfl | (simp only [List.length_drop, List.length_take]; rfl)) ?_; (with_reducible refine (cmp_isNaN_int64.calls a1 false _ A4.out).mono ?_); rintro e w' ⟨rfl, ⟨nd, rfl⟩⟩; refine ⟨_, rfl, ?_⟩))
          go_ret
          exact ⟨by first | rfl | (simp; done) | (simp [*]; done), by repeat (first | exact Drawn0.refl _ | apply Drawn0.step)⟩
        · rw [if_neg c9] at H
          have c9b0 : decide (a1 < a0) = false := decide_eq_false c9
          clear c9
          obtain rfl := Option.some.inj H
          go_enter Try.func78, Try.ntmps78
          go_wp2_with (first | ((with_reducible refine zzq (f := 111) rfl ?_); refine goesL_ (some 8) rfl rfl Try.func111 (by kernel_rfl) rfl #[.int .i64 a0] rfl (by (try simp only [List.map_toArray, List.map_cons, List.map_nil]); first | done | rfl | (simp only [List.length_drop, List.length_take]; rfl)) ?_; (with_reducible refine (cmp_isNaN_int64.calls a0 false _ A3.out).mono ?_); rintro e w' ⟨rfl, ⟨nd, rfl⟩⟩; refine ⟨_, rfl, ?_⟩) | ((with_reducible refine zzq (f := 111) rfl ?_); refine goesL_ (some 10) rfl rfl Try.func111 (by kernel_rfl) rfl #[.int .i64 a1] rfl (by (try simp only [List.map_toArray, List.map_cons, List.map_nil]); first | done | rfl | (simp only [List.length_drop, List.length_take]; rfl)) ?_; (with_reducible refine (cmp_isNaN_int64.calls a1 false _ A4.out).mono ?_); rintro e w' ⟨rfl, ⟨nd, rfl⟩⟩; refine ⟨_, rfl, ?_⟩))
          go_ret
          exact ⟨by first | rfl | (simp; done) | (simp [*]; done), by repeat (first | exact Drawn0.refl _ | apply Drawn0.step)⟩
def bits_LeadingZeros64.f (a0 : Int) : Option (Int) := (bits_Len64.f a0).bind fun t123 => (some (wrap64 (64 - t123)))
set_option maxHeartbeats 8000000 in
set_option maxRecDepth 100000 in
theorem bits_LeadingZeros64.calls (a0 : Int) (r : Int) (w : World) (h : bits_LeadingZeros64.f a0 = some r) :
    Calls Try.prog 114 #[.int .u64 a0] w fun e w' => e = .returned (.int .i64 r) ∧ Below w.heap.size w w' := by
  have HB := Aside0.mk (Below.refl w.heap.size w)
  have H : ((bits_Len64.f a0).bind fun t123 => (some (wrap64 (64 - t123)))) = some r := h
  clear h
  replace H := Option.bind_eq_some_iff.mp H
  obtain ⟨t123, A20, H⟩ := H
  replace H : (some (wrap64 (64 - t123))) = some r := H
  have A2 := Aside0.mk A20
  clear A20
  obtain rfl := Option.some.inj H
  go_enter Try.func114, Try.ntmps114
  go_wp2_with (first | ((with_reducible refine zzq (f := 113) rfl ?_); refine goesL_ (some 4) rfl rfl Try.func113 (by kernel_rfl) rfl #[.int .u64 a0] rfl (by (try simp only [List.map_toArray, List.map_cons, List.map_nil]); first | done | rfl | (simp only [List.length_drop, List.length_take]; rfl)) ?_; (with_reducible refine (bits_Len64.calls a0 t123 _ A2.out).mono ?_); rintro e w3 ⟨rfl, hb⟩; refine ⟨_, rfl, ?_⟩; have n0_ := Aside0.mk (zzl (by repeat (first | (with_reducible first | exact HB.out | apply zzf | apply zza | apply zzg) | exact HB.out)) hb); clear HB; have HB := n0_; clear n0_; (try clear hi)))
  go_ret
  exact ⟨by first | rfl | (simp [zzn, zzm] <;> rfl) | (simp [*, zzn, zzm] <;> rfl), by repeat (first | (with_reducible first | exact HB.out | apply zzf | apply zza | apply zzg) | exact HB.out)⟩
end Go.Proofs.Ytenpiaafkmfjfaa.B

end
section
namespace Go.Proofs.Ytenpiaafkmfjfaa.B
open Go.RowKit Go.Proofs.YtenpiaafkmfjfaaW.PrintWords Go.Proofs.YtenpiaafkmfjfaaW.PrintLast
set_option linter.unusedVariables false
set_option linter.unusedSimpArgs false
mutual
def bits_Div64.j2 : Nat → Int → Int → Int → Int → Int → Int → Int → Int → Option (Int × Int)
  | 0, _, _, _, _, _, _, _, _ => none
  | k + 1, x2, x8, x9, x10, x11, x13, x14, x15 => if x9 = 0 then (none) else (bits_Div64.l1 k x2 x8 x9 x10 x14 x15 (IntKind.u64.wrap ((IntKind.u64.wrap ((IntKind.u64.wrap ((IntKind.u64.wrap (x11 * 4294967296)) + x13)) - (IntKind.u64.wrap (x15 * x2)))) - (IntKind.u64.wrap ((IntKind.u64.wrap (Int.tdiv (IntKind.u64.wrap ((IntKind.u64.wrap ((IntKind.u64.wrap (x11 * 4294967296)) + x13)) - (IntKind.u64.wrap (x15 * x2)))) x9)) * x9)))) (IntKind.u64.wrap ((IntKind.u64.wrap ((IntKind.u64.wrap (x11 * 4294967296)) + x13)) - (IntKind.u64.wrap (x15 * x2)))) (IntKind.u64.wrap (Int.tdiv (IntKind.u64.wrap ((IntKind.u64.wrap ((IntKind.u64.wrap (x11 * 4294967296)) + x13)) - (IntKind.u64.wrap (x15 * x2)))) x9)))
def bits_Div64.l1 : Nat → Int → Int → Int → Int → Int → Int → Int → Int → Int → Option (Int × Int)
  | 0, _, _, _, _, _, _, _, _, _ => none
  | k + 1, x2, x8, x9, x10, x14, x15, x16, x17, x18 => if x18 ≥ 4294967296 then (bits_Div64.j4 k x2 x8 x9 x10 x14 x15 x16 x17 x18 true) else (bits_Div64.j4 k x2 x8 x9 x10 x14 x15 x16 x17 x18 (decide ((IntKind.u64.wrap (x18 * x10)) > (IntKind.u64.wrap ((IntKind.u64.wrap (4294967296 * x16)) + x14)))))
def bits_Div64.j4 : Nat → Int → Int → Int → Int → Int → Int → Int → Int → Int → Bool → Option (Int × Int)
  | 0, _, _, _, _, _, _, _, _, _, _ => none
  | k + 1, x2, x8, x9, x10, x14, x15, x16, x17, x18, x113 => if x113 = true then (if (IntKind.u64.wrap (x16 + x9)) ≥ 4294967296 then (if 0 ≤ x8 then (some (IntKind.u64.wrap ((IntKind.u64.wrap (x15 * 4294967296)) + (IntKind.u64.wrap (x18 - 1))), shr .u64 (IntKind.u64.wrap ((IntKind.u64.wrap ((IntKind.u64.wrap (x17 * 4294967296)) + x14)) - (IntKind.u64.wrap ((IntKind.u64.wrap (x18 - 1)) * x2)))) x8)) else (none)) else (bits_Div64.l1 k x2 x8 x9 x10 x14 x15 (IntKind.u64.wrap (x16 + x9)) x17 (IntKind.u64.wrap (x18 - 1)))) else (if 0 ≤ x8 then (some (IntKind.u64.wrap ((IntKind.u64.wrap (x15 * 4294967296)) + x18), shr .u64 (IntKind.u64.wrap ((IntKind.u64.wrap ((IntKind.u64.wrap (x17 * 4294967296)) + x14)) - (IntKind.u64.wrap (x18 * x2)))) x8)) else (none))
def bits_Div64.l0 : Nat → Int → Int → Int → Int → Int → Int → Int → Int → Int → Option (Int × Int)
  | 0, _, _, _, _, _, _, _, _, _ => none
  | k + 1, x2, x8, x9, x10, x11, x13, x14, x15, x16 => if x15 ≥ 4294967296 then (bits_Div64.j1 k x2 x8 x9 x10 x11 x13 x14 x15 x16 true) else (bits_Div64.j1 k x2 x8 x9 x10 x11 x13 x14 x15 x16 (decide ((IntKind.u64.wrap (x15 * x10)) > (IntKind.u64.wrap ((IntKind.u64.wrap (4294967296 * x16)) + x13)))))
def bits_Div64.j1 : Nat → Int → Int → Int → Int → Int → Int → Int → Int → Int → Bool → Option (Int × Int)
  | 0, _, _, _, _, _, _, _, _, _, _ => none
  | k + 1, x2, x8, x9, x10, x11, x13, x14, x15, x16, x78 => if x78 = true then (if (IntKind.u64.wrap (x16 + x9)) ≥ 4294967296 then (bits_Div64.j2 k x2 x8 x9 x10 x11 x13 x14 (IntKind.u64.wrap (x15 - 1))) else (bits_Div64.l0 k x2 x8 x9 x10 x11 x13 x14 (IntKind.u64.wrap (x15 - 1)) (IntKind.u64.wrap (x16 + x9)))) else (bits_Div64.j2 k x2 x8 x9 x10 x11 x13 x14 x15)
end
def bits_Div64.f (k : Nat) (a0 : Int) (a1 : Int) (a2 : Int) : Option (Int × Int) := if a2 = 0 then (none) else (if a2 ≤ a0 then (none) else (if a0 = 0 then (some (IntKind.u64.wrap (Int.tdiv a1 a2), Int.tmod a1 a2)) else ((bits_LeadingZeros64.f a2).bind fun t124 => (if 0 ≤ (IntKind.u64.wrap (t124)) then (if 0 ≤ (IntKind.u64.wrap (64 - (IntKind.u64.wrap (t124)))) then (if ((shl .u64 a2 (IntKind.u64.wrap (t124))) / 4294967296) = 0 then (none) else (bits_Div64.l0 k (shl .u64 a2 (IntKind.u64.wrap (t124))) (IntKind.u64.wrap (t124)) ((shl .u64 a2 (IntKind.u64.wrap (t124))) / 4294967296) (Go.bits .and .u64 (shl .u64 a2 (IntKind.u64.wrap (t124))) 4294967295) (Go.bits .or .u64 (shl .u64 a0 (IntKind.u64.wrap (t124))) (shr .u64 a1 (IntKind.u64.wrap (64 - (IntKind.u64.wrap (t124)))))) ((shl .u64 a1 (IntKind.u64.wrap (t124))) / 4294967296) (Go.bits .and .u64 (shl .u64 a1 (IntKind.u64.wrap (t124))) 4294967295) (IntKind.u64.wrap (Int.tdiv (Go.bits .or .u64 (shl .u64 a0 (IntKind.u64.wrap (t124))) (shr .u64 a1 (IntKind.u64.wrap (64 - (IntKind.u64.wrap (t124)))))) ((shl .u64 a2 (IntKind.u64.wrap (t124))) / 4294967296))) (IntKind.u64.wrap ((Go.bits .or .u64 (shl .u64 a0 (IntKind.u64.wrap (t124))) (shr .u64 a1 (IntKind.u64.wrap (64 - (IntKind.u64.wrap (t124)))))) - (IntKind.u64.wrap ((IntKind.u64.wrap (Int.tdiv (Go.bits .or .u64 (shl .u64 a0 (IntKind.u64.wrap (t124))) (shr .u64 a1 (IntKind.u64.wrap (64 - (IntKind.u64.wrap (t124)))))) ((shl .u64 a2 (IntKind.u64.wrap (t124))) / 4294967296))) * ((shl .u64 a2 (IntKind.u64.wrap (t124))) / 4294967296))))))) else (none)) else (none)))))
set_option maxHeartbeats 8000000 in
set_option maxRecDepth 100000 in
theorem bits_Div64.calls (k : Nat) (a0 : Int) (a1 : Int) (a2 : Int) (r1 : Int) (r2 : Int) (w : World) (h : bits_Div64.f k a0 a1 a2 = some (r1, r2)) :
    Calls Try.prog 91 #[.int .u64 a0, .int .u64 a1, .int .u64 a2] w fun e w' => e = .returned (.tuple #[.int .u64 r1, .int .u64 r2]) ∧ Below w.heap.size w w' := by
  have HB := Aside0.mk (Below.refl w.heap.size w)
  have H : (if a2 = 0 then (none) else (if a2 ≤ a0 then (none) else (if a0 = 0 then (some (IntKind.u64.wrap (Int.tdiv a1 a2), Int.tmod a1 a2)) else ((bits_LeadingZeros64.f a2).bind fun t124 => (if 0 ≤ (IntKind.u64.wrap (t124)) then (if 0 ≤ (IntKind.u64.wrap (64 - (IntKind.u64.wrap (t124)))) then (if ((shl .u64 a2 (IntKind.u64.wrap (t124))) / 4294967296) = 0 then (none) else (bits_Div64.l0 k (shl .u64 a2 (IntKind.u64.wrap (t124))) (IntKind.u64.wrap (t124)) ((shl .u64 a2 (IntKind.u64.wrap (t124))) / 4294967296) (Go.bits .and .u64 (shl .u64 a2 (IntKind.u64.wrap (t124))) 4294967295) (Go.bits .or .u64 (shl .u64 a0 (IntKind.u64.wrap (t124))) (shr .u64 a1 (IntKind.u64.wrap (64 - (IntKind.u64.wrap (t124)))))) ((shl .u64 a1 (IntKind.u64.wrap (t124))) / 4294967296) (Go.bits .and .u64 (shl .u64 a1 (IntKind.u64.wrap (t124))) 4294967295) (IntKind.u64.wrap (Int.tdiv (Go.bits .or .u64 (shl .u64 a0 (IntKind.u64.wrap (t124))) (shr .u64 a1 (IntKind.u64.wrap (64 - (IntKind.u64.wrap (t124)))))) ((shl .u64 a2 (IntKind.u64.wrap (t124))) / 4294967296))) (IntKind.u64.wrap ((Go.bits .or .u64 (shl .u64 a0 (IntKind.u64.wrap (t124))) (shr .u64 a1 (IntKind.u64.wrap (64 - (IntKind.u64.wrap (t124)))))) - (IntKind.u64.wrap ((IntKind.u64.wrap (Int.tdiv (Go.bits .or .u64 (shl .u64 a0 (IntKind.u64.wrap (t124))) (shr .u64 a1 (IntKind.u64.wrap (64 - (IntKind.u64.wrap (t124)))))) ((shl .u64 a2 (IntKind.u64.wrap (t124))) / 4294967296))) * ((shl .u64 a2 (IntKind.u64.wrap (t124))) / 4294967296))))))) else (none)) else (none)))))) = some (r1, r2) := h
  clear h
  by_cases c4 : a2 = 0
  · rw [if_pos c4] at H
    exact absurd H (by simp)
  · rw [if_neg c4] at H
    have c4b0 : (a2 == 0) = false := beq_eq_false_iff_ne.mpr c4
    have c4b1 : (a2 != 0) = true := bne_iff_ne.mpr c4
    by_cases c5 : a2 ≤ a0
    · rw [if_pos c5] at H
      exact absurd H (by simp)
    · rw [if_neg c5] at H
      have c5b0 : decide (a2 ≤ a0) = false := decide_eq_false c5
      clear c5
      by_cases c6 : a0 = 0
      · rw [if_pos c6] at H
        have c6b0 : (a0 == 0) = true := beq_iff_eq.mpr c6
        have c6b1 : (a0 != 0) = false := bne_eq_false_iff_eq.mpr c6
        clear c6
        simp only [Option.some.injEq, Prod.mk.injEq] at H
        obtain ⟨rfl, rfl⟩ := H
        go_enter Try.func91, Try.ntmps91
        go_wp2
        repeat (go_quiet (fail); try go_wp2)
        go_ret2
        exact ⟨by first | rfl | (simp [zzn, zzm] <;> rfl) | (simp [*, zzn, zzm] <;> rfl), by repeat (first | (with_reducible first | exact HB.out | apply zzf | apply zza | apply zzg) | exact HB.out)⟩
      · rw [if_neg c6] at H
        have c6b0 : (a0 == 0) = false := beq_eq_false_iff_ne.mpr c6
        have c6b1 : (a0 != 0) = true := bne_iff_ne.mpr c6
        replace H := Option.bind_eq_some_iff.mp H
        obtain ⟨t124, A70, H⟩ := H
        replace H : (if 0 ≤ (IntKind.u64.wrap (t124)) then (if 0 ≤ (IntKind.u64.wrap (64 - (IntKind.u64.wrap (t124)))) then (if ((shl .u64 a2 (IntKind.u64.wrap (t124))) / 4294967296) = 0 then (none) else (bits_Div64.l0 k (shl .u64 a2 (IntKind.u64.wrap (t124))) (IntKind.u64.wrap (t124)) ((shl .u64 a2 (IntKind.u64.wrap (t124))) / 4294967296) (Go.bits .and .u64 (shl .u64 a2 (IntKind.u64.wrap (t124))) 4294967295) (Go.bits .or .u64 (shl .u64 a0 (IntKind.u64.wrap (t124))) (shr .u64 a1 (IntKind.u64.wrap (64 - (IntKind.u64.wrap (t124)))))) ((shl .u64 a1 (IntKind.u64.wrap (t124))) / 4294967296) (Go.bits .and .u64 (shl .u64 a1 (IntKind.u64.wrap (t124))) 4294967295) (IntKind.u64.wrap (Int.tdiv (Go.bits .or .u64 (shl .u64 a0 (IntKind.u64.wrap (t124))) (shr .u64 a1 (IntKind.u64.wrap (64 - (IntKind.u64.wrap (t124)))))) ((shl .u64 a2 (IntKind.u64.wrap (t124))) / 4294967296))) (IntKind.u64.wrap ((Go.bits .or .u64 (shl .u64 a0 (IntKind.u64.wrap (t124))) (shr .u64 a1 (IntKind.u64.wrap (64 - (IntKind.u64.wrap (t124)))))) - (IntKind.u64.wrap ((IntKind.u64.wrap (Int.tdiv (Go.bits .or .u64 (shl .u64 a0 (IntKind.u64.wrap (t124))) (shr .u64 a1 (IntKind.u64.wrap (64 - (IntKind.u64.wrap (t124)))))) ((shl .u64 a2 (IntKind.u64.wrap (t124))) / 4294967296))) * ((shl .u64 a2 (IntKind.u64.wrap (t124))) / 4294967296))))))) else (none)) else (none)) = some (r1, r2) := H
        have A7 := Aside0.mk A70
        clear A70
        obtain ⟨ji8, hji8⟩ : ∃ j_ : Int, (IntKind.u64.wrap (t124)) = j_ := ⟨_, rfl⟩
        replace H : (if 0 ≤ (ji8) then (if 0 ≤ (IntKind.u64.wrap (64 - (ji8))) then (if ((shl .u64 a2 (ji8)) / 4294967296) = 0 then (none) else (bits_Div64.l0 k (shl .u64 a2 (ji8)) ji8 ((shl .u64 a2 (ji8)) / 4294967296) (Go.bits .and .u64 (shl .u64 a2 (ji8)) 4294967295) (Go.bits .or .u64 (shl .u64 a0 (ji8)) (shr .u64 a1 (IntKind.u64.wrap (64 - (ji8))))) ((shl .u64 a1 (ji8)) / 4294967296) (Go.bits .and .u64 (shl .u64 a1 (ji8)) 4294967295) (IntKind.u64.wrap (Int.tdiv (Go.bits .or .u64 (shl .u64 a0 (ji8)) (shr .u64 a1 (IntKind.u64.wrap (64 - (ji8))))) ((shl .u64 a2 (ji8)) / 4294967296))) (IntKind.u64.wrap ((Go.bits .or .u64 (shl .u64 a0 (ji8)) (shr .u64 a1 (IntKind.u64.wrap (64 - (ji8))))) - (IntKind.u64.wrap ((IntKind.u64.wrap (Int.tdiv (Go.bits .or .u64 (shl .u64 a0 (ji8)) (shr .u64 a1 (IntKind.u64.wrap (64 - (ji8))))) ((shl .u64 a2 (ji8)) / 4294967296))) * ((shl .u64 a2 (ji8)) / 4294967296))))))) else (none)) else (none)) = some (r1, r2) := by first | (rw [hji8] at H; exact H) | (simp only [hji8] at H ⊢; exact H)
        (try rw [hji8] at A7)
        by_cases c9 : 0 ≤ (ji8)
        · rw [if_pos c9] at H
          have c9b0 := eq_true c9
          have c9b1 : decide (0 ≤ (ji8)) = true := decide_eq_true c9
          clear c9
          obtain ⟨ji10, hji10⟩ : ∃ j_ : Int, (shl .u64 a2 (ji8)) = j_ := ⟨_, rfl⟩
          replace H : (if 0 ≤ (IntKind.u64.wrap (64 - (ji8))) then (if ((ji10) / 4294967296) = 0 then (none) else (bits_Div64.l0 k ji10 ji8 ((ji10) / 4294967296) (Go.bits .and .u64 (ji10) 4294967295) (Go.bits .or .u64 (shl .u64 a0 (ji8)) (shr .u64 a1 (IntKind.u64.wrap (64 - (ji8))))) ((shl .u64 a1 (ji8)) / 4294967296) (Go.bits .and .u64 (shl .u64 a1 (ji8)) 4294967295) (IntKind.u64.wrap (Int.tdiv (Go.bits .or .u64 (shl .u64 a0 (ji8)) (shr .u64 a1 (IntKind.u64.wrap (64 - (ji8))))) ((ji10) / 4294967296))) (IntKind.u64.wrap ((Go.bits .or .u64 (shl .u64 a0 (ji8)) (shr .u64 a1 (IntKind.u64.wrap (64 - (ji8))))) - (IntKind.u64.wrap ((IntKind.u64.wrap (Int.tdiv (Go.bits .or .u64 (shl .u64 a0 (ji8)) (shr .u64 a1 (IntKind.u64.wrap (64 - (ji8))))) ((ji10) / 4294967296))) * ((ji10) / 4294967296))))))) else (none)) = some (r1, r2) := by first | (rw [hji10] at H; exact H) | (simp only [hji10] at H ⊢; exact H)
          (try rw [hji10] at A7)
          have hji10_ : (IntKind.u64.wrap (a2 * 2 ^ min (ji8).toNat 64)) = ji10 := hji10
          have hji10z : (ji8) ≤ 64 → (IntKind.u64.wrap (a2 * 2 ^ (ji8).toNat)) = ji10 := shl_small hji10
          have c11b0 := eq_true (of_decide_eq_true (by first | (with_reducible assumption) | assumption) : 0 ≤ (ji8))
          obtain ⟨ji12, hji12⟩ : ∃ j_ : Int, (shl .u64 a0 (ji8)) = j_ := ⟨_, rfl⟩
          replace H : (if 0 ≤ (IntKind.u64.wrap (64 - (ji8))) then (if ((ji10) / 4294967296) = 0 then (none) else (bits_Div64.l0 k ji10 ji8 ((ji10) / 4294967296) (Go.bits .and .u64 (ji10) 4294967295) (Go.bits .or .u64 (ji12) (shr .u64 a1 (IntKind.u64.wrap (64 - (ji8))))) ((shl .u64 a1 (ji8)) / 4294967296) (Go.bits .and .u64 (shl .u64 a1 (ji8)) 4294967295) (IntKind.u64.wrap (Int.tdiv (Go.bits .or .u64 (ji12) (shr .u64 a1 (IntKind.u64.wrap (64 - (ji8))))) ((ji10) / 4294967296))) (IntKind.u64.wrap ((Go.bits .or .u64 (ji12) (shr .u64 a1 (IntKind.u64.wrap (64 - (ji8))))) - (IntKind.u64.wrap ((IntKind.u64.wrap (Int.tdiv (Go.bits .or .u64 (ji12) (shr .u64 a1 (IntKind.u64.wrap (64 - (ji8))))) ((ji10) / 4294967296))) * ((ji10) / 4294967296))))))) else (none)) = some (r1, r2) := by first | (rw [hji12] at H; exact H) | (simp only [hji12] at H ⊢; exact H)
          (try rw [hji12] at A7)
          have hji12_ : (IntKind.u64.wrap (a0 * 2 ^ min (ji8).toNat 64)) = ji12 := hji12
          have hji12z : (ji8) ≤ 64 → (IntKind.u64.wrap (a0 * 2 ^ (ji8).toNat)) = ji12 := shl_small hji12
          obtain ⟨ji13, hji13⟩ : ∃ j_ : Int, (IntKind.u64.wrap (64 - (ji8))) = j_ := ⟨_, rfl⟩
          replace H : (if 0 ≤ (ji13) then (if ((ji10) / 4294967296) = 0 then (none) else (bits_Div64.l0 k ji10 ji8 ((ji10) / 4294967296) (Go.bits .and .u64 (ji10) 4294967295) (Go.bits .or .u64 (ji12) (shr .u64 a1 (ji13))) ((shl .u64 a1 (ji8)) / 4294967296) (Go.bits .and .u64 (shl .u64 a1 (ji8)) 4294967295) (IntKind.u64.wrap (Int.tdiv (Go.bits .or .u64 (ji12) (shr .u64 a1 (ji13))) ((ji10) / 4294967296))) (IntKind.u64.wrap ((Go.bits .or .u64 (ji12) (shr .u64 a1 (ji13))) - (IntKind.u64.wrap ((IntKind.u64.wrap (Int.tdiv (Go.bits .or .u64 (ji12) (shr .u64 a1 (ji13))) ((ji10) / 4294967296))) * ((ji10) / 4294967296))))))) else (none)) = some (r1, r2) := by first | (rw [hji13] at H; exact H) | (simp only [hji13] at H ⊢; exact H)
          (try rw [hji13] at A7)
          by_cases c14 : 0 ≤ (ji13)
          · rw [if_pos c14] at H
            have c14b0 := eq_true c14
            have c14b1 : decide (0 ≤ (ji13)) = true := decide_eq_true c14
            clear c14
            obtain ⟨ji15, hji15⟩ : ∃ j_ : Int, (shr .u64 a1 (ji13)) = j_ := ⟨_, rfl⟩
            replace H : (if ((ji10) / 4294967296) = 0 then (none) else (bits_Div64.l0 k ji10 ji8 ((ji10) / 4294967296) (Go.bits .and .u64 (ji10) 4294967295) (Go.bits .or .u64 (ji12) (ji15)) ((shl .u64 a1 (ji8)) / 4294967296) (Go.bits .and .u64 (shl .u64 a1 (ji8)) 4294967295) (IntKind.u64.wrap (Int.tdiv (Go.bits .or .u64 (ji12) (ji15)) ((ji10) / 4294967296))) (IntKind.u64.wrap ((Go.bits .or .u64 (ji12) (ji15)) - (IntKind.u64.wrap ((IntKind.u64.wrap (Int.tdiv (Go.bits .or .u64 (ji12) (ji15)) ((ji10) / 4294967296))) * ((ji10) / 4294967296))))))) = some (r1, r2) := by first | (rw [hji15] at H; exact H) | (simp only [hji15] at H ⊢; exact H)
            (try rw [hji15] at A7)
            have hji15_ : (a1 / 2 ^ min (ji13).toNat 64) = ji15 := hji15
            have hji15z : (ji13) ≤ 64 → (a1 / 2 ^ (ji13).toNat) = ji15 := shr_small hji15
            have c16b0 := eq_true (of_decide_eq_true (by first | (with_reducible assumption) | assumption) : 0 ≤ (ji8))
            obtain ⟨ji17, hji17⟩ : ∃ j_ : Int, (shl .u64 a1 (ji8)) = j_ := ⟨_, rfl⟩
            replace H : (if ((ji10) / 4294967296) = 0 then (none) else (bits_Div64.l0 k ji10 ji8 ((ji10) / 4294967296) (Go.bits .and .u64 (ji10) 4294967295) (Go.bits .or .u64 (ji12) (ji15)) ((ji17) / 4294967296) (Go.bits .and .u64 (ji17) 4294967295) (IntKind.u64.wrap (Int.tdiv (Go.bits .or .u64 (ji12) (ji15)) ((ji10) / 4294967296))) (IntKind.u64.wrap ((Go.bits .or .u64 (ji12) (ji15)) - (IntKind.u64.wrap ((IntKind.u64.wrap (Int.tdiv (Go.bits .or .u64 (ji12) (ji15)) ((ji10) / 4294967296))) * ((ji10) / 4294967296))))))) = some (r1, r2) := by first | (rw [hji17] at H; exact H) | (simp only [hji17] at H ⊢; exact H)
            (try rw [hji17] at A7)
            have hji17_ : (IntKind.u64.wrap (a1 * 2 ^ min (ji8).toNat 64)) = ji17 := hji17
            have hji17z : (ji8) ≤ 64 → (IntKind.u64.wrap (a1 * 2 ^ (ji8).toNat)) = ji17 := shl_small hji17
            by_cases c18 : ((ji10) / 4294967296) = 0
            · rw [if_pos c18] at H
              exact absurd H (by simp)
            · rw [if_neg c18] at H
              have c18b0 : (((ji10) / 4294967296) == 0) = false := beq_eq_false_iff_ne.mpr c18
              have c18b1 : (((ji10) / 4294967296) != 0) = true := bne_iff_ne.mpr c18
              have HC19 := Aside0.mk H
              clear H
              go_enter Try.func91, Try.ntmps91
              go_upto_block 0 with (first | (go_at_call 114; (with_reducible refine (bits_LeadingZeros64.calls a2 t124 _ A7.out).mono ?_); rintro e w20 ⟨rfl, hb⟩; have n0_ := Aside0.mk (zzl (by repeat (first | (with_reducible first | exact HB.out | apply zzf | apply zza | apply zzg) | exact HB.out)) hb); clear HB; have HB := n0_; clear n0_; (try clear hi)))
              repeat (go_quiet (first | (go_at_call 114; (with_reducible refine (bits_LeadingZeros64.calls a2 t124 _ A7.out).mono ?_); rintro e w20 ⟨rfl, hb⟩; have n0_ := Aside0.mk (zzl (by repeat (first | (with_reducible first | exact HB.out | apply zzf | apply zza | apply zzg) | exact HB.out)) hb); clear HB; have HB := n0_; clear n0_; (try clear hi))); go_upto_block 0 with (first | (go_at_call 114; (with_reducible refine (bits_LeadingZeros64.calls a2 t124 _ A7.out).mono ?_); rintro e w20 ⟨rfl, hb⟩; have n0_ := Aside0.mk (zzl (by repeat (first | (with_reducible first | exact HB.out | apply zzf | apply zza | apply zzg) | exact HB.out)) hb); clear HB; have HB := n0_; clear n0_; (try clear hi))))
              (try simp only [Act.put, List.setIfInBounds_toArray, List.set_cons_zero, List.set_cons_succ])
              go_cut [15] (fun v15 wc => ∃ (kq : Nat) (x15_18 : Int), v15 = .int .u64 x15_18 ∧ Aside0 (bits_Div64.j2 kq ji10 ji8 ((ji10) / 4294967296) (Go.bits .and .u64 (ji10) 4294967295) (Go.bits .or .u64 (ji12) (ji15)) ((ji17) / 4294967296) (Go.bits .and .u64 (ji17) 4294967295) x15_18 = some (r1, r2)) ∧ Aside0 (kq ≤ k) ∧ Aside0 (Below w.heap.size w wc))
              case first =>
                have H := HC19.out
                clear HC19
                have H' := Aside0.mk H
                clear H
                go_wp2
                repeat (go_quiet (fail); try go_wp2)
                go_loopg [15, 16] k (fun kq v15 v16 w' => ∃ (x15_1 : Int) (x16_1 : Int), v15 = .int .u64 x15_1 ∧ v16 = .int .u64 x16_1 ∧ Aside0 (bits_Div64.l0 kq ji10 ji8 ((ji10) / 4294967296) (Go.bits .and .u64 (ji10) 4294967295) (Go.bits .or .u64 (ji12) (ji15)) ((ji17) / 4294967296) (Go.bits .and .u64 (ji17) 4294967295) x15_1 x16_1 = some (r1, r2)) ∧ Aside0 (kq ≤ k) ∧ Aside0 (Below w.heap.size w w'))
                case atStart => exact ⟨(IntKind.u64.wrap (Int.tdiv (Go.bits .or .u64 (ji12) (ji15)) ((ji10) / 4294967296))), (IntKind.u64.wrap ((Go.bits .or .u64 (ji12) (ji15)) - (IntKind.u64.wrap ((IntKind.u64.wrap (Int.tdiv (Go.bits .or .u64 (ji12) (ji15)) ((ji10) / 4294967296))) * ((ji10) / 4294967296))))), (by first | rfl | (simp; done) | (simp only [← hji10, ← hji12, ← hji15] <;> (first | rfl | simp)) | (simp [*]; done)), (by first | rfl | (simp; done) | (simp only [← hji10, ← hji12, ← hji15] <;> (first | rfl | simp)) | (simp [*]; done)), H', ⟨Nat.le_refl _⟩, ⟨by repeat (first | (with_reducible first | exact HB.out | apply zzf | apply zza | apply zzg) | exact HB.out)⟩⟩
                case round =>
                  clear H'
                  obtain ⟨x15_1, x16_1, rfl, rfl, HA, HK1, HB⟩ := hrel
                  cases gk with
                  | zero => exact absurd HA.out (by simp [bits_Div64.l0])
                  | succ k1 =>
                    have H := HA.out
                    clear HA
                    simp only [bits_Div64.l0] at H
                    have HC21 := Aside0.mk H
                    clear H
                    go_upto_region 17 with (fail)
                    repeat (go_quiet (fail); go_upto_region 17 with (fail))
                    go_cut [78] (fun v78 wc => ∃ (kq : Nat) (x78_20 : Bool), v78 = .bool x78_20 ∧ Aside0 (bits_Div64.j1 kq ji10 ji8 ((ji10) / 4294967296) (Go.bits .and .u64 (ji10) 4294967295) (Go.bits .or .u64 (ji12) (ji15)) ((ji17) / 4294967296) (Go.bits .and .u64 (ji17) 4294967295) x15_1 x16_1 x78_20 = some (r1, r2)) ∧ Aside0 (kq ≤ k1) ∧ Aside0 (Below w.heap.size w wc))
                    case first =>
                      have H := HC21.out
                      clear HC21
                      by_cases c22 : x15_1 ≥ 4294967296
                      · rw [if_pos c22] at H
                        have c22b0 : decide (4294967296 ≤ x15_1) = true := decide_eq_true c22
                        clear c22
                        (first | rw [c22b0] | (simp only [i64_w, i32_w]; rw [c22b0]) | skip)
                        have H' := Aside0.mk H
                        clear H
                        go_wp2
                        repeat (go_quiet (fail); try go_wp2)
                        go_meet
                        case rel => exact ⟨_, (true), (by first | rfl | (simp; done) | (simp [*]; done)), H', ⟨by have := HK1.out; first | omega | exact Nat.le_refl _⟩, ⟨by repeat (first | (with_reducible first | exact HB.out | apply zzf | apply zza | apply zzg) | exact HB.out)⟩⟩
                      · rw [if_neg c22] at H
                        have c22b0 : decide (4294967296 ≤ x15_1) = false := decide_eq_false c22
                        clear c22
                        (first | rw [c22b0] | (simp only [i64_w, i32_w]; rw [c22b0]) | skip)
                        have H' := Aside0.mk H
                        clear H
                        go_wp2
                        repeat (go_quiet (fail); try go_wp2)
                        go_meet
                        case rel => exact ⟨_, (decide ((IntKind.u64.wrap (x15_1 * (Go.bits .and .u64 (ji10) 4294967295))) > (IntKind.u64.wrap ((IntKind.u64.wrap (4294967296 * x16_1)) + ((ji17) / 4294967296))))), (by first | rfl | (simp; done) | (simp only [← hji10, ← hji17] <;> (first | rfl | simp)) | (simp [*]; done)), H', ⟨by have := HK1.out; first | omega | exact Nat.le_refl _⟩, ⟨by repeat (first | (with_reducible first | exact HB.out | apply zzf | apply zza | apply zzg) | exact HB.out)⟩⟩
                    case rest =>
                      clear HC21
                      obtain ⟨kq, x78_20, rfl, HA, HJ20, HB⟩ := hcut
                      cases kq with
                      | zero => exact absurd HA.out (by simp [bits_Div64.j1])
                      | succ kj20 =>
                        have H := HA.out
                        clear HA
                        simp only [bits_Div64.j1] at H
                        by_cases c23 : x78_20 = true
                        · subst c23
                          have H1 : (if (IntKind.u64.wrap (x16_1 + ((ji10) / 4294967296))) ≥ 4294967296 then (bits_Div64.j2 kj20 ji10 ji8 ((ji10) / 4294967296) (Go.bits .and .u64 (ji10) 4294967295) (Go.bits .or .u64 (ji12) (ji15)) ((ji17) / 4294967296) (Go.bits .and .u64 (ji17) 4294967295) (IntKind.u64.wrap (x15_1 - 1))) else (bits_Div64.l0 kj20 ji10 ji8 ((ji10) / 4294967296) (Go.bits .and .u64 (ji10) 4294967295) (Go.bits .or .u64 (ji12) (ji15)) ((ji17) / 4294967296) (Go.bits .and .u64 (ji17) 4294967295) (IntKind.u64.wrap (x15_1 - 1)) (IntKind.u64.wrap (x16_1 + ((ji10) / 4294967296))))) = some (r1, r2) := by rw [if_pos rfl] at H; exact H
                          clear H
                          have H := H1
                          clear H1
                          by_cases c24 : (IntKind.u64.wrap (x16_1 + ((ji10) / 4294967296))) ≥ 4294967296
                          · rw [if_pos c24] at H
                            have c24b0 : decide (4294967296 ≤ (IntKind.u64.wrap (x16_1 + ((ji10) / 4294967296)))) = true := decide_eq_true c24
                            clear c24
                            have H' := Aside0.mk H
                            clear H
                            go_wp2
                            repeat (go_quiet (fail); try go_wp2)
                            go_meet
                            case rel => exact ⟨_, (IntKind.u64.wrap (x15_1 - 1)), (by first | rfl | (simp; done) | (simp [*]; done)), H', ⟨by have := HK1.out; have := HJ20.out; first | omega | exact Nat.le_refl _⟩, ⟨by repeat (first | (with_reducible first | exact HB.out | apply zzf | apply zza | apply zzg) | exact HB.out)⟩⟩
                          · rw [if_neg c24] at H
                            have c24b0 : decide (4294967296 ≤ (IntKind.u64.wrap (x16_1 + ((ji10) / 4294967296)))) = false := decide_eq_false c24
                            clear c24
                            have H' := Aside0.mk H
                            clear H
                            go_wp2
                            repeat (go_quiet (fail); try go_wp2)
                            go_roundg kj20
                            case measure => have := HK1.out; have := HJ20.out; omega
                            case rel => exact ⟨(IntKind.u64.wrap (x15_1 - 1)), (IntKind.u64.wrap (x16_1 + ((ji10) / 4294967296))), (by first | rfl | (simp; done) | (simp [*]; done)), (by first | rfl | (simp; done) | (simp only [← hji10] <;> (first | rfl | simp)) | (simp [*]; done)), H', ⟨by have := HK1.out; have := HJ20.out; omega⟩, ⟨by repeat (first | (with_reducible first | exact HB.out | apply zzf | apply zza | apply zzg) | exact HB.out)⟩⟩
                        · replace c23 := Bool.eq_false_iff.mpr c23
                          subst c23
                          have H1 : (bits_Div64.j2 kj20 ji10 ji8 ((ji10) / 4294967296) (Go.bits .and .u64 (ji10) 4294967295) (Go.bits .or .u64 (ji12) (ji15)) ((ji17) / 4294967296) (Go.bits .and .u64 (ji17) 4294967295) x15_1) = some (r1, r2) := by rw [if_neg (show ¬ (false = true) by decide)] at H; exact H
                          clear H
                          have H := H1
                          clear H1
                          have H' := Aside0.mk H
                          clear H
                          go_wp2
                          repeat (go_quiet (fail); try go_wp2)
                          go_meet
                          case rel => exact ⟨_, (x15_1), (by first | rfl | (simp; done) | (simp [*]; done)), H', ⟨by have := HK1.out; have := HJ20.out; first | omega | exact Nat.le_refl _⟩, ⟨by repeat (first | (with_reducible first | exact HB.out | apply zzf | apply zza | apply zzg) | exact HB.out)⟩⟩
              case rest =>
                clear HC19
                obtain ⟨kq, x15_18, rfl, HA, HJ18, HB⟩ := hcut
                cases kq with
                | zero => exact absurd HA.out (by simp [bits_Div64.j2])
                | succ kj18 =>
                  have H := HA.out
                  clear HA
                  simp only [bits_Div64.j2] at H
                  by_cases c25 : ((ji10) / 4294967296) = 0
                  · rw [if_pos c25] at H
                    exact absurd H (by simp)
                  · rw [if_neg c25] at H
                    have c25b0 : (((ji10) / 4294967296) == 0) = false := beq_eq_false_iff_ne.mpr c25
                    have c25b1 : (((ji10) / 4294967296) != 0) = true := bne_iff_ne.mpr c25
                    have H' := Aside0.mk H
                    clear H
                    go_wp2
                    repeat (go_quiet (fail); try go_wp2)
                    go_loopg [16, 18] kj18 (fun kq v16 v18 w' => ∃ (x16_2 : Int) (x18_2 : Int), v16 = .int .u64 x16_2 ∧ v18 = .int .u64 x18_2 ∧ Aside0 (bits_Div64.l1 kq ji10 ji8 ((ji10) / 4294967296) (Go.bits .and .u64 (ji10) 4294967295) (Go.bits .and .u64 (ji17) 4294967295) x15_18 x16_2 (IntKind.u64.wrap ((IntKind.u64.wrap ((IntKind.u64.wrap ((Go.bits .or .u64 (ji12) (ji15)) * 4294967296)) + ((ji17) / 4294967296))) - (IntKind.u64.wrap (x15_18 * ji10)))) x18_2 = some (r1, r2)) ∧ Aside0 (kq ≤ kj18) ∧ Aside0 (Below w.heap.size w w'))
                    case atStart => exact ⟨(IntKind.u64.wrap ((IntKind.u64.wrap ((IntKind.u64.wrap ((IntKind.u64.wrap ((Go.bits .or .u64 (ji12) (ji15)) * 4294967296)) + ((ji17) / 4294967296))) - (IntKind.u64.wrap (x15_18 * ji10)))) - (IntKind.u64.wrap ((IntKind.u64.wrap (Int.tdiv (IntKind.u64.wrap ((IntKind.u64.wrap ((IntKind.u64.wrap ((Go.bits .or .u64 (ji12) (ji15)) * 4294967296)) + ((ji17) / 4294967296))) - (IntKind.u64.wrap (x15_18 * ji10)))) ((ji10) / 4294967296))) * ((ji10) / 4294967296))))), (IntKind.u64.wrap (Int.tdiv (IntKind.u64.wrap ((IntKind.u64.wrap ((IntKind.u64.wrap ((Go.bits .or .u64 (ji12) (ji15)) * 4294967296)) + ((ji17) / 4294967296))) - (IntKind.u64.wrap (x15_18 * ji10)))) ((ji10) / 4294967296))), (by first | rfl | (simp; done) | (simp only [← hji10, ← hji12, ← hji15, ← hji17] <;> (first | rfl | simp)) | (simp [*]; done)), (by first | rfl | (simp; done) | (simp only [← hji10, ← hji12, ← hji15, ← hji17] <;> (first | rfl | simp)) | (simp [*]; done)), H', ⟨Nat.le_refl _⟩, ⟨by repeat (first | (with_reducible first | exact HB.out | apply zzf | apply zza | apply zzg) | exact HB.out)⟩⟩
                    case round =>
                      clear H'
                      obtain ⟨x16_2, x18_2, rfl, rfl, HA, HK2, HB⟩ := hrel
                      cases gk with
                      | zero => exact absurd HA.out (by simp [bits_Div64.l1])
                      | succ k2 =>
                        have H := HA.out
                        clear HA
                        simp only [bits_Div64.l1] at H
                        have HC26 := Aside0.mk H
                        clear H
                        go_upto_region 24 with (fail)
                        repeat (go_quiet (fail); go_upto_region 24 with (fail))
                        go_cut [113] (fun v113 wc => ∃ (kq : Nat) (x113_25 : Bool), v113 = .bool x113_25 ∧ Aside0 (bits_Div64.j4 kq ji10 ji8 ((ji10) / 4294967296) (Go.bits .and .u64 (ji10) 4294967295) (Go.bits .and .u64 (ji17) 4294967295) x15_18 x16_2 (IntKind.u64.wrap ((IntKind.u64.wrap ((IntKind.u64.wrap ((Go.bits .or .u64 (ji12) (ji15)) * 4294967296)) + ((ji17) / 4294967296))) - (IntKind.u64.wrap (x15_18 * ji10)))) x18_2 x113_25 = some (r1, r2)) ∧ Aside0 (kq ≤ k2) ∧ Aside0 (Below w.heap.size w wc))
                        case first =>
                          have H := HC26.out
                          clear HC26
                          by_cases c27 : x18_2 ≥ 4294967296
                          · rw [if_pos c27] at H
                            have c27b0 : decide (4294967296 ≤ x18_2) = true := decide_eq_true c27
                            clear c27
                            (first | rw [c27b0] | (simp only [i64_w, i32_w]; rw [c27b0]) | skip)
                            have H' := Aside0.mk H
                            clear H
                            go_wp2
                            repeat (go_quiet (fail); try go_wp2)
                            go_meet
                            case rel => exact ⟨_, (true), (by first | rfl | (simp; done) | (simp [*]; done)), H', ⟨by have := HJ18.out; have := HK2.out; first | omega | exact Nat.le_refl _⟩, ⟨by repeat (first | (with_reducible first | exact HB.out | apply zzf | apply zza | apply zzg) | exact HB.out)⟩⟩
                          · rw [if_neg c27] at H
                            have c27b0 : decide (4294967296 ≤ x18_2) = false := decide_eq_false c27
                            clear c27
                            (first | rw [c27b0] | (simp only [i64_w, i32_w]; rw [c27b0]) | skip)
                            have H' := Aside0.mk H
                            clear H
                            go_wp2
                            repeat (go_quiet (fail); try go_wp2)
                            go_meet
                            case rel => exact ⟨_, (decide ((IntKind.u64.wrap (x18_2 * (Go.bits .and .u64 (ji10) 4294967295))) > (IntKind.u64.wrap ((IntKind.u64.wrap (4294967296 * x16_2)) + (Go.bits .and .u64 (ji17) 4294967295))))), (by first | rfl | (simp; done) | (simp only [← hji10, ← hji17] <;> (first | rfl | simp)) | (simp [*]; done)), H', ⟨by have := HJ18.out; have := HK2.out; first | omega | exact Nat.le_refl _⟩, ⟨by repeat (first | (with_reducible first | exact HB.out | apply zzf | apply zza | apply zzg) | exact HB.out)⟩⟩
                        case rest =>
                          clear HC26
                          obtain ⟨kq, x113_25, rfl, HA, HJ25, HB⟩ := hcut
                          cases kq with
                          | zero => exact absurd HA.out (by simp [bits_Div64.j4])
                          | succ kj25 =>
                            have H := HA.out
                            clear HA
                            simp only [bits_Div64.j4] at H
                            by_cases c28 : x113_25 = true
                            · subst c28
                              have H1 : (if (IntKind.u64.wrap (x16_2 + ((ji10) / 4294967296))) ≥ 4294967296 then (if 0 ≤ ji8 then (some (IntKind.u64.wrap ((IntKind.u64.wrap (x15_18 * 4294967296)) + (IntKind.u64.wrap (x18_2 - 1))), shr .u64 (IntKind.u64.wrap ((IntKind.u64.wrap ((IntKind.u64.wrap ((IntKind.u64.wrap ((IntKind.u64.wrap ((IntKind.u64.wrap ((Go.bits .or .u64 (ji12) (ji15)) * 4294967296)) + ((ji17) / 4294967296))) - (IntKind.u64.wrap (x15_18 * ji10)))) * 4294967296)) + (Go.bits .and .u64 (ji17) 4294967295))) - (IntKind.u64.wrap ((IntKind.u64.wrap (x18_2 - 1)) * ji10)))) ji8)) else (none)) else (bits_Div64.l1 kj25 ji10 ji8 ((ji10) / 4294967296) (Go.bits .and .u64 (ji10) 4294967295) (Go.bits .and .u64 (ji17) 4294967295) x15_18 (IntKind.u64.wrap (x16_2 + ((ji10) / 4294967296))) (IntKind.u64.wrap ((IntKind.u64.wrap ((IntKind.u64.wrap ((Go.bits .or .u64 (ji12) (ji15)) * 4294967296)) + ((ji17) / 4294967296))) - (IntKind.u64.wrap (x15_18 * ji10)))) (IntKind.u64.wrap (x18_2 - 1)))) = some (r1, r2) := by rw [if_pos rfl] at H; exact H
                              clear H
                              have H := H1
                              clear H1
                              by_cases c29 : (IntKind.u64.wrap (x16_2 + ((ji10) / 4294967296))) ≥ 4294967296
                              · rw [if_pos c29] at H
                                have c29b0 : decide (4294967296 ≤ (IntKind.u64.wrap (x16_2 + ((ji10) / 4294967296)))) = true := decide_eq_true c29
                                clear c29
                                by_cases c30 : 0 ≤ ji8
                                · rw [if_pos c30] at H
                                  have c30b0 := eq_true c30
                                  have c30b1 : decide (0 ≤ ji8) = true := decide_eq_true c30
                                  clear c30
                                  obtain ⟨ji31, hji31⟩ : ∃ j_ : Int, (shr .u64 (IntKind.u64.wrap ((IntKind.u64.wrap ((IntKind.u64.wrap ((IntKind.u64.wrap ((IntKind.u64.wrap ((IntKind.u64.wrap ((Go.bits .or .u64 (ji12) (ji15)) * 4294967296)) + ((ji17) / 4294967296))) - (IntKind.u64.wrap (x15_18 * ji10)))) * 4294967296)) + (Go.bits .and .u64 (ji17) 4294967295))) - (IntKind.u64.wrap ((IntKind.u64.wrap (x18_2 - 1)) * ji10)))) ji8) = j_ := ⟨_, rfl⟩
                                  replace H : (some (IntKind.u64.wrap ((IntKind.u64.wrap (x15_18 * 4294967296)) + (IntKind.u64.wrap (x18_2 - 1))), ji31)) = some (r1, r2) := by first | (rw [hji31] at H; exact H) | (simp only [hji31] at H ⊢; exact H)
                                  have hji31_ : ((IntKind.u64.wrap ((IntKind.u64.wrap ((IntKind.u64.wrap ((IntKind.u64.wrap ((IntKind.u64.wrap ((IntKind.u64.wrap ((Go.bits .or .u64 (ji12) (ji15)) * 4294967296)) + ((ji17) / 4294967296))) - (IntKind.u64.wrap (x15_18 * ji10)))) * 4294967296)) + (Go.bits .and .u64 (ji17) 4294967295))) - (IntKind.u64.wrap ((IntKind.u64.wrap (x18_2 - 1)) * ji10)))) / 2 ^ min ji8.toNat 64) = ji31 := hji31
                                  have hji31z : ji8 ≤ 64 → ((IntKind.u64.wrap ((IntKind.u64.wrap ((IntKind.u64.wrap ((IntKind.u64.wrap ((IntKind.u64.wrap ((IntKind.u64.wrap ((Go.bits .or .u64 (ji12) (ji15)) * 4294967296)) + ((ji17) / 4294967296))) - (IntKind.u64.wrap (x15_18 * ji10)))) * 4294967296)) + (Go.bits .and .u64 (ji17) 4294967295))) - (IntKind.u64.wrap ((IntKind.u64.wrap (x18_2 - 1)) * ji10)))) / 2 ^ ji8.toNat) = ji31 := shr_small hji31
                                  simp only [Option.some.injEq, Prod.mk.injEq] at H
                                  obtain ⟨rfl, rfl⟩ := H
                                  go_wp2
                                  repeat (go_quiet (fail); try go_wp2)
                                  go_ret2
                                  exact ⟨by first | rfl | (simp [zzn, zzm] <;> rfl) | (simp only [← hji8, ← hji10, ← hji12, ← hji13, ← hji15, ← hji17, ← hji31]; first | rfl | (simp [zzn, zzm] <;> rfl)) | (simp [*, zzn, zzm] <;> rfl), by repeat (first | (with_reducible first | exact HB.out | apply zzf | apply zza | apply zzg) | exact HB.out)⟩
                                · rw [if_neg c30] at H
                                  exact absurd H (by simp)
                              · rw [if_neg c29] at H
                                have c29b0 : decide (4294967296 ≤ (IntKind.u64.wrap (x16_2 + ((ji10) / 4294967296)))) = false := decide_eq_false c29
                                clear c29
                                have H' := Aside0.mk H
                                clear H
                                go_wp2
                                repeat (go_quiet (fail); try go_wp2)
                                go_roundg kj25
                                case measure => have := HJ18.out; have := HK2.out; have := HJ25.out; omega
                                case rel => exact ⟨(IntKind.u64.wrap (x16_2 + ((ji10) / 4294967296))), (IntKind.u64.wrap (x18_2 - 1)), (by first | rfl | (simp; done) | (simp only [← hji10] <;> (first | rfl | simp)) | (simp [*]; done)), (by first | rfl | (simp; done) | (simp [*]; done)), H', ⟨by have := HJ18.out; have := HK2.out; have := HJ25.out; omega⟩, ⟨by repeat (first | (with_reducible first | exact HB.out | apply zzf | apply zza | apply zzg) | exact HB.out)⟩⟩
                            · replace c28 := Bool.eq_false_iff.mpr c28
                              subst c28
                              have H1 : (if 0 ≤ ji8 then (some (IntKind.u64.wrap ((IntKind.u64.wrap (x15_18 * 4294967296)) + x18_2), shr .u64 (IntKind.u64.wrap ((IntKind.u64.wrap ((IntKind.u64.wrap ((IntKind.u64.wrap ((IntKind.u64.wrap ((IntKind.u64.wrap ((Go.bits .or .u64 (ji12) (ji15)) * 4294967296)) + ((ji17) / 4294967296))) - (IntKind.u64.wrap (x15_18 * ji10)))) * 4294967296)) + (Go.bits .and .u64 (ji17) 4294967295))) - (IntKind.u64.wrap (x18_2 * ji10)))) ji8)) else (none)) = some (r1, r2) := by rw [if_neg (show ¬ (false = true) by decide)] at H; exact H
                              clear H
                              have H := H1
                              clear H1
                              by_cases c32 : 0 ≤ ji8
                              · rw [if_pos c32] at H
                                have c32b0 := eq_true c32
                                have c32b1 : decide (0 ≤ ji8) = true := decide_eq_true c32
                                clear c32
                                obtain ⟨ji33, hji33⟩ : ∃ j_ : Int, (shr .u64 (IntKind.u64.wrap ((IntKind.u64.wrap ((IntKind.u64.wrap ((IntKind.u64.wrap ((IntKind.u64.wrap ((IntKind.u64.wrap ((Go.bits .or .u64 (ji12) (ji15)) * 4294967296)) + ((ji17) / 4294967296))) - (IntKind.u64.wrap (x15_18 * ji10)))) * 4294967296)) + (Go.bits .and .u64 (ji17) 4294967295))) - (IntKind.u64.wrap (x18_2 * ji10)))) ji8) = j_ := ⟨_, rfl⟩
                                replace H : (some (IntKind.u64.wrap ((IntKind.u64.wrap (x15_18 * 4294967296)) + x18_2), ji33)) = some (r1, r2) := by first | (rw [hji33] at H; exact H) | (simp only [hji33] at H ⊢; exact H)
                                have hji33_ : ((IntKind.u64.wrap ((IntKind.u64.wrap ((IntKind.u64.wrap ((IntKind.u64.wrap ((IntKind.u64.wrap ((IntKind.u64.wrap ((Go.bits .or .u64 (ji12) (ji15)) * 4294967296)) + ((ji17) / 4294967296))) - (IntKind.u64.wrap (x15_18 * ji10)))) * 4294967296)) + (Go.bits .and .u64 (ji17) 4294967295))) - (IntKind.u64.wrap (x18_2 * ji10)))) / 2 ^ min ji8.toNat 64) = ji33 := hji33
                                have hji33z : ji8 ≤ 64 → ((IntKind.u64.wrap ((IntKind.u64.wrap ((IntKind.u64.wrap ((IntKind.u64.wrap ((IntKind.u64.wrap ((IntKind.u64.wrap ((Go.bits .or .u64 (ji12) (ji15)) * 4294967296)) + ((ji17) / 4294967296))) - (IntKind.u64.wrap (x15_18 * ji10)))) * 4294967296)) + (Go.bits .and .u64 (ji17) 4294967295))) - (IntKind.u64.wrap (x18_2 * ji10)))) / 2 ^ ji8.toNat) = ji33 := shr_small hji33
                                simp only [Option.some.injEq, Prod.mk.injEq] at H
                                obtain ⟨rfl, rfl⟩ := H
                                go_wp2
                                repeat (go_quiet (fail); try go_wp2)
                                go_ret2
                                exact ⟨by first | rfl | (simp [zzn, zzm] <;> rfl) | (simp only [← hji8, ← hji10, ← hji12, ← hji13, ← hji15, ← hji17, ← hji33]; first | rfl | (simp [zzn, zzm] <;> rfl)) | (simp [*, zzn, zzm] <;> rfl), by repeat (first | (with_reducible first | exact HB.out | apply zzf | apply zza | apply zzg) | exact HB.out)⟩
                              · rw [if_neg c32] at H
                                exact absurd H (by simp)
          · rw [if_neg c14] at H
            exact absurd H (by simp)
        · rw [if_neg c9] at H
          exact absurd H (by simp)
def fixed_Ratio.f (k : Nat) (a0 : Int) (a1 : Int) : Option (Int × Bool) := if a1 = 0 then ((cmp_Compare_int64.f a0 0).bind fun t126 => (some (wrap64 (t126 * 9223372036854775807), true))) else ((fixed_of.f a0).bind fun bt127 => ((fixed_exact_up.f bt127.1 bt127.2.1 bt127.2.2).bind fun bt130 => ((fixed_of.f a1).bind fun bt133 => (if bt133.2.1 = 0 then (none) else ((bits_Div64.f k (Int.tmod bt130.2.2 bt133.2.1) bt130.2.1 bt133.2.1).bind fun bt138 => ((fixed_exact_fit.f k (bt130.1 != bt133.1) bt138.1 (IntKind.u64.wrap (Int.tdiv bt130.2.2 bt133.2.1)) false).bind fun bt140 => (some (bt140.1, bt140.2))))))))
def fixed_Ratio.T6 : Bool × List (List Nat × List Nat) := (true, [([], []), ([0], [0]), ([1], [1]), ([], []), ([2, 3], [2, 3]), ([], []), ([5], [5]), ([6], [6]), ([], []), ([4, 7, 8], [4, 7, 8]), ([9], [9]), ([10], [10]), ([10], [10]), ([11, 9, 0, 1, 2, 3, 4, 5, 6, 7, 8, 9, 10, 11], [11]), ([12, 13, 0, 1, 2, 3, 4, 5, 6, 7, 8, 9, 10, 11, 12, 13], [12])])
def fixed_Ratio.B6 : List Nat := [0, 1, 3, 0, 15, 0, 32, 96, 0, 511, 1023, 2047, 2047, 4095, 16383]
theorem fixed_Ratio.tab6 : rtab .any (opsOf Try.f50 6) = fixed_Ratio.T6 := by kernel_rfl
theorem fixed_Ratio.bits6 : waitsOk fixed_Ratio.T6.2 fixed_Ratio.B6 = true := by kernel_rfl
set_option maxHeartbeats 8000000 in
set_option maxRecDepth 100000 in
theorem fixed_Ratio.calls (k : Nat) (a0 : Int) (a1 : Int) (r1 : Int) (r2 : Bool) (w : World) (h : fixed_Ratio.f k a0 a1 = some (r1, r2)) :
    Calls Try.prog 50 #[.int .i64 a0, .int .i64 a1] w fun e w' => e = .returned (.agg #[.int .i64 r1, .bool r2]) ∧ Below w.heap.size w w' := by
  have hu23 := Try.underlying23
  have hu60 := Try.underlying60
  have hu58 := Try.underlying58
  have HB := Aside0.mk (Below.refl w.heap.size w)
  have H : (if a1 = 0 then ((cmp_Compare_int64.f a0 0).bind fun t126 => (some (wrap64 (t126 * 9223372036854775807), true))) else ((fixed_of.f a0).bind fun bt127 => ((fixed_exact_up.f bt127.1 bt127.2.1 bt127.2.2).bind fun bt130 => ((fixed_of.f a1).bind fun bt133 => (if bt133.2.1 = 0 then (none) else ((bits_Div64.f k (Int.tmod bt130.2.2 bt133.2.1) bt130.2.1 bt133.2.1).bind fun bt138 => ((fixed_exact_fit.f k (bt130.1 != bt133.1) bt138.1 (IntKind.u64.wrap (Int.tdiv bt130.2.2 bt133.2.1)) false).bind fun bt140 => (some (bt140.1, bt140.2))))))))) = some (r1, r2) := h
  clear h
  by_cases c3 : a1 = 0
  · rw [if_pos c3] at H
    have c3b0 : (a1 == 0) = true := beq_iff_eq.mpr c3
    have c3b1 : (a1 != 0) = false := bne_eq_false_iff_eq.mpr c3
    clear c3
    replace H := Option.bind_eq_some_iff.mp H
    obtain ⟨t126, A40, H⟩ := H
    replace H : (some (wrap64 (t126 * 9223372036854775807), true)) = some (r1, r2) := H
    have A4 := Aside0.mk A40
    clear A40
    simp only [Option.some.injEq, Prod.mk.injEq] at H
    obtain ⟨rfl, rfl⟩ := H
    go_enter Try.func50, Try.ntmps50
    go_wp2_with (first | ((with_reducible refine zzt (N := 4) rfl ?_); refine zzp ?hg (N := 4) ?hd (cs := #[.int .i64 0, .bool false]) (t := 23) ?hr ?_; (case hd => rfl); (case hg => rfl); (case hr => first | (go_simp; done) | (go_simp; rfl)); intro gb125 hg w5 hbox hb; have n0_ := Aside0.mk (zzl (by repeat (first | (with_reducible first | exact HB.out | apply zzf | apply zza | apply zzg) | exact HB.out)) hb); have n1_ := Aside0.mk (hbox); have n3_ := Aside0.mk ((by rw [hg]; exact (zzk (by repeat (first | (with_reducible first | exact HB.out | apply zzf | apply zza | apply zzg) | exact HB.out))) : w.heap.size ≤ gb125)); clear HB; have HB := n0_; have BK125 := n1_; have GE125 := n3_; clear n0_ n1_ n3_; clear hb hbox hg) | ((with_reducible refine zzq (f := 78) rfl ?_); refine goesL_ (some 14) rfl rfl Try.func78 (by kernel_rfl) rfl #[.int .i64 a0, .int .i64 0] rfl (by (try simp only [List.map_toArray, List.map_cons, List.map_nil]); first | done | rfl | (simp only [List.length_drop, List.length_take]; rfl)) ?_; (with_reducible refine (cmp_Compare_int64.calls a0 0 t126 _ A4.out).mono ?_); rintro e w' ⟨rfl, ⟨nd, rfl⟩⟩; refine ⟨_, rfl, ?_⟩; (try (rw [drewN_self w5]; generalize hq_ : World.drewN w5 _ = w5; have n0_ : Aside0 (w5.heap[gb125]? = some (.cells #[.int .i64 0, .bool false] 23 (0, 0))) := ⟨by rw [← hq_]; exact (by (with_reducible repeat first | apply zzc | apply zzd | apply zzb); exact BK125.out)⟩; have n1_ : Aside0 (Below w.heap.size w w5) := ⟨by rw [← hq_]; exact (by repeat (first | (with_reducible first | exact HB.out | apply zzf | apply zza | apply zzg | refine zze ?_ GE125.out) | exact HB.out))⟩; clear BK125 HB hq_; have BK125 := n0_; have HB := n1_; clear n0_ n1_)); have hcz6_0 : w5.cell? ⟨gb125, 0, none⟩ = some (.int .i64 0) := (zzi BK125.out 0).trans rfl; have hcz6_1 : w5.cell? ⟨gb125, 1, none⟩ = some (.bool false) := (zzi BK125.out 1).trans rfl; have hfz6_0 := zzh BK125.out 0; have hfz6_1 := zzh BK125.out 1))
    refine bodyPost_ret (results_cell_row rfl _ _ gb125 23 #[.int .i64 (wrap64 (t126 * 9223372036854775807)), .bool true] (0, 0) _ rfl (by (with_reducible repeat first | apply zzc | apply zzd | apply zzb); refine zzo (cs := #[.int .i64 (wrap64 (t126 * 9223372036854775807)), .bool false]) ?_ 1 _ rfl; (with_reducible repeat first | apply zzc | apply zzd | apply zzb); refine zzo (cs := #[.int .i64 0, .bool false]) ?_ 0 _ rfl; (with_reducible repeat first | apply zzc | apply zzd | apply zzb); exact BK125.out) Try.underlying23 rfl (by kernel_rfl)) rfl ?_
    exact ⟨by first | rfl | (simp [zzn, zzm] <;> rfl) | (simp [*, zzn, zzm] <;> rfl), by repeat (first | (with_reducible first | exact HB.out | apply zzf | apply zza | apply zzg | refine zze ?_ GE125.out) | exact HB.out)⟩
  · rw [if_neg c3] at H
    have c3b0 : (a1 == 0) = false := beq_eq_false_iff_ne.mpr c3
    have c3b1 : (a1 != 0) = true := bne_iff_ne.mpr c3
    replace H := Option.bind_eq_some_iff.mp H
    obtain ⟨⟨t127, t128, t129⟩, A70, H⟩ := H
    replace H : ((fixed_exact_up.f t127 t128 t129).bind fun bt130 => ((fixed_of.f a1).bind fun bt133 => (if bt133.2.1 = 0 then (none) else ((bits_Div64.f k (Int.tmod bt130.2.2 bt133.2.1) bt130.2.1 bt133.2.1).bind fun bt138 => ((fixed_exact_fit.f k (bt130.1 != bt133.1) bt138.1 (IntKind.u64.wrap (Int.tdiv bt130.2.2 bt133.2.1)) false).bind fun bt140 => (some (bt140.1, bt140.2))))))) = some (r1, r2) := H
    have A7 := Aside0.mk A70
    clear A70
    replace H := Option.bind_eq_some_iff.mp H
    obtain ⟨⟨t130, t131, t132⟩, A80, H⟩ := H
    replace H : ((fixed_of.f a1).bind fun bt133 => (if bt133.2.1 = 0 then (none) else ((bits_Div64.f k (Int.tmod t132 bt133.2.1) t131 bt133.2.1).bind fun bt138 => ((fixed_exact_fit.f k (t130 != bt133.1) bt138.1 (IntKind.u64.wrap (Int.tdiv t132 bt133.2.1)) false).bind fun bt140 => (some (bt140.1, bt140.2)))))) = some (r1, r2) := H
    have A8 := Aside0.mk A80
    clear A80
    replace H := Option.bind_eq_some_iff.mp H
    obtain ⟨⟨t133, t134, t135⟩, A90, H⟩ := H
    replace H : (if t134 = 0 then (none) else ((bits_Div64.f k (Int.tmod t132 t134) t131 t134).bind fun bt138 => ((fixed_exact_fit.f k (t130 != t133) bt138.1 (IntKind.u64.wrap (Int.tdiv t132 t134)) false).bind fun bt140 => (some (bt140.1, bt140.2))))) = some (r1, r2) := H
    have A9 := Aside0.mk A90
    clear A90
    by_cases c10 : t134 = 0
    · rw [if_pos c10] at H
      exact absurd H (by simp)
    · rw [if_neg c10] at H
      have c10b0 : (t134 == 0) = false := beq_eq_false_iff_ne.mpr c10
      have c10b1 : (t134 != 0) = true := bne_iff_ne.mpr c10
      replace H := Option.bind_eq_some_iff.mp H
      obtain ⟨⟨t138, t139⟩, A110, H⟩ := H
      replace H : ((fixed_exact_fit.f k (t130 != t133) t138 (IntKind.u64.wrap (Int.tdiv t132 t134)) false).bind fun bt140 => (some (bt140.1, bt140.2))) = some (r1, r2) := H
      have A11 := Aside0.mk A110
      clear A110
      replace H := Option.bind_eq_some_iff.mp H
      obtain ⟨⟨t140, t141⟩, A120, H⟩ := H
      replace H : (some (t140, t141)) = some (r1, r2) := H
      have A12 := Aside0.mk A120
      clear A120
      simp only [Option.some.injEq, Prod.mk.injEq] at H
      obtain ⟨rfl, rfl⟩ := H
      go_enter Try.func50, Try.ntmps50
      try go_wp2_with (first | ((with_reducible refine zzt (N := 4) rfl ?_); refine zzp ?hg (N := 4) ?hd (cs := #[.int .i64 0, .bool false]) (t := 23) ?hr ?_; (case hd => rfl); (case hg => rfl); (case hr => first | (go_simp; done) | (go_simp; rfl)); intro gb125 hg w13 hbox hb; have n0_ := Aside0.mk (zzl (by repeat (first | (with_reducible first | exact HB.out | apply zzf | apply zza | apply zzg) | exact HB.out)) hb); have n1_ := Aside0.mk (hbox); have n3_ := Aside0.mk ((by rw [hg]; exact (zzk (by repeat (first | (with_reducible first | exact HB.out | apply zzf | apply zza | apply zzg) | exact HB.out))) : w.heap.size ≤ gb125)); clear HB; have HB := n0_; have BK125 := n1_; have GE125 := n3_; clear n0_ n1_ n3_; clear hb hbox hg) | ((with_reducible refine zzq (f := 82) rfl ?_); refine goesL_ (some 18) rfl rfl Try.func82 (by kernel_rfl) rfl #[.int .i64 a0] rfl (by (try simp only [List.map_toArray, List.map_cons, List.map_nil]); first | done | rfl | (simp only [List.length_drop, List.length_take]; rfl)) ?_; (with_reducible refine (fixed_of.calls a0 t127 t128 t129 _ A7.out).mono ?_); rintro e w14 ⟨rfl, hb⟩; refine ⟨_, rfl, ?_⟩; have n0_ := Aside0.mk (zzj (g := gb125) (o := .cells #[.int .i64 0, .bool false] 23 (0, 0)) (by (with_reducible repeat first | apply zzc | apply zzd | apply zzb); exact BK125.out) hb); have n1_ := Aside0.mk (zzl (by repeat (first | (with_reducible first | exact HB.out | apply zzf | apply zza | apply zzg | refine zze ?_ GE125.out) | exact HB.out)) hb); clear BK125; clear HB; have BK125 := n0_; have HB := n1_; clear n0_ n1_; (try clear hi)) | ((with_reducible refine zzq (f := 89) rfl ?_); refine goesL_ (some 19) rfl rfl Try.func89 (by kernel_rfl) rfl #[.agg #[.bool t127, .int .u64 t128, .int .u64 t129]] rfl (by (try simp only [List.map_toArray, List.map_cons, List.map_nil]); first | done | rfl | (simp only [List.length_drop, List.length_take]; rfl)) ?_; (with_reducible refine (fixed_exact_up.calls t127 t128 t129 t130 t131 t132 _ A8.out).mono ?_); rintro e w15 ⟨rfl, hb⟩; refine ⟨_, rfl, ?_⟩; have n0_ := Aside0.mk (zzj (g := gb125) (o := .cells #[.int .i64 0, .bool false] 23 (0, 0)) (by (with_reducible repeat first | apply zzc | apply zzd | apply zzb); exact BK125.out) hb); have n1_ := Aside0.mk (zzl (by repeat (first | (with_reducible first | exact HB.out | apply zzf | apply zza | apply zzg | refine zze ?_ GE125.out) | exact HB.out)) hb); clear BK125; clear HB; have BK125 := n0_; have HB := n1_; clear n0_ n1_; (try clear hi)) | ((with_reducible refine zzq (f := 82) rfl ?_); refine goesL_ (some 21) rfl rfl Try.func82 (by kernel_rfl) rfl #[.int .i64 a1] rfl (by (try simp only [List.map_toArray, List.map_cons, List.map_nil]); first | done | rfl | (simp only [List.length_drop, List.length_take]; rfl)) ?_; (with_reducible refine (fixed_of.calls a1 t133 t134 t135 _ A9.out).mono ?_); rintro e w16 ⟨rfl, hb⟩; refine ⟨_, rfl, ?_⟩; have n0_ := Aside0.mk (zzj (g := gb125) (o := .cells #[.int .i64 0, .bool false] 23 (0, 0)) (by (with_reducible repeat first | apply zzc | apply zzd | apply zzb); exact BK125.out) hb); have n1_ := Aside0.mk (zzl (by repeat (first | (with_reducible first | exact HB.out | apply zzf | apply zza | apply zzg | refine zze ?_ GE125.out) | exact HB.out)) hb); clear BK125; clear HB; have BK125 := n0_; have HB := n1_; clear n0_ n1_; (try clear hi)) | ((with_reducible refine zzt (N := 5) rfl ?_); refine zzp ?hg (N := 5) ?hd (cs := #[.bool false, .int .u64 0, .int .u64 0]) (t := 60) ?hr ?_; (case hd => rfl); (case hg => rfl); (case hr => first | (go_simp; done) | (go_simp; rfl)); intro gb136 hg w17 hbox hb; have n0_ := Aside0.mk (zzj (g := gb125) (o := .cells #[.int .i64 0, .bool false] 23 (0, 0)) (by (with_reducible repeat first | apply zzc | apply zzd | apply zzb); exact BK125.out) hb); have n1_ := Aside0.mk (zzl (by repeat (first | (with_reducible first | exact HB.out | apply zzf | apply zza | apply zzg | refine zze ?_ GE125.out) | exact HB.out)) hb); have n2_ := Aside0.mk (hbox); have n4_ := Aside0.mk ((by rw [hg]; exact (zzk (by repeat (first | (with_reducible first | exact HB.out | apply zzf | apply zza | apply zzg | refine zze ?_ GE125.out) | exact HB.out))) : w.heap.size ≤ gb136)); have n5_ := Aside0.mk ((by rw [hg]; exact Nat.ne_of_lt (zzr (g := gb125) (o := .cells #[.int .i64 0, .bool false] 23 (0, 0)) (by (with_reducible repeat first | apply zzc | apply zzd | apply zzb); exact BK125.out)) : gb125 ≠ gb136)); have n6_ := Aside0.mk ((by rw [hg]; exact Nat.ne_of_gt (zzr (g := gb125) (o := .cells #[.int .i64 0, .bool false] 23 (0, 0)) (by (with_reducible repeat first | apply zzc | apply zzd | apply zzb); exact BK125.out)) : gb136 ≠ gb125)); clear BK125; clear HB; have BK125 := n0_; have HB := n1_; have BK136 := n2_; have GE136 := n4_; have NB125_136 := n5_; have NB136_125 := n6_; clear n0_ n1_ n2_ n4_ n5_ n6_; clear hb hbox hg) | ((with_reducible refine zzt (N := 6) rfl ?_); refine zzp ?hg (N := 6) ?hd (cs := #[.bool false, .int .u64 0, .int .u64 0]) (t := 60) ?hr ?_; (case hd => rfl); (case hg => rfl); (case hr => first | (go_simp; done) | (go_simp; rfl)); intro gb137 hg w18 hbox hb; have n0_ := Aside0.mk (zzj (g := gb125) (o := .cells #[.int .i64 0, .bool false] 23 (0, 0)) (by (with_reducible repeat first | apply zzc | apply zzd | apply zzb); exact BK125.out) hb); have n1_ := Aside0.mk (zzj (g := gb136) (o := .cells #[.bool false, .int .u64 0, .int .u64 0] 60 (0, 0)) (by (with_reducible repeat first | apply zzc | apply zzd | apply zzb); exact BK136.out) hb); have n2_ := Aside0.mk (zzl (by repeat (first | (with_reducible first | exact HB.out | apply zzf | apply zza | apply zzg | refine zze ?_ GE125.out | refine zze ?_ GE136.out) | exact HB.out)) hb); have n3_ := Aside0.mk (hbox); have n5_ := Aside0.mk ((by rw [hg]; exact (zzk (by repeat (first | (with_reducible first | exact HB.out | apply zzf | apply zza | apply zzg | refine zze ?_ GE125.out | refine zze ?_ GE136.out) | exact HB.out))) : w.heap.size ≤ gb137)); have n6_ := Aside0.mk ((by rw [hg]; exact Nat.ne_of_lt (zzr (g := gb125) (o := .cells #[.int .i64 0, .bool false] 23 (0, 0)) (by (with_reducible repeat first | apply zzc | apply zzd | apply zzb); exact BK125.out)) : gb125 ≠ gb137)); have n7_ := Aside0.mk ((by rw [hg]; exact Nat.ne_of_gt (zzr (g := gb125) (o := .cells #[.int .i64 0, .bool false] 23 (0, 0)) (by (with_reducible repeat first | apply zzc | apply zzd | apply zzb); exact BK125.out)) : gb137 ≠ gb125)); have n8_ := Aside0.mk ((by rw [hg]; exact Nat.ne_of_lt (zzr (g := gb136) (o := .cells #[.bool false, .int .u64 0, .int .u64 0] 60 (0, 0)) (by (with_reducible repeat first | apply zzc | apply zzd | apply zzb); exact BK136.out)) : gb136 ≠ gb137)); have n9_ := Aside0.mk ((by rw [hg]; exact Nat.ne_of_gt (zzr (g := gb136) (o := .cells #[.bool false, .int .u64 0, .int .u64 0] 60 (0, 0)) (by (with_reducible repeat first | apply zzc | apply zzd | apply zzb); exact BK136.out)) : gb137 ≠ gb136)); clear BK125; clear BK136; clear HB; have BK125 := n0_; have BK136 := n1_; have HB := n2_; have BK137 := n3_; have GE137 := n5_; have NB125_137 := n6_; have NB137_125 := n7_; have NB136_137 := n8_; have NB137_136 := n9_; clear n0_ n1_ n2_ n3_ n5_ n6_ n7_ n8_ n9_; clear hb hbox hg; have hnb19 := NB136_125.out; have hnc19 := NB125_136.out; have hnb20 := NB136_137.out; have hnc20 := NB137_136.out; have hcz21_0 : w18.cell? ⟨gb136, 0, none⟩ = some (.bool false) := (zzi BK136.out 0).trans rfl; have hcz21_1 : w18.cell? ⟨gb136, 1, none⟩ = some (.int .u64 0) := (zzi BK136.out 1).trans rfl; have hcz21_2 : w18.cell? ⟨gb136, 2, none⟩ = some (.int .u64 0) := (zzi BK136.out 2).trans rfl; have hfz21_0 := zzh BK136.out 0; have hfz21_1 := zzh BK136.out 1; have hfz21_2 := zzh BK136.out 2; have hnb22 := NB137_125.out; have hnc22 := NB125_137.out; have hcz23_0 : w18.cell? ⟨gb137, 0, none⟩ = some (.bool false) := (zzi BK137.out 0).trans rfl; have hcz23_1 : w18.cell? ⟨gb137, 1, none⟩ = some (.int .u64 0) := (zzi BK137.out 1).trans rfl; have hcz23_2 : w18.cell? ⟨gb137, 2, none⟩ = some (.int .u64 0) := (zzi BK137.out 2).trans rfl; have hfz23_0 := zzh BK137.out 0; have hfz23_1 := zzh BK137.out 1; have hfz23_2 := zzh BK137.out 2))
      have n0_ : Aside0 (((((((w18.setCell ⟨gb136, 0, none⟩ (.bool t130)).setCell ⟨gb136, 1, none⟩ (.int .u64 t131)).setCell ⟨gb136, 2, none⟩ (.int .u64 t132)).setCell ⟨gb137, 0, none⟩ (.bool t133)).setCell ⟨gb137, 1, none⟩ (.int .u64 t134)).setCell ⟨gb137, 2, none⟩ (.int .u64 t135)).heap[gb125]? = some (.cells #[.int .i64 0, .bool false] 23 (0, 0))) := ⟨by (with_reducible repeat first | apply zzc | apply zzd | apply zzb); refine zzs ?_ NB125_137.out _; (with_reducible repeat first | apply zzc | apply zzd | apply zzb); refine zzs ?_ NB125_137.out _; (with_reducible repeat first | apply zzc | apply zzd | apply zzb); refine zzs ?_ NB125_137.out _; (with_reducible repeat first | apply zzc | apply zzd | apply zzb); refine zzs ?_ NB125_136.out _; (with_reducible repeat first | apply zzc | apply zzd | apply zzb); refine zzs ?_ NB125_136.out _; (with_reducible repeat first | apply zzc | apply zzd | apply zzb); refine zzs ?_ NB125_136.out _; (with_reducible repeat first | apply zzc | apply zzd | apply zzb); exact BK125.out⟩
      have n1_ : Aside0 (((((((w18.setCell ⟨gb136, 0, none⟩ (.bool t130)).setCell ⟨gb136, 1, none⟩ (.int .u64 t131)).setCell ⟨gb136, 2, none⟩ (.int .u64 t132)).setCell ⟨gb137, 0, none⟩ (.bool t133)).setCell ⟨gb137, 1, none⟩ (.int .u64 t134)).setCell ⟨gb137, 2, none⟩ (.int .u64 t135)).heap[gb136]? = some (.cells #[.bool t130, .int .u64 t131, .int .u64 t132] 60 (0, 0))) := ⟨by (with_reducible repeat first | apply zzc | apply zzd | apply zzb); refine zzs ?_ NB136_137.out _; (with_reducible repeat first | apply zzc | apply zzd | apply zzb); refine zzs ?_ NB136_137.out _; (with_reducible repeat first | apply zzc | apply zzd | apply zzb); refine zzs ?_ NB136_137.out _; (with_reducible repeat first | apply zzc | apply zzd | apply zzb); refine zzo (cs := #[.bool t130, .int .u64 t131, .int .u64 0]) ?_ 2 _ rfl; (with_reducible repeat first | apply zzc | apply zzd | apply zzb); refine zzo (cs := #[.bool t130, .int .u64 0, .int .u64 0]) ?_ 1 _ rfl; (with_reducible repeat first | apply zzc | apply zzd | apply zzb); refine zzo (cs := #[.bool false, .int .u64 0, .int .u64 0]) ?_ 0 _ rfl; (with_reducible repeat first | apply zzc | apply zzd | apply zzb); exact BK136.out⟩
      have n2_ : Aside0 (((((((w18.setCell ⟨gb136, 0, none⟩ (.bool t130)).setCell ⟨gb136, 1, none⟩ (.int .u64 t131)).setCell ⟨gb136, 2, none⟩ (.int .u64 t132)).setCell ⟨gb137, 0, none⟩ (.bool t133)).setCell ⟨gb137, 1, none⟩ (.int .u64 t134)).setCell ⟨gb137, 2, none⟩ (.int .u64 t135)).heap[gb137]? = some (.cells #[.bool t133, .int .u64 t134, .int .u64 t135] 60 (0, 0))) := ⟨by (with_reducible repeat first | apply zzc | apply zzd | apply zzb); refine zzo (cs := #[.bool t133, .int .u64 t134, .int .u64 0]) ?_ 2 _ rfl; (with_reducible repeat first | apply zzc | apply zzd | apply zzb); refine zzo (cs := #[.bool t133, .int .u64 0, .int .u64 0]) ?_ 1 _ rfl; (with_reducible repeat first | apply zzc | apply zzd | apply zzb); refine zzo (cs := #[.bool false, .int .u64 0, .int .u64 0]) ?_ 0 _ rfl; (with_reducible repeat first | apply zzc | apply zzd | apply zzb); refine zzs ?_ NB137_136.out _; (with_reducible repeat first | apply zzc | apply zzd | apply zzb); refine zzs ?_ NB137_136.out _; (with_reducible repeat first | apply zzc | apply zzd | apply zzb); refine zzs ?_ NB137_136.out _; (with_reducible repeat first | apply zzc | apply zzd | apply zzb); exact BK137.out⟩
      have n3_ : Aside0 (Below w.heap.size w ((((((w18.setCell ⟨gb136, 0, none⟩ (.bool t130)).setCell ⟨gb136, 1, none⟩ (.int .u64 t131)).setCell ⟨gb136, 2, none⟩ (.int .u64 t132)).setCell ⟨gb137, 0, none⟩ (.bool t133)).setCell ⟨gb137, 1, none⟩ (.int .u64 t134)).setCell ⟨gb137, 2, none⟩ (.int .u64 t135))) := ⟨by repeat (first | (with_reducible first | exact HB.out | apply zzf | apply zza | apply zzg | refine zze ?_ GE125.out | refine zze ?_ GE136.out | refine zze ?_ GE137.out) | exact HB.out)⟩
      (try clear BK125)
      (try clear BK136)
      (try clear BK137)
      (try clear HB)
      generalize ((((((w18.setCell ⟨gb136, 0, none⟩ (.bool t130)).setCell ⟨gb136, 1, none⟩ (.int .u64 t131)).setCell ⟨gb136, 2, none⟩ (.int .u64 t132)).setCell ⟨gb137, 0, none⟩ (.bool t133)).setCell ⟨gb137, 1, none⟩ (.int .u64 t134)).setCell ⟨gb137, 2, none⟩ (.int .u64 t135)) = w24 at n0_ n1_ n2_ n3_ ⊢
      have BK125 := n0_
      have BK136 := n1_
      have BK137 := n2_
      have HB := n3_
      clear n0_ n1_ n2_ n3_
      have n0_ := Aside0.mk (zzd BK125.out)
      have n1_ := Aside0.mk (zzd BK136.out)
      have n2_ := Aside0.mk (zzd BK137.out)
      have n3_ := Aside0.mk (zzg HB.out)
      clear BK125
      clear BK136
      clear BK137
      clear HB
      have BK125 := n0_
      have BK136 := n1_
      have BK137 := n2_
      have HB := n3_
      clear n0_ n1_ n2_ n3_
      refine start_ (n := 15) (S := fun w' => w'.cell? ⟨gb136, 0, none⟩ = some (.bool t130) ∧ w'.cell? ⟨gb136, 1, none⟩ = some (.int .u64 t131) ∧ w'.cell? ⟨gb136, 2, none⟩ = some (.int .u64 t132)) (ds := []) #[false, false, false, false, false, false, false, false, false, false, false, false, false, false, false] (by kernel_rfl) rfl rfl ⟨(zzi BK136.out 0).trans rfl, (zzi BK136.out 1).trans rfl, (zzi BK136.out 2).trans rfl⟩ (fun hHeld => ?_); refine with_tabW fixed_Ratio.tab6 fixed_Ratio.bits6 (fun HT_ HW_ => ?_)
      generalize w24.drew = w25 at BK125 BK136 BK137 HB hHeld ⊢
      refine pure_ (i := 0) (N := some 31) (v := ?_) (a' := ?_) #[true, false, false, false, false, false, false, false, false, false, false, false, false, false, false] rfl rfl (any_of HT_.out (by kernel_rfl)) (fun _ _ _ h => h) (Or.inl ⟨by rfl, ?_⟩) ?_ ?_
      rotate_left
      · intro w'
        go_simp
        with_reducible rfl
      rotate_left
      · simp only [Act.put, List.setIfInBounds_toArray, List.set_cons_zero, List.set_cons_succ, i64_w, i32_w]
        rfl
      refine pure_ (i := 1) (N := some 32) (v := ?_) (a' := ?_) #[true, true, false, false, false, false, false, false, false, false, false, false, false, false, false] rfl rfl (any_of HT_.out (by kernel_rfl)) (fun _ _ _ h => h) (Or.inl ⟨by rfl, ?_⟩) ?_ ?_
      rotate_left
      · intro w'
        go_simp
        with_reducible rfl
      rotate_left
      · simp only [Act.put, List.setIfInBounds_toArray, List.set_cons_zero, List.set_cons_succ, i64_w, i32_w]
        rfl
      refine pure_ (i := 3) (N := some 34) (v := ?_) (a' := ?_) #[true, true, false, true, false, false, false, false, false, false, false, false, false, false, false] rfl rfl (any_of HT_.out (by kernel_rfl)) (fun _ _ _ h => h) (Or.inl ⟨by rfl, ?_⟩) ?_ ?_
      rotate_left
      · intro w'
        go_simp
        with_reducible rfl
      rotate_left
      · simp only [Act.put, List.setIfInBounds_toArray, List.set_cons_zero, List.set_cons_succ, i64_w, i32_w]
        rfl
      refine pure_ (i := 5) (N := some 36) (v := ?_) (a' := ?_) #[true, true, false, true, false, true, false, false, false, false, false, false, false, false, false] rfl rfl (any_of HT_.out (by kernel_rfl)) (fun _ _ _ h => h) (Or.inl ⟨by rfl, ?_⟩) ?_ ?_
      rotate_left
      · intro w'
        go_simp
        with_reducible rfl
      rotate_left
      · simp only [Act.put, List.setIfInBounds_toArray, List.set_cons_zero, List.set_cons_succ, i64_w, i32_w]
        rfl
      refine pure_ (i := 6) (N := some 37) (v := ?_) (a' := ?_) #[true, true, false, true, false, true, true, false, false, false, false, false, false, false, false] rfl rfl (any_of HT_.out (by kernel_rfl)) (fun _ _ _ h => h) (Or.inl ⟨by rfl, ?_⟩) ?_ ?_
      rotate_left
      · intro w'
        go_simp
        with_reducible rfl
      rotate_left
      · simp only [Act.put, List.setIfInBounds_toArray, List.set_cons_zero, List.set_cons_succ, i64_w, i32_w]
        rfl
      refine pure_ (i := 8) (N := some 39) (v := ?_) (a' := ?_) #[true, true, false, true, false, true, true, false, true, false, false, false, false, false, false] rfl rfl (any_of HT_.out (by kernel_rfl)) (fun _ _ _ h => h) (Or.inl ⟨by rfl, ?_⟩) ?_ ?_
      rotate_left
      · intro w'
        go_simp
        with_reducible rfl
      rotate_left
      · simp only [Act.put, List.setIfInBounds_toArray, List.set_cons_zero, List.set_cons_succ, i64_w, i32_w]
        rfl
      refine take_ (i := 2) (N := some 33) (v := ?_) (a' := ?_) #[true, true, true, true, false, true, true, false, true, false, false, false, false, false, false] rfl rfl (take_ofW HT_.out HW_.out (by kernel_rfl)) (fun _ _ _ h => h) (Or.inl ⟨by rfl, ?_⟩) hHeld ?_ ?_
      rotate_left
      · rintro w' ⟨s0, s1, s2⟩
        go_simp
        with_reducible rfl
      rotate_left
      · simp only [Act.put, List.setIfInBounds_toArray, List.set_cons_zero, List.set_cons_succ, i64_w, i32_w]
        rfl
      refine pure_ (i := 4) (N := some 35) (v := ?_) (a' := ?_) #[true, true, true, true, true, true, true, false, true, false, false, false, false, false, false] rfl rfl (any_of HT_.out (by kernel_rfl)) (fun _ _ _ h => h) (Or.inl ⟨by rfl, ?_⟩) ?_ ?_
      rotate_left
      · intro w'
        go_simp
        with_reducible rfl
      rotate_left
      · simp only [Act.put, List.setIfInBounds_toArray, List.set_cons_zero, List.set_cons_succ, i64_w, i32_w]
        rfl
      refine take_ (i := 7) (N := some 38) (v := ?_) (a' := ?_) #[true, true, true, true, true, true, true, true, true, false, false, false, false, false, false] rfl rfl (take_ofW HT_.out HW_.out (by kernel_rfl)) (fun _ _ _ h => h) (Or.inl ⟨by rfl, ?_⟩) hHeld ?_ ?_
      rotate_left
      · rintro w' ⟨s0, s1, s2⟩
        go_simp
        with_reducible rfl
      rotate_left
      · simp only [Act.put, List.setIfInBounds_toArray, List.set_cons_zero, List.set_cons_succ, i64_w, i32_w]
        rfl
      refine one_ (i := 9) (N := some 40) #[true, true, true, true, true, true, true, true, true, true, false, false, false, false, false] rfl rfl (one_of HT_.out (by kernel_rfl)) (by decide) (fun K hK => ?_)
      refine goes_ Try.func91 (by kernel_rfl) rfl #[.int .u64 (Int.tmod t132 t134), .int .u64 t131, .int .u64 t134] (by rfl) rfl rfl (by (try simp only [List.map_toArray, List.map_cons, List.map_nil]); first | done | rfl | (simp only [List.length_drop, List.length_take]; rfl)) ?_
      with_reducible refine (bits_Div64.calls k (Int.tmod t132 t134) t131 t134 t138 t139 _ A11.out).mono ?_
      rintro e w26 ⟨rfl, hb⟩
      refine ⟨_, rfl, ?_⟩
      have n0_ := Aside0.mk (zzj (g := gb125) (o := .cells #[.int .i64 0, .bool false] 23 (0, 0)) (by (with_reducible repeat first | apply zzc | apply zzd | apply zzb); exact BK125.out) hb)
      have n1_ := Aside0.mk (zzj (g := gb136) (o := .cells #[.bool t130, .int .u64 t131, .int .u64 t132] 60 (0, 0)) (by (with_reducible repeat first | apply zzc | apply zzd | apply zzb); exact BK136.out) hb)
      have n2_ := Aside0.mk (zzj (g := gb137) (o := .cells #[.bool t133, .int .u64 t134, .int .u64 t135] 60 (0, 0)) (by (with_reducible repeat first | apply zzc | apply zzd | apply zzb); exact BK137.out) hb)
      have n3_ := Aside0.mk (zzl (by repeat (first | (with_reducible first | exact HB.out | apply zzf | apply zza | apply zzg | refine zze ?_ GE125.out | refine zze ?_ GE136.out | refine zze ?_ GE137.out) | exact HB.out)) hb)
      clear BK125
      clear BK136
      clear BK137
      clear HB
      have BK125 := n0_
      have BK136 := n1_
      have BK137 := n2_
      have HB := n3_
      clear n0_ n1_ n2_ n3_
      (try clear hb)
      (try clear hb2)
      (try clear hk)
      (try clear hi)
      refine hK.out _ _ ⟨(zzi BK136.out 0).trans rfl, (zzi BK136.out 1).trans rfl, (zzi BK136.out 2).trans rfl⟩ (fun hHeld => ?_)
      clear hK K
      refine norm_ (a' := ?_) ?_ ?_
      rotate_left
      · show Act.put _ (some 40) _ = _
        simp only [Act.put, List.setIfInBounds_toArray, List.set_cons_zero, List.set_cons_succ, i64_w, i32_w]
        rfl
      refine pure_ (i := 10) (N := some 30) (v := ?_) (a' := ?_) #[true, true, true, true, true, true, true, true, true, true, true, false, false, false, false] rfl rfl (any_of HT_.out (by kernel_rfl)) (fun _ _ _ h => h) (Or.inl ⟨by rfl, ?_⟩) ?_ ?_
      rotate_left
      · intro w'
        go_simp
        with_reducible rfl
      rotate_left
      · simp only [Act.put, List.setIfInBounds_toArray, List.set_cons_zero, List.set_cons_succ, i64_w, i32_w]
        rfl
      refine pure_ (i := 11) (N := some 41) (v := ?_) (a' := ?_) #[true, true, true, true, true, true, true, true, true, true, true, true, false, false, false] rfl rfl (any_of HT_.out (by kernel_rfl)) (fun _ _ _ h => h) (Or.inl ⟨by rfl, ?_⟩) ?_ ?_
      rotate_left
      · intro w'
        go_simp
        with_reducible rfl
      rotate_left
      · simp only [Act.put, List.setIfInBounds_toArray, List.set_cons_zero, List.set_cons_succ, i64_w, i32_w]
        rfl
      refine pure_ (i := 12) (N := some 42) (v := ?_) (a' := ?_) #[true, true, true, true, true, true, true, true, true, true, true, true, true, false, false] rfl rfl (any_of HT_.out (by kernel_rfl)) (fun _ _ _ h => h) (Or.inl ⟨by rfl, ?_⟩) ?_ ?_
      rotate_left
      · intro w'
        go_simp
        with_reducible rfl
      rotate_left
      · simp only [Act.put, List.setIfInBounds_toArray, List.set_cons_zero, List.set_cons_succ, i64_w, i32_w]
        rfl
      refine pure_ (i := 13) (N := some 9) (v := ?_) (a' := ?_) #[true, true, true, true, true, true, true, true, true, true, true, true, true, true, false] rfl rfl (any_of HT_.out (by kernel_rfl)) (fun _ _ _ h => h) (Or.inl ⟨by rfl, ?_⟩) ?_ ?_
      rotate_left
      · intro w'
        go_simp
        with_reducible rfl
      rotate_left
      · simp only [Act.put, List.setIfInBounds_toArray, List.set_cons_zero, List.set_cons_succ, i64_w, i32_w]
        rfl
      refine pure_ (i := 14) (N := some 10) (v := ?_) (a' := ?_) #[true, true, true, true, true, true, true, true, true, true, true, true, true, true, true] rfl rfl (any_of HT_.out (by kernel_rfl)) (fun _ _ _ h => h) (Or.inl ⟨by rfl, ?_⟩) ?_ ?_
      rotate_left
      · intro w'
        go_simp
        with_reducible rfl
      rotate_left
      · simp only [Act.put, List.setIfInBounds_toArray, List.set_cons_zero, List.set_cons_succ, i64_w, i32_w]
        rfl
      refine done_ (done_of HT_.out (by kernel_rfl)) ?_
      have hcz27_0 : w26.cell? ⟨gb136, 0, none⟩ = some (.bool t130) := (zzi BK136.out 0).trans rfl
      have hcz27_1 : w26.cell? ⟨gb136, 1, none⟩ = some (.int .u64 t131) := (zzi BK136.out 1).trans rfl
      have hcz27_2 : w26.cell? ⟨gb136, 2, none⟩ = some (.int .u64 t132) := (zzi BK136.out 2).trans rfl
      have hfz27_0 := zzh BK136.out 0
      have hfz27_1 := zzh BK136.out 1
      have hfz27_2 := zzh BK136.out 2
      have hcz28_0 : w26.cell? ⟨gb137, 0, none⟩ = some (.bool t133) := (zzi BK137.out 0).trans rfl
      have hcz28_1 : w26.cell? ⟨gb137, 1, none⟩ = some (.int .u64 t134) := (zzi BK137.out 1).trans rfl
      have hcz28_2 : w26.cell? ⟨gb137, 2, none⟩ = some (.int .u64 t135) := (zzi BK137.out 2).trans rfl
      have hfz28_0 := zzh BK137.out 0
      have hfz28_1 := zzh BK137.out 1
      have hfz28_2 := zzh BK137.out 2
      try go_wp2_with (first | ((with_reducible refine zzq (f := 83) rfl ?_); refine goesL_ (some 52) rfl rfl Try.func83 (by kernel_rfl) rfl #[.agg #[.bool (t130 != t133), .int .u64 t138, .int .u64 (IntKind.u64.wrap (Int.tdiv t132 t134))], .bool false] rfl (by (try simp only [List.map_toArray, List.map_cons, List.map_nil]); first | done | rfl | (simp only [List.length_drop, List.length_take]; rfl)) ?_; (with_reducible refine (fixed_exact_fit.calls k (t130 != t133) t138 (IntKind.u64.wrap (Int.tdiv t132 t134)) false t140 t141 _ A12.out).mono ?_); rintro e w29 ⟨rfl, hb⟩; refine ⟨_, rfl, ?_⟩; have n0_ := Aside0.mk (zzj (g := gb125) (o := .cells #[.int .i64 0, .bool false] 23 (0, 0)) (by (with_reducible repeat first | apply zzc | apply zzd | apply zzb); exact BK125.out) hb); have n3_ := Aside0.mk (zzl (by repeat (first | (with_reducible first | exact HB.out | apply zzf | apply zza | apply zzg | refine zze ?_ GE125.out | refine zze ?_ GE136.out | refine zze ?_ GE137.out) | exact HB.out)) hb); clear BK125; clear HB; have BK125 := n0_; have HB := n3_; clear n0_ n3_; have hcz30_0 : w29.cell? ⟨gb125, 0, none⟩ = some (.int .i64 0) := (zzi BK125.out 0).trans rfl; have hcz30_1 : w29.cell? ⟨gb125, 1, none⟩ = some (.bool false) := (zzi BK125.out 1).trans rfl; have hfz30_0 := zzh BK125.out 0; have hfz30_1 := zzh BK125.out 1))
      refine bodyPost_ret (results_cell_row rfl _ _ gb125 23 #[.int .i64 t140, .bool t141] (0, 0) _ rfl (by (with_reducible repeat first | apply zzc | apply zzd | apply zzb); refine zzo (cs := #[.int .i64 t140, .bool false]) ?_ 1 _ rfl; (with_reducible repeat first | apply zzc | apply zzd | apply zzb); refine zzo (cs := #[.int .i64 0, .bool false]) ?_ 0 _ rfl; (with_reducible repeat first | apply zzc | apply zzd | apply zzb); exact BK125.out) Try.underlying23 rfl (by kernel_rfl)) rfl ?_
      exact ⟨by first | rfl | (simp [zzn, zzm] <;> rfl) | (simp [*, zzn, zzm] <;> rfl), by repeat (first | (with_reducible first | exact HB.out | apply zzf | apply zza | apply zzg | refine zze ?_ GE125.out | refine zze ?_ GE136.out | refine zze ?_ GE137.out) | exact HB.out)⟩
def bits_Mul64.f (a0 : Int) (a1 : Int) : Option (Int × Int) := some (IntKind.u64.wrap ((IntKind.u64.wrap ((IntKind.u64.wrap ((a0 / 4294967296) * (a1 / 4294967296))) + ((IntKind.u64.wrap ((IntKind.u64.wrap ((a0 / 4294967296) * (Go.bits .and .u64 a1 4294967295))) + ((IntKind.u64.wrap ((Go.bits .and .u64 a0 4294967295) * (Go.bits .and .u64 a1 4294967295))) / 4294967296))) / 4294967296))) + ((IntKind.u64.wrap ((Go.bits .and .u64 (IntKind.u64.wrap ((IntKind.u64.wrap ((a0 / 4294967296) * (Go.bits .and .u64 a1 4294967295))) + ((IntKind.u64.wrap ((Go.bits .and .u64 a0 4294967295) * (Go.bits .and .u64 a1 4294967295))) / 4294967296))) 4294967295) + (IntKind.u64.wrap ((Go.bits .and .u64 a0 4294967295) * (a1 / 4294967296))))) / 4294967296)), IntKind.u64.wrap (a0 * a1))
set_option maxHeartbeats 8000000 in
set_option maxRecDepth 100000 in
theorem bits_Mul64.calls (a0 : Int) (a1 : Int) (r1 : Int) (r2 : Int) (w : World) (h : bits_Mul64.f a0 a1 = some (r1, r2)) :
    Calls Try.prog 107 #[.int .u64 a0, .int .u64 a1] w fun e w' => e = .returned (.tuple #[.int .u64 r1, .int .u64 r2]) ∧ Drawn0 w w' := by
  have H : (some (IntKind.u64.wrap ((IntKind.u64.wrap ((IntKind.u64.wrap ((a0 / 4294967296) * (a1 / 4294967296))) + ((IntKind.u64.wrap ((IntKind.u64.wrap ((a0 / 4294967296) * (Go.bits .and .u64 a1 4294967295))) + ((IntKind.u64.wrap ((Go.bits .and .u64 a0 4294967295) * (Go.bits .and .u64 a1 4294967295))) / 4294967296))) / 4294967296))) + ((IntKind.u64.wrap ((Go.bits .and .u64 (IntKind.u64.wrap ((IntKind.u64.wrap ((a0 / 4294967296) * (Go.bits .and .u64 a1 4294967295))) + ((IntKind.u64.wrap ((Go.bits .and .u64 a0 4294967295) * (Go.bits .and .u64 a1 4294967295))) / 4294967296))) 4294967295) + (IntKind.u64.wrap ((Go.bits .and .u64 a0 4294967295) * (a1 / 4294967296))))) / 4294967296)), IntKind.u64.wrap (a0 * a1))) = some (r1, r2) := h
  clear h
  simp only [Option.some.injEq, Prod.mk.injEq] at H
  obtain ⟨rfl, rfl⟩ := H
  go_enter Try.func107, Try.ntmps107
  go_wp2
  go_ret2
  exact ⟨by first | rfl | (simp; done) | (simp [*]; done), by repeat (first | exact Drawn0.refl _ | apply Drawn0.step)⟩
end Go.Proofs.Ytenpiaafkmfjfaa.B

end
section
namespace Go.Proofs.Ytenpiaafkmfjfaa.B
open Go.RowKit
theorem size56 (w : World) : (sizeOf 56).run Try.prog w = .ok 1 w := by kernel_rfl
theorem part56_0 (w : World) (x y : Int) : (part 56 #[.int .u64 x, .int .u64 y] 0).run Try.prog w = .ok (.int .u64 x) w := by kernel_rfl
theorem part56_1 (w : World) (x y : Int) : (part 56 #[.int .u64 x, .int .u64 y] 1).run Try.prog w = .ok (.int .u64 y) w := by kernel_rfl
set_option maxHeartbeats 1000000 in
theorem eqA58 (d : Nat) (w : World) (x0 y0 x1 y1 : Int) :
    (Op.equalIn (d + 2) 58 (.agg #[.int .u64 x0, .int .u64 x1]) (.agg #[.int .u64 y0, .int .u64 y1])).run Try.prog w = .ok (x0 == y0 && (x1 == y1)) w := by
  have hu := Try.underlying58
  have e := fun a b => run_equalIn_int w d 56 .u64 .u64 a b Try.underlying56
  rw [show d + 2 = (d + 1) + 1 from rfl, Op.equalIn]
  simp only [Sem.run_bind, run_underlying hu, Result.andThen_ok, size56, Std.Legacy.Range.forIn_eq_forIn_range', Std.Legacy.Range.size, Nat.sub_zero, Nat.add_one_sub_one, Nat.div_one]
  simp only [List.range', List.forIn_cons, List.forIn_nil, Sem.run_bind, Nat.zero_mul, Nat.one_mul, Nat.zero_add, part56_0, Result.andThen_ok, e]
  by_cases h0 : x0 = y0 <;> by_cases h1 : x1 = y1 <;> simp [h0, h1, e, part56_1]
theorem fld60_1 (n : Bool) (x y : Int) (w : World) : (Instr.field 60 (.agg #[.bool n, .int .u64 x, .int .u64 y]) 1).run Try.prog w = .ok (.agg #[.int .u64 x, .int .u64 y]) w := by kernel_rfl
theorem idx58_0 (x y : Int) (w : World) : (Instr.index 58 (.agg #[.int .u64 x, .int .u64 y]) (.int .i64 0)).run Try.prog w = .ok (.int .u64 x) w := by kernel_rfl
end Go.Proofs.Ytenpiaafkmfjfaa.B

end
section
namespace Go.Proofs.Ytenpiaafkmfjfaa.B
open Go.Proofs
def add64s (x y c : Int) : Int := (((x.toNat + y.toNat + c.toNat) % 18446744073709551616 : Nat) : Int)
def add64c (x y c : Int) : Int := (((x.toNat + y.toNat + c.toNat) / 18446744073709551616 : Nat) : Int)
def sub64s (x y c : Int) : Int := (((x.toNat + 18446744073709551616 - y.toNat - c.toNat) % 18446744073709551616 : Nat) : Int)
def sub64c (x y c : Int) : Int := ((if x.toNat < y.toNat + c.toNat then 1 else 0 : Nat) : Int)
def subEntry : Array Value → Sem Value := fun args => do
  let (x, y, b) ← Extern.MathBitsCarry.three "Sub64" args
  pure (Extern.MathBitsCarry.pair ((x + Extern.MathBitsCarry.m64 - y - b) % Extern.MathBitsCarry.m64) (if x < y + b then 1 else 0))
theorem run_addE (x y c : Int) (hc : c = 0 ∨ c = 1) (w : World) :
    (add64Entry #[.int .u64 x, .int .u64 y, .int .u64 c]).run Try.prog w = .ok (.tuple #[.int .u64 (add64s x y c), .int .u64 (add64c x y c)]) w := by
  rcases hc with rfl | rfl <;> rfl
theorem run_subE (x y c : Int) (hc : c = 0 ∨ c = 1) (w : World) :
    (subEntry #[.int .u64 x, .int .u64 y, .int .u64 c]).run Try.prog w = .ok (.tuple #[.int .u64 (sub64s x y c), .int .u64 (sub64c x y c)]) w := by
  rcases hc with rfl | rfl <;> rfl
theorem ext108 (x y c : Int) (hc : c = 0 ∨ c = 1) (w : World) :
    (callFunc 108 #[.int .u64 x, .int .u64 y, .int .u64 c]).run Try.prog w = .ok (.value (.tuple #[.int .u64 (add64s x y c), .int .u64 (add64c x y c)])) w := by
  rw [run_callFunc_extern Try.func108 (by kernel_rfl) (by kernel_rfl) (by kernel_rfl) (e := add64Entry) (by kernel_rfl), run_addE x y c hc]
  rfl
theorem ext110 (x y c : Int) (hc : c = 0 ∨ c = 1) (w : World) :
    (callFunc 110 #[.int .u64 x, .int .u64 y, .int .u64 c]).run Try.prog w = .ok (.value (.tuple #[.int .u64 (sub64s x y c), .int .u64 (sub64c x y c)])) w := by
  rw [run_callFunc_extern Try.func110 (by kernel_rfl) (by kernel_rfl) (by kernel_rfl) (e := subEntry) (by kernel_rfl), run_subE x y c hc]
  rfl
theorem sub64c_01 (x y c : Int) : sub64c x y c = 0 ∨ sub64c x y c = 1 := by
  unfold sub64c; split <;> simp
theorem ext108_0 (x y : Int) (w : World) :
    (callFunc 108 #[.int .u64 x, .int .u64 y, .int .u64 0]).run Try.prog w = .ok (.value (.tuple #[.int .u64 (add64s x y 0), .int .u64 (add64c x y 0)])) w := ext108 x y 0 (.inl rfl) w
theorem ext108_1 (x y a b : Int) (w : World) (h : add64c a b 0 ≤ 1) :
    (callFunc 108 #[.int .u64 x, .int .u64 y, .int .u64 (add64c a b 0)]).run Try.prog w = .ok (.value (.tuple #[.int .u64 (add64s x y (add64c a b 0)), .int .u64 (add64c x y (add64c a b 0))])) w := by
  have h0 : 0 ≤ add64c a b 0 := by unfold add64c; omega
  exact ext108 x y _ (by omega) w
theorem ext110_0 (x y : Int) (w : World) :
    (callFunc 110 #[.int .u64 x, .int .u64 y, .int .u64 0]).run Try.prog w = .ok (.value (.tuple #[.int .u64 (sub64s x y 0), .int .u64 (sub64c x y 0)])) w := ext110 x y 0 (.inl rfl) w
theorem ext110_1 (x y a b : Int) (w : World) :
    (callFunc 110 #[.int .u64 x, .int .u64 y, .int .u64 (sub64c a b 0)]).run Try.prog w = .ok (.value (.tuple #[.int .u64 (sub64s x y (sub64c a b 0)), .int .u64 (sub64c x y (sub64c a b 0))])) w := ext110 x y _ (sub64c_01 _ _ _) w
end Go.Proofs.Ytenpiaafkmfjfaa.B

end
section
namespace Go.Proofs.Ytenpiaafkmfjfaa.B
open Go.RowKit Go.Proofs.YtenpiaafkmfjfaaW.PrintWords Go.Proofs.YtenpiaafkmfjfaaW.PrintLast
set_option linter.unusedVariables false
set_option linter.unusedSimpArgs false
attribute [local go_sem high] eqA58
def fixed_product.f (a0 : Int) (a1 : Int) : Option (Bool × Int × Int) := (fixed_of.f a0).bind fun bt143 => ((fixed_of.f a1).bind fun bt146 => ((bits_Mul64.f bt143.2.1 bt146.2.1).bind fun bt151 => (some ((bt143.1 != bt146.1), bt151.2, bt151.1))))
set_option maxHeartbeats 8000000 in
set_option maxRecDepth 100000 in
theorem fixed_product.calls (a0 : Int) (a1 : Int) (r1 : Bool) (r2 : Int) (r3 : Int) (w : World) (h : fixed_product.f a0 a1 = some (r1, r2, r3)) :
    Calls Try.prog 74 #[.int .i64 a0, .int .i64 a1] w fun e w' => e = .returned (.agg #[.bool r1, .int .u64 r2, .int .u64 r3]) ∧ Below w.heap.size w w' := by
  have hu60 := Try.underlying60
  have hu58 := Try.underlying58
  have HB := Aside0.mk (Below.refl w.heap.size w)
  have H : ((fixed_of.f a0).bind fun bt143 => ((fixed_of.f a1).bind fun bt146 => ((bits_Mul64.f bt143.2.1 bt146.2.1).bind fun bt151 => (some ((bt143.1 != bt146.1), bt151.2, bt151.1))))) = some (r1, r2, r3) := h
  clear h
  replace H := Option.bind_eq_some_iff.mp H
  obtain ⟨⟨t143, t144, t145⟩, A30, H⟩ := H
  replace H : ((fixed_of.f a1).bind fun bt146 => ((bits_Mul64.f t144 bt146.2.1).bind fun bt151 => (some ((t143 != bt146.1), bt151.2, bt151.1)))) = some (r1, r2, r3) := H
  have A3 := Aside0.mk A30
  clear A30
  replace H := Option.bind_eq_some_iff.mp H
  obtain ⟨⟨t146, t147, t148⟩, A40, H⟩ := H
  replace H : ((bits_Mul64.f t144 t147).bind fun bt151 => (some ((t143 != t146), bt151.2, bt151.1))) = some (r1, r2, r3) := H
  have A4 := Aside0.mk A40
  clear A40
  replace H := Option.bind_eq_some_iff.mp H
  obtain ⟨⟨t151, t152⟩, A50, H⟩ := H
  replace H : (some ((t143 != t146), t152, t151)) = some (r1, r2, r3) := H
  have A5 := Aside0.mk A50
  clear A50
  simp only [Option.some.injEq, Prod.mk.injEq] at H
  obtain ⟨rfl, rfl, rfl⟩ := H
  go_enter Try.func74, Try.ntmps74
  go_wp2_with (first | ((with_reducible refine zzt (N := 4) rfl ?_); refine zzp ?hg (N := 4) ?hd (cs := #[.bool false, .int .u64 0, .int .u64 0]) (t := 60) ?hr ?_; (case hd => rfl); (case hg => rfl); (case hr => first | (go_simp; done) | (go_simp; rfl)); intro gb142 hg w6 hbox hb; have n0_ := Aside0.mk (zzl (by repeat (first | (with_reducible first | exact HB.out | apply zzf | apply zza | apply zzg) | exact HB.out)) hb); have n1_ := Aside0.mk (hbox); have n3_ := Aside0.mk ((by rw [hg]; exact (zzk (by repeat (first | (with_reducible first | exact HB.out | apply zzf | apply zza | apply zzg) | exact HB.out))) : w.heap.size ≤ gb142)); clear HB; have HB := n0_; have BK142 := n1_; have GE142 := n3_; clear n0_ n1_ n3_; clear hb hbox hg) | ((with_reducible refine zzq (f := 82) rfl ?_); refine goesL_ (some 10) rfl rfl Try.func82 (by kernel_rfl) rfl #[.int .i64 a0] rfl (by (try simp only [List.map_toArray, List.map_cons, List.map_nil]); first | done | rfl | (simp only [List.length_drop, List.length_take]; rfl)) ?_; (with_reducible refine (fixed_of.calls a0 t143 t144 t145 _ A3.out).mono ?_); rintro e w7 ⟨rfl, hb⟩; refine ⟨_, rfl, ?_⟩; have n0_ := Aside0.mk (zzj (g := gb142) (o := .cells #[.bool false, .int .u64 0, .int .u64 0] 60 (0, 0)) (by (with_reducible repeat first | apply zzc | apply zzd | apply zzb); exact BK142.out) hb); have n1_ := Aside0.mk (zzl (by repeat (first | (with_reducible first | exact HB.out | apply zzf | apply zza | apply zzg | refine zze ?_ GE142.out) | exact HB.out)) hb); clear BK142; clear HB; have BK142 := n0_; have HB := n1_; clear n0_ n1_; (try clear hi)) | ((with_reducible refine zzq (f := 82) rfl ?_); refine goesL_ (some 12) rfl rfl Try.func82 (by kernel_rfl) rfl #[.int .i64 a1] rfl (by (try simp only [List.map_toArray, List.map_cons, List.map_nil]); first | done | rfl | (simp only [List.length_drop, List.length_take]; rfl)) ?_; (with_reducible refine (fixed_of.calls a1 t146 t147 t148 _ A4.out).mono ?_); rintro e w8 ⟨rfl, hb⟩; refine ⟨_, rfl, ?_⟩; have n0_ := Aside0.mk (zzj (g := gb142) (o := .cells #[.bool false, .int .u64 0, .int .u64 0] 60 (0, 0)) (by (with_reducible repeat first | apply zzc | apply zzd | apply zzb); exact BK142.out) hb); have n1_ := Aside0.mk (zzl (by repeat (first | (with_reducible first | exact HB.out | apply zzf | apply zza | apply zzg | refine zze ?_ GE142.out) | exact HB.out)) hb); clear BK142; clear HB; have BK142 := n0_; have HB := n1_; clear n0_ n1_; (try clear hi)) | ((with_reducible refine zzt (N := 5) rfl ?_); refine zzp ?hg (N := 5) ?hd (cs := #[.bool false, .int .u64 0, .int .u64 0]) (t := 60) ?hr ?_; (case hd => rfl); (case hg => rfl); (case hr => first | (go_simp; done) | (go_simp; rfl)); intro gb149 hg w9 hbox hb; have n0_ := Aside0.mk (zzj (g := gb142) (o := .cells #[.bool false, .int .u64 0, .int .u64 0] 60 (0, 0)) (by (with_reducible repeat first | apply zzc | apply zzd | apply zzb); exact BK142.out) hb); have n1_ := Aside0.mk (zzl (by repeat (first | (with_reducible first | exact HB.out | apply zzf | apply zza | apply zzg | refine zze ?_ GE142.out) | exact HB.out)) hb); have n2_ := Aside0.mk (hbox); have n4_ := Aside0.mk ((by rw [hg]; exact (zzk (by repeat (first | (with_reducible first | exact HB.out | apply zzf | apply zza | apply zzg | refine zze ?_ GE142.out) | exact HB.out))) : w.heap.size ≤ gb149)); have n5_ := Aside0.mk ((by rw [hg]; exact Nat.ne_of_lt (zzr (g := gb142) (o := .cells #[.bool false, .int .u64 0, .int .u64 0] 60 (0, 0)) (by (with_reducible repeat first | apply zzc | apply zzd | apply zzb); exact BK142.out)) : gb142 ≠ gb149)); have n6_ := Aside0.mk ((by rw [hg]; exact Nat.ne_of_gt (zzr (g := gb142) (o := .cells #[.bool false, .int .u64 0, .int .u64 0] 60 (0, 0)) (by (with_reducible repeat first | apply zzc | apply zzd | apply zzb); exact BK142.out)) : gb149 ≠ gb142)); clear BK142; clear HB; have BK142 := n0_; have HB := n1_; have BK149 := n2_; have GE149 := n4_; have NB142_149 := n5_; have NB149_142 := n6_; clear n0_ n1_ n2_ n4_ n5_ n6_; clear hb hbox hg) | ((with_reducible refine zzt (N := 6) rfl ?_); refine zzp ?hg (N := 6) ?hd (cs := #[.bool false, .int .u64 0, .int .u64 0]) (t := 60) ?hr ?_; (case hd => rfl); (case hg => rfl); (case hr => first | (go_simp; done) | (go_simp; rfl)); intro gb150 hg w10 hbox hb; have n0_ := Aside0.mk (zzj (g := gb142) (o := .cells #[.bool false, .int .u64 0, .int .u64 0] 60 (0, 0)) (by (with_reducible repeat first | apply zzc | apply zzd | apply zzb); exact BK142.out) hb); have n1_ := Aside0.mk (zzj (g := gb149) (o := .cells #[.bool false, .int .u64 0, .int .u64 0] 60 (0, 0)) (by (with_reducible repeat first | apply zzc | apply zzd | apply zzb); exact BK149.out) hb); have n2_ := Aside0.mk (zzl (by repeat (first | (with_reducible first | exact HB.out | apply zzf | apply zza | apply zzg | refine zze ?_ GE142.out | refine zze ?_ GE149.out) | exact HB.out)) hb); have n3_ := Aside0.mk (hbox); have n5_ := Aside0.mk ((by rw [hg]; exact (zzk (by repeat (first | (with_reducible first | exact HB.out | apply zzf | apply zza | apply zzg | refine zze ?_ GE142.out | refine zze ?_ GE149.out) | exact HB.out))) : w.heap.size ≤ gb150)); have n6_ := Aside0.mk ((by rw [hg]; exact Nat.ne_of_lt (zzr (g := gb142) (o := .cells #[.bool false, .int .u64 0, .int .u64 0] 60 (0, 0)) (by (with_reducible repeat first | apply zzc | apply zzd | apply zzb); exact BK142.out)) : gb142 ≠ gb150)); have n7_ := Aside0.mk ((by rw [hg]; exact Nat.ne_of_gt (zzr (g := gb142) (o := .cells #[.bool false, .int .u64 0, .int .u64 0] 60 (0, 0)) (by (with_reducible repeat first | apply zzc | apply zzd | apply zzb); exact BK142.out)) : gb150 ≠ gb142)); have n8_ := Aside0.mk ((by rw [hg]; exact Nat.ne_of_lt (zzr (g := gb149) (o := .cells #[.bool false, .int .u64 0, .int .u64 0] 60 (0, 0)) (by (with_reducible repeat first | apply zzc | apply zzd | apply zzb); exact BK149.out)) : gb149 ≠ gb150)); have n9_ := Aside0.mk ((by rw [hg]; exact Nat.ne_of_gt (zzr (g := gb149) (o := .cells #[.bool false, .int .u64 0, .int .u64 0] 60 (0, 0)) (by (with_reducible repeat first | apply zzc | apply zzd | apply zzb); exact BK149.out)) : gb150 ≠ gb149)); clear BK142; clear BK149; clear HB; have BK142 := n0_; have BK149 := n1_; have HB := n2_; have BK150 := n3_; have GE150 := n5_; have NB142_150 := n6_; have NB150_142 := n7_; have NB149_150 := n8_; have NB150_149 := n9_; clear n0_ n1_ n2_ n3_ n5_ n6_ n7_ n8_ n9_; clear hb hbox hg; have hnb11 := NB149_142.out; have hnc11 := NB142_149.out; have hnb12 := NB149_150.out; have hnc12 := NB150_149.out; have hcz13_0 : w10.cell? ⟨gb149, 0, none⟩ = some (.bool false) := (zzi BK149.out 0).trans rfl; have hcz13_1 : w10.cell? ⟨gb149, 1, none⟩ = some (.int .u64 0) := (zzi BK149.out 1).trans rfl; have hcz13_2 : w10.cell? ⟨gb149, 2, none⟩ = some (.int .u64 0) := (zzi BK149.out 2).trans rfl; have hfz13_0 := zzh BK149.out 0; have hfz13_1 := zzh BK149.out 1; have hfz13_2 := zzh BK149.out 2; have hnb14 := NB150_142.out; have hnc14 := NB142_150.out; have hcz15_0 : w10.cell? ⟨gb150, 0, none⟩ = some (.bool false) := (zzi BK150.out 0).trans rfl; have hcz15_1 : w10.cell? ⟨gb150, 1, none⟩ = some (.int .u64 0) := (zzi BK150.out 1).trans rfl; have hcz15_2 : w10.cell? ⟨gb150, 2, none⟩ = some (.int .u64 0) := (zzi BK150.out 2).trans rfl; have hfz15_0 := zzh BK150.out 0; have hfz15_1 := zzh BK150.out 1; have hfz15_2 := zzh BK150.out 2) | ((with_reducible refine zzq (f := 107) rfl ?_); refine goesL_ (some 20) rfl rfl Try.func107 (by kernel_rfl) rfl #[.int .u64 t144, .int .u64 t147] rfl (by (try simp only [List.map_toArray, List.map_cons, List.map_nil]); first | done | rfl | (simp only [List.length_drop, List.length_take]; rfl)) ?_; (with_reducible refine (bits_Mul64.calls t144 t147 t151 t152 _ A5.out).mono ?_); rintro e w' ⟨rfl, ⟨nd, rfl⟩⟩; refine ⟨_, rfl, ?_⟩; have hcz16_0 : w10.cell? ⟨gb142, 0, none⟩ = some (.bool false) := (zzi BK142.out 0).trans rfl; have hcz16_1 : w10.cell? ⟨gb142, 1, none⟩ = some (.int .u64 0) := (zzi BK142.out 1).trans rfl; have hcz16_2 : w10.cell? ⟨gb142, 2, none⟩ = some (.int .u64 0) := (zzi BK142.out 2).trans rfl; have hfz16_0 := zzh BK142.out 0; have hfz16_1 := zzh BK142.out 1; have hfz16_2 := zzh BK142.out 2))
  refine bodyPost_ret (results_cell_row rfl _ _ gb142 60 #[.bool (t143 != t146), .int .u64 t152, .int .u64 t151] (0, 0) _ rfl (by (with_reducible repeat first | apply zzc | apply zzd | apply zzb); refine zzo (cs := #[.bool (t143 != t146), .int .u64 t152, .int .u64 0]) ?_ 2 _ rfl; (with_reducible repeat first | apply zzc | apply zzd | apply zzb); refine zzo (cs := #[.bool (t143 != t146), .int .u64 0, .int .u64 0]) ?_ 1 _ rfl; (with_reducible repeat first | apply zzc | apply zzd | apply zzb); refine zzo (cs := #[.bool false, .int .u64 0, .int .u64 0]) ?_ 0 _ rfl; (with_reducible repeat first | apply zzc | apply zzd | apply zzb); refine zzs ?_ NB142_150.out _; (with_reducible repeat first | apply zzc | apply zzd | apply zzb); refine zzs ?_ NB142_150.out _; (with_reducible repeat first | apply zzc | apply zzd | apply zzb); refine zzs ?_ NB142_150.out _; (with_reducible repeat first | apply zzc | apply zzd | apply zzb); refine zzs ?_ NB142_149.out _; (with_reducible repeat first | apply zzc | apply zzd | apply zzb); refine zzs ?_ NB142_149.out _; (with_reducible repeat first | apply zzc | apply zzd | apply zzb); refine zzs ?_ NB142_149.out _; (with_reducible repeat first | apply zzc | apply zzd | apply zzb); exact BK142.out) Try.underlying60 rfl (by kernel_rfl)) rfl ?_
  exact ⟨by first | rfl | (simp [zzn, zzm] <;> rfl) | (simp [*, zzn, zzm] <;> rfl), by repeat (first | (with_reducible first | exact HB.out | apply zzf | apply zza | apply zzg | refine zze ?_ GE142.out | refine zze ?_ GE149.out | refine zze ?_ GE150.out) | exact HB.out)⟩
def cmp_Or_int.l0 : Nat → Int → List Int → Int → Int → Option (Int)
  | 0, _, _, _, _ => none
  | k + 1, x3, x6, x7, x8 => if x8 < x7 then (if 0 ≤ x8 then (if x8 < (x6.length : Int) then (if (rd x6 x8) = x3 then (cmp_Or_int.l0 k x3 x6 x7 (wrap64 (x8 + 1))) else (some (rd x6 x8))) else (none)) else (none)) else (some x3)
def cmp_Or_int.f (k : Nat) (l0 : List Int) : Option (Int) := cmp_Or_int.l0 k 0 l0 (l0.length : Int) 0
set_option maxHeartbeats 8000000 in
set_option maxRecDepth 100000 in
theorem cmp_Or_int.calls (k : Nat) (A0 : Option Addr) (c0 : Nat) (l0 : List Int) (r : Int) (w : World) (hr0 : Kd.C (Kd.int .i64) w A0 l0.length l0) (hc0 : l0.length ≤ c0) (h : cmp_Or_int.f k l0 = some r) :
    Calls Try.prog 117 #[.slice A0 l0.length c0] w fun e w' => e = .returned (.int .i64 r) ∧ Drawn0 w w' := by
  have HR0 := Aside0.mk hr0
  have HC0 := Aside0.mk hc0
  clear hr0 hc0
  have H : (cmp_Or_int.l0 k 0 l0 (l0.length : Int) 0) = some r := h
  clear h
  have H' := Aside0.mk H
  clear H
  go_enter Try.func117, Try.ntmps117
  go_wp2
  go_loopg [8] k (fun kq v8 w' => ∃ (x8_1 : Int), v8 = .int .i64 x8_1 ∧ Aside0 (cmp_Or_int.l0 kq 0 l0 (l0.length : Int) x8_1 = some r) ∧ Aside0 (kq ≤ k) ∧ Drawn0 w w')
  case atStart => exact ⟨(0), (by first | rfl | (simp; done) | (simp [*]; done)), H', ⟨Nat.le_refl _⟩, by repeat (first | exact Drawn0.refl _ | apply Drawn0.step)⟩
  case round =>
    clear H'
    obtain ⟨x8_1, rfl, HA, HK1, ⟨m1, rfl⟩⟩ := hrel
    cases gk with
    | zero => exact absurd HA.out (by simp [cmp_Or_int.l0])
    | succ k1 =>
      have H := HA.out
      clear HA
      simp only [cmp_Or_int.l0] at H
      by_cases c2 : x8_1 < (l0.length : Int)
      · rw [if_pos c2] at H
        have c2b0 : decide (x8_1 < (l0.length : Int)) = true := decide_eq_true c2
        clear c2
        by_cases c3 : 0 ≤ x8_1
        · rw [if_pos c3] at H
          have c3b0 : decide (0 ≤ x8_1) = true := decide_eq_true c3
          clear c3
          by_cases c4 : x8_1 < (l0.length : Int)
          · rw [if_pos c4] at H
            have c4b0 : decide (x8_1 < (l0.length : Int)) = true := decide_eq_true c4
            clear c4
            by_cases c5 : (rd l0 x8_1) = 0
            · rw [if_pos c5] at H
              have c5b0 : ((rd l0 x8_1) == 0) = true := beq_iff_eq.mpr c5
              have c5b1 : ((rd l0 x8_1) != 0) = false := bne_eq_false_iff_eq.mpr c5
              clear c5
              have H' := Aside0.mk H
              clear H
              have p153 : 0 ≤ (x8_1 : Int) := of_decide_eq_true (by first | (with_reducible assumption) | assumption)
              have q153 : x8_1 < (l0.length : Int) := of_decide_eq_true (by first | (with_reducible assumption) | assumption)
              obtain ⟨ad153, e153, hx153_0⟩ := Kd.at_int HR0.out x8_1 p153 q153
              cases e153
              replace p153 := eq_true p153
              replace q153 := eq_true q153
              go_wp2
              go_roundg k1
              case measure => have := HK1.out; omega
              case rel => exact ⟨(wrap64 (x8_1 + 1)), (by first | rfl | (simp; done) | (simp [*]; done)), H', ⟨by have := HK1.out; omega⟩, by repeat (first | exact Drawn0.refl _ | apply Drawn0.step)⟩
            · rw [if_neg c5] at H
              have c5b0 : ((rd l0 x8_1) == 0) = false := beq_eq_false_iff_ne.mpr c5
              have c5b1 : ((rd l0 x8_1) != 0) = true := bne_iff_ne.mpr c5
              obtain rfl := Option.some.inj H
              have p153 : 0 ≤ (x8_1 : Int) := of_decide_eq_true (by first | (with_reducible assumption) | assumption)
              have q153 : x8_1 < (l0.length : Int) := of_decide_eq_true (by first | (with_reducible assumption) | assumption)
              obtain ⟨ad153, e153, hx153_0⟩ := Kd.at_int HR0.out x8_1 p153 q153
              cases e153
              replace p153 := eq_true p153
              replace q153 := eq_true q153
              go_wp2
              go_ret
              exact ⟨by first | rfl | (simp; done) | (simp [*]; done), by repeat (first | exact Drawn0.refl _ | apply Drawn0.step)⟩
          · rw [if_neg c4] at H
            exact absurd H (by simp)
        · rw [if_neg c3] at H
          exact absurd H (by simp)
      · rw [if_neg c2] at H
        have c2b0 : decide (x8_1 < (l0.length : Int)) = false := decide_eq_false c2
        clear c2
        obtain rfl := Option.some.inj H
        go_wp2
        go_ret
        exact ⟨by first | rfl | (simp; done) | (simp [*]; done), by repeat (first | exact Drawn0.refl _ | apply Drawn0.step)⟩
def cmp_isNaN_uint64.f (a0 : Int) : Option (Bool) := some (a0 != a0)
set_option maxHeartbeats 8000000 in
set_option maxRecDepth 100000 in
theorem cmp_isNaN_uint64.calls (a0 : Int) (r : Bool) (w : World) (h : cmp_isNaN_uint64.f a0 = some r) :
    Calls Try.prog 121 #[.int .u64 a0] w fun e w' => e = .returned (.bool r) ∧ Drawn0 w w' := by
  have H : (some (a0 != a0)) = some r := h
  clear h
  obtain rfl := Option.some.inj H
  go_enter Try.func121, Try.ntmps121
  go_wp2
  go_ret
  exact ⟨by first | rfl | (simp; done) | (simp [*]; done), by repeat (first | exact Drawn0.refl _ | apply Drawn0.step)⟩
def cmp_Compare_uint64.f (a0 : Int) (a1 : Int) : Option (Int) := (cmp_isNaN_uint64.f a0).bind fun t154 => ((cmp_isNaN_uint64.f a1).bind fun t155 => (if t154 = true then (if t155 = true then (some 0) else (some (-1))) else (if t155 = true then (some 1) else (if a0 < a1 then (some (-1)) else (if a0 > a1 then (some 1) else (some 0))))))
set_option maxHeartbeats 8000000 in
set_option maxRecDepth 100000 in
theorem cmp_Compare_uint64.calls (a0 : Int) (a1 : Int) (r : Int) (w : World) (h : cmp_Compare_uint64.f a0 a1 = some r) :
    Calls Try.prog 118 #[.int .u64 a0, .int .u64 a1] w fun e w' => e = .returned (.int .i64 r) ∧ Drawn0 w w' := by
  have H : ((cmp_isNaN_uint64.f a0).bind fun t154 => ((cmp_isNaN_uint64.f a1).bind fun t155 => (if t154 = true then (if t155 = true then (some 0) else (some (-1))) else (if t155 = true then (some 1) else (if a0 < a1 then (some (-1)) else (if a0 > a1 then (some 1) else (some 0))))))) = some r := h
  clear h
  replace H := Option.bind_eq_some_iff.mp H
  obtain ⟨t154, A30, H⟩ := H
  replace H : ((cmp_isNaN_uint64.f a1).bind fun t155 => (if t154 = true then (if t155 = true then (some 0) else (some (-1))) else (if t155 = true then (some 1) else (if a0 < a1 then (some (-1)) else (if a0 > a1 then (some 1) else (some 0)))))) = some r := H
  have A3 := Aside0.mk A30
  clear A30
  replace H := Option.bind_eq_some_iff.mp H
  obtain ⟨t155, A40, H⟩ := H
  replace H : (if t154 = true then (if t155 = true then (some 0) else (some (-1))) else (if t155 = true then (some 1) else (if a0 < a1 then (some (-1)) else (if a0 > a1 then (some 1) else (some 0))))) = some r := H
  have A4 := Aside0.mk A40
  clear A40
  by_cases c5 : t154 = true
  · subst c5
    have H1 : (if t155 = true then (some 0) else (some (-1))) = some r := by rw [if_pos rfl] at H; exact H
    clear H
    have H := H1
    clear H1
    by_cases c6 : t155 = true
    · subst c6
      have H1 : (some 0) = some r := by rw [if_pos rfl] at H; exact H
      clear H
      have H := H1
      clear H1
      obtain rfl := Option.some.inj H
      go_enter Try.func118, Try.ntmps118
      go_wp2_with (first | ((with_reducible refine zzq (f := 121) rfl ?_); refine goesL_ (some 8) rfl rfl Try.func121 (by kernel_rfl) rfl #[.int .u64 a0] rfl (by (try simp only [List.map_toArray, List.map_cons, List.map_nil]); first | done | rfl | (simp only [List.length_drop, List.length_take]; rfl)) ?_; (with_reducible refine (cmp_isNaN_uint64.calls a0 true _ A3.out).mono ?_); rintro e w' ⟨rfl, ⟨nd, rfl⟩⟩; refine ⟨_, rfl, ?_⟩) | ((with_reducible refine zzq (f := 121) rfl ?_); refine goesL_ (some 10) rfl rfl Try.func121 (by kernel_rfl) rfl #[.int .u64 a1] rfl (by (try simp only [List.map_toArray, List.map_cons, List.map_nil]); first | done | rfl | (simp only [List.length_drop, List.length_take]; rfl)) ?_; (with_reducible refine (cmp_isNaN_uint64.calls a1 true _ A4.out).mono ?_); rintro e w' ⟨rfl, ⟨nd, rfl⟩⟩; refine ⟨_, rfl, ?_⟩))
      go_ret
      exact ⟨by first | rfl | (simp; done) | (simp [*]; done), by repeat (first | exact Drawn0.refl _ | apply Drawn0.step)⟩
    · replace c6 := Bool.eq_false_iff.mpr c6
      subst c6
      have H1 : (some (-1)) = some r := by rw [if_neg (show ¬ (false = true) by decide)] at H; exact H
      clear H
      have H := H1
      clear H1
      obtain rfl := Option.some.inj H
      go_enter Try.func118, Try.ntmps118
      go_wp2_with (first | ((with_reducible refine zzq (f := 121) rfl ?_); refine goesL_ (some 8) rfl rfl Try.func121 (by kernel_rfl) rfl #[.int .u64 a0] rfl (by (try simp only [List.map_toArray, List.map_cons, List.map_nil]); first | done | rfl | (simp only [List.length_drop, List.length_take]; rfl)) ?_; (with_reducible refine (cmp_isNaN_uint64.calls a0 true _ A3.out).mono ?_); rintro e w' ⟨rfl, ⟨nd, rfl⟩⟩; refine ⟨_, rfl, ?_⟩) | ((with_reducible refine zzq (f := 121) rfl ?_); refine goesL_ (some 10) rfl rfl Try.func121 (by kernel_rfl) rfl #[.int .u64 a1] rfl (by (try simp only [List.map_toArray, List.map_cons, List.map_nil]); first | done | rfl | (simp only [List.length_drop, List.length_take]; rfl)) ?_; (with_reducible refine (cmp_isNaN_uint64.calls a1 false _ A4.out).mono ?_); rintro e w' ⟨rfl, ⟨nd, rfl⟩⟩; refine ⟨_, rfl, ?_⟩))
      go_ret
      exact ⟨by first | rfl | (simp; done) | (simp [*]; done), by repeat (first | exact Drawn0.refl _ | apply Drawn0.step)⟩
  · replace c5 := Bool.eq_false_iff.mpr c5
    subst c5
    have H1 : (if t155 = true then (some 1) else (if a0 < a1 then (some (-1)) else (if a0 > a1 then (some 1) else (some 0)))) = some r := by rw [if_neg (show ¬ (false = true) by decide)] at H; exact H
    clear H
    have H := H1
    clear H1
    by_cases c7 : t155 = true
    · subst c7
      have H1 : (some 1) = some r := by rw [if_pos rfl] at H; exact H
      clear H
      have H := H1
      clear H1
      obtain rfl := Option.some.inj H
      go_enter Try.func118, Try.ntmps118
      go_wp2_with (first | ((with_reducible refine zzq (f := 121) rfl ?_); refine goesL_ (some 8) rfl rfl Try.func121 (by kernel_rfl) rfl #[.int .u64 a0] rfl (by (try simp only [List.map_toArray, List.map_cons, List.map_nil]); first | done | rfl | (simp only [List.length_drop, List.length_take]; rfl)) ?_; (with_reducible refine (cmp_isNaN_uint64.calls a0 false _ A3.out).mono ?_); rintro e w' ⟨rfl, ⟨nd, rfl⟩⟩; refine ⟨_, rfl, ?_⟩) | ((with_reducible refine zzq (f := 121) rfl ?_); refine goesL_ (some 10) rfl rfl Try.func121 (by kernel_rfl) rfl #[.int .u64 a1] rfl (by (try simp only [List.map_toArray, List.map_cons, List.map_nil]); first | done | rfl | (simp only [List.length_drop, List.length_take]; rfl)) ?_; (with_reducible refine (cmp_isNaN_uint64.calls a1 true _ A4.out).mono ?_); rintro e w' ⟨rfl, ⟨nd, rfl⟩⟩; refine ⟨_, rfl, ?_⟩))
      go_ret
      exact ⟨by first | rfl | (simp; done) | (simp [*]; done), by repeat (first | exact Drawn0.refl _ | apply Drawn0.step)⟩
    · replace c7 := Bool.eq_false_iff.mpr c7
      subst c7
      have H1 : (if a0 < a1 then (some (-1)) else (if a0 > a1 then (some 1) else (some 0))) = some r := by rw [if_neg (show ¬ (false = true) by decide)] at H; exact H
      clear H
      have H := H1
      clear H1
      by_cases c8 : a0 < a1
      · rw [if_pos c8] at H
        have c8b0 : decide (a0 < a1) = true := decide_eq_true c8
        clear c8
        obtain rfl := Option.some.inj H
        go_enter Try.func118, Try.ntmps118
        go_wp2_with (first | ((with_reducible refine zzq (f := 121) rfl ?_); refine goesL_ (some 8) rfl rfl Try.func121 (by kernel_rfl) rfl #[.int .u64 a0] rfl (by (try simp only [List.map_toArray, List.map_cons, List.map_nil]); first | done | rfl | (simp only [List.length_drop, List.length_take]; rfl)) ?_; (with_reducible refine (cmp_isNaN_uint64.calls a0 false _ A3.out).mono ?_); rintro e w' ⟨rfl, ⟨nd, rfl⟩⟩; refine ⟨_, rfl, ?_⟩) | ((with_reducible refine zzq (f := 121) rfl ?_); refine goesL_ (some 10) rfl rfl Try.func121 (by kernel_rfl) rfl #[.int .u64 a1] rfl (by (try simp only [List.map_toArray, List.map_cons, List.map_nil]); first | done | rfl | (simp only [List.length_drop, List.length_take]; rfl)) ?_; (with_reducible refine (cmp_isNaN_uint64.calls a1 false _ A4.out).mono ?_); rintro e w' ⟨rfl, ⟨nd, rfl⟩⟩; refine ⟨_, rfl, ?_⟩))
        go_ret
        exact ⟨by first | rfl | (simp; done) | (simp [*]; done), by repeat (first | exact Drawn0.refl _ | apply Drawn0.step)⟩
      · rw [if_neg c8] at H
        have c8b0 : decide (a0 < a1) = false := decide_eq_false c8
        clear c8
        by_cases c9 : a0 > a1
        · rw [if_pos c9] at H
          have c9b0 : decide (a1 < a0) = true := decide_eq_true c9
          clear c9
          obtain rfl := Option.some.inj H
          go_enter Try.func118, Try.ntmps118
          go_wp2_with (first | ((with_reducible refine zzq (f := 121) rfl ?_); refine goesL_ (some 8) rfl rfl Try.func121 (by kernel_rfl) rfl #[.int .u64 a0] rfl (by (try simp only [List.map_toArray, List.map_cons, List.map_nil]); first | done | rfl | (simp only [List.length_drop, List.length_take]; rfl)) ?_; (with_reducible refine (cmp_isNaN_uint64.calls a0 false _ A3.out).mono ?_); rintro e w' ⟨rfl, ⟨nd, rfl⟩⟩; refine ⟨_, rfl, ?_⟩) | ((with_reducible refine zzq (f := 121) rfl ?_); refine goesL_ (some 10) rfl rfl Try.func121 (by kernel_rfl) rfl #[.int .u64 a1] rfl (by (try simp only [List.map_toArray, List.map_cons, List.map_nil]); first | done | rfl | (simp only [List.length_drop, List.length_take]; rfl)) ?_; (with_reducible refine (cmp_isNaN_uint64.calls a1 false _ A4.out).mono ?_); rintro e w' ⟨rfl, ⟨nd, rfl⟩⟩; refine ⟨_, rfl, ?_⟩))
          go_ret
          exact ⟨by first | rfl | (simp; done) | (simp [*]; done), by repeat (first | exact Drawn0.refl _ | apply Drawn0.step)⟩
        · rw [if_neg c9] at H
          have c9b0 : decide (a1 < a0) = false := decide_eq_false c9
          clear c9
          obtain rfl := Option.some.inj H
          go_enter Try.func118, Try.ntmps118
          go_wp2_with (first | ((with_reducible refine zzq (f := 121) rfl ?_); refine goesL_ (some 8) rfl rfl Try.func121 (by kernel_rfl) rfl #[.int .u64 a0] rfl (by (try simp only [List.map_toArray, List.map_cons, List.map_nil]); first | done | rfl | (simp only [List.length_drop, List.length_take]; rfl)) ?_; (with_reducible refine (cmp_isNaN_uint64.calls a0 false _ A3.out).mono ?_); rintro e w' ⟨rfl, ⟨nd, rfl⟩⟩; refine ⟨_, rfl, ?_⟩) | ((with_reducible refine zzq (f := 121) rfl ?_); refine goesL_ (some 10) rfl rfl Try.func121 (by kernel_rfl) rfl #[.int .u64 a1] rfl (by (try simp only [List.map_toArray, List.map_cons, List.map_nil]); first | done | rfl | (simp only [List.length_drop, List.length_take]; rfl)) ?_; (with_reducible refine (cmp_isNaN_uint64.calls a1 false _ A4.out).mono ?_); rintro e w' ⟨rfl, ⟨nd, rfl⟩⟩; refine ⟨_, rfl, ?_⟩))
          go_ret
          exact ⟨by first | rfl | (simp; done) | (simp [*]; done), by repeat (first | exact Drawn0.refl _ | apply Drawn0.step)⟩
def fixed_words_compare.f (k : Nat) (a0_0 : Int) (a0_1 : Int) (a1_0 : Int) (a1_1 : Int) : Option (Int) := (cmp_Compare_uint64.f a0_1 a1_1).bind fun t158 => ((cmp_Compare_uint64.f a0_0 a1_0).bind fun t159 => ((cmp_Or_int.f k (([t158, t159] : List Int))).bind fun t163 => (some t163)))
def fixed_words_compare.T1 : Bool × List (List Nat × List Nat) := (true, [([], []), ([0], [0]), ([], []), ([2], [2]), ([1, 3], [1, 3]), ([], []), ([5], [5]), ([], []), ([7], [7]), ([6, 8, 4], [6, 8]), ([4, 9], [4, 9]), ([10, 9], [10]), ([11, 11, 0, 1, 2, 3, 4, 5, 6, 7, 8, 9, 10, 11], [11])])
def fixed_words_compare.B1 : List Nat := [0, 1, 0, 4, 15, 0, 32, 0, 128, 511, 1023, 2047, 4095]
theorem fixed_words_compare.tab1 : rtab .any (opsOf Try.f109 1) = fixed_words_compare.T1 := by kernel_rfl
theorem fixed_words_compare.bits1 : waitsOk fixed_words_compare.T1.2 fixed_words_compare.B1 = true := by kernel_rfl
set_option maxHeartbeats 8000000 in
set_option maxRecDepth 100000 in
theorem fixed_words_compare.calls (k : Nat) (a0_0 : Int) (a0_1 : Int) (a1_0 : Int) (a1_1 : Int) (r : Int) (w : World) (h : fixed_words_compare.f k a0_0 a0_1 a1_0 a1_1 = some r) :
    Calls Try.prog 109 #[.agg #[.int .u64 a0_0, .int .u64 a0_1], .agg #[.int .u64 a1_0, .int .u64 a1_1]] w fun e w' => e = .returned (.int .i64 r) ∧ Below w.heap.size w w' := by
  have hu58 := Try.underlying58
  have HB := Aside0.mk (Below.refl w.heap.size w)
  have H : ((cmp_Compare_uint64.f a0_1 a1_1).bind fun t158 => ((cmp_Compare_uint64.f a0_0 a1_0).bind fun t159 => ((cmp_Or_int.f k (([t158, t159] : List Int))).bind fun t163 => (some t163)))) = some r := h
  clear h
  replace H := Option.bind_eq_some_iff.mp H
  obtain ⟨t158, A30, H⟩ := H
  replace H : ((cmp_Compare_uint64.f a0_0 a1_0).bind fun t159 => ((cmp_Or_int.f k (([t158, t159] : List Int))).bind fun t163 => (some t163))) = some r := H
  have A3 := Aside0.mk A30
  clear A30
  replace H := Option.bind_eq_some_iff.mp H
  obtain ⟨t159, A40, H⟩ := H
  replace H : ((cmp_Or_int.f k (([t158, t159] : List Int))).bind fun t163 => (some t163)) = some r := H
  have A4 := Aside0.mk A40
  clear A40
  obtain ⟨y160, hy160⟩ : ∃ y_ : List Int, y_ = (([t158, t159] : List Int)) := ⟨_, rfl⟩
  replace H : ((cmp_Or_int.f k y160).bind fun t163 => (some t163)) = some r := by first | (rw [hy160]; with_reducible exact H) | (have H2_ := (Option.bind_some _ _).symm.trans H; rw [hy160]; with_reducible exact H2_) | (have H2_ := (Option.bind_some _ _).symm.trans H; with_reducible exact H2_) | with_reducible exact H | (rw [hy160]; exact H) | exact H
  have Ny160 := Aside0.mk hy160
  clear hy160
  replace H := Option.bind_eq_some_iff.mp H
  obtain ⟨t163, A50, H⟩ := H
  replace H : (some t163) = some r := H
  have A5 := Aside0.mk A50
  clear A50
  obtain rfl := Option.some.inj H
  go_enter Try.func109, Try.ntmps109
  try go_wp2_with (first | ((with_reducible refine zzt (N := 2) rfl ?_); refine zzp ?hg (N := 2) ?hd (cs := #[.int .u64 a0_0, .int .u64 a0_1]) (t := 58) ?hr ?_; (case hd => rfl); (case hg => rfl); (case hr => first | (go_simp; done) | (go_simp; rfl)); intro gb156 hg w6 hbox hb; have n0_ := Aside0.mk (zzl (by repeat (first | (with_reducible first | exact HB.out | apply zzf | apply zza | apply zzg) | exact HB.out)) hb); have n1_ := Aside0.mk (hbox); have n3_ := Aside0.mk ((by rw [hg]; exact (zzk (by repeat (first | (with_reducible first | exact HB.out | apply zzf | apply zza | apply zzg) | exact HB.out))) : w.heap.size ≤ gb156)); clear HB; have HB := n0_; have BK156 := n1_; have GE156 := n3_; clear n0_ n1_ n3_; clear hb hbox hg) | ((with_reducible refine zzt (N := 3) rfl ?_); refine zzp ?hg (N := 3) ?hd (cs := #[.int .u64 a1_0, .int .u64 a1_1]) (t := 58) ?hr ?_; (case hd => rfl); (case hg => rfl); (case hr => first | (go_simp; done) | (go_simp; rfl)); intro gb157 hg w7 hbox hb; have n0_ := Aside0.mk (zzj (g := gb156) (o := .cells #[.int .u64 a0_0, .int .u64 a0_1] 58 (0, 0)) (by (with_reducible repeat first | apply zzc | apply zzd | apply zzb); exact BK156.out) hb); have n1_ := Aside0.mk (zzl (by repeat (first | (with_reducible first | exact HB.out | apply zzf | apply zza | apply zzg | refine zze ?_ GE156.out) | exact HB.out)) hb); have n2_ := Aside0.mk (hbox); have n4_ := Aside0.mk ((by rw [hg]; exact (zzk (by repeat (first | (with_reducible first | exact HB.out | apply zzf | apply zza | apply zzg | refine zze ?_ GE156.out) | exact HB.out))) : w.heap.size ≤ gb157)); clear BK156; clear HB; have BK156 := n0_; have HB := n1_; have BK157 := n2_; have GE157 := n4_; clear n0_ n1_ n2_ n4_; clear hb hbox hg))
  have n0_ := Aside0.mk (zzd BK156.out)
  have n1_ := Aside0.mk (zzd BK157.out)
  have n2_ := Aside0.mk (zzg HB.out)
  clear BK156
  clear BK157
  clear HB
  have BK156 := n0_
  have BK157 := n1_
  have HB := n2_
  clear n0_ n1_ n2_
  refine start_ (n := 13) (S := fun w' => w'.cell? ⟨gb156, 0, none⟩ = some (.int .u64 a0_0) ∧ w'.cell? ⟨gb156, 1, none⟩ = some (.int .u64 a0_1) ∧ w'.cell? ⟨gb157, 0, none⟩ = some (.int .u64 a1_0) ∧ w'.cell? ⟨gb157, 1, none⟩ = some (.int .u64 a1_1)) (ds := []) #[false, false, false, false, false, false, false, false, false, false, false, false, false] (by kernel_rfl) rfl rfl ⟨(zzi BK156.out 0).trans rfl, (zzi BK156.out 1).trans rfl, (zzi BK157.out 0).trans rfl, (zzi BK157.out 1).trans rfl⟩ (fun hHeld => ?_); refine with_tabW fixed_words_compare.tab1 fixed_words_compare.bits1 (fun HT_ HW_ => ?_)
  generalize w7.drew = w8 at BK156 BK157 HB hHeld ⊢
  refine pure_ (i := 0) (N := some 5) (v := ?_) (a' := ?_) #[true, false, false, false, false, false, false, false, false, false, false, false, false] rfl rfl (any_of HT_.out (by kernel_rfl)) (fun _ _ _ h => h) (Or.inl ⟨by rfl, ?_⟩) ?_ ?_
  rotate_left
  · intro w'
    go_simp
    with_reducible rfl
  rotate_left
  · simp only [Act.put, List.setIfInBounds_toArray, List.set_cons_zero, List.set_cons_succ, i64_w, i32_w]
    rfl
  refine pure_ (i := 2) (N := some 7) (v := ?_) (a' := ?_) #[true, false, true, false, false, false, false, false, false, false, false, false, false] rfl rfl (any_of HT_.out (by kernel_rfl)) (fun _ _ _ h => h) (Or.inl ⟨by rfl, ?_⟩) ?_ ?_
  rotate_left
  · intro w'
    go_simp
    with_reducible rfl
  rotate_left
  · simp only [Act.put, List.setIfInBounds_toArray, List.set_cons_zero, List.set_cons_succ, i64_w, i32_w]
    rfl
  refine pure_ (i := 5) (N := some 10) (v := ?_) (a' := ?_) #[true, false, true, false, false, true, false, false, false, false, false, false, false] rfl rfl (any_of HT_.out (by kernel_rfl)) (fun _ _ _ h => h) (Or.inl ⟨by rfl, ?_⟩) ?_ ?_
  rotate_left
  · intro w'
    go_simp
    with_reducible rfl
  rotate_left
  · simp only [Act.put, List.setIfInBounds_toArray, List.set_cons_zero, List.set_cons_succ, i64_w, i32_w]
    rfl
  refine pure_ (i := 7) (N := some 12) (v := ?_) (a' := ?_) #[true, false, true, false, false, true, false, true, false, false, false, false, false] rfl rfl (any_of HT_.out (by kernel_rfl)) (fun _ _ _ h => h) (Or.inl ⟨by rfl, ?_⟩) ?_ ?_
  rotate_left
  · intro w'
    go_simp
    with_reducible rfl
  rotate_left
  · simp only [Act.put, List.setIfInBounds_toArray, List.set_cons_zero, List.set_cons_succ, i64_w, i32_w]
    rfl
  refine take_ (i := 1) (N := some 6) (v := ?_) (a' := ?_) #[true, true, true, false, false, true, false, true, false, false, false, false, false] rfl rfl (take_ofW HT_.out HW_.out (by kernel_rfl)) (fun _ _ _ h => h) (Or.inl ⟨by rfl, ?_⟩) hHeld ?_ ?_
  rotate_left
  · rintro w' ⟨s0, s1, s2, s3⟩
    go_simp
    with_reducible rfl
  rotate_left
  · simp only [Act.put, List.setIfInBounds_toArray, List.set_cons_zero, List.set_cons_succ, i64_w, i32_w]
    rfl
  refine take_ (i := 3) (N := some 8) (v := ?_) (a' := ?_) #[true, true, true, true, false, true, false, true, false, false, false, false, false] rfl rfl (take_ofW HT_.out HW_.out (by kernel_rfl)) (fun _ _ _ h => h) (Or.inl ⟨by rfl, ?_⟩) hHeld ?_ ?_
  rotate_left
  · rintro w' ⟨s0, s1, s2, s3⟩
    go_simp
    with_reducible rfl
  rotate_left
  · simp only [Act.put, List.setIfInBounds_toArray, List.set_cons_zero, List.set_cons_succ, i64_w, i32_w]
    rfl
  refine take_ (i := 6) (N := some 11) (v := ?_) (a' := ?_) #[true, true, true, true, false, true, true, true, false, false, false, false, false] rfl rfl (take_ofW HT_.out HW_.out (by kernel_rfl)) (fun _ _ _ h => h) (Or.inl ⟨by rfl, ?_⟩) hHeld ?_ ?_
  rotate_left
  · rintro w' ⟨s0, s1, s2, s3⟩
    go_simp
    with_reducible rfl
  rotate_left
  · simp only [Act.put, List.setIfInBounds_toArray, List.set_cons_zero, List.set_cons_succ, i64_w, i32_w]
    rfl
  refine take_ (i := 8) (N := some 13) (v := ?_) (a' := ?_) #[true, true, true, true, false, true, true, true, true, false, false, false, false] rfl rfl (take_ofW HT_.out HW_.out (by kernel_rfl)) (fun _ _ _ h => h) (Or.inl ⟨by rfl, ?_⟩) hHeld ?_ ?_
  rotate_left
  · rintro w' ⟨s0, s1, s2, s3⟩
    go_simp
    with_reducible rfl
  rotate_left
  · simp only [Act.put, List.setIfInBounds_toArray, List.set_cons_zero, List.set_cons_succ, i64_w, i32_w]
    rfl
  refine one_ (i := 4) (N := some 9) #[true, true, true, true, true, true, true, true, true, false, false, false, false] rfl rfl (one_of HT_.out (by kernel_rfl)) (by decide) (fun K hK => ?_)
  refine goes_ Try.func118 (by kernel_rfl) rfl #[.int .u64 a0_1, .int .u64 a1_1] (by rfl) rfl rfl (by (try simp only [List.map_toArray, List.map_cons, List.map_nil]); first | done | rfl | (simp only [List.length_drop, List.length_take]; rfl)) ?_
  with_reducible refine (cmp_Compare_uint64.calls a0_1 a1_1 t158 _ A3.out).mono ?_
  rintro e w' ⟨rfl, ⟨nd, rfl⟩⟩
  refine ⟨_, rfl, ?_⟩
  refine hK.out _ _ ⟨(zzi BK156.out 0).trans rfl, (zzi BK156.out 1).trans rfl, (zzi BK157.out 0).trans rfl, (zzi BK157.out 1).trans rfl⟩ (fun hHeld => ?_)
  clear hK K
  refine norm_ (a' := ?_) ?_ ?_
  rotate_left
  · show Act.put _ (some 9) _ = _
    simp only [Act.put, List.setIfInBounds_toArray, List.set_cons_zero, List.set_cons_succ, i64_w, i32_w]
    rfl
  refine one_ (i := 9) (N := some 14) #[true, true, true, true, true, true, true, true, true, true, false, false, false] rfl rfl (one_of HT_.out (by kernel_rfl)) (by decide) (fun K hK => ?_)
  refine goes_ Try.func118 (by kernel_rfl) rfl #[.int .u64 a0_0, .int .u64 a1_0] (by rfl) rfl rfl (by (try simp only [List.map_toArray, List.map_cons, List.map_nil]); first | done | rfl | (simp only [List.length_drop, List.length_take]; rfl)) ?_
  with_reducible refine (cmp_Compare_uint64.calls a0_0 a1_0 t159 _ A4.out).mono ?_
  rintro e w' ⟨rfl, ⟨nd, rfl⟩⟩
  refine ⟨_, rfl, ?_⟩
  refine hK.out _ _ ⟨(zzi BK156.out 0).trans rfl, (zzi BK156.out 1).trans rfl, (zzi BK157.out 0).trans rfl, (zzi BK157.out 1).trans rfl⟩ (fun hHeld => ?_)
  clear hK K
  refine norm_ (a' := ?_) ?_ ?_
  rotate_left
  · show Act.put _ (some 14) _ = _
    simp only [Act.put, List.setIfInBounds_toArray, List.set_cons_zero, List.set_cons_succ, i64_w, i32_w]
    rfl
  refine one_ (i := 10) (N := some 15) #[true, true, true, true, true, true, true, true, true, true, true, false, false] rfl rfl (one_of HT_.out (by kernel_rfl)) (by decide) (fun K hK => ?_)
  refine Kd.R_lit_step (Kd.int .i64) _ 3 ?hg (N := 15) ?hd (xs := ([t158, t159] : List Int)) (inner := [.int .i64 t158, .int .i64 t159]) (ok := fun _ => True) (okp := fun _ => True) ?hr ?hp (fun _ hk => hk) trivial (Below.refl _ _) (Nat.le_refl _) (by simp) ?_; (case hd => rfl); (case hg => rfl); (case hr => first | (go_simp; done) | (go_simp; rfl)); (case hp => exact (Reps.one (show Kd.M (Kd.int .i64) _ _ _ t158 [.int .i64 t158] from rfl) (Reps.one (show Kd.M (Kd.int .i64) _ _ _ t159 [.int .i64 t159] from rfl) (Reps.none _ _))))
  intro v161 w9 ho10 hb hg_ hnew_
  clear hg_ hnew_
  (first | rw [← Ny160.out] at ho10 | (simp only [Int.reduceToNat] at ho10; rw [← Ny160.out] at ho10))
  have n0_ := Aside0.mk (Kd.R_lower ho10 (zzk (by repeat (first | (with_reducible first | exact HB.out | apply zzf | apply zza | apply zzg | refine zze ?_ GE156.out | refine zze ?_ GE157.out) | exact HB.out))))
  have n1_ := Aside0.mk (zzj (g := gb156) (o := .cells #[.int .u64 a0_0, .int .u64 a0_1] 58 (0, 0)) (by (with_reducible repeat first | apply zzc | apply zzd | apply zzb); exact BK156.out) hb)
  have n2_ := Aside0.mk (zzj (g := gb157) (o := .cells #[.int .u64 a1_0, .int .u64 a1_1] 58 (0, 0)) (by (with_reducible repeat first | apply zzc | apply zzd | apply zzb); exact BK157.out) hb)
  have n3_ := Aside0.mk (zzl (by repeat (first | (with_reducible first | exact HB.out | apply zzf | apply zza | apply zzg | refine zze ?_ GE156.out | refine zze ?_ GE157.out) | exact HB.out)) hb)
  clear BK156
  clear BK157
  clear HB
  have HO162 := n0_
  have BK156 := n1_
  have BK157 := n2_
  have HB := n3_
  clear n0_ n1_ n2_ n3_
  clear hb ho10
  obtain ⟨Ao11, co11, eo11⟩ := Kd.R_slice HO162.out
  (first | subst eo11 | (injection eo11 with f1_ f2_ f3_; have f4_ := f1_.symm; have f5_ := f3_.symm; clear f1_ f2_ f3_; subst f4_; subst f5_))
  refine hK.out _ _ ⟨(zzi BK156.out 0).trans rfl, (zzi BK156.out 1).trans rfl, (zzi BK157.out 0).trans rfl, (zzi BK157.out 1).trans rfl⟩ (fun hHeld => ?_)
  clear hK K
  refine norm_ (a' := ?_) ?_ ?_
  rotate_left
  · show Act.put _ (some 15) _ = _
    simp only [Act.put, List.setIfInBounds_toArray, List.set_cons_zero, List.set_cons_succ, i64_w, i32_w]
    rfl
  refine one_ (i := 11) (N := some 16) #[true, true, true, true, true, true, true, true, true, true, true, true, false] rfl rfl (one_of HT_.out (by kernel_rfl)) (by decide) (fun K hK => ?_)
  refine goes_ Try.func117 (by kernel_rfl) rfl #[.slice Ao11 y160.length co11] (by rfl) rfl rfl (by (try simp only [List.map_toArray, List.map_cons, List.map_nil]); first | done | rfl | (simp only [List.length_drop, List.length_take]; rfl)) ?_
  with_reducible refine (cmp_Or_int.calls k _ _ y160 t163 _ ?side1 ?side2 A5.out).mono ?_
  (case side1 => repeat (first | exact (Kd.R_reads' HO162.out).2.2 | (with_reducible refine Kd.C_alloc ?_ _) | (with_reducible refine Kd.C_drewN ?_ _) | (with_reducible refine Kd.C_drew ?_)))
  (case side2 => exact (Kd.R_reads' HO162.out).2.1)
  rintro e w' ⟨rfl, ⟨nd, rfl⟩⟩
  refine ⟨_, rfl, ?_⟩
  refine hK.out _ _ ⟨(zzi BK156.out 0).trans rfl, (zzi BK156.out 1).trans rfl, (zzi BK157.out 0).trans rfl, (zzi BK157.out 1).trans rfl⟩ (fun hHeld => ?_)
  clear hK K
  refine norm_ (a' := ?_) ?_ ?_
  rotate_left
  · show Act.put _ (some 16) _ = _
    simp only [Act.put, List.setIfInBounds_toArray, List.set_cons_zero, List.set_cons_succ, i64_w, i32_w]
    rfl
  refine pure_ (i := 12) (N := some 4) (v := ?_) (a' := ?_) #[true, true, true, true, true, true, true, true, true, true, true, true, true] rfl rfl (any_of HT_.out (by kernel_rfl)) (fun _ _ _ h => h) (Or.inl ⟨by rfl, ?_⟩) ?_ ?_
  rotate_left
  · intro w'
    go_simp
    with_reducible rfl
  rotate_left
  · simp only [Act.put, List.setIfInBounds_toArray, List.set_cons_zero, List.set_cons_succ, i64_w, i32_w]
    rfl
  refine done_ (done_of HT_.out (by kernel_rfl)) ?_
  try go_wp2
  go_ret
  exact ⟨by first | rfl | (simp [zzn, zzm] <;> rfl) | (simp [*, zzn, zzm] <;> rfl), by repeat (first | (with_reducible first | exact HB.out | apply zzf | apply zza | apply zzg | refine zze ?_ GE156.out | refine zze ?_ GE157.out) | exact HB.out)⟩
def fixed_exact_plus.f (k : Nat) (a0_0 : Bool) (a0_1 : Int) (a0_2 : Int) (a1_0 : Bool) (a1_1 : Int) (a1_2 : Int) : Option (Bool × Int × Int) := if (a0_0 == a1_0) = true then (if add64c a0_1 a1_1 0 ≤ 1 then (some (a0_0, add64s a0_1 a1_1 0, add64s a0_2 a1_2 (add64c a0_1 a1_1 0))) else (none)) else ((fixed_words_compare.f k a0_1 a0_2 a1_1 a1_2).bind fun t167 => (if t167 < 0 then (some (a1_0, sub64s a1_1 a0_1 0, sub64s a1_2 a0_2 (sub64c a1_1 a0_1 0))) else (some (a0_0, sub64s a0_1 a1_1 0, sub64s a0_2 a1_2 (sub64c a0_1 a1_1 0)))))
set_option maxHeartbeats 8000000 in
set_option maxRecDepth 100000 in
theorem fixed_exact_plus.calls (k : Nat) (a0_0 : Bool) (a0_1 : Int) (a0_2 : Int) (a1_0 : Bool) (a1_1 : Int) (a1_2 : Int) (r1 : Bool) (r2 : Int) (r3 : Int) (w : World) (h : fixed_exact_plus.f k a0_0 a0_1 a0_2 a1_0 a1_1 a1_2 = some (r1, r2, r3)) :
    Calls Try.prog 75 #[.agg #[.bool a0_0, .int .u64 a0_1, .int .u64 a0_2], .agg #[.bool a1_0, .int .u64 a1_1, .int .u64 a1_2]] w fun e w' => e = .returned (.agg #[.bool r1, .int .u64 r2, .int .u64 r3]) ∧ Below w.heap.size w w' := by
  have hu60 := Try.underlying60
  have hu58 := Try.underlying58
  have hx1080 := @ext108_0
  have hx1081 := @ext108_1
  have hx1100 := @ext110_0
  have hx1101 := @ext110_1
  have HB := Aside0.mk (Below.refl w.heap.size w)
  have H : (if (a0_0 == a1_0) = true then (if add64c a0_1 a1_1 0 ≤ 1 then (some (a0_0, add64s a0_1 a1_1 0, add64s a0_2 a1_2 (add64c a0_1 a1_1 0))) else (none)) else ((fixed_words_compare.f k a0_1 a0_2 a1_1 a1_2).bind fun t167 => (if t167 < 0 then (some (a1_0, sub64s a1_1 a0_1 0, sub64s a1_2 a0_2 (sub64c a1_1 a0_1 0))) else (some (a0_0, sub64s a0_1 a1_1 0, sub64s a0_2 a1_2 (sub64c a0_1 a1_1 0)))))) = some (r1, r2, r3) := h
  clear h
  by_cases c3 : (a0_0 == a1_0) = true
  · rw [if_pos c3] at H
    have c3b0 : (a0_0 == a1_0) = true := c3
    (try (have c3b1 : decide (a0_0 = a1_0) = true := by simpa using c3))
    (try (have c3b2 : (a0_0 == a1_0) = true := by simpa using c3))
    clear c3
    by_cases c4 : add64c a0_1 a1_1 0 ≤ 1
    · rw [if_pos c4] at H
      have c4b0 := eq_true c4
      have c4b1 : decide (add64c a0_1 a1_1 0 ≤ 1) = true := decide_eq_true c4
      clear c4
      simp only [Option.some.injEq, Prod.mk.injEq] at H
      obtain ⟨rfl, rfl, rfl⟩ := H
      go_enter Try.func75, Try.ntmps75
      go_wp2_with (first | ((with_reducible refine zzt (N := 2) rfl ?_); refine zzp ?hg (N := 2) ?hd (cs := #[.bool a0_0, .int .u64 a0_1, .int .u64 a0_2]) (t := 60) ?hr ?_; (case hd => rfl); (case hg => rfl); (case hr => first | (go_simp; done) | (go_simp; rfl)); intro gb164 hg w5 hbox hb; have n0_ := Aside0.mk (zzl (by repeat (first | (with_reducible first | exact HB.out | apply zzf | apply zza | apply zzg) | exact HB.out)) hb); have n1_ := Aside0.mk (hbox); have n3_ := Aside0.mk ((by rw [hg]; exact (zzk (by repeat (first | (with_reducible first | exact HB.out | apply zzf | apply zza | apply zzg) | exact HB.out))) : w.heap.size ≤ gb164)); clear HB; have HB := n0_; have BK164 := n1_; have GE164 := n3_; clear n0_ n1_ n3_; clear hb hbox hg) | ((with_reducible refine zzt (N := 3) rfl ?_); refine zzp ?hg (N := 3) ?hd (cs := #[.bool a1_0, .int .u64 a1_1, .int .u64 a1_2]) (t := 60) ?hr ?_; (case hd => rfl); (case hg => rfl); (case hr => first | (go_simp; done) | (go_simp; rfl)); intro gb165 hg w6 hbox hb; have n0_ := Aside0.mk (zzj (g := gb164) (o := .cells #[.bool a0_0, .int .u64 a0_1, .int .u64 a0_2] 60 (0, 0)) (by (with_reducible repeat first | apply zzc | apply zzd | apply zzb); exact BK164.out) hb); have n1_ := Aside0.mk (zzl (by repeat (first | (with_reducible first | exact HB.out | apply zzf | apply zza | apply zzg | refine zze ?_ GE164.out) | exact HB.out)) hb); have n2_ := Aside0.mk (hbox); have n4_ := Aside0.mk ((by rw [hg]; exact (zzk (by repeat (first | (with_reducible first | exact HB.out | apply zzf | apply zza | apply zzg | refine zze ?_ GE164.out) | exact HB.out))) : w.heap.size ≤ gb165)); have n5_ := Aside0.mk ((by rw [hg]; exact Nat.ne_of_lt (zzr (g := gb164) (o := .cells #[.bool a0_0, .int .u64 a0_1, .int .u64 a0_2] 60 (0, 0)) (by (with_reducible repeat first | apply zzc | apply zzd | apply zzb); exact BK164.out)) : gb164 ≠ gb165)); have n6_ := Aside0.mk ((by rw [hg]; exact Nat.ne_of_gt (zzr (g := gb164) (o := .cells #[.bool a0_0, .int .u64 a0_1, .int .u64 a0_2] 60 (0, 0)) (by (with_reducible repeat first | apply zzc | apply zzd | apply zzb); exact BK164.out)) : gb165 ≠ gb164)); clear BK164; clear HB; have BK164 := n0_; have HB := n1_; have BK165 := n2_; have GE165 := n4_; have NB164_165 := n5_; have NB165_164 := n6_; clear n0_ n1_ n2_ n4_ n5_ n6_; clear hb hbox hg) | ((with_reducible refine zzt (N := 4) rfl ?_); refine zzp ?hg (N := 4) ?hd (cs := #[.bool false, .int .u64 0, .int .u64 0]) (t := 60) ?hr ?_; (case hd => rfl); (case hg => rfl); (case hr => first | (go_simp; done) | (go_simp; rfl)); intro gb166 hg w7 hbox hb; have n0_ := Aside0.mk (zzj (g := gb164) (o := .cells #[.bool a0_0, .int .u64 a0_1, .int .u64 a0_2] 60 (0, 0)) (by (with_reducible repeat first | apply zzc | apply zzd | apply zzb); exact BK164.out) hb); have n1_ := Aside0.mk (zzj (g := gb165) (o := .cells #[.bool a1_0, .int .u64 a1_1, .int .u64 a1_2] 60 (0, 0)) (by (with_reducible repeat first | apply zzc | apply zzd | apply zzb); exact BK165.out) hb); have n2_ := Aside0.mk (zzl (by repeat (first | (with_reducible first | exact HB.out | apply zzf | apply zza | apply zzg | refine zze ?_ GE164.out | refine zze ?_ GE165.out) | exact HB.out)) hb); have n3_ := Aside0.mk (hbox); have n5_ := Aside0.mk ((by rw [hg]; exact (zzk (by repeat (first | (with_reducible first | exact HB.out | apply zzf | apply zza | apply zzg | refine zze ?_ GE164.out | refine zze ?_ GE165.out) | exact HB.out))) : w.heap.size ≤ gb166)); have n6_ := Aside0.mk ((by rw [hg]; exact Nat.ne_of_lt (zzr (g := gb164) (o := .cells #[.bool a0_0, .int .u64 a0_1, .int .u64 a0_2] 60 (0, 0)) (by (with_reducible repeat first | apply zzc | apply zzd | apply zzb); exact BK164.out)) : gb164 ≠ gb166)); have n7_ := Aside0.mk ((by rw [hg]; exact Nat.ne_of_gt (zzr (g := gb164) (o := .cells #[.bool a0_0, .int .u64 a0_1, .int .u64 a0_2] 60 (0, 0)) (by (with_reducible repeat first | apply zzc | apply zzd | apply zzb); exact BK164.out)) : gb166 ≠ gb164)); have n8_ := Aside0.mk ((by rw [hg]; exact Nat.ne_of_lt (zzr (g := gb165) (o := .cells #[.bool a1_0, .int .u64 a1_1, .int .u64 a1_2] 60 (0, 0)) (by (with_reducible repeat first | apply zzc | apply zzd | apply zzb); exact BK165.out)) : gb165 ≠ gb166)); have n9_ := Aside0.mk ((by rw [hg]; exact Nat.ne_of_gt (zzr (g := gb165) (o := .cells #[.bool a1_0, .int .u64 a1_1, .int .u64 a1_2] 60 (0, 0)) (by (with_reducible repeat first | apply zzc | apply zzd | apply zzb); exact BK165.out)) : gb166 ≠ gb165)); clear BK164; clear BK165; clear HB; have BK164 := n0_; have BK165 := n1_; have HB := n2_; have BK166 := n3_; have GE166 := n5_; have NB164_166 := n6_; have NB166_164 := n7_; have NB165_166 := n8_; have NB166_165 := n9_; clear n0_ n1_ n2_ n3_ n5_ n6_ n7_ n8_ n9_; clear hb hbox hg; have hnb8 := NB164_165.out; have hnc8 := NB165_164.out; have hnb9 := NB164_166.out; have hnc9 := NB166_164.out; have hcz10_0 : w7.cell? ⟨gb164, 0, none⟩ = some (.bool a0_0) := (zzi BK164.out 0).trans rfl; have hcz10_1 : w7.cell? ⟨gb164, 1, none⟩ = some (.int .u64 a0_1) := (zzi BK164.out 1).trans rfl; have hcz10_2 : w7.cell? ⟨gb164, 2, none⟩ = some (.int .u64 a0_2) := (zzi BK164.out 2).trans rfl; have hfz10_0 := zzh BK164.out 0; have hfz10_1 := zzh BK164.out 1; have hfz10_2 := zzh BK164.out 2; have hnb11 := NB165_166.out; have hnc11 := NB166_165.out; have hcz12_0 : w7.cell? ⟨gb165, 0, none⟩ = some (.bool a1_0) := (zzi BK165.out 0).trans rfl; have hcz12_1 : w7.cell? ⟨gb165, 1, none⟩ = some (.int .u64 a1_1) := (zzi BK165.out 1).trans rfl; have hcz12_2 : w7.cell? ⟨gb165, 2, none⟩ = some (.int .u64 a1_2) := (zzi BK165.out 2).trans rfl; have hfz12_0 := zzh BK165.out 0; have hfz12_1 := zzh BK165.out 1; have hfz12_2 := zzh BK165.out 2; have hcz13_0 : w7.cell? ⟨gb166, 0, none⟩ = some (.bool false) := (zzi BK166.out 0).trans rfl; have hcz13_1 : w7.cell? ⟨gb166, 1, none⟩ = some (.int .u64 0) := (zzi BK166.out 1).trans rfl; have hcz13_2 : w7.cell? ⟨gb166, 2, none⟩ = some (.int .u64 0) := (zzi BK166.out 2).trans rfl; have hfz13_0 := zzh BK166.out 0; have hfz13_1 := zzh BK166.out 1; have hfz13_2 := zzh BK166.out 2))
      refine bodyPost_ret (results_cell_row rfl _ _ gb166 60 #[.bool a0_0, .int .u64 (add64s a0_1 a1_1 0), .int .u64 (add64s a0_2 a1_2 (add64c a0_1 a1_1 0))] (0, 0) _ rfl (by (with_reducible repeat first | apply zzc | apply zzd | apply zzb); refine zzo (cs := #[.bool a0_0, .int .u64 (add64s a0_1 a1_1 0), .int .u64 0]) ?_ 2 _ rfl; (with_reducible repeat first | apply zzc | apply zzd | apply zzb); refine zzo (cs := #[.bool a0_0, .int .u64 0, .int .u64 0]) ?_ 1 _ rfl; (with_reducible repeat first | apply zzc | apply zzd | apply zzb); refine zzo (cs := #[.bool false, .int .u64 0, .int .u64 0]) ?_ 0 _ rfl; (with_reducible repeat first | apply zzc | apply zzd | apply zzb); exact BK166.out) Try.underlying60 rfl (by kernel_rfl)) rfl ?_
      exact ⟨by first | rfl | (simp [zzn, zzm] <;> rfl) | (simp [*, zzn, zzm] <;> rfl), by repeat (first | (with_reducible first | exact HB.out | apply zzf | apply zza | apply zzg | refine zze ?_ GE164.out | refine zze ?_ GE165.out | refine zze ?_ GE166.out) | exact HB.out)⟩
    · rw [if_neg c4] at H
      exact absurd H (by simp)
  · rw [if_neg c3] at H
    have c3b0 : (a0_0 == a1_0) = false := by simpa using c3
    (try (have c3b1 : decide (a0_0 = a1_0) = false := by simpa using c3))
    (try (have c3b2 : (a0_0 == a1_0) = false := by simpa using c3))
    (try (have c3b3 : ¬ (a0_0 = a1_0) := by simpa using c3))
    clear c3
    replace H := Option.bind_eq_some_iff.mp H
    obtain ⟨t167, A140, H⟩ := H
    replace H : (if t167 < 0 then (some (a1_0, sub64s a1_1 a0_1 0, sub64s a1_2 a0_2 (sub64c a1_1 a0_1 0))) else (some (a0_0, sub64s a0_1 a1_1 0, sub64s a0_2 a1_2 (sub64c a0_1 a1_1 0)))) = some (r1, r2, r3) := H
    have A14 := Aside0.mk A140
    clear A140
    by_cases c15 : t167 < 0
    · rw [if_pos c15] at H
      have c15b0 : decide (t167 < 0) = true := decide_eq_true c15
      clear c15
      simp only [Option.some.injEq, Prod.mk.injEq] at H
      obtain ⟨rfl, rfl, rfl⟩ := H
      go_enter Try.func75, Try.ntmps75
      go_wp2_with (first | ((with_reducible refine zzt (N := 2) rfl ?_); refine zzp ?hg (N := 2) ?hd (cs := #[.bool a0_0, .int .u64 a0_1, .int .u64 a0_2]) (t := 60) ?hr ?_; (case hd => rfl); (case hg => rfl); (case hr => first | (go_simp; done) | (go_simp; rfl)); intro gb164 hg w16 hbox hb; have n0_ := Aside0.mk (zzl (by repeat (first | (with_reducible first | exact HB.out | apply zzf | apply zza | apply zzg) | exact HB.out)) hb); have n1_ := Aside0.mk (hbox); have n3_ := Aside0.mk ((by rw [hg]; exact (zzk (by repeat (first | (with_reducible first | exact HB.out | apply zzf | apply zza | apply zzg) | exact HB.out))) : w.heap.size ≤ gb164)); clear HB; have HB := n0_; have BK164 := n1_; have GE164 := n3_; clear n0_ n1_ n3_; clear hb hbox hg) | ((with_reducible refine zzt (N := 3) rfl ?_); refine zzp ?hg (N := 3) ?hd (cs := #[.bool a1_0, .int .u64 a1_1, .int .u64 a1_2]) (t := 60) ?hr ?_; (case hd => rfl); (case hg => rfl); (case hr => first | (go_simp; done) | (go_simp; rfl)); intro gb165 hg w17 hbox hb; have n0_ := Aside0.mk (zzj (g := gb164) (o := .cells #[.bool a0_0, .int .u64 a0_1, .int .u64 a0_2] 60 (0, 0)) (by (with_reducible repeat first | apply zzc | apply zzd | apply zzb); exact BK164.out) hb); have n1_ := Aside0.mk (zzl (by repeat (first | (with_reducible first | exact HB.out | apply zzf | apply zza | apply zzg | refine zze ?_ GE164.out) | exact HB.out)) hb); have n2_ := Aside0.mk (hbox); have n4_ := Aside0.mk ((by rw [hg]; exact (zzk (by repeat (first | (with_reducible first | exact HB.out | apply zzf | apply zza | apply zzg | refine zze ?_ GE164.out) | exact HB.out))) : w.heap.size ≤ gb165)); have n5_ := Aside0.mk ((by rw [hg]; exact Nat.ne_of_lt (zzr (g := gb164) (o := .cells #[.bool a0_0, .int .u64 a0_1, .int .u64 a0_2] 60 (0, 0)) (by (with_reducible repeat first | apply zzc | apply zzd | apply zzb); exact BK164.out)) : gb164 ≠ gb165)); have n6_ := Aside0.mk ((by rw [hg]; exact Nat.ne_of_gt (zzr (g := gb164) (o := .cells #[.bool a0_0, .int .u64 a0_1, .int .u64 a0_2] 60 (0, 0)) (by (with_reducible repeat first | apply zzc | apply zzd | apply zzb); exact BK164.out)) : gb165 ≠ gb164)); clear BK164; clear HB; have BK164 := n0_; have HB := n1_; have BK165 := n2_; have GE165 := n4_; have NB164_165 := n5_; have NB165_164 := n6_; clear n0_ n1_ n2_ n4_ n5_ n6_; clear hb hbox hg) | ((with_reducible refine zzt (N := 4) rfl ?_); refine zzp ?hg (N := 4) ?hd (cs := #[.bool false, .int .u64 0, .int .u64 0]) (t := 60) ?hr ?_; (case hd => rfl); (case hg => rfl); (case hr => first | (go_simp; done) | (go_simp; rfl)); intro gb166 hg w18 hbox hb; have n0_ := Aside0.mk (zzj (g := gb164) (o := .cells #[.bool a0_0, .int .u64 a0_1, .int .u64 a0_2] 60 (0, 0)) (by (with_reducible repeat first | apply zzc | apply zzd | apply zzb); exact BK164.out) hb); have n1_ := Aside0.mk (zzj (g := gb165) (o := .cells #[.bool a1_0, .int .u64 a1_1, .int .u64 a1_2] 60 (0, 0)) (by (with_reducible repeat first | apply zzc | apply zzd | apply zzb); exact BK165.out) hb); have n2_ := Aside0.mk (zzl (by repeat (first | (with_reducible first | exact HB.out | apply zzf | apply zza | apply zzg | refine zze ?_ GE164.out | refine zze ?_ GE165.out) | exact HB.out)) hb); have n3_ := Aside0.mk (hbox); have n5_ := Aside0.mk ((by rw [hg]; exact (zzk (by repeat (first | (with_reducible first | exact HB.out | apply zzf | apply zza | apply zzg | refine zze ?_ GE164.out | refine zze ?_ GE165.out) | exact HB.out))) : w.heap.size ≤ gb166)); have n6_ := Aside0.mk ((by rw [hg]; exact Nat.ne_of_lt (zzr (g := gb164) (o := .cells #[.bool a0_0, .int .u64 a0_1, .int .u64 a0_2] 60 (0, 0)) (by (with_reducible repeat first | apply zzc | apply zzd | apply zzb); exact BK164.out)) : gb164 ≠ gb166)); have n7_ := Aside0.mk ((by rw [hg]; exact Nat.ne_of_gt (zzr (g := gb164) (o := .cells #[.bool a0_0, .int .u64 a0_1, .int .u64 a0_2] 60 (0, 0)) (by (with_reducible repeat first | apply zzc | apply zzd | apply zzb); exact BK164.out)) : gb166 ≠ gb164)); have n8_ := Aside0.mk ((by rw [hg]; exact Nat.ne_of_lt (zzr (g := gb165) (o := .cells #[.bool a1_0, .int .u64 a1_1, .int .u64 a1_2] 60 (0, 0)) (by (with_reducible repeat first | apply zzc | apply zzd | apply zzb); exact BK165.out)) : gb165 ≠ gb166)); have n9_ := Aside0.mk ((by rw [hg]; exact Nat.ne_of_gt (zzr (g := gb165) (o := .cells #[.bool a1_0, .int .u64 a1_1, .int .u64 a1_2] 60 (0, 0)) (by (with_reducible repeat first | apply zzc | apply zzd | apply zzb); exact BK165.out)) : gb166 ≠ gb165)); clear BK164; clear BK165; clear HB; have BK164 := n0_; have BK165 := n1_; have HB := n2_; have BK166 := n3_; have GE166 := n5_; have NB164_166 := n6_; have NB166_164 := n7_; have NB165_166 := n8_; have NB166_165 := n9_; clear n0_ n1_ n2_ n3_ n5_ n6_ n7_ n8_ n9_; clear hb hbox hg; have hnb19 := NB164_165.out; have hnc19 := NB165_164.out; have hnb20 := NB164_166.out; have hnc20 := NB166_164.out; have hcz21_0 : w18.cell? ⟨gb164, 0, none⟩ = some (.bool a0_0) := (zzi BK164.out 0).trans rfl; have hcz21_1 : w18.cell? ⟨gb164, 1, none⟩ = some (.int .u64 a0_1) := (zzi BK164.out 1).trans rfl; have hcz21_2 : w18.cell? ⟨gb164, 2, none⟩ = some (.int .u64 a0_2) := (zzi BK164.out 2).trans rfl; have hfz21_0 := zzh BK164.out 0; have hfz21_1 := zzh BK164.out 1; have hfz21_2 := zzh BK164.out 2; have hnb22 := NB165_166.out; have hnc22 := NB166_165.out; have hcz23_0 : w18.cell? ⟨gb165, 0, none⟩ = some (.bool a1_0) := (zzi BK165.out 0).trans rfl; have hcz23_1 : w18.cell? ⟨gb165, 1, none⟩ = some (.int .u64 a1_1) := (zzi BK165.out 1).trans rfl; have hcz23_2 : w18.cell? ⟨gb165, 2, none⟩ = some (.int .u64 a1_2) := (zzi BK165.out 2).trans rfl; have hfz23_0 := zzh BK165.out 0; have hfz23_1 := zzh BK165.out 1; have hfz23_2 := zzh BK165.out 2) | ((with_reducible refine zzq (f := 109) rfl ?_); refine goesL_ (some 49) rfl rfl Try.func109 (by kernel_rfl) rfl #[.agg #[.int .u64 a0_1, .int .u64 a0_2], .agg #[.int .u64 a1_1, .int .u64 a1_2]] rfl (by (try simp only [List.map_toArray, List.map_cons, List.map_nil]); first | done | rfl | (simp only [List.length_drop, List.length_take]; rfl)) ?_; (with_reducible refine (fixed_words_compare.calls k a0_1 a0_2 a1_1 a1_2 t167 _ A14.out).mono ?_); rintro e w24 ⟨rfl, hb⟩; refine ⟨_, rfl, ?_⟩; have n0_ := Aside0.mk (zzj (g := gb164) (o := .cells #[.bool a0_0, .int .u64 a0_1, .int .u64 a0_2] 60 (0, 0)) (by (with_reducible repeat first | apply zzc | apply zzd | apply zzb); exact BK164.out) hb); have n1_ := Aside0.mk (zzj (g := gb165) (o := .cells #[.bool a1_0, .int .u64 a1_1, .int .u64 a1_2] 60 (0, 0)) (by (with_reducible repeat first | apply zzc | apply zzd | apply zzb); exact BK165.out) hb); have n2_ := Aside0.mk (zzj (g := gb166) (o := .cells #[.bool false, .int .u64 0, .int .u64 0] 60 (0, 0)) (by (with_reducible repeat first | apply zzc | apply zzd | apply zzb); exact BK166.out) hb); have n3_ := Aside0.mk (zzl (by repeat (first | (with_reducible first | exact HB.out | apply zzf | apply zza | apply zzg | refine zze ?_ GE164.out | refine zze ?_ GE165.out | refine zze ?_ GE166.out) | exact HB.out)) hb); clear BK164; clear BK165; clear BK166; clear HB; have BK164 := n0_; have BK165 := n1_; have BK166 := n2_; have HB := n3_; clear n0_ n1_ n2_ n3_; have hcz25_0 : w24.cell? ⟨gb165, 0, none⟩ = some (.bool a1_0) := (zzi BK165.out 0).trans rfl; have hcz25_1 : w24.cell? ⟨gb165, 1, none⟩ = some (.int .u64 a1_1) := (zzi BK165.out 1).trans rfl; have hcz25_2 : w24.cell? ⟨gb165, 2, none⟩ = some (.int .u64 a1_2) := (zzi BK165.out 2).trans rfl; have hfz25_0 := zzh BK165.out 0; have hfz25_1 := zzh BK165.out 1; have hfz25_2 := zzh BK165.out 2; have hcz26_0 : w24.cell? ⟨gb164, 0, none⟩ = some (.bool a0_0) := (zzi BK164.out 0).trans rfl; have hcz26_1 : w24.cell? ⟨gb164, 1, none⟩ = some (.int .u64 a0_1) := (zzi BK164.out 1).trans rfl; have hcz26_2 : w24.cell? ⟨gb164, 2, none⟩ = some (.int .u64 a0_2) := (zzi BK164.out 2).trans rfl; have hfz26_0 := zzh BK164.out 0; have hfz26_1 := zzh BK164.out 1; have hfz26_2 := zzh BK164.out 2; have hcz27_0 : w24.cell? ⟨gb166, 0, none⟩ = some (.bool false) := (zzi BK166.out 0).trans rfl; have hcz27_1 : w24.cell? ⟨gb166, 1, none⟩ = some (.int .u64 0) := (zzi BK166.out 1).trans rfl; have hcz27_2 : w24.cell? ⟨gb166, 2, none⟩ = some (.int .u64 0) := (zzi BK166.out 2).trans rfl; have hfz27_0 := zzh BK166.out 0; have hfz27_1 := zzh BK166.out 1; have hfz27_2 := zzh BK166.out 2))
      refine bodyPost_ret (results_cell_row rfl _ _ gb166 60 #[.bool a1_0, .int .u64 (sub64s a1_1 a0_1 0), .int .u64 (sub64s a1_2 a0_2 (sub64c a1_1 a0_1 0))] (0, 0) _ rfl (by (with_reducible repeat first | apply zzc | apply zzd | apply zzb); refine zzo (cs := #[.bool a1_0, .int .u64 (sub64s a1_1 a0_1 0), .int .u64 0]) ?_ 2 _ rfl; (with_reducible repeat first | apply zzc | apply zzd | apply zzb); refine zzo (cs := #[.bool a1_0, .int .u64 0, .int .u64 0]) ?_ 1 _ rfl; (with_reducible repeat first | apply zzc | apply zzd | apply zzb); refine zzo (cs := #[.bool false, .int .u64 0, .int .u64 0]) ?_ 0 _ rfl; (with_reducible repeat first | apply zzc | apply zzd | apply zzb); refine zzs ?_ NB166_165.out _; (with_reducible repeat first | apply zzc | apply zzd | apply zzb); refine zzs ?_ NB166_165.out _; (with_reducible repeat first | apply zzc | apply zzd | apply zzb); refine zzs ?_ NB166_165.out _; (with_reducible repeat first | apply zzc | apply zzd | apply zzb); refine zzs ?_ NB166_164.out _; (with_reducible repeat first | apply zzc | apply zzd | apply zzb); refine zzs ?_ NB166_164.out _; (with_reducible repeat first | apply zzc | apply zzd | apply zzb); refine zzs ?_ NB166_164.out _; (with_reducible repeat first | apply zzc | apply zzd | apply zzb); exact BK166.out) Try.underlying60 rfl (by kernel_rfl)) rfl ?_
      exact ⟨by first | rfl | (simp [zzn, zzm] <;> rfl) | (simp [*, zzn, zzm] <;> rfl), by repeat (first | (with_reducible first | exact HB.out | apply zzf | apply zza | apply zzg | refine zze ?_ GE164.out | refine zze ?_ GE165.out | refine zze ?_ GE166.out) | exact HB.out)⟩
    · rw [if_neg c15] at H
      have c15b0 : decide (t167 < 0) = false := decide_eq_false c15
      clear c15
      simp only [Option.some.injEq, Prod.mk.injEq] at H
      obtain ⟨rfl, rfl, rfl⟩ := H
      go_enter Try.func75, Try.ntmps75
      go_wp2_with (first | ((with_reducible refine zzt (N := 2) rfl ?_); refine zzp ?hg (N := 2) ?hd (cs := #[.bool a0_0, .int .u64 a0_1, .int .u64 a0_2]) (t := 60) ?hr ?_; (case hd => rfl); (case hg => rfl); (case hr => first | (go_simp; done) | (go_simp; rfl)); intro gb164 hg w28 hbox hb; have n0_ := Aside0.mk (zzl (by repeat (first | (with_reducible first | exact HB.out | apply zzf | apply zza | apply zzg) | exact HB.out)) hb); have n1_ := Aside0.mk (hbox); have n3_ := Aside0.mk ((by rw [hg]; exact (zzk (by repeat (first | (with_reducible first | exact HB.out | apply zzf | apply zza | apply zzg) | exact HB.out))) : w.heap.size ≤ gb164)); clear HB; have HB := n0_; have BK164 := n1_; have GE164 := n3_; clear n0_ n1_ n3_; clear hb hbox hg) | ((with_reducible refine zzt (N := 3) rfl ?_); refine zzp ?hg (N := 3) ?hd (cs := #[.bool a1_0, .int .u64 a1_1, .int .u64 a1_2]) (t := 60) ?hr ?_; (case hd => rfl); (case hg => rfl); (case hr => first | (go_simp; done) | (go_simp; rfl)); intro gb165 hg w29 hbox hb; have n0_ := Aside0.mk (zzj (g := gb164) (o := .cells #[.bool a0_0, .int .u64 a0_1, .int .u64 a0_2] 60 (0, 0)) (by (with_reducible repeat first | apply zzc | apply zzd | apply zzb); exact BK164.out) hb); have n1_ := Aside0.mk (zzl (by repeat (first | (with_reducible first | exact HB.out | apply zzf | apply zza | apply zzg | refine zze ?_ GE164.out) | exact HB.out)) hb); have n2_ := Aside0.mk (hbox); have n4_ := Aside0.mk ((by rw [hg]; exact (zzk (by repeat (first | (with_reducible first | exact HB.out | apply zzf | apply zza | apply zzg | refine zze ?_ GE164.out) | exact HB.out))) : w.heap.size ≤ gb165)); have n5_ := Aside0.mk ((by rw [hg]; exact Nat.ne_of_lt (zzr (g := gb164) (o := .cells #[.bool a0_0, .int .u64 a0_1, .int .u64 a0_2] 60 (0, 0)) (by (with_reducible repeat first | apply zzc | apply zzd | apply zzb); exact BK164.out)) : gb164 ≠ gb165)); have n6_ := Aside0.mk ((by rw [hg]; exact Nat.ne_of_gt (zzr (g := gb164) (o := .cells #[.bool a0_0, .int .u64 a0_1, .int .u64 a0_2] 60 (0, 0)) (by (with_reducible repeat first | apply zzc | apply zzd | apply zzb); exact BK164.out)) : gb165 ≠ gb164)); clear BK164; clear HB; have BK164 := n0_; have HB := n1_; have BK165 := n2_; have GE165 := n4_; have NB164_165 := n5_; have NB165_164 := n6_; clear n0_ n1_ n2_ n4_ n5_ n6_; clear hb hbox hg) | ((with_reducible refine zzt (N := 4) rfl ?_); refine zzp ?hg (N := 4) ?hd (cs := #[.bool false, .int .u64 0, .int .u64 0]) (t := 60) ?hr ?_; (case hd => rfl); (case hg => rfl); (case hr => first | (go_simp; done) | (go_simp; rfl)); intro gb166 hg w30 hbox hb; have n0_ := Aside0.mk (zzj (g := gb164) (o := .cells #[.bool a0_0, .int .u64 a0_1, .int .u64 a0_2] 60 (0, 0)) (by (with_reducible repeat first | apply zzc | apply zzd | apply zzb); exact BK164.out) hb); have n1_ := Aside0.mk (zzj (g := gb165) (o := .cells #[.bool a1_0, .int .u64 a1_1, .int .u64 a1_2] 60 (0, 0)) (by (with_reducible repeat first | apply zzc | apply zzd | apply zzb); exact BK165.out) hb); have n2_ := Aside0.mk (zzl (by repeat (first | (with_reducible first | exact HB.out | apply zzf | apply zza | apply zzg | refine zze ?_ GE164.out | refine zze ?_ GE165.out) | exact HB.out)) hb); have n3_ := Aside0.mk (hbox); have n5_ := Aside0.mk ((by rw [hg]; exact (zzk (by repeat (first | (with_reducible first | exact HB.out | apply zzf | apply zza | apply zzg | refine zze ?_ GE164.out | refine zze ?_ GE165.out) | exact HB.out))) : w.heap.size ≤ gb166)); have n6_ := Aside0.mk ((by rw [hg]; exact Nat.ne_of_lt (zzr (g := gb164) (o := .cells #[.bool a0_0, .int .u64 a0_1, .int .u64 a0_2] 60 (0, 0)) (by (with_reducible repeat first | apply zzc | apply zzd | apply zzb); exact BK164.out)) : gb164 ≠ gb166)); have n7_ := Aside0.mk ((by rw [hg]; exact Nat.ne_of_gt (zzr (g := gb164) (o := .cells #[.bool a0_0, .int .u64 a0_1, .int .u64 a0_2] 60 (0, 0)) (by (with_reducible repeat first | apply zzc | apply zzd | apply zzb); exact BK164.out)) : gb166 ≠ gb164)); have n8_ := Aside0.mk ((by rw [hg]; exact Nat.ne_of_lt (zzr (g := gb165) (o := .cells #[.bool a1_0, .int .u64 a1_1, .int .u64 a1_2] 60 (0, 0)) (by (with_reducible repeat first | apply zzc | apply zzd | apply zzb); exact BK165.out)) : gb165 ≠ gb166)); have n9_ := Aside0.mk ((by rw [hg]; exact Nat.ne_of_gt (zzr (g := gb165) (o := .cells #[.bool a1_0, .int .u64 a1_1, .int .u64 a1_2] 60 (0, 0)) (by (with_reducible repeat first | apply zzc | apply zzd | apply zzb); exact BK165.out)) : gb166 ≠ gb165)); clear BK164; clear BK165; clear HB; have BK164 := n0_; have BK165 := n1_; have HB := n2_; have BK166 := n3_; have GE166 := n5_; have NB164_166 := n6_; have NB166_164 := n7_; have NB165_166 := n8_; have NB166_165 := n9_; clear n0_ n1_ n2_ n3_ n5_ n6_ n7_ n8_ n9_; clear hb hbox hg; have hnb31 := NB164_165.out; have hnc31 := NB165_164.out; have hnb32 := NB164_166.out; have hnc32 := NB166_164.out; have hcz33_0 : w30.cell? ⟨gb164, 0, none⟩ = some (.bool a0_0) := (zzi BK164.out 0).trans rfl; have hcz33_1 : w30.cell? ⟨gb164, 1, none⟩ = some (.int .u64 a0_1) := (zzi BK164.out 1).trans rfl; have hcz33_2 : w30.cell? ⟨gb164, 2, none⟩ = some (.int .u64 a0_2) := (zzi BK164.out 2).trans rfl; have hfz33_0 := zzh BK164.out 0; have hfz33_1 := zzh BK164.out 1; have hfz33_2 := zzh BK164.out 2; have hnb34 := NB165_166.out; have hnc34 := NB166_165.out; have hcz35_0 : w30.cell? ⟨gb165, 0, none⟩ = some (.bool a1_0) := (zzi BK165.out 0).trans rfl; have hcz35_1 : w30.cell? ⟨gb165, 1, none⟩ = some (.int .u64 a1_1) := (zzi BK165.out 1).trans rfl; have hcz35_2 : w30.cell? ⟨gb165, 2, none⟩ = some (.int .u64 a1_2) := (zzi BK165.out 2).trans rfl; have hfz35_0 := zzh BK165.out 0; have hfz35_1 := zzh BK165.out 1; have hfz35_2 := zzh BK165.out 2) | ((with_reducible refine zzq (f := 109) rfl ?_); refine goesL_ (some 49) rfl rfl Try.func109 (by kernel_rfl) rfl #[.agg #[.int .u64 a0_1, .int .u64 a0_2], .agg #[.int .u64 a1_1, .int .u64 a1_2]] rfl (by (try simp only [List.map_toArray, List.map_cons, List.map_nil]); first | done | rfl | (simp only [List.length_drop, List.length_take]; rfl)) ?_; (with_reducible refine (fixed_words_compare.calls k a0_1 a0_2 a1_1 a1_2 t167 _ A14.out).mono ?_); rintro e w36 ⟨rfl, hb⟩; refine ⟨_, rfl, ?_⟩; have n0_ := Aside0.mk (zzj (g := gb164) (o := .cells #[.bool a0_0, .int .u64 a0_1, .int .u64 a0_2] 60 (0, 0)) (by (with_reducible repeat first | apply zzc | apply zzd | apply zzb); exact BK164.out) hb); have n1_ := Aside0.mk (zzj (g := gb165) (o := .cells #[.bool a1_0, .int .u64 a1_1, .int .u64 a1_2] 60 (0, 0)) (by (with_reducible repeat first | apply zzc | apply zzd | apply zzb); exact BK165.out) hb); have n2_ := Aside0.mk (zzj (g := gb166) (o := .cells #[.bool false, .int .u64 0, .int .u64 0] 60 (0, 0)) (by (with_reducible repeat first | apply zzc | apply zzd | apply zzb); exact BK166.out) hb); have n3_ := Aside0.mk (zzl (by repeat (first | (with_reducible first | exact HB.out | apply zzf | apply zza | apply zzg | refine zze ?_ GE164.out | refine zze ?_ GE165.out | refine zze ?_ GE166.out) | exact HB.out)) hb); clear BK164; clear BK165; clear BK166; clear HB; have BK164 := n0_; have BK165 := n1_; have BK166 := n2_; have HB := n3_; clear n0_ n1_ n2_ n3_; have hcz37_0 : w36.cell? ⟨gb164, 0, none⟩ = some (.bool a0_0) := (zzi BK164.out 0).trans rfl; have hcz37_1 : w36.cell? ⟨gb164, 1, none⟩ = some (.int .u64 a0_1) := (zzi BK164.out 1).trans rfl; have hcz37_2 : w36.cell? ⟨gb164, 2, none⟩ = some (.int .u64 a0_2) := (zzi BK164.out 2).trans rfl; have hfz37_0 := zzh BK164.out 0; have hfz37_1 := zzh BK164.out 1; have hfz37_2 := zzh BK164.out 2; have hcz38_0 : w36.cell? ⟨gb165, 0, none⟩ = some (.bool a1_0) := (zzi BK165.out 0).trans rfl; have hcz38_1 : w36.cell? ⟨gb165, 1, none⟩ = some (.int .u64 a1_1) := (zzi BK165.out 1).trans rfl; have hcz38_2 : w36.cell? ⟨gb165, 2, none⟩ = some (.int .u64 a1_2) := (zzi BK165.out 2).trans rfl; have hfz38_0 := zzh BK165.out 0; have hfz38_1 := zzh BK165.out 1; have hfz38_2 := zzh BK165.out 2; have hcz39_0 : w36.cell? ⟨gb166, 0, none⟩ = some (.bool false) := (zzi BK166.out 0).trans rfl; have hcz39_1 : w36.cell? ⟨gb166, 1, none⟩ = some (.int .u64 0) := (zzi BK166.out 1).trans rfl; have hcz39_2 : w36.cell? ⟨gb166, 2, none⟩ = some (.int .u64 0) := (zzi BK166.out 2).trans rfl; have hfz39_0 := zzh BK166.out 0; have hfz39_1 := zzh BK166.out 1; have hfz39_2 := zzh BK166.out 2))
      refine bodyPost_ret (results_cell_row rfl _ _ gb166 60 #[.bool a0_0, .int .u64 (sub64s a0_1 a1_1 0), .int .u64 (sub64s a0_2 a1_2 (sub64c a0_1 a1_1 0))] (0, 0) _ rfl (by (with_reducible repeat first | apply zzc | apply zzd | apply zzb); refine zzo (cs := #[.bool a0_0, .int .u64 (sub64s a0_1 a1_1 0), .int .u64 0]) ?_ 2 _ rfl; (with_reducible repeat first | apply zzc | apply zzd | apply zzb); refine zzo (cs := #[.bool a0_0, .int .u64 0, .int .u64 0]) ?_ 1 _ rfl; (with_reducible repeat first | apply zzc | apply zzd | apply zzb); refine zzo (cs := #[.bool false, .int .u64 0, .int .u64 0]) ?_ 0 _ rfl; (with_reducible repeat first | apply zzc | apply zzd | apply zzb); exact BK166.out) Try.underlying60 rfl (by kernel_rfl)) rfl ?_
      exact ⟨by first | rfl | (simp [zzn, zzm] <;> rfl) | (simp [*, zzn, zzm] <;> rfl), by repeat (first | (with_reducible first | exact HB.out | apply zzf | apply zza | apply zzg | refine zze ?_ GE164.out | refine zze ?_ GE165.out | refine zze ?_ GE166.out) | exact HB.out)⟩
def fixed_Order.f (k : Nat) (a0 : Int) (a1 : Int) (a2 : Int) (a3 : Int) : Option (Int) := (fixed_product.f a0 a1).bind fun bt168 => ((fixed_product.f a2 a3).bind fun bt172 => ((fixed_exact_plus.f k bt168.1 bt168.2.1 bt168.2.2 (!bt172.1) bt172.2.1 bt172.2.2).bind fun bt176 => (if (bt176.2.1 == 0 && (bt176.2.2 == 0)) = true then (some 0) else (if bt176.1 = true then (some (-1)) else (some 1)))))
set_option maxHeartbeats 8000000 in
set_option maxRecDepth 100000 in
theorem fixed_Order.calls (k : Nat) (a0 : Int) (a1 : Int) (a2 : Int) (a3 : Int) (r : Int) (w : World) (h : fixed_Order.f k a0 a1 a2 a3 = some r) :
    Calls Try.prog 21 #[.int .i64 a0, .int .i64 a1, .int .i64 a2, .int .i64 a3] w fun e w' => e = .returned (.int .i64 r) ∧ Below w.heap.size w w' := by
  have hu60 := Try.underlying60
  have hu58 := Try.underlying58
  have HB := Aside0.mk (Below.refl w.heap.size w)
  have H : ((fixed_product.f a0 a1).bind fun bt168 => ((fixed_product.f a2 a3).bind fun bt172 => ((fixed_exact_plus.f k bt168.1 bt168.2.1 bt168.2.2 (!bt172.1) bt172.2.1 bt172.2.2).bind fun bt176 => (if (bt176.2.1 == 0 && (bt176.2.2 == 0)) = true then (some 0) else (if bt176.1 = true then (some (-1)) else (some 1)))))) = some r := h
  clear h
  replace H := Option.bind_eq_some_iff.mp H
  obtain ⟨⟨t168, t169, t170⟩, A50, H⟩ := H
  replace H : ((fixed_product.f a2 a3).bind fun bt172 => ((fixed_exact_plus.f k t168 t169 t170 (!bt172.1) bt172.2.1 bt172.2.2).bind fun bt176 => (if (bt176.2.1 == 0 && (bt176.2.2 == 0)) = true then (some 0) else (if bt176.1 = true then (some (-1)) else (some 1))))) = some r := H
  have A5 := Aside0.mk A50
  clear A50
  replace H := Option.bind_eq_some_iff.mp H
  obtain ⟨⟨t172, t173, t174⟩, A60, H⟩ := H
  replace H : ((fixed_exact_plus.f k t168 t169 t170 (!t172) t173 t174).bind fun bt176 => (if (bt176.2.1 == 0 && (bt176.2.2 == 0)) = true then (some 0) else (if bt176.1 = true then (some (-1)) else (some 1)))) = some r := H
  have A6 := Aside0.mk A60
  clear A60
  replace H := Option.bind_eq_some_iff.mp H
  obtain ⟨⟨t176, t177, t178⟩, A70, H⟩ := H
  replace H : (if (t177 == 0 && (t178 == 0)) = true then (some 0) else (if t176 = true then (some (-1)) else (some 1))) = some r := H
  have A7 := Aside0.mk A70
  clear A70
  by_cases c8 : (t177 == 0 && (t178 == 0)) = true
  · rw [if_pos c8] at H
    have c8b0 : (t177 == 0 && (t178 == 0)) = true := c8
    (try (have c8b1 : decide (t177 = 0 && (t178 == 0)) = true := by simpa using c8))
    (try (have c8b2 : (t177 == 0 && (t178 == 0)) = true := by simpa using c8))
    clear c8
    obtain rfl := Option.some.inj H
    go_enter Try.func21, Try.ntmps21
    go_wp2_with (first | ((with_reducible refine zzq (f := 74) rfl ?_); refine goesL_ (some 14) rfl rfl Try.func74 (by kernel_rfl) rfl #[.int .i64 a0, .int .i64 a1] rfl (by (try simp only [List.map_toArray, List.map_cons, List.map_nil]); first | done | rfl | (simp only [List.length_drop, List.length_take]; rfl)) ?_; (with_reducible refine (fixed_product.calls a0 a1 t168 t169 t170 _ A5.out).mono ?_); rintro e w9 ⟨rfl, hb⟩; refine ⟨_, rfl, ?_⟩; have n0_ := Aside0.mk (zzl (by repeat (first | (with_reducible first | exact HB.out | apply zzf | apply zza | apply zzg) | exact HB.out)) hb); clear HB; have HB := n0_; clear n0_; (try clear hi)) | ((with_reducible refine zzt (N := 9) rfl ?_); refine zzp ?hg (N := 9) ?hd (cs := #[.bool false, .int .u64 0, .int .u64 0]) (t := 60) ?hr ?_; (case hd => rfl); (case hg => rfl); (case hr => first | (go_simp; done) | (go_simp; rfl)); intro gb171 hg w10 hbox hb; have n0_ := Aside0.mk (zzl (by repeat (first | (with_reducible first | exact HB.out | apply zzf | apply zza | apply zzg) | exact HB.out)) hb); have n1_ := Aside0.mk (hbox); have n3_ := Aside0.mk ((by rw [hg]; exact (zzk (by repeat (first | (with_reducible first | exact HB.out | apply zzf | apply zza | apply zzg) | exact HB.out))) : w.heap.size ≤ gb171)); clear HB; have HB := n0_; have BK171 := n1_; have GE171 := n3_; clear n0_ n1_ n3_; clear hb hbox hg; have hcz11_0 : w10.cell? ⟨gb171, 0, none⟩ = some (.bool false) := (zzi BK171.out 0).trans rfl; have hcz11_1 : w10.cell? ⟨gb171, 1, none⟩ = some (.int .u64 0) := (zzi BK171.out 1).trans rfl; have hcz11_2 : w10.cell? ⟨gb171, 2, none⟩ = some (.int .u64 0) := (zzi BK171.out 2).trans rfl; have hfz11_0 := zzh BK171.out 0; have hfz11_1 := zzh BK171.out 1; have hfz11_2 := zzh BK171.out 2) | ((with_reducible refine zzq (f := 74) rfl ?_); refine goesL_ (some 17) rfl rfl Try.func74 (by kernel_rfl) rfl #[.int .i64 a2, .int .i64 a3] rfl (by (try simp only [List.map_toArray, List.map_cons, List.map_nil]); first | done | rfl | (simp only [List.length_drop, List.length_take]; rfl)) ?_; (with_reducible refine (fixed_product.calls a2 a3 t172 t173 t174 _ A6.out).mono ?_); rintro e w12 ⟨rfl, hb⟩; refine ⟨_, rfl, ?_⟩; have n0_ := Aside0.mk (zzj (g := gb171) (o := .cells #[.bool t168, .int .u64 t169, .int .u64 t170] 60 (0, 0)) (by (with_reducible repeat first | apply zzc | apply zzd | apply zzb); refine zzo (cs := #[.bool t168, .int .u64 t169, .int .u64 0]) ?_ 2 _ rfl; (with_reducible repeat first | apply zzc | apply zzd | apply zzb); refine zzo (cs := #[.bool t168, .int .u64 0, .int .u64 0]) ?_ 1 _ rfl; (with_reducible repeat first | apply zzc | apply zzd | apply zzb); refine zzo (cs := #[.bool false, .int .u64 0, .int .u64 0]) ?_ 0 _ rfl; (with_reducible repeat first | apply zzc | apply zzd | apply zzb); exact BK171.out) hb); have n1_ := Aside0.mk (zzl (by repeat (first | (with_reducible first | exact HB.out | apply zzf | apply zza | apply zzg | refine zze ?_ GE171.out) | exact HB.out)) hb); clear BK171; clear HB; have BK171 := n0_; have HB := n1_; clear n0_ n1_; (try clear hi)) | ((with_reducible refine zzt (N := 10) rfl ?_); refine zzp ?hg (N := 10) ?hd (cs := #[.bool false, .int .u64 0, .int .u64 0]) (t := 60) ?hr ?_; (case hd => rfl); (case hg => rfl); (case hr => first | (go_simp; done) | (go_simp; rfl)); intro gb175 hg w13 hbox hb; have n0_ := Aside0.mk (zzj (g := gb171) (o := .cells #[.bool t168, .int .u64 t169, .int .u64 t170] 60 (0, 0)) (by (with_reducible repeat first | apply zzc | apply zzd | apply zzb); exact BK171.out) hb); have n1_ := Aside0.mk (zzl (by repeat (first | (with_reducible first | exact HB.out | apply zzf | apply zza | apply zzg | refine zze ?_ GE171.out) | exact HB.out)) hb); have n2_ := Aside0.mk (hbox); have n4_ := Aside0.mk ((by rw [hg]; exact (zzk (by repeat (first | (with_reducible first | exact HB.out | apply zzf | apply zza | apply zzg | refine zze ?_ GE171.out) | exact HB.out))) : w.heap.size ≤ gb175)); have n5_ := Aside0.mk ((by rw [hg]; exact Nat.ne_of_lt (zzr (g := gb171) (o := .cells #[.bool t168, .int .u64 t169, .int .u64 t170] 60 (0, 0)) (by (with_reducible repeat first | apply zzc | apply zzd | apply zzb); exact BK171.out)) : gb171 ≠ gb175)); have n6_ := Aside0.mk ((by rw [hg]; exact Nat.ne_of_gt (zzr (g := gb171) (o := .cells #[.bool t168, .int .u64 t169, .int .u64 t170] 60 (0, 0)) (by (with_reducible repeat first | apply zzc | apply zzd | apply zzb); exact BK171.out)) : gb175 ≠ gb171)); clear BK171; clear HB; have BK171 := n0_; have HB := n1_; have BK175 := n2_; have GE175 := n4_; have NB171_175 := n5_; have NB175_171 := n6_; clear n0_ n1_ n2_ n4_ n5_ n6_; clear hb hbox hg; have hnb14 := NB175_171.out; have hnc14 := NB171_175.out; have hcz15_0 : w13.cell? ⟨gb175, 0, none⟩ = some (.bool false) := (zzi BK175.out 0).trans rfl; have hcz15_1 : w13.cell? ⟨gb175, 1, none⟩ = some (.int .u64 0) := (zzi BK175.out 1).trans rfl; have hcz15_2 : w13.cell? ⟨gb175, 2, none⟩ = some (.int .u64 0) := (zzi BK175.out 2).trans rfl; have hfz15_0 := zzh BK175.out 0; have hfz15_1 := zzh BK175.out 1; have hfz15_2 := zzh BK175.out 2; have hcz16_0 : w13.cell? ⟨gb171, 0, none⟩ = some (.bool t168) := (zzi BK171.out 0).trans rfl; have hcz16_1 : w13.cell? ⟨gb171, 1, none⟩ = some (.int .u64 t169) := (zzi BK171.out 1).trans rfl; have hcz16_2 : w13.cell? ⟨gb171, 2, none⟩ = some (.int .u64 t170) := (zzi BK171.out 2).trans rfl; have hfz16_0 := zzh BK171.out 0; have hfz16_1 := zzh BK171.out 1; have hfz16_2 := zzh BK171.out 2) | ((with_reducible refine zzq (f := 75) rfl ?_); refine goesL_ (some 24) rfl rfl Try.func75 (by kernel_rfl) rfl #[.agg #[.bool t168, .int .u64 t169, .int .u64 t170], .agg #[.bool (!t172), .int .u64 t173, .int .u64 t174]] rfl (by (try simp only [List.map_toArray, List.map_cons, List.map_nil]); first | done | rfl | (simp only [List.length_drop, List.length_take]; rfl)) ?_; (with_reducible refine (fixed_exact_plus.calls k t168 t169 t170 (!t172) t173 t174 t176 t177 t178 _ A7.out).mono ?_); rintro e w17 ⟨rfl, hb⟩; refine ⟨_, rfl, ?_⟩; have n0_ := Aside0.mk (zzj (g := gb171) (o := .cells #[.bool t168, .int .u64 t169, .int .u64 t170] 60 (0, 0)) (by (with_reducible repeat first | apply zzc | apply zzd | apply zzb); refine zzs ?_ NB171_175.out _; (with_reducible repeat first | apply zzc | apply zzd | apply zzb); refine zzs ?_ NB171_175.out _; (with_reducible repeat first | apply zzc | apply zzd | apply zzb); refine zzs ?_ NB171_175.out _; (with_reducible repeat first | apply zzc | apply zzd | apply zzb); refine zzs ?_ NB171_175.out _; (with_reducible repeat first | apply zzc | apply zzd | apply zzb); exact BK171.out) hb); have n1_ := Aside0.mk (zzj (g := gb175) (o := .cells #[.bool (!t172), .int .u64 t173, .int .u64 t174] 60 (0, 0)) (by (with_reducible repeat first | apply zzc | apply zzd | apply zzb); refine zzo (cs := #[.bool t172, .int .u64 t173, .int .u64 t174]) ?_ 0 _ rfl; (with_reducible repeat first | apply zzc | apply zzd | apply zzb); refine zzo (cs := #[.bool t172, .int .u64 t173, .int .u64 0]) ?_ 2 _ rfl; (with_reducible repeat first | apply zzc | apply zzd | apply zzb); refine zzo (cs := #[.bool t172, .int .u64 0, .int .u64 0]) ?_ 1 _ rfl; (with_reducible repeat first | apply zzc | apply zzd | apply zzb); refine zzo (cs := #[.bool false, .int .u64 0, .int .u64 0]) ?_ 0 _ rfl; (with_reducible repeat first | apply zzc | apply zzd | apply zzb); exact BK175.out) hb); have n2_ := Aside0.mk (zzl (by repeat (first | (with_reducible first | exact HB.out | apply zzf | apply zza | apply zzg | refine zze ?_ GE171.out | refine zze ?_ GE175.out) | exact HB.out)) hb); clear BK171; clear BK175; clear HB; have BK171 := n0_; have BK175 := n1_; have HB := n2_; clear n0_ n1_ n2_; (try clear hi)) | ((with_reducible refine zzt (N := 11) rfl ?_); refine zzp ?hg (N := 11) ?hd (cs := #[.bool false, .int .u64 0, .int .u64 0]) (t := 60) ?hr ?_; (case hd => rfl); (case hg => rfl); (case hr => first | (go_simp; done) | (go_simp; rfl)); intro gb179 hg w18 hbox hb; have n0_ := Aside0.mk (zzj (g := gb171) (o := .cells #[.bool t168, .int .u64 t169, .int .u64 t170] 60 (0, 0)) (by (with_reducible repeat first | apply zzc | apply zzd | apply zzb); exact BK171.out) hb); have n1_ := Aside0.mk (zzj (g := gb175) (o := .cells #[.bool (!t172), .int .u64 t173, .int .u64 t174] 60 (0, 0)) (by (with_reducible repeat first | apply zzc | apply zzd | apply zzb); exact BK175.out) hb); have n2_ := Aside0.mk (zzl (by repeat (first | (with_reducible first | exact HB.out | apply zzf | apply zza | apply zzg | refine zze ?_ GE171.out | refine zze ?_ GE175.out) | exact HB.out)) hb); have n3_ := Aside0.mk (hbox); have n5_ := Aside0.mk ((by rw [hg]; exact (zzk (by repeat (first | (with_reducible first | exact HB.out | apply zzf | apply zza | apply zzg | refine zze ?_ GE171.out | refine zze ?_ GE175.out) | exact HB.out))) : w.heap.size ≤ gb179)); have n6_ := Aside0.mk ((by rw [hg]; exact Nat.ne_of_lt (zzr (g := gb171) (o := .cells #[.bool t168, .int .u64 t169, .int .u64 t170] 60 (0, 0)) (by (with_reducible repeat first | apply zzc | apply zzd | apply zzb); exact BK171.out)) : gb171 ≠ gb179)); have n7_ := Aside0.mk ((by rw [hg]; exact Nat.ne_of_gt (zzr (g := gb171) (o := .cells #[.bool t168, .int .u64 t169, .int .u64 t170] 60 (0, 0)) (by (with_reducible repeat first | apply zzc | apply zzd | apply zzb); exact BK171.out)) : gb179 ≠ gb171)); have n8_ := Aside0.mk ((by rw [hg]; exact Nat.ne_of_lt (zzr (g := gb175) (o := .cells #[.bool (!t172), .int .u64 t173, .int .u64 t174] 60 (0, 0)) (by (with_reducible repeat first | apply zzc | apply zzd | apply zzb); exact BK175.out)) : gb175 ≠ gb179)); have n9_ := Aside0.mk ((by rw [hg]; exact Nat.ne_of_gt (zzr (g := gb175) (o := .cells #[.bool (!t172), .int .u64 t173, .int .u64 t174] 60 (0, 0)) (by (with_reducible repeat first | apply zzc | apply zzd | apply zzb); exact BK175.out)) : gb179 ≠ gb175)); clear BK171; clear BK175; clear HB; have BK171 := n0_; have BK175 := n1_; have HB := n2_; have BK179 := n3_; have GE179 := n5_; have NB171_179 := n6_; have NB179_171 := n7_; have NB175_179 := n8_; have NB179_175 := n9_; clear n0_ n1_ n2_ n3_ n5_ n6_ n7_ n8_ n9_; clear hb hbox hg; have hnb19 := NB179_171.out; have hnc19 := NB171_179.out; have hnb20 := NB179_175.out; have hnc20 := NB175_179.out; have hcz21_0 : w18.cell? ⟨gb179, 0, none⟩ = some (.bool false) := (zzi BK179.out 0).trans rfl; have hcz21_1 : w18.cell? ⟨gb179, 1, none⟩ = some (.int .u64 0) := (zzi BK179.out 1).trans rfl; have hcz21_2 : w18.cell? ⟨gb179, 2, none⟩ = some (.int .u64 0) := (zzi BK179.out 2).trans rfl; have hfz21_0 := zzh BK179.out 0; have hfz21_1 := zzh BK179.out 1; have hfz21_2 := zzh BK179.out 2))
    go_ret
    exact ⟨by first | rfl | (simp [zzn, zzm] <;> rfl) | (simp [*, zzn, zzm] <;> rfl), by repeat (first | (with_reducible first | exact HB.out | apply zzf | apply zza | apply zzg | refine zze ?_ GE171.out | refine zze ?_ GE175.out | refine zze ?_ GE179.out) | exact HB.out)⟩
  · rw [if_neg c8] at H
    have c8b0 : (t177 == 0 && (t178 == 0)) = false := by simpa using c8
    (try (have c8b1 : decide (t177 = 0 && (t178 == 0)) = false := by simpa using c8))
    (try (have c8b2 : (t177 == 0 && (t178 == 0)) = false := by simpa using c8))
    (try (have c8b3 : ¬ (t177 = 0 && (t178 == 0)) := by simpa using c8))
    clear c8
    by_cases c22 : t176 = true
    · subst c22
      have H1 : (some (-1)) = some r := by rw [if_pos rfl] at H; exact H
      clear H
      have H := H1
      clear H1
      obtain rfl := Option.some.inj H
      go_enter Try.func21, Try.ntmps21
      go_wp2_with (first | ((with_reducible refine zzq (f := 74) rfl ?_); refine goesL_ (some 14) rfl rfl Try.func74 (by kernel_rfl) rfl #[.int .i64 a0, .int .i64 a1] rfl (by (try simp only [List.map_toArray, List.map_cons, List.map_nil]); first | done | rfl | (simp only [List.length_drop, List.length_take]; rfl)) ?_; (with_reducible refine (fixed_product.calls a0 a1 t168 t169 t170 _ A5.out).mono ?_); rintro e w23 ⟨rfl, hb⟩; refine ⟨_, rfl, ?_⟩; have n0_ := Aside0.mk (zzl (by repeat (first | (with_reducible first | exact HB.out | apply zzf | apply zza | apply zzg) | exact HB.out)) hb); clear HB; have HB := n0_; clear n0_; (try clear hi)) | ((with_reducible refine zzt (N := 9) rfl ?_); refine zzp ?hg (N := 9) ?hd (cs := #[.bool false, .int .u64 0, .int .u64 0]) (t := 60) ?hr ?_; (case hd => rfl); (case hg => rfl); (case hr => first | (go_simp; done) | (go_simp; rfl)); intro gb171 hg w24 hbox hb; have n0_ := Aside0.mk (zzl (by repeat (first | (with_reducible first | exact HB.out | apply zzf | apply zza | apply zzg) | exact HB.out)) hb); have n1_ := Aside0.mk (hbox); have n3_ := Aside0.mk ((by rw [hg]; exact (zzk (by repeat (first | (with_reducible first | exact HB.out | apply zzf | apply zza | apply zzg) | exact HB.out))) : w.heap.size ≤ gb171)); clear HB; have HB := n0_; have BK171 := n1_; have GE171 := n3_; clear n0_ n1_ n3_; clear hb hbox hg; have hcz25_0 : w24.cell? ⟨gb171, 0, none⟩ = some (.bool false) := (zzi BK171.out 0).trans rfl; have hcz25_1 : w24.cell? ⟨gb171, 1, none⟩ = some (.int .u64 0) := (zzi BK171.out 1).trans rfl; have hcz25_2 : w24.cell? ⟨gb171, 2, none⟩ = some (.int .u64 0) := (zzi BK171.out 2).trans rfl; have hfz25_0 := zzh BK171.out 0; have hfz25_1 := zzh BK171.out 1; have hfz25_2 := zzh BK171.out 2) | ((with_reducible refine zzq (f := 74) rfl ?_); refine goesL_ (some 17) rfl rfl Try.func74 (by kernel_rfl) rfl #[.int .i64 a2, .int .i64 a3] rfl (by (try simp only [List.map_toArray, List.map_cons, List.map_nil]); first | done | rfl | (simp only [List.length_drop, List.length_take]; rfl)) ?_; (with_reducible refine (fixed_product.calls a2 a3 t172 t173 t174 _ A6.out).mono ?_); rintro e w26 ⟨rfl, hb⟩; refine ⟨_, rfl, ?_⟩; have n0_ := Aside0.mk (zzj (g := gb171) (o := .cells #[.bool t168, .int .u64 t169, .int .u64 t170] 60 (0, 0)) (by (with_reducible repeat first | apply zzc | apply zzd | apply zzb); refine zzo (cs := #[.bool t168, .int .u64 t169, .int .u64 0]) ?_ 2 _ rfl; (with_reducible repeat first | apply zzc | apply zzd | apply zzb); refine zzo (cs := #[.bool t168, .int .u64 0, .int .u64 0]) ?_ 1 _ rfl; (with_reducible repeat first | apply zzc | apply zzd | apply zzb); refine zzo (cs := #[.bool false, .int .u64 0, .int .u64 0]) ?_ 0 _ rfl; (with_reducible repeat first | apply zzc | apply zzd | apply zzb); exact BK171.out) hb); have n1_ := Aside0.mk (zzl (by repeat (first | (with_reducible first | exact HB.out | apply zzf | apply zza | apply zzg | refine zze ?_ GE171.out) | exact HB.out)) hb); clear BK171; clear HB; have BK171 := n0_; have HB := n1_; clear n0_ n1_; (try clear hi)) | ((with_reducible refine zzt (N := 10) rfl ?_); refine zzp ?hg (N := 10) ?hd (cs := #[.bool false, .int .u64 0, .int .u64 0]) (t := 60) ?hr ?_; (case hd => rfl); (case hg => rfl); (case hr => first | (go_simp; done) | (go_simp; rfl)); intro gb175 hg w27 hbox hb; have n0_ := Aside0.mk (zzj (g := gb171) (o := .cells #[.bool t168, .int .u64 t169, .int .u64 t170] 60 (0, 0)) (by (with_reducible repeat first | apply zzc | apply zzd | apply zzb); exact BK171.out) hb); have n1_ := Aside0.mk (zzl (by repeat (first | (with_reducible first | exact HB.out | apply zzf | apply zza | apply zzg | refine zze ?_ GE171.out) | exact HB.out)) hb); have n2_ := Aside0.mk (hbox); have n4_ := Aside0.mk ((by rw [hg]; exact (zzk (by repeat (first | (with_reducible first | exact HB.out | apply zzf | apply zza | apply zzg | refine zze ?_ GE171.out) | exact HB.out))) : w.heap.size ≤ gb175)); have n5_ := Aside0.mk ((by rw [hg]; exact Nat.ne_of_lt (zzr (g := gb171) (o := .cells #[.bool t168, .int .u64 t169, .int .u64 t170] 60 (0, 0)) (by (with_reducible repeat first | apply zzc | apply zzd | apply zzb); exact BK171.out)) : gb171 ≠ gb175)); have n6_ := Aside0.mk ((by rw [hg]; exact Nat.ne_of_gt (zzr (g := gb171) (o := .cells #[.bool t168, .int .u64 t169, .int .u64 t170] 60 (0, 0)) (by (with_reducible repeat first | apply zzc | apply zzd | apply zzb); exact BK171.out)) : gb175 ≠ gb171)); clear BK171; clear HB; have BK171 := n0_; have HB := n1_; have BK175 := n2_; have GE175 := n4_; have NB171_175 := n5_; have NB175_171 := n6_; clear n0_ n1_ n2_ n4_ n5_ n6_; clear hb hbox hg; have hnb28 := NB175_171.out; have hnc28 := NB171_175.out; have hcz29_0 : w27.cell? ⟨gb175, 0, none⟩ = some (.bool false) := (zzi BK175.out 0).trans rfl; have hcz29_1 : w27.cell? ⟨gb175, 1, none⟩ = some (.int .u64 0) := (zzi BK175.out 1).trans rfl; have hcz29_2 : w27.cell? ⟨gb175, 2, none⟩ = some (.int .u64 0) := (zzi BK175.out 2).trans rfl; have hfz29_0 := zzh BK175.out 0; have hfz29_1 := zzh BK175.out 1; have hfz29_2 := zzh BK175.out 2; have hcz30_0 : w27.cell? ⟨gb171, 0, none⟩ = some (.bool t168) := (zzi BK171.out 0).trans rfl; have hcz30_1 : w27.cell? ⟨gb171, 1, none⟩ = some (.int .u64 t169) := (zzi BK171.out 1).trans rfl; have hcz30_2 : w27.cell? ⟨gb171, 2, none⟩ = some (.int .u64 t170) := (zzi BK171.out 2).trans rfl; have hfz30_0 := zzh BK171.out 0; have hfz30_1 := zzh BK171.out 1; have hfz30_2 := zzh BK171.out 2) | ((with_reducible refine zzq (f := 75) rfl ?_); refine goesL_ (some 24) rfl rfl Try.func75 (by kernel_rfl) rfl #[.agg #[.bool t168, .int .u64 t169, .int .u64 t170], .agg #[.bool (!t172), .int .u64 t173, .int .u64 t174]] rfl (by (try simp only [List.map_toArray, List.map_cons, List.map_nil]); first | done | rfl | (simp only [List.length_drop, List.length_take]; rfl)) ?_; (with_reducible refine (fixed_exact_plus.calls k t168 t169 t170 (!t172) t173 t174 true t177 t178 _ A7.out).mono ?_); rintro e w31 ⟨rfl, hb⟩; refine ⟨_, rfl, ?_⟩; have n0_ := Aside0.mk (zzj (g := gb171) (o := .cells #[.bool t168, .int .u64 t169, .int .u64 t170] 60 (0, 0)) (by (with_reducible repeat first | apply zzc | apply zzd | apply zzb); refine zzs ?_ NB171_175.out _; (with_reducible repeat first | apply zzc | apply zzd | apply zzb); refine zzs ?_ NB171_175.out _; (with_reducible repeat first | apply zzc | apply zzd | apply zzb); refine zzs ?_ NB171_175.out _; (with_reducible repeat first | apply zzc | apply zzd | apply zzb); refine zzs ?_ NB171_175.out _; (with_reducible repeat first | apply zzc | apply zzd | apply zzb); exact BK171.out) hb); have n1_ := Aside0.mk (zzj (g := gb175) (o := .cells #[.bool (!t172), .int .u64 t173, .int .u64 t174] 60 (0, 0)) (by (with_reducible repeat first | apply zzc | apply zzd | apply zzb); refine zzo (cs := #[.bool t172, .int .u64 t173, .int .u64 t174]) ?_ 0 _ rfl; (with_reducible repeat first | apply zzc | apply zzd | apply zzb); refine zzo (cs := #[.bool t172, .int .u64 t173, .int .u64 0]) ?_ 2 _ rfl; (with_reducible repeat first | apply zzc | apply zzd | apply zzb); refine zzo (cs := #[.bool t172, .int .u64 0, .int .u64 0]) ?_ 1 _ rfl; (with_reducible repeat first | apply zzc | apply zzd | apply zzb); refine zzo (cs := #[.bool false, .int .u64 0, .int .u64 0]) ?_ 0 _ rfl; (with_reducible repeat first | apply zzc | apply zzd | apply zzb); exact BK175.out) hb); have n2_ := Aside0.mk (zzl (by repeat (first | (with_reducible first | exact HB.out | apply zzf | apply zza | apply zzg | refine zze ?_ GE171.out | refine zze ?_ GE175.out) | exact HB.out)) hb); clear BK171; clear BK175; clear HB; have BK171 := n0_; have BK175 := n1_; have HB := n2_; clear n0_ n1_ n2_; (try clear hi)) | ((with_reducible refine zzt (N := 11) rfl ?_); refine zzp ?hg (N := 11) ?hd (cs := #[.bool false, .int .u64 0, .int .u64 0]) (t := 60) ?hr ?_; (case hd => rfl); (case hg => rfl); (case hr => first | (go_simp; done) | (go_simp; rfl)); intro gb179 hg w32 hbox hb; have n0_ := Aside0.mk (zzj (g := gb171) (o := .cells #[.bool t168, .int .u64 t169, .int .u64 t170] 60 (0, 0)) (by (with_reducible repeat first | apply zzc | apply zzd | apply zzb); exact BK171.out) hb); have n1_ := Aside0.mk (zzj (g := gb175) (o := .cells #[.bool (!t172), .int .u64 t173, .int .u64 t174] 60 (0, 0)) (by (with_reducible repeat first | apply zzc | apply zzd | apply zzb); exact BK175.out) hb); have n2_ := Aside0.mk (zzl (by repeat (first | (with_reducible first | exact HB.out | apply zzf | apply zza | apply zzg | refine zze ?_ GE171.out | refine zze ?_ GE175.out) | exact HB.out)) hb); have n3_ := Aside0.mk (hbox); have n5_ := Aside0.mk ((by rw [hg]; exact (zzk (by repeat (first | (with_reducible first | exact HB.out | apply zzf | apply zza | apply zzg | refine zze ?_ GE171.out | refine zze ?_ GE175.out) | exact HB.out))) : w.heap.size ≤ gb179)); have n6_ := Aside0.mk ((by rw [hg]; exact Nat.ne_of_lt (zzr (g := gb171) (o := .cells #[.bool t168, .int .u64 t169, .int .u64 t170] 60 (0, 0)) (by (with_reducible repeat first | apply zzc | apply zzd | apply zzb); exact BK171.out)) : gb171 ≠ gb179)); have n7_ := Aside0.mk ((by rw [hg]; exact Nat.ne_of_gt (zzr (g := gb171) (o := .cells #[.bool t168, .int .u64 t169, .int .u64 t170] 60 (0, 0)) (by (with_reducible repeat first | apply zzc | apply zzd | apply zzb); exact BK171.out)) : gb179 ≠ gb171)); have n8_ := Aside0.mk ((by rw [hg]; exact Nat.ne_of_lt (zzr (g := gb175) (o := .cells #[.bool (!t172), .int .u64 t173, .int .u64 t174] 60 (0, 0)) (by (with_reducible repeat first | apply zzc | apply zzd | apply zzb); exact BK175.out)) : gb175 ≠ gb179)); have n9_ := Aside0.mk ((by rw [hg]; exact Nat.ne_of_gt (zzr (g := gb175) (o := .cells #[.bool (!t172), .int .u64 t173, .int .u64 t174] 60 (0, 0)) (by (with_reducible repeat first | apply zzc | apply zzd | apply zzb); exact BK175.out)) : gb179 ≠ gb175)); clear BK171; clear BK175; clear HB; have BK171 := n0_; have BK175 := n1_; have HB := n2_; have BK179 := n3_; have GE179 := n5_; have NB171_179 := n6_; have NB179_171 := n7_; have NB175_179 := n8_; have NB179_175 := n9_; clear n0_ n1_ n2_ n3_ n5_ n6_ n7_ n8_ n9_; clear hb hbox hg; have hnb33 := NB179_171.out; have hnc33 := NB171_179.out; have hnb34 := NB179_175.out; have hnc34 := NB175_179.out; have hcz35_0 : w32.cell? ⟨gb179, 0, none⟩ = some (.bool false) := (zzi BK179.out 0).trans rfl; have hcz35_1 : w32.cell? ⟨gb179, 1, none⟩ = some (.int .u64 0) := (zzi BK179.out 1).trans rfl; have hcz35_2 : w32.cell? ⟨gb179, 2, none⟩ = some (.int .u64 0) := (zzi BK179.out 2).trans rfl; have hfz35_0 := zzh BK179.out 0; have hfz35_1 := zzh BK179.out 1; have hfz35_2 := zzh BK179.out 2))
      go_ret
      exact ⟨by first | rfl | (simp [zzn, zzm] <;> rfl) | (simp [*, zzn, zzm] <;> rfl), by repeat (first | (with_reducible first | exact HB.out | apply zzf | apply zza | apply zzg | refine zze ?_ GE171.out | refine zze ?_ GE175.out | refine zze ?_ GE179.out) | exact HB.out)⟩
    · replace c22 := Bool.eq_false_iff.mpr c22
      subst c22
      have H1 : (some 1) = some r := by rw [if_neg (show ¬ (false = true) by decide)] at H; exact H
      clear H
      have H := H1
      clear H1
      obtain rfl := Option.some.inj H
      go_enter Try.func21, Try.ntmps21
      go_wp2_with (first | ((with_reducible refine zzq (f := 74) rfl ?_); refine goesL_ (some 14) rfl rfl Try.func74 (by kernel_rfl) rfl #[.int .i64 a0, .int .i64 a1] rfl (by (try simp only [List.map_toArray, List.map_cons, List.map_nil]); first | done | rfl | (simp only [List.length_drop, List.length_take]; rfl)) ?_; (with_reducible refine (fixed_product.calls a0 a1 t168 t169 t170 _ A5.out).mono ?_); rintro e w36 ⟨rfl, hb⟩; refine ⟨_, rfl, ?_⟩; have n0_ := Aside0.mk (zzl (by repeat (first | (with_reducible first | exact HB.out | apply zzf | apply zza | apply zzg) | exact HB.out)) hb); clear HB; have HB := n0_; clear n0_; (try clear hi)) | ((with_reducible refine zzt (N := 9) rfl ?_); refine zzp ?hg (N := 9) ?hd (cs := #[.bool false, .int .u64 0, .int .u64 0]) (t := 60) ?hr ?_; (case hd => rfl); (case hg => rfl); (case hr => first | (go_simp; done) | (go_simp; rfl)); intro gb171 hg w37 hbox hb; have n0_ := Aside0.mk (zzl (by repeat (first | (with_reducible first | exact HB.out | apply zzf | apply zza | apply zzg) | exact HB.out)) hb); have n1_ := Aside0.mk (hbox); have n3_ := Aside0.mk ((by rw [hg]; exact (zzk (by repeat (first | (with_reducible first | exact HB.out | apply zzf | apply zza | apply zzg) | exact HB.out))) : w.heap.size ≤ gb171)); clear HB; have HB := n0_; have BK171 := n1_; have GE171 := n3_; clear n0_ n1_ n3_; clear hb hbox hg; have hcz38_0 : w37.cell? ⟨gb171, 0, none⟩ = some (.bool false) := (zzi BK171.out 0).trans rfl; have hcz38_1 : w37.cell? ⟨gb171, 1, none⟩ = some (.int .u64 0) := (zzi BK171.out 1).trans rfl; have hcz38_2 : w37.cell? ⟨gb171, 2, none⟩ = some (.int .u64 0) := (zzi BK171.out 2).trans rfl; have hfz38_0 := zzh BK171.out 0; have hfz38_1 := zzh BK171.out 1; have hfz38_2 := zzh BK171.out 2) | ((with_reducible refine zzq (f := 74) rfl ?_); refine goesL_ (some 17) rfl rfl Try.func74 (by kernel_rfl) rfl #[.int .i64 a2, .int .i64 a3] rfl (by (try simp only [List.map_toArray, List.map_cons, List.map_nil]); first | done | rfl | (simp only [List.length_drop, List.length_take]; rfl)) ?_; (with_reducible refine (fixed_product.calls a2 a3 t172 t173 t174 _ A6.out).mono ?_); rintro e w39 ⟨rfl, hb⟩; refine ⟨_, rfl, ?_⟩; have n0_ := Aside0.mk (zzj (g := gb171) (o := .cells #[.bool t168, .int .u64 t169, .int .u64 t170] 60 (0, 0)) (by (with_reducible repeat first | apply zzc | apply zzd | apply zzb); refine zzo (cs := #[.bool t168, .int .u64 t169, .int .u64 0]) ?_ 2 _ rfl; (with_reducible repeat first | apply zzc | apply zzd | apply zzb); refine zzo (cs := #[.bool t168, .int .u64 0, .int .u64 0]) ?_ 1 _ rfl; (with_reducible repeat first | apply zzc | apply zzd | apply zzb); refine zzo (cs := #[.bool false, .int .u64 0, .int .u64 0]) ?_ 0 _ rfl; (with_reducible repeat first | apply zzc | apply zzd | apply zzb); exact BK171.out) hb); have n1_ := Aside0.mk (zzl (by repeat (first | (with_reducible first | exact HB.out | apply zzf | apply zza | apply zzg | refine zze ?_ GE171.out) | exact HB.out)) hb); clear BK171; clear HB; have BK171 := n0_; have HB := n1_; clear n0_ n1_; (try clear hi)) | ((with_reducible refine zzt (N := 10) rfl ?_); refine zzp ?hg (N := 10) ?hd (cs := #[.bool false, .int .u64 0, .int .u64 0]) (t := 60) ?hr ?_; (case hd => rfl); (case hg => rfl); (case hr => first | (go_simp; done) | (go_simp; rfl)); intro gb175 hg w40 hbox hb; have n0_ := Aside0.mk (zzj (g := gb171) (o := .cells #[.bool t168, .int .u64 t169, .int .u64 t170] 60 (0, 0)) (by (with_reducible repeat first | apply zzc | apply zzd | apply zzb); exact BK171.out) hb); have n1_ := Aside0.mk (zzl (by repeat (first | (with_reducible first | exact HB.out | apply zzf | apply zza | apply zzg | refine zze ?_ GE171.out) | exact HB.out)) hb); have n2_ := Aside0.mk (hbox); have n4_ := Aside0.mk ((by rw [hg]; exact (zzk (by repeat (first | (with_reducible first | exact HB.out | apply zzf | apply zza | apply zzg | refine zze ?_ GE171.out) | exact HB.out))) : w.heap.size ≤ gb175)); have n5_ := Aside0.mk ((by rw [hg]; exact Nat.ne_of_lt (zzr (g := gb171) (o := .cells #[.bool t168, .int .u64 t169, .int .u64 t170] 60 (0, 0)) (by (with_reducible repeat first | apply zzc | apply zzd | apply zzb); exact BK171.out)) : gb171 ≠ gb175)); have n6_ := Aside0.mk ((by rw [hg]; exact Nat.ne_of_gt (zzr (g := gb171) (o := .cells #[.bool t168, .int .u64 t169, .int .u64 t170] 60 (0, 0)) (by (with_reducible repeat first | apply zzc | apply zzd | apply zzb); exact BK171.out)) : gb175 ≠ gb171)); clear BK171; clear HB; have BK171 := n0_; have HB := n1_; have BK175 := n2_; have GE175 := n4_; have NB171_175 := n5_; have NB175_171 := n6_; clear n0_ n1_ n2_ n4_ n5_ n6_; clear hb hbox hg; have hnb41 := NB175_171.out; have hnc41 := NB171_175.out; have hcz42_0 : w40.cell? ⟨gb175, 0, none⟩ = some (.bool false) := (zzi BK175.out 0).trans rfl; have hcz42_1 : w40.cell? ⟨gb175, 1, none⟩ = some (.int .u64 0) := (zzi BK175.out 1).trans rfl; have hcz42_2 : w40.cell? ⟨gb175, 2, none⟩ = some (.int .u64 0) := (zzi BK175.out 2).trans rfl; have hfz42_0 := zzh BK175.out 0; have hfz42_1 := zzh BK175.out 1; have hfz42_2 := zzh BK175.out 2; have hcz43_0 : w40.cell? ⟨gb171, 0, none⟩ = some (.bool t168) := (zzi BK171.out 0).trans rfl; have hcz43_1 : w40.cell? ⟨gb171, 1, none⟩ = some (.int .u64 t169) := (zzi BK171.out 1).trans rfl; have hcz43_2 : w40.cell? ⟨gb171, 2, none⟩ = some (.int .u64 t170) := (zzi BK171.out 2).trans rfl; have hfz43_0 := zzh BK171.out 0; have hfz43_1 := zzh BK171.out 1; have hfz43_2 := zzh BK171.out 2) | ((with_reducible refine zzq (f := 75) rfl ?_); refine goesL_ (some 24) rfl rfl Try.func75 (by kernel_rfl) rfl #[.agg #[.bool t168, .int .u64 t169, .int .u64 t170], .agg #[.bool (!t172), .int .u64 t173, .int .u64 t174]] rfl (by (try simp only [List.map_toArray, List.map_cons, List.map_nil]); first | done | rfl | (simp only [List.length_drop, List.length_take]; rfl)) ?_; (with_reducible refine (fixed_exact_plus.calls k t168 t169 t170 (!t172) t173 t174 false t177 t178 _ A7.out).mono ?_); rintro e w44 ⟨rfl, hb⟩; refine ⟨_, rfl, ?_⟩; have n0_ := Aside0.mk (zzj (g := gb171) (o := .cells #[.bool t168, .int .u64 t169, .int .u64 t170] 60 (0, 0)) (by (with_reducible repeat first | apply zzc | apply zzd | apply zzb); refine zzs ?_ NB171_175.out _; (with_reducible repeat first | apply zzc | apply zzd | apply zzb); refine zzs ?_ NB171_175.out _; (with_reducible repeat first | apply zzc | apply zzd | apply zzb); refine zzs ?_ NB171_175.out _; (with_reducible repeat first | apply zzc | apply zzd | apply zzb); refine zzs ?_ NB171_175.out _; (with_reducible repeat first | apply zzc | apply zzd | apply zzb); exact BK171.out) hb); have n1_ := Aside0.mk (zzj (g := gb175) (o := .cells #[.bool (!t172), .int .u64 t173, .int .u64 t174] 60 (0, 0)) (by (with_reducible repeat first | apply zzc | apply zzd | apply zzb); refine zzo (cs := #[.bool t172, .int .u64 t173, .int .u64 t174]) ?_ 0 _ rfl; (with_reducible repeat first | apply zzc | apply zzd | apply zzb); refine zzo (cs := #[.bool t172, .int .u64 t173, .int .u64 0]) ?_ 2 _ rfl; (with_reducible repeat first | apply zzc | apply zzd | apply zzb); refine zzo (cs := #[.bool t172, .int .u64 0, .int .u64 0]) ?_ 1 _ rfl; (with_reducible repeat first | apply zzc | apply zzd | apply zzb); refine zzo (cs := #[.bool false, .int .u64 0, .int .u64 0]) ?_ 0 _ rfl; (with_reducible repeat first | apply zzc | apply zzd | apply zzb); exact BK175.out) hb); have n2_ := Aside0.mk (zzl (by repeat (first | (with_reducible first | exact HB.out | apply zzf | apply zza | apply zzg | refine zze ?_ GE171.out | refine zze ?_ GE175.out) | exact HB.out)) hb); clear BK171; clear BK175; clear HB; have BK171 := n0_; have BK175 := n1_; have HB := n2_; clear n0_ n1_ n2_; (try clear hi)) | ((with_reducible refine zzt (N := 11) rfl ?_); refine zzp ?hg (N := 11) ?hd (cs := #[.bool false, .int .u64 0, .int .u64 0]) (t := 60) ?hr ?_; (case hd => rfl); (case hg => rfl); (case hr => first | (go_simp; done) | (go_simp; rfl)); intro gb179 hg w45 hbox hb; have n2_ := Aside0.mk (zzl (by repeat (first | (with_reducible first | exact HB.out | apply zzf | apply zza | apply zzg | refine zze ?_ GE171.out | refine zze ?_ GE175.out) | exact HB.out)) hb); have n3_ := Aside0.mk (hbox); have n5_ := Aside0.mk ((by rw [hg]; exact (zzk (by repeat (first | (with_reducible first | exact HB.out | apply zzf | apply zza | apply zzg | refine zze ?_ GE171.out | refine zze ?_ GE175.out) | exact HB.out))) : w.heap.size ≤ gb179)); have n6_ := Aside0.mk ((by rw [hg]; exact Nat.ne_of_lt (zzr (g := gb171) (o := .cells #[.bool t168, .int .u64 t169, .int .u64 t170] 60 (0, 0)) (by (with_reducible repeat first | apply zzc | apply zzd | apply zzb); exact BK171.out)) : gb171 ≠ gb179)); have n7_ := Aside0.mk ((by rw [hg]; exact Nat.ne_of_gt (zzr (g := gb171) (o := .cells #[.bool t168, .int .u64 t169, .int .u64 t170] 60 (0, 0)) (by (with_reducible repeat first | apply zzc | apply zzd | apply zzb); exact BK171.out)) : gb179 ≠ gb171)); have n8_ := Aside0.mk ((by rw [hg]; exact Nat.ne_of_lt (zzr (g := gb175) (o := .cells #[.bool (!t172), .int .u64 t173, .int .u64 t174] 60 (0, 0)) (by (with_reducible repeat first | apply zzc | apply zzd | apply zzb); exact BK175.out)) : gb175 ≠ gb179)); have n9_ := Aside0.mk ((by rw [hg]; exact Nat.ne_of_gt (zzr (g := gb175) (o := .cells #[.bool (!t172), .int .u64 t173, .int .u64 t174] 60 (0, 0)) (by (with_reducible repeat first | apply zzc | apply zzd | apply zzb); exact BK175.out)) : gb179 ≠ gb175)); clear HB; have HB := n2_; have BK179 := n3_; have GE179 := n5_; have NB171_179 := n6_; have NB179_171 := n7_; have NB175_179 := n8_; have NB179_175 := n9_; clear n2_ n3_ n5_ n6_ n7_ n8_ n9_; clear hb hbox hg; have hnb46 := NB179_171.out; have hnc46 := NB171_179.out; have hnb47 := NB179_175.out; have hnc47 := NB175_179.out; have hcz48_0 : w45.cell? ⟨gb179, 0, none⟩ = some (.bool false) := (zzi BK179.out 0).trans rfl; have hcz48_1 : w45.cell? ⟨gb179, 1, none⟩ = some (.int .u64 0) := (zzi BK179.out 1).trans rfl; have hcz48_2 : w45.cell? ⟨gb179, 2, none⟩ = some (.int .u64 0) := (zzi BK179.out 2).trans rfl; have hfz48_0 := zzh BK179.out 0; have hfz48_1 := zzh BK179.out 1; have hfz48_2 := zzh BK179.out 2))
      go_ret
      exact ⟨by first | rfl | (simp [zzn, zzm] <;> rfl) | (simp [*, zzn, zzm] <;> rfl), by repeat (first | (with_reducible first | exact HB.out | apply zzf | apply zza | apply zzg | refine zze ?_ GE171.out | refine zze ?_ GE175.out | refine zze ?_ GE179.out) | exact HB.out)⟩
def fixed_Neg.f (a0_0 : Int) (a0_1 : Bool) : Option (Int × Bool) := (fixed_sound.f a0_0 a0_1).bind fun bt195 => (some (wrap64 (-bt195.1), bt195.2))
set_option maxHeartbeats 8000000 in
set_option maxRecDepth 100000 in
theorem fixed_Neg.calls (a0_0 : Int) (a0_1 : Bool) (r1 : Int) (r2 : Bool) (w : World) (h : fixed_Neg.f a0_0 a0_1 = some (r1, r2)) :
    Calls Try.prog 41 #[.agg #[.int .i64 a0_0, .bool a0_1]] w fun e w' => e = .returned (.agg #[.int .i64 r1, .bool r2]) ∧ Below w.heap.size w w' := by
  have hu23 := Try.underlying23
  have HB := Aside0.mk (Below.refl w.heap.size w)
  have H : ((fixed_sound.f a0_0 a0_1).bind fun bt195 => (some (wrap64 (-bt195.1), bt195.2))) = some (r1, r2) := h
  clear h
  replace H := Option.bind_eq_some_iff.mp H
  obtain ⟨⟨t195, t196⟩, A20, H⟩ := H
  replace H : (some (wrap64 (-t195), t196)) = some (r1, r2) := H
  have A2 := Aside0.mk A20
  clear A20
  simp only [Option.some.injEq, Prod.mk.injEq] at H
  obtain ⟨rfl, rfl⟩ := H
  go_enter Try.func41, Try.ntmps41
  go_wp2_with (first | ((with_reducible refine zzt (N := 1) rfl ?_); refine zzp ?hg (N := 1) ?hd (cs := #[.int .i64 a0_0, .bool a0_1]) (t := 23) ?hr ?_; (case hd => rfl); (case hg => rfl); (case hr => first | (go_simp; done) | (go_simp; rfl)); intro gb193 hg w3 hbox hb; have n0_ := Aside0.mk (zzl (by repeat (first | (with_reducible first | exact HB.out | apply zzf | apply zza | apply zzg) | exact HB.out)) hb); have n1_ := Aside0.mk (hbox); have n3_ := Aside0.mk ((by rw [hg]; exact (zzk (by repeat (first | (with_reducible first | exact HB.out | apply zzf | apply zza | apply zzg) | exact HB.out))) : w.heap.size ≤ gb193)); clear HB; have HB := n0_; have BK193 := n1_; have GE193 := n3_; clear n0_ n1_ n3_; clear hb hbox hg) | ((with_reducible refine zzt (N := 2) rfl ?_); refine zzp ?hg (N := 2) ?hd (cs := #[.int .i64 0, .bool false]) (t := 23) ?hr ?_; (case hd => rfl); (case hg => rfl); (case hr => first | (go_simp; done) | (go_simp; rfl)); intro gb194 hg w4 hbox hb; have n0_ := Aside0.mk (zzj (g := gb193) (o := .cells #[.int .i64 a0_0, .bool a0_1] 23 (0, 0)) (by (with_reducible repeat first | apply zzc | apply zzd | apply zzb); exact BK193.out) hb); have n1_ := Aside0.mk (zzl (by repeat (first | (with_reducible first | exact HB.out | apply zzf | apply zza | apply zzg | refine zze ?_ GE193.out) | exact HB.out)) hb); have n2_ := Aside0.mk (hbox); have n4_ := Aside0.mk ((by rw [hg]; exact (zzk (by repeat (first | (with_reducible first | exact HB.out | apply zzf | apply zza | apply zzg | refine zze ?_ GE193.out) | exact HB.out))) : w.heap.size ≤ gb194)); have n5_ := Aside0.mk ((by rw [hg]; exact Nat.ne_of_lt (zzr (g := gb193) (o := .cells #[.int .i64 a0_0, .bool a0_1] 23 (0, 0)) (by (with_reducible repeat first | apply zzc | apply zzd | apply zzb); exact BK193.out)) : gb193 ≠ gb194)); have n6_ := Aside0.mk ((by rw [hg]; exact Nat.ne_of_gt (zzr (g := gb193) (o := .cells #[.int .i64 a0_0, .bool a0_1] 23 (0, 0)) (by (with_reducible repeat first | apply zzc | apply zzd | apply zzb); exact BK193.out)) : gb194 ≠ gb193)); clear BK193; clear HB; have BK193 := n0_; have HB := n1_; have BK194 := n2_; have GE194 := n4_; have NB193_194 := n5_; have NB194_193 := n6_; clear n0_ n1_ n2_ n4_ n5_ n6_; clear hb hbox hg; have hnb5 := NB193_194.out; have hnc5 := NB194_193.out; have hcz6_0 : w4.cell? ⟨gb193, 0, none⟩ = some (.int .i64 a0_0) := (zzi BK193.out 0).trans rfl; have hcz6_1 : w4.cell? ⟨gb193, 1, none⟩ = some (.bool a0_1) := (zzi BK193.out 1).trans rfl; have hfz6_0 := zzh BK193.out 0; have hfz6_1 := zzh BK193.out 1) | ((with_reducible refine zzq (f := 72) rfl ?_); refine goesL_ (some 4) rfl rfl Try.func72 (by kernel_rfl) rfl #[.agg #[.int .i64 a0_0, .bool a0_1]] rfl (by (try simp only [List.map_toArray, List.map_cons, List.map_nil]); first | done | rfl | (simp only [List.length_drop, List.length_take]; rfl)) ?_; (with_reducible refine (fixed_sound.calls a0_0 a0_1 t195 t196 _ A2.out).mono ?_); rintro e w7 ⟨rfl, hb⟩; refine ⟨_, rfl, ?_⟩; have n0_ := Aside0.mk (zzj (g := gb193) (o := .cells #[.int .i64 a0_0, .bool a0_1] 23 (0, 0)) (by (with_reducible repeat first | apply zzc | apply zzd | apply zzb); exact BK193.out) hb); have n1_ := Aside0.mk (zzj (g := gb194) (o := .cells #[.int .i64 0, .bool false] 23 (0, 0)) (by (with_reducible repeat first | apply zzc | apply zzd | apply zzb); exact BK194.out) hb); have n2_ := Aside0.mk (zzl (by repeat (first | (with_reducible first | exact HB.out | apply zzf | apply zza | apply zzg | refine zze ?_ GE193.out | refine zze ?_ GE194.out) | exact HB.out)) hb); clear BK193; clear BK194; clear HB; have BK193 := n0_; have BK194 := n1_; have HB := n2_; clear n0_ n1_ n2_; have hcz8_0 : w7.cell? ⟨gb193, 0, none⟩ = some (.int .i64 a0_0) := (zzi BK193.out 0).trans rfl; have hcz8_1 : w7.cell? ⟨gb193, 1, none⟩ = some (.bool a0_1) := (zzi BK193.out 1).trans rfl; have hfz8_0 := zzh BK193.out 0; have hfz8_1 := zzh BK193.out 1; have hcz9_0 : w7.cell? ⟨gb194, 0, none⟩ = some (.int .i64 0) := (zzi BK194.out 0).trans rfl; have hcz9_1 : w7.cell? ⟨gb194, 1, none⟩ = some (.bool false) := (zzi BK194.out 1).trans rfl; have hfz9_0 := zzh BK194.out 0; have hfz9_1 := zzh BK194.out 1))
  refine bodyPost_ret (results_cell_row rfl _ _ gb194 23 #[.int .i64 (wrap64 (-t195)), .bool t196] (0, 0) _ rfl (by (with_reducible repeat first | apply zzc | apply zzd | apply zzb); refine zzo (cs := #[.int .i64 (wrap64 (-t195)), .bool false]) ?_ 1 _ rfl; (with_reducible repeat first | apply zzc | apply zzd | apply zzb); refine zzo (cs := #[.int .i64 0, .bool false]) ?_ 0 _ rfl; (with_reducible repeat first | apply zzc | apply zzd | apply zzb); refine zzs ?_ NB194_193.out _; (with_reducible repeat first | apply zzc | apply zzd | apply zzb); refine zzs ?_ NB194_193.out _; (with_reducible repeat first | apply zzc | apply zzd | apply zzb); refine zzs ?_ NB194_193.out _; (with_reducible repeat first | apply zzc | apply zzd | apply zzb); exact BK194.out) Try.underlying23 rfl (by kernel_rfl)) rfl ?_
  exact ⟨by first | rfl | (simp [zzn, zzm] <;> rfl) | (simp [*, zzn, zzm] <;> rfl), by repeat (first | (with_reducible first | exact HB.out | apply zzf | apply zza | apply zzg | refine zze ?_ GE193.out | refine zze ?_ GE194.out) | exact HB.out)⟩
end Go.Proofs.Ytenpiaafkmfjfaa.B

end
section
namespace Go.Proofs.Ytenpiaafkmfjfaa.B
open Go.RowKit Go.Proofs.YtenpiaafkmfjfaaW.PrintWords Go.Proofs.YtenpiaafkmfjfaaW.PrintLast
set_option linter.unusedVariables false
set_option linter.unusedSimpArgs false
theorem eqA23 (d : Nat) (w : World) (x0 y0 : Int) (x1 y1 : Bool) :
    (Op.equalIn (d + 2) 23 (.agg #[.int .i64 x0, .bool x1]) (.agg #[.int .i64 y0, .bool y1])).run Try.prog w = .ok (x0 == y0 && (x1 == y1)) w := by
  refine eqA_of Try.underlying23 (by kernel_rfl) ?_
  refine eqf_cons (by rfl) (by go_simp; rfl) (by go_simp; rfl) (by go_simp) ?_
  exact eqf_last (by rfl) (by go_simp; rfl) (by go_simp; rfl) (by go_simp)
end Go.Proofs.Ytenpiaafkmfjfaa.B

end
section
namespace Go.Proofs.Ytenpiaafkmfjfaa.B
def sv (v : Int) : Int := if v = -9223372036854775808 then -9223372036854775807 else v
def sf (v : Int) (f : Bool) : Bool := if v = -9223372036854775808 then true else f
theorem sound_f (v : Int) (f : Bool) : fixed_sound.f v f = some (sv v, sf v f) := by
  unfold fixed_sound.f sv sf; split <;> rfl
end Go.Proofs.Ytenpiaafkmfjfaa.B

end
section
namespace Go.Proofs.Ytenpiaafkmfjfaa.B
set_option linter.unusedVariables false
open Go.RowKit Go.Proofs.YtenpiaafkmfjfaaW.PrintWords Go.Proofs.YtenpiaafkmfjfaaW.PrintLast
def vals (l : List S23) : List Int := l.map fun x => sv x.f0
def anyF (l : List S23) : Bool := l.any fun x => sf x.f0 x.f1
def fixed_values.f (l0 : List S23) : Option (List Int × Bool) := if l0.length ≤ 1000000 then some (vals l0, anyF l0) else none
def rowA (l : List S23) (k : Nat) : Array Value := (((vals (l.take k)).map (Value.int .i64)) ++ List.replicate (l.length - k) (Value.int .i64 0)).toArray
theorem rowA_zero (l : List S23) : madeCells #[.int .i64 0] l.length = rowA l 0 := by
  unfold madeCells rowA vals
  apply Array.ext'
  simp
  apply List.ext_getElem
  · simp
  · intro i h1 h2
    simp [Nat.mod_one]
theorem take_get (l : List S23) (k : Nat) (h : k < l.length) : l.take (k + 1) = l.take k ++ [rd_T23 l (k : Int)] := by
  rw [List.take_succ_eq_append_getElem h]
  unfold rd_T23
  simp [List.getD_eq_getElem?_getD, h]
theorem rowA_put (l : List S23) (k : Nat) (h : k < l.length) : (rowA l k).setIfInBounds k (.int .i64 (sv (rd_T23 l (k : Int)).f0)) = rowA l (k + 1) := by
  have e := take_get l k h
  have h2 : l.length - k = (l.length - (k + 1)) + 1 := by omega
  have hl : ((vals (l.take k)).map (Value.int .i64)).length = k := by simp [vals]; omega
  unfold rowA
  rw [e, h2, List.replicate_succ]
  apply Array.ext'
  simp only [Array.toList_setIfInBounds, vals, List.map_append, List.map_map, List.map_cons, List.map_nil]
  simp only [vals, List.map_map] at hl
  rw [List.set_append_right _ _ (by omega), hl, Nat.sub_self]
  simp
theorem anyF_succ (l : List S23) (k : Nat) (h : k < l.length) : anyF (l.take (k + 1)) = (anyF (l.take k) || sf (rd_T23 l (k : Int)).f0 (rd_T23 l (k : Int)).f1) := by
  rw [take_get l k h]; simp [anyF]
theorem own_row (base g : Nat) (l : List S23) (w : World) (hn : l.length ≤ 1000000) (hb : w.heap[g]? = some (.cells (rowA l l.length) 2 (0, 0))) (hg : base ≤ g) :
    Kd.R (Kd.int .i64) 2 w base (fun _ => True) (.slice (some ⟨g, 0, none⟩) l.length l.length) (vals l) := by
  have hv : (vals l).length = l.length := by simp [vals]
  refine ⟨fun _ _ => trivial, (vals l).map (Value.int .i64), ⟨by simp [Kd.int, Kd.scalar], .inr ⟨g, l.length, _, ?_, hg, hb, ?_, ?_, ?_, ?_⟩⟩, ?_⟩
  · rw [hv]
  · omega
  · unfold maxLen; omega
  · simp [rowA, vals, Kd.int, Kd.scalar]
  · simp [rowA, vals, Kd.int, Kd.scalar]
    rw [List.take_of_length_le (by simp)]
  · refine ⟨by simp [Kd.int, Kd.scalar], fun j p hj => ?_⟩
    simp only [Kd.int, Kd.scalar, Nat.mul_one]
    have : j < (vals l).length := (List.getElem?_eq_some_iff.1 hj).1
    apply List.ext_getElem?
    intro i
    cases i with
    | zero => simp [hj]
    | succ i => simp [List.getElem?_take]
set_option maxHeartbeats 2000000 in
set_option maxRecDepth 100000 in
theorem fixed_values.calls (A0 : Option Addr) (c0 : Nat) (l0 : List S23) (r1 : List Int) (r2 : Bool) (w : World) (hr0 : Kd.C k23 w A0 l0.length l0) (hc0 : l0.length ≤ c0) (h : fixed_values.f l0 = some (r1, r2)) :
    Calls Try.prog 81 #[.slice A0 l0.length c0] w fun e w' => ∃ v0_ : Value, e = .returned (.tuple #[v0_, .bool r2]) ∧ Kd.R (Kd.int .i64) 2 w' w.heap.size (fun _ => True) v0_ r1 ∧ Below w.heap.size w w' := by
  unfold fixed_values.f at h
  by_cases hn : l0.length ≤ 1000000
  · rw [if_pos hn] at h
    simp only [Option.some.injEq, Prod.mk.injEq] at h
    obtain ⟨rfl, rfl⟩ := h
    have hu23 := Try.underlying23
    have hmk := run_make_row' (P := Try.prog) 70 2 (.int .i64 0) 8 Try.underlying70 info2 rfl .i64 .i64 l0.length (by omega) (by omega) w
    rw [rowA_zero] at hmk
    have HR : Hid (Kd.C k23 w A0 l0.length l0) := hr0
    clear hr0
    go_enter Try.func81, Try.ntmps81
    go_wp2
    have hG : (w.alloc (.cells (rowA l0 0) 2)).heap[w.heap.size]? = some (.cells (rowA l0 0) 2 (0, 0)) := blk_new w _
    have hB : Below w.heap.size w (w.alloc (.cells (rowA l0 0) 2)) := zzf (Below.refl _ _) _
    clear hmk
    go_loopw [5, 13] (fun f i wr => ∃ k : Nat, k ≤ l0.length ∧ i = .int .i64 k ∧ f = .bool (anyF (l0.take k)) ∧ Hid (wr.heap[w.heap.size]? = some (.cells (rowA l0 k) 2 (0, 0))) ∧ Hid (Below w.heap.size w wr)) (fun _ i _ => l0.length - (intOf i).toNat)
    case atStart => exact ⟨0, by omega, rfl, rfl, hG, hB⟩
    case round =>
      clear hG hB
      obtain ⟨k, hk, rfl, rfl, hG, hB⟩ := hrel
      by_cases hlt : k < l0.length
      · obtain ⟨ad, he, hc0', hc1'⟩ := at_T23 (Kd.C_below HR.out hB.out) (k : Int) (by omega) (by omega)
        subst he
        generalize hx : rd_T23 l0 (k : Int) = x at hc0' hc1'
        have HX : Hid (rd_T23 l0 (k : Int) = x) := hx
        clear hx
        simp only [Int.toNat_natCast] at hc0' hc1'
        go_wp2_with fail
        refine (fixed_sound.calls x.f0 x.f1 _ _ _ (sound_f _ _)).mono ?_
        rintro e w1 ⟨rfl, hb⟩
        have hltG : w.heap.size < wr.heap.size := zzr hG.out
        have hbox : w1.heap[wr.heap.size]? = some (.cells #[.int .i64 x.f0, .bool x.f1] 23 (0, 0)) := zzj (blk_new wr _) hb
        have hG1 : Hid (w1.heap[w.heap.size]? = some (.cells (rowA l0 k) 2 (0, 0))) := zzj (zzb hG.out _) hb
        have hB1 : Hid (Below w.heap.size w w1) := zzl (zzf hB.out _) hb
        have q0 : w1.cell? ⟨wr.heap.size, 0, none⟩ = some (.int .i64 x.f0) := (zzi hbox 0).trans rfl
        have q1 : w1.cell? ⟨wr.heap.size, 1, none⟩ = some (.bool x.f1) := (zzi hbox 1).trans rfl
        have z0 := zzh hbox 0
        have z1 := zzh hbox 1
        have HBX : Hid (w1.heap[wr.heap.size]? = some (.cells #[.int .i64 x.f0, .bool x.f1] 23 (0, 0))) := hbox
        clear hbox hb hc0' hc1'
        go_wp2_with fail
        have hneG : w.heap.size ≠ wr.heap.size := Nat.ne_of_lt hltG
        have hneG' : wr.heap.size ≠ w.heap.size := Nat.ne_of_gt hltG
        have hbox2 : Hid (((w1.setCell ⟨wr.heap.size, 0, none⟩ (.int .i64 (sv x.f0))).setCell ⟨wr.heap.size, 1, none⟩ (.bool (sf x.f0 x.f1))).heap[wr.heap.size]? = some (.cells #[.int .i64 (sv x.f0), .bool (sf x.f0 x.f1)] 23 (0, 0))) := zzo (cs := #[.int .i64 (sv x.f0), .bool x.f1]) (zzo (cs := #[.int .i64 x.f0, .bool x.f1]) HBX.out 0 _ rfl) 1 _ rfl
        have hG2 : Hid (((w1.setCell ⟨wr.heap.size, 0, none⟩ (.int .i64 (sv x.f0))).setCell ⟨wr.heap.size, 1, none⟩ (.bool (sf x.f0 x.f1))).heap[w.heap.size]? = some (.cells (rowA l0 k) 2 (0, 0))) := zzs (zzs hG1.out hneG _) hneG _
        have hB2 : Hid (Below w.heap.size w ((w1.setCell ⟨wr.heap.size, 0, none⟩ (.int .i64 (sv x.f0))).setCell ⟨wr.heap.size, 1, none⟩ (.bool (sf x.f0 x.f1)))) := zze (zze hB1.out (by omega)) (by omega)
        clear hG1 hB1 q0 q1 z0 z1 HBX
        generalize (w1.setCell ⟨wr.heap.size, 0, none⟩ (.int .i64 (sv x.f0))).setCell ⟨wr.heap.size, 1, none⟩ (.bool (sf x.f0 x.f1)) = W at hbox2 hG2 hB2 ⊢
        have q0 : W.cell? ⟨wr.heap.size, 0, none⟩ = some (.int .i64 (sv x.f0)) := (zzi hbox2.out 0).trans rfl
        have q1 : W.cell? ⟨wr.heap.size, 1, none⟩ = some (.bool (sf x.f0 x.f1)) := (zzi hbox2.out 1).trans rfl
        have hsz : k < (rowA l0 k).size := by simp [rowA, vals]; omega
        have q2 : W.cell? ⟨w.heap.size, k, none⟩ = some ((rowA l0 k)[k]'hsz) := (zzi hG2.out k).trans (Array.getElem?_eq_getElem hsz)
        have z2 := zzh hG2.out k
        generalize (rowA l0 k)[k]'hsz = old at q2
        have q3 : (W.setCell ⟨w.heap.size, k, none⟩ (.int .i64 (sv x.f0))).cell? ⟨wr.heap.size, 1, none⟩ = some (.bool (sf x.f0 x.f1)) := by rw [World.cell?_setCell_other _ _ _ _ (fun e => hneG (congrArg Addr.block e))]; exact q1
        have hG3 : Hid ((W.setCell ⟨w.heap.size, k, none⟩ (.int .i64 (sv x.f0))).heap[w.heap.size]? = some (.cells (rowA l0 (k + 1)) 2 (0, 0))) := zzo hG2.out k _ (by rw [← HX.out]; exact rowA_put l0 k hlt)
        have hB3 : Hid (Below w.heap.size w (W.setCell ⟨w.heap.size, k, none⟩ (.int .i64 (sv x.f0)))) := zze hB2.out (Nat.le_refl _)
        have hfl : Hid (anyF (l0.take (k + 1)) = (anyF (l0.take k) || sf x.f0 x.f1)) := by rw [← HX.out]; exact anyF_succ l0 k hlt
        clear hbox2 hG2 hB2 hsz
        generalize anyF (l0.take k) = fl at hfl
        cases fl
        all_goals
          go_region
          go_wp2
          go_roundw
          case rel => exact ⟨k + 1, by omega, by go_num, by rw [hfl.out]; rfl, hG3.out, zzg hB3.out⟩
          case measure => simp [intOf]; omega
      · obtain rfl : k = l0.length := by omega
        go_wp2
        refine bodyPost_ret (v := .tuple #[.slice (some ⟨w.heap.size, 0, none⟩) l0.length l0.length, .bool (anyF (l0.take l0.length))]) (by simp [results, Try.results81, go_sem]) rfl ?_
        exact ⟨_, by rw [List.take_length], own_row _ _ l0 _ hn hG.out (Nat.le_refl _), hB.out⟩
  · rw [if_neg hn] at h
    cases h
end Go.Proofs.Ytenpiaafkmfjfaa.B

end
