/- FixedRooted: part 4 of the proof. -/
import Derived.Test.YtenpiaafkmfjfaaQFixedRooted3
import Derived.Shelf.Bits.Mul64
section
namespace Go.Proofs.Ytenpiaafkmfjfaa.B
open Go.RowKit Go.Proofs.YtenpiaafkmfjfaaW.PrintWords Go.Proofs.YtenpiaafkmfjfaaW.PrintLast Go.Proofs.YtenpiaafkmfjfaaW.PrintMore
theorem sv_snd {v : Int} (h1 : -9223372036854775808 ≤ v) (h2 : v ≤ 9223372036854775807) : Snd (sv v) := by
  unfold sv Snd; split <;> omega
theorem of_ex {v : Int} (h : Snd v) : ∃ n lo, fixed_of.f v = some (n, lo, 0) ∧ Ex n lo 0 v := by
  unfold Snd at h
  unfold fixed_of.f
  by_cases hv : v < 0
  · rw [if_pos hv]
    refine ⟨_, _, rfl, ?_⟩
    have e : IntKind.u64.wrap (-(IntKind.u64.wrap v)) = -v := by rw [IntKind.wrap_u64, IntKind.wrap_u64]; omega
    rw [e]
    exact ⟨by omega, by omega, by omega, by omega, fun h => absurd h (by decide), fun _ => by omega⟩
  · rw [if_neg hv]
    refine ⟨_, _, rfl, ?_⟩
    rw [u64_id (by omega) (by omega)]
    exact ⟨by omega, by omega, by omega, by omega, fun _ => by omega, fun h => absurd h (by decide)⟩
theorem fit_ex {n : Bool} {lo hi x : Int} (h : Ex n lo hi x) (f : Bool) (k : Nat) (hk : 1 ≤ k) : fixed_exact_fit.f k n lo hi f = some (fitV x, fitF x f) := by
  obtain ⟨k, rfl⟩ : ∃ m, k = m + 1 := ⟨k - 1, by omega⟩
  obtain ⟨h1, h2, h3, h4, hp, hm⟩ := h
  unfold fixed_exact_fit.f
  by_cases h0 : hi = 0
  · subst h0
    rw [if_pos rfl]
    simp only [fixed_exact_fit.j0]
    by_cases hl : lo ≤ 9223372036854775807
    · have ew : wrap64 lo = lo := wrap64_id (by omega) (by omega)
      rw [if_pos (decide_eq_true hl), ew]
      have hs : Snd x := by
        unfold Snd
        cases n
        · have := hp rfl; omega
        · have := hm rfl; omega
      rw [fitV_id hs, fitF_id hs]
      cases n
      · have := hp rfl
        simp only [Bool.false_eq_true, if_false]
        rw [show lo = x by omega]
      · have := hm rfl
        simp only [if_true]
        rw [wrap64_id (by omega) (by omega), show -lo = x by omega]
    · rw [if_neg (by simpa using hl)]
      cases n
      · have := hp rfl
        simp only [Bool.false_eq_true, if_false]
        unfold fitV fitF
        rw [if_pos (by omega), if_pos (by omega)]
      · have := hm rfl
        simp only [if_true]
        unfold fitV fitF
        rw [if_neg (by omega), if_pos (by omega), if_neg (by omega), if_pos (by omega), wrap64_id (by omega) (by omega)]
  · rw [if_neg h0]
    simp only [fixed_exact_fit.j0]
    rw [if_neg (by decide)]
    cases n
    · have := hp rfl
      simp only [Bool.false_eq_true, if_false]
      unfold fitV fitF
      rw [if_pos (by omega), if_pos (by omega)]
    · have := hm rfl
      simp only [if_true]
      unfold fitV fitF
      rw [if_neg (by omega), if_pos (by omega), if_neg (by omega), if_pos (by omega), wrap64_id (by omega) (by omega)]
theorem mul64_f (x y : Nat) (hx : x < 18446744073709551616) (hy : y < 18446744073709551616) : bits_Mul64.f x y = some (((x * y / 18446744073709551616 : Nat) : Int), ((x * y % 18446744073709551616 : Nat) : Int)) := by
  obtain ⟨bd, bt, bw, hhi⟩ := Lib.mul64_hi x y hx hy
  have ba := Lib.half_mul_le (a := x / 4294967296) (b := y / 4294967296) (by omega) (by omega)
  have bb := Lib.half_mul_le (a := x / 4294967296) (b := y % 4294967296) (by omega) (by omega)
  have bc := Lib.half_mul_le (a := x % 4294967296) (b := y / 4294967296) (by omega) (by omega)
  have ba' : x / 4294967296 * (y / 4294967296) < 18446744073709551616 := by omega
  have bb' : x / 4294967296 * (y % 4294967296) < 18446744073709551616 := by omega
  have bc' : x % 4294967296 * (y / 4294967296) < 18446744073709551616 := by omega
  have bh1 : x / 4294967296 * (y / 4294967296) + (x / 4294967296 * (y % 4294967296) + x % 4294967296 * (y % 4294967296) / 4294967296) / 4294967296 < 18446744073709551616 := by omega
  have bh : x / 4294967296 * (y / 4294967296) + (x / 4294967296 * (y % 4294967296) + x % 4294967296 * (y % 4294967296) / 4294967296) / 4294967296 + ((x / 4294967296 * (y % 4294967296) + x % 4294967296 * (y % 4294967296) / 4294967296) % 4294967296 + x % 4294967296 * (y / 4294967296)) / 4294967296 < 18446744073709551616 := by omega
  unfold bits_Mul64.f
  simp only [Mul64.maskN x hx, Mul64.maskN y hy, Mul64.divN, Mul64.mulN, Mul64.addN, Mul64.wrapN _ bd, Mul64.wrapN _ bb', Mul64.wrapN _ bt, Mul64.maskN _ bt, Mul64.wrapN _ bc', Mul64.wrapN _ bw, Mul64.wrapN _ ba', Mul64.wrapN _ bh1, Mul64.wrapN _ bh, Mul64.wrapM (x * y)]
  rw [hhi]
end Go.Proofs.Ytenpiaafkmfjfaa.B

end
section
namespace Go.Proofs.Ytenpiaafkmfjfaa.B
open Go.RowKit Go.Proofs.YtenpiaafkmfjfaaW.PrintWords Go.Proofs.YtenpiaafkmfjfaaW.PrintLast Go.Proofs.YtenpiaafkmfjfaaW.PrintMore
attribute [local go_sem] max2_int min2_int max_two min_two max_three min_three max_four min_four
set_option linter.unusedVariables false
set_option linter.unusedSimpArgs false
theorem eqA64 (d : Nat) (w : World) (x0 y0 : Bool) (x1 y1 : Int) (x2 y2 : Int) :
    (Op.equalIn (d + 2) 64 (.agg #[.bool x0, .int .u64 x1, .int .u64 x2]) (.agg #[.bool y0, .int .u64 y1, .int .u64 y2])).run Try.prog w = .ok (x0 == y0 && (x1 == y1 && (x2 == y2))) w := by
  refine eqA_of Try.underlying64 (by kernel_rfl) ?_
  refine eqf_cons (by rfl) (by go_simp; rfl) (by go_simp; rfl) (by go_simp) ?_
  refine eqf_cons (by rfl) (by go_simp; rfl) (by go_simp; rfl) (by go_simp) ?_
  exact eqf_last (by rfl) (by go_simp; rfl) (by go_simp; rfl) (by go_simp)
end Go.Proofs.Ytenpiaafkmfjfaa.B

end
section
namespace Go.Proofs.Ytenpiaafkmfjfaa.B
open Go.RowKit Go.Proofs.YtenpiaafkmfjfaaW.PrintWords Go.Proofs.YtenpiaafkmfjfaaW.PrintLast Go.Proofs.YtenpiaafkmfjfaaW.PrintMore
def I64 (v : Int) : Prop := -9223372036854775808 ≤ v ∧ v ≤ 9223372036854775807
theorem Snd.i64 {v : Int} (h : Snd v) : I64 v := by unfold Snd at h; unfold I64; omega
def sgn3 (x y : Int) : Int := if x < y then -1 else if x = y then 0 else 1
theorem of_f {v : Int} (h : I64 v) : fixed_of.f v = some (decide (v < 0), (v.natAbs : Int), 0) := by
  unfold I64 at h
  unfold fixed_of.f
  by_cases hv : v < 0
  · rw [if_pos hv, decide_eq_true hv]
    have e : IntKind.u64.wrap (-(IntKind.u64.wrap v)) = (v.natAbs : Int) := by rw [IntKind.wrap_u64, IntKind.wrap_u64]; omega
    rw [e]
  · rw [if_neg hv, decide_eq_false hv, u64_id (by omega) (by omega)]
    rw [show (v.natAbs : Int) = v by omega]
theorem abs_mul_le {a b : Int} (ha : I64 a) (hb : I64 b) : a.natAbs * b.natAbs ≤ 85070591730234615865843651857942052864 := by
  unfold I64 at ha hb
  have := Nat.mul_le_mul (show a.natAbs ≤ 9223372036854775808 by omega) (show b.natAbs ≤ 9223372036854775808 by omega)
  omega
theorem mul_sign (a b : Int) : (decide (a < 0) != decide (b < 0)) = true → a * b = -((a.natAbs * b.natAbs : Nat) : Int) := by
  intro h
  rw [Int.natCast_mul]
  by_cases ha : a < 0
  · by_cases hb : b < 0
    · simp [ha, hb] at h
    · rw [show (a.natAbs : Int) = -a by omega, show (b.natAbs : Int) = b by omega, Int.neg_mul, Int.neg_neg]
  · by_cases hb : b < 0
    · rw [show (a.natAbs : Int) = a by omega, show (b.natAbs : Int) = -b by omega, Int.mul_neg, Int.neg_neg]
    · simp [ha, hb] at h
theorem mul_sign' (a b : Int) : (decide (a < 0) != decide (b < 0)) = false → a * b = ((a.natAbs * b.natAbs : Nat) : Int) := by
  intro h
  rw [Int.natCast_mul]
  by_cases ha : a < 0
  · by_cases hb : b < 0
    · rw [show (a.natAbs : Int) = -a by omega, show (b.natAbs : Int) = -b by omega, Int.neg_mul_neg]
    · simp [ha, hb] at h
  · by_cases hb : b < 0
    · simp [ha, hb] at h
    · rw [show (a.natAbs : Int) = a by omega, show (b.natAbs : Int) = b by omega]
theorem ex_nat (n : Bool) (p : Nat) (x : Int) (hp : p ≤ 85070591730234615865843651857942052864) (h1 : n = false → x = (p : Int)) (h2 : n = true → x = -(p : Int)) : Ex n ((p % 18446744073709551616 : Nat) : Int) ((p / 18446744073709551616 : Nat) : Int) x :=
  ⟨by omega, by omega, by omega, by omega, fun e => by have := h1 e; omega, fun e => by have := h2 e; omega⟩
theorem product_ex {a b : Int} (ha : I64 a) (hb : I64 b) : ∃ n lo hi, fixed_product.f a b = some (n, lo, hi) ∧ Ex n lo hi (a * b) := by
  have hp := abs_mul_le ha hb
  unfold fixed_product.f
  rw [of_f ha, of_f hb]
  unfold I64 at ha hb
  simp only [Option.bind_some, mul64_f a.natAbs b.natAbs (by omega) (by omega)]
  exact ⟨_, _, _, rfl, ex_nat _ _ _ hp (mul_sign' a b) (mul_sign a b)⟩
structure Rx (n : Bool) (hi lo x : Int) : Prop where
  ex : Ex n lo hi x
  s : n = decide (x < 0)
theorem add64s_i {x y c : Int} (hx : 0 ≤ x) (hy : 0 ≤ y) (hc : 0 ≤ c) : add64s x y c = (x + y + c) % 18446744073709551616 := by unfold add64s; omega
theorem add64c_i {x y c : Int} (hx : 0 ≤ x) (hy : 0 ≤ y) (hc : 0 ≤ c) : add64c x y c = (x + y + c) / 18446744073709551616 := by unfold add64c; omega
theorem sub64s_i {x y c : Int} (hx : 0 ≤ x) (hy : 0 ≤ y) (hy' : y < 18446744073709551616) (hc : c = 0 ∨ c = 1) : sub64s x y c = (x - y - c) % 18446744073709551616 := by unfold sub64s; omega
theorem sub64c_i {x y c : Int} (hx : 0 ≤ x) (hy : 0 ≤ y) (hc : c = 0 ∨ c = 1) : sub64c x y c = if x < y + c then 1 else 0 := by
  unfold sub64c
  by_cases h : x < y + c
  · rw [if_pos h, if_pos (by omega)]; rfl
  · rw [if_neg h, if_neg (by omega)]; rfl
theorem compare_u (a b : Int) : cmp_Compare_uint64.f a b = some (sgn3 a b) := by
  unfold cmp_Compare_uint64.f cmp_isNaN_uint64.f sgn3
  simp only [bne_self_eq_false, Option.bind_some, Bool.false_eq_true, if_false]
  by_cases h : a < b
  · rw [if_pos h, if_pos h]
  · rw [if_neg h, if_neg h]
    by_cases h2 : a = b
    · rw [if_pos h2, if_neg (by omega)]
    · rw [if_neg h2, if_pos (by omega)]
theorem compare_i (a b : Int) : cmp_Compare_int64.f a b = some (sgn3 a b) := by
  unfold cmp_Compare_int64.f cmp_isNaN_int64.f sgn3
  simp only [bne_self_eq_false, Option.bind_some, Bool.false_eq_true, if_false]
  by_cases h : a < b
  · rw [if_pos h, if_pos h]
  · rw [if_neg h, if_neg h]
    by_cases h2 : a = b
    · rw [if_pos h2, if_neg (by omega)]
    · rw [if_neg h2, if_pos (by omega)]
theorem or_two (k : Nat) (hk : 3 ≤ k) (a b : Int) : cmp_Or_int.f k [a, b] = some (if a = 0 then b else a) := by
  obtain ⟨k, rfl⟩ : ∃ m, k = m + 3 := ⟨k - 3, by omega⟩
  unfold cmp_Or_int.f
  rw [cmp_Or_int.l0]
  simp only [show (([a, b] : List Int).length : Int) = 2 by rfl, show rd [a, b] 0 = a by rfl, show ((0 : Int) < 2) by decide, show ((0 : Int) ≤ 0) by decide, if_true]
  by_cases ha : a = 0
  · subst ha
    rw [if_pos rfl, if_pos rfl, show wrap64 (0 + 1) = 1 from wrap64_id (by decide) (by decide), cmp_Or_int.l0]
    simp only [show (([0, b] : List Int).length : Int) = 2 by rfl, show rd [0, b] 1 = b by rfl, show ((1 : Int) < 2) by decide, show ((0 : Int) ≤ 1) by decide, if_true]
    by_cases hb : b = 0
    · subst hb
      rw [if_pos rfl, show wrap64 (1 + 1) = 2 from wrap64_id (by decide) (by decide), cmp_Or_int.l0]
      simp
    · rw [if_neg hb]
  · rw [if_neg ha, if_neg ha]
theorem words_cmp (k : Nat) (hk : 3 ≤ k) {lo1 hi1 lo2 hi2 : Int} (h1 : 0 ≤ lo1) (h2 : lo1 < 18446744073709551616) (h3 : 0 ≤ lo2) (h4 : lo2 < 18446744073709551616) :
    fixed_words_compare.f k lo1 hi1 lo2 hi2 = some (sgn3 (hi1 * 18446744073709551616 + lo1) (hi2 * 18446744073709551616 + lo2)) := by
  unfold fixed_words_compare.f
  simp only [compare_u, Option.bind_some, or_two k hk]
  unfold sgn3
  by_cases a : hi1 < hi2
  · simp only [if_pos a]
    rw [if_neg (by decide), if_pos (by omega)]
  · by_cases b : hi1 = hi2
    · subst b
      simp only [if_neg a, if_true]
      by_cases c : lo1 < lo2
      · rw [if_pos c, if_pos (by omega)]
      · by_cases d : lo1 = lo2
        · rw [if_neg c, if_pos d, if_neg (by omega), if_pos (by omega)]
        · rw [if_neg c, if_neg d, if_neg (by omega), if_neg (by omega)]
    · simp only [if_neg a, if_neg b]
      rw [if_neg (by decide), if_neg (by omega), if_neg (by omega)]
theorem plus_ex (k : Nat) (hk : 3 ≤ k) {n1 n2 : Bool} {lo1 hi1 lo2 hi2 x y : Int} (h : Ex n1 lo1 hi1 x) (g : Ex n2 lo2 hi2 y) (hb : (x + y).natAbs < 170141183460469231731687303715884105728) :
    ∃ n lo hi, fixed_exact_plus.f k n1 lo1 hi1 n2 lo2 hi2 = some (n, lo, hi) ∧ Ex n lo hi (x + y) := by
  have ah := h.abs
  have ag := g.abs
  obtain ⟨a1, a2, a3, a4, ap, am⟩ := h
  obtain ⟨b1, b2, b3, b4, bp, bm⟩ := g
  unfold fixed_exact_plus.f
  by_cases hn : n1 = n2
  · subst hn
    rw [if_pos (by simp)]
    have hs : hi1 * 18446744073709551616 + lo1 + (hi2 * 18446744073709551616 + lo2) < 170141183460469231731687303715884105728 := by
      cases n1
      · have := ap rfl; have := bp rfl; omega
      · have := am rfl; have := bm rfl; omega
    rw [add64c_i a1 b1 (by omega), add64s_i a1 b1 (by omega), add64s_i a3 b3 (by omega), if_pos (by omega)]
    refine ⟨_, _, _, rfl, by omega, by omega, by omega, by omega, fun e => ?_, fun e => ?_⟩
    · have := ap e; have := bp e; omega
    · have := am e; have := bm e; omega
  · rw [if_neg (by simpa using hn), words_cmp k hk a1 a2 b1 b2]
    simp only [Option.bind_some]
    by_cases c : hi1 * 18446744073709551616 + lo1 < hi2 * 18446744073709551616 + lo2
    · rw [show sgn3 (hi1 * 18446744073709551616 + lo1) (hi2 * 18446744073709551616 + lo2) = -1 by unfold sgn3; rw [if_pos c]]
      rw [if_pos (by decide), sub64c_i b1 a1 (Or.inl rfl), sub64s_i b1 a1 a2 (Or.inl rfl)]
      refine ⟨_, _, _, rfl, ?_⟩
      by_cases d : lo2 < lo1 + 0
      · rw [if_pos d, sub64s_i b3 a3 (by omega) (Or.inr rfl)]
        refine ⟨by omega, by omega, by omega, by omega, fun e => ?_, fun e => ?_⟩
        · have := bp e; cases n1
          · exact absurd e.symm hn
          · have := am rfl; omega
        · have := bm e; cases n1
          · have := ap rfl; omega
          · exact absurd e.symm hn
      · rw [if_neg d, sub64s_i b3 a3 (by omega) (Or.inl rfl)]
        refine ⟨by omega, by omega, by omega, by omega, fun e => ?_, fun e => ?_⟩
        · have := bp e; cases n1
          · exact absurd e.symm hn
          · have := am rfl; omega
        · have := bm e; cases n1
          · have := ap rfl; omega
          · exact absurd e.symm hn
    · rw [if_neg (by unfold sgn3; rw [if_neg c]; split <;> decide), sub64c_i a1 b1 (Or.inl rfl), sub64s_i a1 b1 b2 (Or.inl rfl)]
      refine ⟨_, _, _, rfl, ?_⟩
      by_cases d : lo1 < lo2 + 0
      · rw [if_pos d, sub64s_i a3 b3 (by omega) (Or.inr rfl)]
        refine ⟨by omega, by omega, by omega, by omega, fun e => ?_, fun e => ?_⟩
        · have := ap e; cases n2
          · exact absurd e hn
          · have := bm rfl; omega
        · have := am e; cases n2
          · have := bp rfl; omega
          · exact absurd e hn
      · rw [if_neg d, sub64s_i a3 b3 (by omega) (Or.inl rfl)]
        refine ⟨by omega, by omega, by omega, by omega, fun e => ?_, fun e => ?_⟩
        · have := ap e; cases n2
          · exact absurd e hn
          · have := bm rfl; omega
        · have := am e; cases n2
          · have := bp rfl; omega
          · exact absurd e hn
theorem Ex.neg {n : Bool} {lo hi x : Int} (h : Ex n lo hi x) : Ex (!n) lo hi (-x) := by
  obtain ⟨a1, a2, a3, a4, ap, am⟩ := h
  refine ⟨a1, a2, a3, a4, fun e => ?_, fun e => ?_⟩
  · have := am (by simpa using e); omega
  · have := ap (by simpa using e); omega
theorem mul_lo {a b : Int} (ha : I64 a) (hb : I64 b) : -85070591730234615856620279821087277056 ≤ a * b ∧ a * b ≤ 85070591730234615865843651857942052864 := by
  have hp := abs_mul_le ha hb
  refine ⟨?_, ?_⟩
  · by_cases hs : (decide (a < 0) != decide (b < 0)) = true
    · rw [mul_sign a b hs]
      unfold I64 at ha hb
      by_cases h : a < 0
      · have hb0 : ¬ b < 0 := by intro h2; simp [h, h2] at hs
        have := Nat.mul_le_mul (show a.natAbs ≤ 9223372036854775808 by omega) (show b.natAbs ≤ 9223372036854775807 by omega)
        omega
      · have := Nat.mul_le_mul (show a.natAbs ≤ 9223372036854775807 by omega) (show b.natAbs ≤ 9223372036854775808 by omega)
        omega
    · rw [mul_sign' a b (by simpa using hs)]; omega
  · by_cases hs : (decide (a < 0) != decide (b < 0)) = true
    · rw [mul_sign a b hs]; omega
    · rw [mul_sign' a b (by simpa using hs)]; omega
theorem order_f (k : Nat) (hk : 3 ≤ k) {a b c d : Int} (ha : I64 a) (hb : I64 b) (hc : I64 c) (hd : I64 d) : fixed_Order.f k a b c d = some (sgn3 (a * b) (c * d)) := by
  obtain ⟨n1, lo1, hi1, e1, x1⟩ := product_ex ha hb
  obtain ⟨n2, lo2, hi2, e2, x2⟩ := product_ex hc hd
  have m1 := mul_lo ha hb
  have m2 := mul_lo hc hd
  have m : (a * b + -(c * d)).natAbs < 170141183460469231731687303715884105728 := by omega
  obtain ⟨n, lo, hi, e, x⟩ := plus_ex k hk x1 x2.neg m
  unfold fixed_Order.f
  rw [e1, e2]
  simp only [Option.bind_some, e]
  have ax := x.abs
  obtain ⟨p1, p2, p3, p4, pp, pm⟩ := x
  generalize a * b = u at *
  generalize c * d = v at *
  unfold sgn3
  by_cases h0 : u = v
  · rw [if_pos (by rw [show lo = 0 by omega, show hi = 0 by omega]; decide), if_neg (by omega), if_pos h0]
  · rw [if_neg (by intro h; simp at h; omega)]
    cases n
    · have := pp rfl
      rw [if_neg (by decide), if_neg (by omega), if_neg h0]
    · have := pm rfl
      rw [if_pos rfl, if_pos (by omega)]
theorem sv_i64 {v : Int} (h : I64 v) : Snd (sv v) := by unfold I64 at h; exact sv_snd h.1 h.2
theorem up_f {n : Bool} {lo : Int} (h0 : 0 ≤ lo) (h1 : lo < 18446744073709551616) : fixed_exact_up.f n lo 0 = some (n, lo % 4294967296 * 4294967296, lo / 4294967296) := by
  unfold fixed_exact_up.f
  rw [u64_id (x := 0 * 4294967296) (by omega) (by omega), or32 0 _ (by omega) (by omega) (by omega) (by omega), IntKind.wrap_u64]
  congr 3 <;> omega
theorem int_f (k : Nat) (hk : 1 ≤ k) {v : Int} (h : I64 v) : fixed_Int.f k v = some (fitV (v * 4294967296), fitF (v * 4294967296) false) := by
  unfold fixed_Int.f
  rw [of_f h]
  unfold I64 at h
  simp only [Option.bind_some]
  rw [up_f (by omega) (by omega)]
  simp only [Option.bind_some]
  rw [fit_ex (x := v * 4294967296) _ false k hk]
  · rfl
  · refine ⟨by omega, by omega, by omega, by omega, fun e => ?_, fun e => ?_⟩
    · have := of_decide_eq_false e; omega
    · have := of_decide_eq_true e; omega
theorem div_two (hi lo d : Nat) (hd : 0 < d) : (hi * 18446744073709551616 + lo) / d = hi / d * 18446744073709551616 + (hi % d * 18446744073709551616 + lo) / d := by
  have e : hi * 18446744073709551616 + lo = d * (hi / d * 18446744073709551616) + (hi % d * 18446744073709551616 + lo) := by
    have := Nat.div_add_mod hi d
    have e2 : d * (hi / d * 18446744073709551616) = d * (hi / d) * 18446744073709551616 := by rw [Nat.mul_assoc]
    rw [e2]
    omega
  rw [e, Nat.mul_add_div hd]
theorem tdiv_abs (x y : Int) : x.tdiv y = if (decide (x < 0) != decide (y < 0)) = true then -((x.natAbs / y.natAbs : Nat) : Int) else ((x.natAbs / y.natAbs : Nat) : Int) := by
  by_cases hx : x < 0
  · have ex : x = -(x.natAbs : Int) := by omega
    by_cases hy : y < 0
    · have ey : y = -(y.natAbs : Int) := by omega
      rw [if_neg (by simp [hx, hy])]
      generalize x.natAbs = m at ex
      generalize y.natAbs = n at ey
      subst ex; subst ey
      rw [Int.neg_tdiv, Int.tdiv_neg, Int.neg_neg, Int.ofNat_tdiv]
    · have ey : y = (y.natAbs : Int) := by omega
      rw [if_pos (by simp [hx, hy])]
      generalize x.natAbs = m at ex
      generalize y.natAbs = n at ey
      subst ex; subst ey
      rw [Int.neg_tdiv, Int.ofNat_tdiv]
  · have ex : x = (x.natAbs : Int) := by omega
    by_cases hy : y < 0
    · have ey : y = -(y.natAbs : Int) := by omega
      rw [if_pos (by simp [hx, hy])]
      generalize x.natAbs = m at ex
      generalize y.natAbs = n at ey
      subst ex; subst ey
      rw [Int.tdiv_neg, Int.ofNat_tdiv]
    · have ey : y = (y.natAbs : Int) := by omega
      rw [if_neg (by simp [hx, hy])]
      generalize x.natAbs = m at ex
      generalize y.natAbs = n at ey
      subst ex; subst ey
      rw [Int.ofNat_tdiv]
theorem two_lt (r d lo : Nat) (h : r < d) (h2 : lo < 18446744073709551616) : (r * 18446744073709551616 + lo) / d < 18446744073709551616 := by
  apply Nat.div_lt_of_lt_mul
  have := Nat.mul_le_mul_right 18446744073709551616 (show r + 1 ≤ d from h)
  omega
theorem ratio_of (k : Nat) (hk : 1 ≤ k) {a b : Int} (ha : I64 a) (hb : I64 b) (h0 : b ≠ 0) (r : Int)
    (hd : bits_Div64.f k ((a.natAbs / 4294967296 % b.natAbs : Nat) : Int) ((a.natAbs % 4294967296 * 4294967296 : Nat) : Int) (b.natAbs : Int) = some (((((a.natAbs / 4294967296 % b.natAbs) * 18446744073709551616 + a.natAbs % 4294967296 * 4294967296) / b.natAbs : Nat) : Int), r)) :
    fixed_Ratio.f k a b = some (fitV ((a * 4294967296).tdiv b), fitF ((a * 4294967296).tdiv b) false) := by
  have hp : 0 < b.natAbs := by omega
  have hlt := two_lt (a.natAbs / 4294967296 % b.natAbs) b.natAbs (a.natAbs % 4294967296 * 4294967296) (Nat.mod_lt _ hp) (by omega)
  have hle := Nat.div_le_self (a.natAbs / 4294967296) b.natAbs
  have hdv := div_two (a.natAbs / 4294967296) (a.natAbs % 4294967296 * 4294967296) b.natAbs hp
  have ht := tdiv_abs (a * 4294967296) b
  rw [show (a * 4294967296).natAbs = a.natAbs / 4294967296 * 18446744073709551616 + a.natAbs % 4294967296 * 4294967296 by omega, hdv, show decide (a * 4294967296 < 0) = decide (a < 0) by rw [decide_eq_decide]; omega] at ht
  unfold fixed_Ratio.f
  rw [if_neg h0, of_f ha, of_f hb]
  simp only [Option.bind_some]
  unfold I64 at ha hb
  rw [up_f (by omega) (by omega)]
  simp only [Option.bind_some]
  have d1 : (a.natAbs : Int) / 4294967296 = ((a.natAbs / 4294967296 : Nat) : Int) := by omega
  have d2 : (a.natAbs : Int) % 4294967296 * 4294967296 = ((a.natAbs % 4294967296 * 4294967296 : Nat) : Int) := by omega
  rw [if_neg (by omega), d1, d2, ← Int.ofNat_tmod, ← Int.ofNat_tdiv, hd, u64_id (by omega) (by omega)]
  simp only [Option.bind_some]
  rw [fit_ex (x := (a * 4294967296).tdiv b) _ false k hk]
  · simp only [Option.bind_some]
  · rw [ht]
    clear hd hdv ht
    generalize (a.natAbs / 4294967296 % b.natAbs * 18446744073709551616 + a.natAbs % 4294967296 * 4294967296) / b.natAbs = q at hlt ⊢
    generalize a.natAbs / 4294967296 / b.natAbs = p at hle ⊢
    refine ⟨by omega, by omega, by omega, by omega, fun e => ?_, fun e => ?_⟩
    · rw [if_neg (by rw [e]; decide)]; omega
    · rw [if_pos e]; omega
theorem awake_f (k : Nat) (hk : 5 ≤ k) : bagatellelaw01_awake.f k = some true := by
  have e1 : fixed_Int.f k 3 = some (12884901888, false) := int_f k (by omega) (by unfold I64; omega)
  have w1 : IntKind.u64.wrap (Int.tdiv 4294967296 2) = 2147483648 := by decide +kernel
  have w2 : Int.tmod 4294967296 2 = 0 := by decide +kernel
  have ed : bits_Div64.f k 0 4294967296 2 = some (2147483648, 0) := by
    unfold bits_Div64.f
    rw [if_neg (by decide), if_neg (by decide), if_pos rfl, w1, w2]
  have v1 : Snd ((-1 * 4294967296 : Int).tdiv 2) := by unfold Snd; decide +kernel
  have v2 : (-1 * 4294967296 : Int).tdiv 2 = -2147483648 := by decide +kernel
  have e2 : fixed_Ratio.f k (-1) 2 = some (-2147483648, false) := by
    rw [ratio_of (a := -1) (b := 2) k (by omega) (by unfold I64; omega) (by unfold I64; omega) (by decide) 0 (by simpa using ed), fitV_id v1, fitF_id v1, v2]
  have e3 : fixed_Order.f k (-2) 3 1 1 = some (-1) := order_f k (by omega) (by unfold I64; omega) (by unfold I64; omega) (by unfold I64; omega) (by unfold I64; omega)
  have e4 : fixed_Text.f (-2147483648) false = some ⟨#[45, 48, 46, 53]⟩ := by decide +kernel
  unfold bagatellelaw01_awake.f
  rw [e1, e2, e3]
  simp only [Option.bind_some, e4]
  decide +kernel
end Go.Proofs.Ytenpiaafkmfjfaa.B

end
section
namespace Go.Proofs.Ytenpiaafkmfjfaa.B
open Go.RowKit Go.Proofs.YtenpiaafkmfjfaaW.PrintWords Go.Proofs.YtenpiaafkmfjfaaW.PrintLast Go.Proofs.YtenpiaafkmfjfaaW.PrintMore
theorem sv_id {v : Int} (h : Snd v) : sv v = v := by unfold Snd at h; unfold sv; rw [if_neg (by omega)]
theorem Snd.neg {v : Int} (h : Snd v) : Snd (-v) := by unfold Snd at *; omega
theorem abs_f {v : Int} (f : Bool) (h : I64 v) : fixed_Abs.f v f = some (((sv v).natAbs : Int), sf v f) := by
  have hs := sv_i64 h
  unfold Snd at hs
  unfold fixed_Abs.f
  rw [sound_f]
  simp only [Option.bind_some]
  rw [wrap64_id (by omega) (by omega)]
  unfold mx
  split
  · rw [show -sv v = ((sv v).natAbs : Int) by omega]
  · rw [show sv v = ((sv v).natAbs : Int) by omega]; simp
theorem cmp_f (v w : Int) (f g : Bool) : fixed_Cmp.f v f w g = some (sgn3 (sv v) (sv w)) := by
  unfold fixed_Cmp.f
  simp only [sound_f, Option.bind_some, compare_i]
theorem fitv_cases (x : Int) : (9223372036854775807 < x ∧ fitV x = 9223372036854775807) ∨ (x < -9223372036854775807 ∧ fitV x = -9223372036854775807) ∨ (-9223372036854775807 ≤ x ∧ x ≤ 9223372036854775807 ∧ fitV x = x) := by
  unfold fitV
  by_cases h : 9223372036854775807 < x
  · rw [if_pos h]; omega
  · rw [if_neg h]
    by_cases h2 : x < -9223372036854775807
    · rw [if_pos h2]; omega
    · rw [if_neg h2]; omega
theorem sum_loop (vs : List Int) (hs : ∀ v ∈ vs, Snd v) (hl : vs.length ≤ 1000000) (f : Bool) : ∀ (m i k : Nat) (n : Bool) (lo hi x : Int), m + i = vs.length → m + 4 ≤ k → Ex n lo hi x → x.natAbs ≤ i * 9223372036854775808 →
    fixed_Sum.l0 k f vs vs.length i n lo hi = some (fitV (x + (vs.drop i).sum), fitF (x + (vs.drop i).sum) f)
  | 0, i, k, n, lo, hi, x, hm, hk, hx, hb => by
    obtain ⟨k, rfl⟩ : ∃ m, k = m + 4 := ⟨k - 4, by omega⟩
    rw [fixed_Sum.l0, if_neg (by omega), fit_ex hx f _ (by omega)]
    simp only [Option.bind_some]
    rw [List.drop_of_length_le (by omega)]
    simp
  | m + 1, i, k, n, lo, hi, x, hm, hk, hx, hb => by
    obtain ⟨k, rfl⟩ : ∃ m, k = m + 1 := ⟨k - 1, by omega⟩
    have hi' : i < vs.length := by omega
    have hv : Snd vs[i] := hs _ (List.getElem_mem hi')
    have hr : rd vs (i : Int) = vs[i] := by unfold rd; rw [Int.toNat_natCast, List.getD_eq_getElem?_getD, List.getElem?_eq_getElem hi']; rfl
    have hv2 := hv
    unfold Snd at hv2
    rw [fixed_Sum.l0, if_pos (by omega), if_pos (by omega), if_pos (by omega), hr]
    obtain ⟨n1, lo1, e1, x1⟩ := of_ex hv
    rw [e1]
    simp only [Option.bind_some]
    obtain ⟨n2, lo2, hi2, e2, x2⟩ := plus_ex k (by omega) hx x1 (by omega)
    rw [e2]
    simp only [Option.bind_some]
    rw [wrap64_id (by omega) (by omega)]
    have h := sum_loop vs hs hl f m (i + 1) k n2 lo2 hi2 (x + vs[i]) (by omega) (by omega) x2 (by omega)
    rw [show (i : Int) + 1 = ((i + 1 : Nat) : Int) by omega, h]
    rw [List.drop_eq_getElem_cons hi', List.sum_cons]
    rw [Int.add_assoc]
theorem vals_snd {l : List S23} (h : ∀ x ∈ l, I64 x.f0) : ∀ v ∈ vals l, Snd v := by
  intro v hv
  unfold vals at hv
  obtain ⟨x, hx, rfl⟩ := List.mem_map.mp hv
  exact sv_i64 (h x hx)
theorem sum_f (k : Nat) (l : List S23) (h : ∀ x ∈ l, I64 x.f0) (hl : l.length ≤ 1000000) (hk : l.length + 5 ≤ k) : fixed_Sum.f k l = some (fitV (vals l).sum, fitF (vals l).sum (anyF l)) := by
  unfold fixed_Sum.f fixed_values.f
  rw [if_pos hl]
  simp only [Option.bind_some]
  have hlen : (vals l).length = l.length := by unfold vals; simp
  have := sum_loop (vals l) (vals_snd h) (by omega) (anyF l) l.length 0 k false 0 0 0 (by omega) (by omega) ⟨by omega, by omega, by omega, by omega, fun _ => by omega, fun h => absurd h (by decide)⟩ (by omega)
  rw [show ((0 : Nat) : Int) = 0 from rfl] at this
  rw [this]
  simp
theorem add_f (k : Nat) (hk : 7 ≤ k) {a b : Int} (fa fb : Bool) (ha : I64 a) (hb : I64 b) : fixed_Add.f k a fa b fb = some (fitV (sv a + sv b), fitF (sv a + sv b) (sf a fa || sf b fb)) := by
  unfold fixed_Add.f
  rw [sum_f k _ (by intro x hx; simp at hx; rcases hx with rfl | rfl <;> assumption) (by simp) (by simpa using hk)]
  simp [vals, anyF]
end Go.Proofs.Ytenpiaafkmfjfaa.B

end
section
namespace Go.Proofs.Ytenpiaafkmfjfaa.B
open Go.RowKit Go.Proofs.YtenpiaafkmfjfaaW.PrintWords Go.Proofs.YtenpiaafkmfjfaaW.PrintLast Go.Proofs.YtenpiaafkmfjfaaW.PrintMore
theorem div_cond {u y y1 y0 qh rh : Int} (hy : y = y1 * 4294967296 + y0) (e : qh * y1 + rh = u) : qh * y = u * 4294967296 - rh * 4294967296 + qh * y0 := by
  subst hy
  rw [Int.mul_add, ← Int.mul_assoc]
  generalize qh * y1 = A at *
  generalize qh * y0 = B at *
  omega
theorem mul_bound {a b A B : Int} (ha : 0 ≤ a) (hb : 0 ≤ b) (hA : a ≤ A) (hB : b ≤ B) : a * b ≤ A * B := Int.le_trans (Int.mul_le_mul_of_nonneg_right hA hb) (Int.mul_le_mul_of_nonneg_left hB (by omega))
theorem quo_eq {N y q : Int} (hy : 0 < y) (h1 : q * y ≤ N) (h2 : N / y ≤ q) : N / y = q := by
  have := Int.le_ediv_of_mul_le hy h1
  omega
theorem div_l0 {x2 x8 x9 x10 x11 x13 x14 : Int} {R : Int} (hy : x2 = x9 * 4294967296 + x10) (h9 : 2147483648 ≤ x9) (h9' : x9 < 4294967296) (h10 : 0 ≤ x10) (h10' : x10 < 4294967296) (h11 : 0 ≤ x11) (h11' : x11 < x2) (h13 : 0 ≤ x13) (h13' : x13 < 4294967296)
    (hj : ∀ k, 9 ≤ k → ∃ r, bits_Div64.j2 k x2 x8 x9 x10 x11 x13 x14 ((x11 * 4294967296 + x13) / x2) = some (R, r)) :
    ∀ (m k : Nat) (qh rh : Int), 9 + 2 * m ≤ k → qh * x9 + rh = x11 → 0 ≤ rh → rh < 4294967296 → 4294967296 - rh ≤ m * 2147483648 → (x11 * 4294967296 + x13) / x2 ≤ qh → qh ≤ 4294967297 →
      ∃ r, bits_Div64.l0 k x2 x8 x9 x10 x11 x13 x14 qh rh = some (R, r) := by
  intro m
  induction m with
  | zero => intro k qh rh hk e hr0 hr1 hm hq hq1; exfalso; omega
  | succ m ih =>
    intro k qh rh hk e hr0 hr1 hm hq hq1
    obtain ⟨k, rfl⟩ : ∃ z, k = z + 2 := ⟨k - 2, by omega⟩
    have hy0 : 0 < x2 := by omega
    have hQ0 : 0 ≤ (x11 * 4294967296 + x13) / x2 := Int.ediv_nonneg (by omega) (by omega)
    have hc := div_cond (y := x2) hy e
    have key : ∀ b : Bool, (b = true → qh * x2 > x11 * 4294967296 + x13) → (b = false → qh * x2 ≤ x11 * 4294967296 + x13) → ∃ r, bits_Div64.j1 (k + 1) x2 x8 x9 x10 x11 x13 x14 qh rh b = some (R, r) := by
      intro b ht hf
      rw [bits_Div64.j1]
      cases b
      · rw [if_neg (by decide), ← quo_eq hy0 (hf rfl) hq]
        exact hj k (by omega)
      · have hgt := Int.ediv_lt_of_lt_mul hy0 (ht rfl)
        rw [if_pos rfl, u64_id (x := rh + x9) (by omega) (by omega), u64_id (x := qh - 1) (by omega) (by omega)]
        have e2 : (qh - 1) * x9 + (rh + x9) = x11 := by rw [Int.sub_mul]; omega
        by_cases hb : rh + x9 ≥ 4294967296
        · rw [if_pos hb]
          have hc2 := div_cond (y := x2) hy e2
          have hb2 := mul_bound (a := qh - 1) (b := x10) (A := 4294967296) (B := 4294967295) (by omega) h10 (by omega) (by omega)
          rw [← quo_eq (N := x11 * 4294967296 + x13) (q := qh - 1) hy0 (by generalize (qh - 1) * x10 = B at *; omega) (by omega)]
          exact hj k (by omega)
        · rw [if_neg hb]
          exact ih k (qh - 1) (rh + x9) (by omega) e2 (by omega) (by omega) (by omega) (by omega) (by omega)
    rw [bits_Div64.l0]
    by_cases hbig : qh ≥ 4294967296
    · rw [if_pos hbig]
      refine key true (fun _ => ?_) (fun h => absurd h (by decide))
      have := Int.mul_le_mul_of_nonneg_right hbig (show 0 ≤ x2 by omega)
      generalize qh * x2 = C at *; omega
    · rw [if_neg hbig]
      have hb := mul_bound (a := qh) (b := x10) (A := 4294967295) (B := 4294967295) (by omega) h10 (by omega) (by omega)
      have hb0 := Int.mul_nonneg (show 0 ≤ qh by omega) h10
      rw [u64_id (x := qh * x10) (by omega) (by omega), u64_id (x := 4294967296 * rh) (by omega) (by omega), u64_id (x := 4294967296 * rh + x13) (by omega) (by omega)]
      refine key _ (fun h => ?_) (fun h => ?_)
      · have := of_decide_eq_true h
        generalize qh * x10 = B at *; omega
      · have := of_decide_eq_false h
        generalize qh * x10 = B at *; omega
theorem div_l1 {x2 x8 x9 x10 x14 x15 x17 : Int} (h8 : 0 ≤ x8) (hy : x2 = x9 * 4294967296 + x10) (h9 : 2147483648 ≤ x9) (h9' : x9 < 4294967296) (h10 : 0 ≤ x10) (h10' : x10 < 4294967296) (h17 : 0 ≤ x17) (h17' : x17 < x2) (h14 : 0 ≤ x14) (h14' : x14 < 4294967296) :
    ∀ (m k : Nat) (qh rh : Int), 1 + 2 * m ≤ k → qh * x9 + rh = x17 → 0 ≤ rh → rh < 4294967296 → 4294967296 - rh ≤ m * 2147483648 → (x17 * 4294967296 + x14) / x2 ≤ qh → qh ≤ 4294967297 →
      ∃ r, bits_Div64.l1 k x2 x8 x9 x10 x14 x15 rh x17 qh = some (IntKind.u64.wrap (IntKind.u64.wrap (x15 * 4294967296) + (x17 * 4294967296 + x14) / x2), r) := by
  intro m
  induction m with
  | zero => intro k qh rh hk e hr0 hr1 hm hq hq1; exfalso; omega
  | succ m ih =>
    intro k qh rh hk e hr0 hr1 hm hq hq1
    obtain ⟨k, rfl⟩ : ∃ z, k = z + 2 := ⟨k - 2, by omega⟩
    have hy0 : 0 < x2 := by omega
    have hQ0 : 0 ≤ (x17 * 4294967296 + x14) / x2 := Int.ediv_nonneg (by omega) (by omega)
    have hc := div_cond (y := x2) hy e
    have key : ∀ b : Bool, (b = true → qh * x2 > x17 * 4294967296 + x14) → (b = false → qh * x2 ≤ x17 * 4294967296 + x14) → ∃ r, bits_Div64.j4 (k + 1) x2 x8 x9 x10 x14 x15 rh x17 qh b = some (IntKind.u64.wrap (IntKind.u64.wrap (x15 * 4294967296) + (x17 * 4294967296 + x14) / x2), r) := by
      intro b ht hf
      rw [bits_Div64.j4]
      cases b
      · rw [if_neg (by decide), if_pos h8, quo_eq hy0 (hf rfl) hq]
        exact ⟨_, rfl⟩
      · have hgt := Int.ediv_lt_of_lt_mul hy0 (ht rfl)
        rw [if_pos rfl, u64_id (x := rh + x9) (by omega) (by omega), u64_id (x := qh - 1) (by omega) (by omega)]
        have e2 : (qh - 1) * x9 + (rh + x9) = x17 := by rw [Int.sub_mul]; omega
        by_cases hb : rh + x9 ≥ 4294967296
        · have hc2 := div_cond (y := x2) hy e2
          have hb2 := mul_bound (a := qh - 1) (b := x10) (A := 4294967296) (B := 4294967295) (by omega) h10 (by omega) (by omega)
          rw [if_pos hb, if_pos h8, quo_eq (q := qh - 1) hy0 (by generalize (qh - 1) * x10 = B at *; omega) (by omega)]
          exact ⟨_, rfl⟩
        · rw [if_neg hb]
          exact ih k (qh - 1) (rh + x9) (by omega) e2 (by omega) (by omega) (by omega) (by omega) (by omega)
    rw [bits_Div64.l1]
    by_cases hbig : qh ≥ 4294967296
    · rw [if_pos hbig]
      refine key true (fun _ => ?_) (fun h => absurd h (by decide))
      have := Int.mul_le_mul_of_nonneg_right hbig (show 0 ≤ x2 by omega)
      generalize qh * x2 = C at *; omega
    · rw [if_neg hbig]
      have hb := mul_bound (a := qh) (b := x10) (A := 4294967295) (B := 4294967295) (by omega) h10 (by omega) (by omega)
      have hb0 := Int.mul_nonneg (show 0 ≤ qh by omega) h10
      rw [u64_id (x := qh * x10) (by omega) (by omega), u64_id (x := 4294967296 * rh) (by omega) (by omega), u64_id (x := 4294967296 * rh + x14) (by omega) (by omega)]
      refine key _ (fun h => ?_) (fun h => ?_)
      · have := of_decide_eq_true h
        generalize qh * x10 = B at *; omega
      · have := of_decide_eq_false h
        generalize qh * x10 = B at *; omega
theorem guess {u d y y1 y0 : Int} (hy : y = y1 * 4294967296 + y0) (h9 : 2147483648 ≤ y1) (h10 : 0 ≤ y0) (h10' : y0 < 4294967296) (hu : 0 ≤ u) (hu' : u < y) (hd : 0 ≤ d) (hd' : d < 4294967296) :
    u / y1 * y1 + u % y1 = u ∧ 0 ≤ u % y1 ∧ u % y1 < y1 ∧ (u * 4294967296 + d) / y ≤ u / y1 ∧ u / y1 ≤ 4294967297 ∧ 0 ≤ u / y1 := by
  have e : u / y1 * y1 + u % y1 = u := by rw [Int.mul_comm]; exact Int.mul_ediv_add_emod u y1
  have h1 := Int.emod_nonneg u (show y1 ≠ 0 by omega)
  have h2 := Int.emod_lt_of_pos u (show 0 < y1 by omega)
  have h3 : 0 ≤ u / y1 := Int.ediv_nonneg hu (by omega)
  refine ⟨e, h1, h2, ?_, ?_, h3⟩
  · have hc := div_cond (qh := u / y1 + 1) (rh := u % y1 - y1) (u := u) (y := y) hy (by rw [Int.add_mul]; omega)
    have hb := Int.mul_nonneg (show 0 ≤ u / y1 + 1 by omega) h10
    have : (u * 4294967296 + d) / y < u / y1 + 1 := Int.ediv_lt_of_lt_mul (by omega) (by generalize (u / y1 + 1) * y0 = B at *; omega)
    omega
  · have : u / y1 < 4294967298 := Int.ediv_lt_of_lt_mul (by omega) (by omega)
    omega
theorem un21 {u d C : Int} (h0 : 0 ≤ u * 4294967296 + d - C) (h1 : u * 4294967296 + d - C < 18446744073709551616) : IntKind.u64.wrap (IntKind.u64.wrap (IntKind.u64.wrap (u * 4294967296) + d) - IntKind.u64.wrap C) = u * 4294967296 + d - C := by
  simp only [IntKind.wrap_u64]
  omega
theorem dig_rem {u d y : Int} (hu : 0 ≤ u) (hu' : u < y) (hd : 0 ≤ d) (hd' : d < 4294967296) (hy : 0 < y) : 0 ≤ (u * 4294967296 + d) / y ∧ (u * 4294967296 + d) / y < 4294967296 ∧ u * 4294967296 + d - (u * 4294967296 + d) / y * y = (u * 4294967296 + d) % y ∧ 0 ≤ (u * 4294967296 + d) % y ∧ (u * 4294967296 + d) % y < y := by
  refine ⟨Int.ediv_nonneg (by omega) (by omega), Int.ediv_lt_of_lt_mul hy (by omega), ?_, Int.emod_nonneg _ (by omega), Int.emod_lt_of_pos _ hy⟩
  have := Int.mul_ediv_add_emod (u * 4294967296 + d) y
  rw [Int.mul_comm] at this
  omega
theorem div_two_i {h l d : Int} (hd : 0 < d) : h / d * 4294967296 + (h % d * 4294967296 + l) / d = (h * 4294967296 + l) / d := by
  have e : h * 4294967296 + l = h % d * 4294967296 + l + h / d * 4294967296 * d := by
    have := Int.mul_ediv_add_emod h d
    rw [Int.mul_comm] at this
    rw [Int.mul_right_comm]
    omega
  rw [e, Int.add_mul_ediv_right _ _ (by omega)]
  omega
theorem div_j2 {x2 x8 x9 x10 x11 x13 x14 : Int} (h8 : 0 ≤ x8) (hy : x2 = x9 * 4294967296 + x10) (h9 : 2147483648 ≤ x9) (h9' : x9 < 4294967296) (h10 : 0 ≤ x10) (h10' : x10 < 4294967296) (h11 : 0 ≤ x11) (h11' : x11 < x2) (h13 : 0 ≤ x13) (h13' : x13 < 4294967296) (h14 : 0 ≤ x14) (h14' : x14 < 4294967296) (k : Nat) (hk : 9 ≤ k) :
    ∃ r, bits_Div64.j2 k x2 x8 x9 x10 x11 x13 x14 ((x11 * 4294967296 + x13) / x2) = some (((x11 * 4294967296 + x13) * 4294967296 + x14) / x2, r) := by
  obtain ⟨k, rfl⟩ : ∃ z, k = z + 1 := ⟨k - 1, by omega⟩
  obtain ⟨q0, q1, qe, r0, r1⟩ := dig_rem h11 h11' h13 h13' (show 0 < x2 by omega)
  have e3 := (div_two_i (h := x11 * 4294967296 + x13) (l := x14) (d := x2) (by omega)).symm
  rw [bits_Div64.j2, if_neg (by omega), un21 (by omega) (by omega), qe, e3]
  clear e3
  generalize (x11 * 4294967296 + x13) / x2 = q at *
  generalize (x11 * 4294967296 + x13) % x2 = U at *
  obtain ⟨g1, g2, g3, g4, g5, g6⟩ := guess hy h9 h10 h10' r0 r1 h14 h14'
  obtain ⟨p0, p1, _, _, _⟩ := dig_rem r0 r1 h14 h14' (show 0 < x2 by omega)
  have g7 := Int.mul_nonneg g6 (show 0 ≤ x9 by omega)
  rw [Int.tdiv_eq_ediv_of_nonneg r0, u64_id (x := U / x9) (by omega) (by omega), u64_id (x := U / x9 * x9) (by omega) (by omega), u64_id (x := U - U / x9 * x9) (by omega) (by omega), show U - U / x9 * x9 = U % x9 by omega]
  obtain ⟨r, hr⟩ := div_l1 (x15 := q) h8 hy h9 h9' h10 h10' r0 r1 h14 h14' 2 k (U / x9) (U % x9) (by omega) g1 g2 (by omega) (by omega) g4 g5
  rw [u64_id (x := q * 4294967296) (by omega) (by omega), u64_id (x := q * 4294967296 + (U * 4294967296 + x14) / x2) (by omega) (by omega)] at hr
  exact ⟨r, hr⟩
theorem shl_nat (a s : Nat) (hs : s ≤ 64) (h : a * 2 ^ s < 18446744073709551616) : shl .u64 (a : Int) (s : Int) = ((a * 2 ^ s : Nat) : Int) := by
  unfold shl
  rw [show min (Int.toNat (s : Int)) (IntKind.bits .u64) = s by rw [Int.toNat_natCast]; exact Nat.min_eq_left hs]
  rw [show (a : Int) * 2 ^ s = ((a * 2 ^ s : Nat) : Int) by simp, u64_id (by omega) (by omega)]
theorem shl_nat' (a s : Nat) (hs : s ≤ 64) : shl .u64 (a : Int) (s : Int) = ((a * 2 ^ s % 18446744073709551616 : Nat) : Int) := by
  unfold shl
  rw [show min (Int.toNat (s : Int)) (IntKind.bits .u64) = s by rw [Int.toNat_natCast]; exact Nat.min_eq_left hs]
  rw [show (a : Int) * 2 ^ s = ((a * 2 ^ s : Nat) : Int) by simp, IntKind.wrap_u64]
  omega
theorem shr_nat (a s : Nat) (hs : s ≤ 64) : shr .u64 (a : Int) (s : Int) = ((a / 2 ^ s : Nat) : Int) := by
  unfold shr
  rw [show min (Int.toNat (s : Int)) (IntKind.bits .u64) = s by rw [Int.toNat_natCast]; exact Nat.min_eq_left hs]
  simp
theorem blen (x : Nat) (h : x < 2 ^ 64) : x < 2 ^ Lib.bitLen x ∧ (x ≠ 0 → 1 ≤ Lib.bitLen x ∧ 2 ^ (Lib.bitLen x - 1) ≤ x) := by
  induction x using Nat.strongRecOn with
  | _ x ih =>
    by_cases h0 : x = 0
    · subst h0; exact ⟨by decide, fun h => absurd rfl h⟩
    · rw [Lib.bitLen_half x h0 h]
      obtain ⟨i1, i2⟩ := ih (x / 2) (by omega) (by omega)
      refine ⟨?_, fun _ => ⟨by omega, ?_⟩⟩
      · rw [Nat.pow_add]; omega
      · by_cases h2 : x / 2 = 0
        · rw [show Lib.bitLen (x / 2) = 0 by rw [h2]; decide]; simp; omega
        · obtain ⟨i3, i4⟩ := i2 h2
          rw [show 1 + Lib.bitLen (x / 2) - 1 = 1 + (Lib.bitLen (x / 2) - 1) by omega, Nat.pow_add]; omega
theorem div64_f (k : Nat) (hk : 14 ≤ k) (hi lo y : Nat) (h : hi < y) (hl : lo < 18446744073709551616) (hy : y < 18446744073709551616) : ∃ r, bits_Div64.f k hi lo y = some ((((hi * 18446744073709551616 + lo) / y : Nat) : Int), r) := by
  unfold bits_Div64.f
  rw [if_neg (by omega), if_neg (by omega)]
  by_cases h0 : hi = 0
  · subst h0
    have hq : lo / y < 18446744073709551616 := Nat.lt_of_le_of_lt (Nat.div_le_self lo y) hl
    rw [if_pos (by omega), ← Int.ofNat_tdiv, u64_id (Int.natCast_nonneg _) (by generalize lo / y = z at *; omega)]
    exact ⟨_, by rw [show 0 * 18446744073709551616 + lo = lo by omega]⟩
  · rw [if_neg (by omega)]
    have hy0 : y ≠ 0 := by omega
    obtain ⟨b1, b2⟩ := blen y hy
    obtain ⟨hL0, b2⟩ := b2 hy0
    have hL1 : Lib.bitLen y ≤ 64 := by
      rcases Nat.lt_or_ge 64 (Lib.bitLen y) with hgt | hle
      · exfalso
        have : 2 ^ 64 ≤ 2 ^ (Lib.bitLen y - 1) := Nat.pow_le_pow_right (by decide) (by omega)
        omega
      · exact hle
    have hlz : bits_LeadingZeros64.f (y : Int) = some (((64 - Lib.bitLen y : Nat)) : Int) := by
      unfold bits_LeadingZeros64.f bits_Len64.f
      rw [if_pos (by omega), if_pos (by omega)]
      simp only [Option.bind_some, Int.toNat_natCast]
      rw [wrap64_id (by omega) (by omega)]
      congr 1; omega
    rw [hlz]
    simp only [Option.bind_some]
    generalize hs : 64 - Lib.bitLen y = s at *
    have hs63 : s ≤ 63 := by omega
    have p1 : y * 2 ^ s < 18446744073709551616 := by
      have : y * 2 ^ s < 2 ^ Lib.bitLen y * 2 ^ s := Nat.mul_lt_mul_of_pos_right b1 (Nat.two_pow_pos s)
      rw [← Nat.pow_add, show Lib.bitLen y + s = 64 by omega] at this
      exact this
    have p0 : 9223372036854775808 ≤ y * 2 ^ s := by
      have : 2 ^ (Lib.bitLen y - 1) * 2 ^ s ≤ y * 2 ^ s := Nat.mul_le_mul_right _ b2
      rw [← Nat.pow_add, show Lib.bitLen y - 1 + s = 63 by omega] at this
      exact this
    have phi : (hi + 1) * 2 ^ s ≤ y * 2 ^ s := Nat.mul_le_mul_right _ h
    rw [Nat.add_mul] at phi
    have hp2 : 0 < 2 ^ s := Nat.two_pow_pos s
    have e64 : 18446744073709551616 = 2 ^ (64 - s) * 2 ^ s := by rw [← Nat.pow_add, show 64 - s + s = 64 by omega]
    have hlo : lo / 2 ^ (64 - s) < 2 ^ s := by
      apply Nat.div_lt_of_lt_mul
      rw [← e64]; exact hl
    have hlo2 : lo * 2 ^ s / 18446744073709551616 = lo / 2 ^ (64 - s) := by
      rw [e64, Nat.mul_div_mul_right _ _ hp2]
    rw [u64_id (x := (s : Int)) (by omega) (by omega), u64_id (x := 64 - (s : Int)) (by omega) (by omega), if_pos (by omega), if_pos (by omega)]
    rw [show (64 - (s : Int)) = ((64 - s : Nat) : Int) by omega, shl_nat y s (by omega) p1, shl_nat hi s (by omega) (by omega), shr_nat lo (64 - s) (by omega), shl_nat' lo s (by omega), and_mask _ p1]
    have hor := or_add s hi (lo / 2 ^ (64 - s)) hlo (by rw [Nat.mul_comm]; omega)
    rw [Nat.mul_comm (2 ^ s) hi] at hor
    rw [hor, and_mask _ (Nat.mod_lt _ (by decide))]
    have key : (hi * 2 ^ s + lo / 2 ^ (64 - s)) * 18446744073709551616 + lo * 2 ^ s % 18446744073709551616 = (hi * 18446744073709551616 + lo) * 2 ^ s := by
      rw [← hlo2]
      have := Nat.div_add_mod (lo * 2 ^ s) 18446744073709551616
      rw [Nat.add_mul (hi * 18446744073709551616) lo, Nat.mul_right_comm hi 18446744073709551616]
      omega
    have key2 : (hi * 18446744073709551616 + lo) * 2 ^ s / (y * 2 ^ s) = (hi * 18446744073709551616 + lo) / y := Nat.mul_div_mul_right _ _ hp2
    rw [← key] at key2
    have hu : hi * 2 ^ s + lo / 2 ^ (64 - s) < y * 2 ^ s := by omega
    rw [← key2]
    generalize hi * 2 ^ s + lo / 2 ^ (64 - s) = u at hu ⊢
    have hl2 : lo * 2 ^ s % 18446744073709551616 < 18446744073709551616 := Nat.mod_lt _ (by decide)
    generalize lo * 2 ^ s % 18446744073709551616 = l at hl2 ⊢
    generalize y * 2 ^ s = Y at hu p0 p1 ⊢
    clear key key2 hor hlo hlo2 e64 phi hlz b1 b2
    have d1 : ((Y : Nat) : Int) / 4294967296 = ((Y / 4294967296 : Nat) : Int) := by omega
    have d2 : ((l : Nat) : Int) / 4294967296 = ((l / 4294967296 : Nat) : Int) := by omega
    rw [d1, d2, if_neg (by omega)]
    have hj : ∀ k, 9 ≤ k → ∃ r, bits_Div64.j2 k (Y : Int) (s : Int) ((Y / 4294967296 : Nat) : Int) ((Y % 4294967296 : Nat) : Int) (u : Int) ((l / 4294967296 : Nat) : Int) ((l % 4294967296 : Nat) : Int) (((u : Int) * 4294967296 + ((l / 4294967296 : Nat) : Int)) / (Y : Int)) = some ((((u * 18446744073709551616 + l) / Y : Nat) : Int), r) := by
      intro k hk
      obtain ⟨r, hr⟩ := div_j2 (x2 := (Y : Int)) (x8 := (s : Int)) (x9 := ((Y / 4294967296 : Nat) : Int)) (x10 := ((Y % 4294967296 : Nat) : Int)) (x11 := (u : Int)) (x13 := ((l / 4294967296 : Nat) : Int)) (x14 := ((l % 4294967296 : Nat) : Int)) (by omega) (by omega) (by omega) (by omega) (by omega) (by omega) (by omega) (by omega) (by omega) (by omega) (by omega) (by omega) k hk
      refine ⟨r, ?_⟩
      rw [hr, show ((u : Int) * 4294967296 + ((l / 4294967296 : Nat) : Int)) * 4294967296 + ((l % 4294967296 : Nat) : Int) = ((u * 18446744073709551616 + l : Nat) : Int) by omega, ← Int.natCast_ediv]
    obtain ⟨g1, g2, g3, g4, g5, g6⟩ := guess (u := (u : Int)) (d := ((l / 4294967296 : Nat) : Int)) (y := (Y : Int)) (y1 := ((Y / 4294967296 : Nat) : Int)) (y0 := ((Y % 4294967296 : Nat) : Int)) (by omega) (by omega) (by omega) (by omega) (by omega) (by omega) (by omega) (by omega)
    have g7 := Int.mul_nonneg g6 (show 0 ≤ ((Y / 4294967296 : Nat) : Int) by omega)
    rw [Int.tdiv_eq_ediv_of_nonneg (by omega), u64_id (x := (u : Int) / ((Y / 4294967296 : Nat) : Int)) (by omega) (by omega), u64_id (x := (u : Int) / ((Y / 4294967296 : Nat) : Int) * ((Y / 4294967296 : Nat) : Int)) (by omega) (by omega)]
    rw [show (u : Int) - (u : Int) / ((Y / 4294967296 : Nat) : Int) * ((Y / 4294967296 : Nat) : Int) = (u : Int) % ((Y / 4294967296 : Nat) : Int) by omega, u64_id (x := (u : Int) % ((Y / 4294967296 : Nat) : Int)) (by omega) (by omega)]
    exact div_l0 (x2 := (Y : Int)) (x8 := (s : Int)) (x9 := ((Y / 4294967296 : Nat) : Int)) (x10 := ((Y % 4294967296 : Nat) : Int)) (x11 := (u : Int)) (x13 := ((l / 4294967296 : Nat) : Int)) (x14 := ((l % 4294967296 : Nat) : Int)) (by omega) (by omega) (by omega) (by omega) (by omega) (by omega) (by omega) (by omega) (by omega) hj 2 k _ _ (by omega) g1 g2 (by omega) (by omega) g4 g5
end Go.Proofs.Ytenpiaafkmfjfaa.B

end
section
namespace Go.Proofs.Ytenpiaafkmfjfaa.B
open Go.RowKit Go.Proofs.YtenpiaafkmfjfaaW.PrintWords Go.Proofs.YtenpiaafkmfjfaaW.PrintLast Go.Proofs.YtenpiaafkmfjfaaW.PrintMore
attribute [local go_sem] max2_int min2_int max_two min_two max_three min_three max_four min_four
set_option linter.unusedVariables false
set_option linter.unusedSimpArgs false
def fixed_flags.l0 : Nat → List (S23) → Int → Int → Option (Bool)
  | 0, _, _, _ => none
  | k + 1, x5, x6, x7 => if x7 < x6 then (if 0 ≤ x7 then (if x7 < (x5.length : Int) then (if (rd_T23 x5 x7).f1 = true then (some true) else (fixed_flags.l0 k x5 x6 (wrap64 (x7 + 1)))) else (none)) else (none)) else (some false)
def fixed_flags.f (k : Nat) (l0 : List (S23)) : Option (Bool) := fixed_flags.l0 k l0 (l0.length : Int) 0
set_option maxHeartbeats 8000000 in
set_option maxRecDepth 100000 in
theorem fixed_flags.calls (k : Nat) (A0 : Option Addr) (c0 : Nat) (l0 : List (S23)) (r : Bool) (w : World) (hr0 : Kd.C k23 w A0 l0.length l0) (hc0 : l0.length ≤ c0) (h : fixed_flags.f k l0 = some r) :
    Calls Try.prog 88 #[.slice A0 l0.length c0] w fun e w' => e = .returned (.bool r) ∧ Below w.heap.size w w' := by
  have hu23 := Try.underlying23
  have HR0 := Aside0.mk hr0
  have HC0 := Aside0.mk hc0
  clear hr0 hc0
  have HB := Aside0.mk (Below.refl w.heap.size w)
  have H : (fixed_flags.l0 k l0 (l0.length : Int) 0) = some r := h
  clear h
  have H' := Aside0.mk H
  clear H
  go_enter Try.func88, Try.ntmps88
  go_wp2
  go_loopg [7] k (fun kq v7 w' => ∃ (x7_1 : Int), v7 = .int .i64 x7_1 ∧ Aside0 (fixed_flags.l0 kq l0 (l0.length : Int) x7_1 = some r) ∧ Aside0 (kq ≤ k) ∧ Aside0 (Below w.heap.size w w'))
  case atStart => exact ⟨(0), (by first | rfl | (simp; done) | (simp [*]; done)), H', ⟨Nat.le_refl _⟩, ⟨by repeat (first | (with_reducible first | exact HB.out | apply below_alloc | apply pw_below_drewN | apply below_drew1) | exact HB.out)⟩⟩
  case round =>
    clear H'
    obtain ⟨x7_1, rfl, HA, HK1, HB⟩ := hrel
    cases gk with
    | zero => exact absurd HA.out (by simp [fixed_flags.l0])
    | succ k1 =>
      have H := HA.out
      clear HA
      simp only [fixed_flags.l0] at H
      by_cases c2 : x7_1 < (l0.length : Int)
      · rw [if_pos c2] at H
        have c2b0 : decide (x7_1 < (l0.length : Int)) = true := decide_eq_true c2
        clear c2
        by_cases c3 : 0 ≤ x7_1
        · rw [if_pos c3] at H
          have c3b0 : decide (0 ≤ x7_1) = true := decide_eq_true c3
          clear c3
          by_cases c4 : x7_1 < (l0.length : Int)
          · rw [if_pos c4] at H
            have c4b0 : decide (x7_1 < (l0.length : Int)) = true := decide_eq_true c4
            clear c4
            obtain ⟨bq5, hbq5⟩ : ∃ b_ : Bool, b_ = ((rd_T23 l0 x7_1).f1) := ⟨_, rfl⟩
            replace H : (if bq5 = true then (some true) else (fixed_flags.l0 k1 l0 (l0.length : Int) (wrap64 (x7_1 + 1)))) = some r := by rw [← hbq5] at H; exact H
            have Nbq5 := Aside0.mk hbq5
            clear hbq5
            by_cases c6 : bq5 = true
            · subst c6
              have H1 : (some true) = some r := by rw [if_pos rfl] at H; exact H
              clear H
              have H := H1
              clear H1
              obtain rfl := Option.some.inj H
              have p242 : 0 ≤ (x7_1 : Int) := of_decide_eq_true (by first | (with_reducible assumption) | assumption)
              have q242 : x7_1 < (l0.length : Int) := of_decide_eq_true (by first | (with_reducible assumption) | assumption)
              obtain ⟨ad242, e242, hx242_0, hx242_1⟩ := at_T23 HR0.out x7_1 p242 q242
              (try rw [← Nbq5.out] at hx242_1)
              cases e242
              replace hx242_0 := (HB.out.cell (World.block_lt_of_cell? w _ hx242_0)).trans hx242_0
              replace hx242_1 := (HB.out.cell (World.block_lt_of_cell? w _ hx242_1)).trans hx242_1
              replace p242 := eq_true p242
              replace q242 := eq_true q242
              go_wp2_with (first | ((with_reducible refine gate_dst (N := 4) rfl ?_); refine box_event ?hg (N := 4) ?hd (cs := #[.int .i64 0, .bool false]) (t := 23) ?hr ?_; (case hd => rfl); (case hg => rfl); (case hr => first | (go_simp; done) | (go_simp; rfl)); intro gb243 hg w7 hbox hb; have n0_ := Aside0.mk (below_step (by repeat (first | (with_reducible first | exact HB.out | apply below_alloc | apply pw_below_drewN | apply below_drew1) | exact HB.out)) hb); have n1_ := Aside0.mk (hbox); have n2_ := Aside0.mk ((by rw [hg]; exact (below_size (by repeat (first | (with_reducible first | exact HB.out | apply below_alloc | apply pw_below_drewN | apply below_drew1) | exact HB.out))) : w.heap.size ≤ gb243)); have n3_ := Aside0.mk ((by rw [hg]; exact (below_size (by repeat (first | (with_reducible first | exact HB.out | apply below_alloc | apply pw_below_drewN | apply below_drew1) | exact HB.out))) : w.heap.size ≤ gb243)); clear HB; have HB := n0_; have BK243 := n1_; have GW243 := n2_; have GE243 := n3_; clear n0_ n1_ n2_ n3_; clear hb hbox hg; have hcz8_0 : w7.cell? ⟨gb243, 0, none⟩ = some (.int .i64 0) := (blk_cell BK243.out 0).trans rfl; have hcz8_1 : w7.cell? ⟨gb243, 1, none⟩ = some (.bool false) := (blk_cell BK243.out 1).trans rfl; have hfz8_0 := blk_frozen BK243.out 0; have hfz8_1 := blk_frozen BK243.out 1))
              go_ret
              exact ⟨by first | rfl | (simp [errW_none, errW_some] <;> rfl) | (simp [*, errW_none, errW_some] <;> rfl), by repeat (first | (with_reducible first | exact HB.out | apply below_alloc | apply pw_below_drewN | apply below_drew1 | refine below_set ?_ GE243.out) | exact HB.out)⟩
            · replace c6 := Bool.eq_false_iff.mpr c6
              subst c6
              have H1 : (fixed_flags.l0 k1 l0 (l0.length : Int) (wrap64 (x7_1 + 1))) = some r := by rw [if_neg (show ¬ (false = true) by decide)] at H; exact H
              clear H
              have H := H1
              clear H1
              have H' := Aside0.mk H
              clear H
              have p242 : 0 ≤ (x7_1 : Int) := of_decide_eq_true (by first | (with_reducible assumption) | assumption)
              have q242 : x7_1 < (l0.length : Int) := of_decide_eq_true (by first | (with_reducible assumption) | assumption)
              obtain ⟨ad242, e242, hx242_0, hx242_1⟩ := at_T23 HR0.out x7_1 p242 q242
              (try rw [← Nbq5.out] at hx242_1)
              cases e242
              replace hx242_0 := (HB.out.cell (World.block_lt_of_cell? w _ hx242_0)).trans hx242_0
              replace hx242_1 := (HB.out.cell (World.block_lt_of_cell? w _ hx242_1)).trans hx242_1
              replace p242 := eq_true p242
              replace q242 := eq_true q242
              go_wp2_with (first | ((with_reducible refine gate_dst (N := 4) rfl ?_); refine box_event ?hg (N := 4) ?hd (cs := #[.int .i64 0, .bool false]) (t := 23) ?hr ?_; (case hd => rfl); (case hg => rfl); (case hr => first | (go_simp; done) | (go_simp; rfl)); intro gb243 hg w9 hbox hb; have n0_ := Aside0.mk (below_step (by repeat (first | (with_reducible first | exact HB.out | apply below_alloc | apply pw_below_drewN | apply below_drew1) | exact HB.out)) hb); have n1_ := Aside0.mk (hbox); have n2_ := Aside0.mk ((by rw [hg]; exact (below_size (by repeat (first | (with_reducible first | exact HB.out | apply below_alloc | apply pw_below_drewN | apply below_drew1) | exact HB.out))) : w.heap.size ≤ gb243)); have n3_ := Aside0.mk ((by rw [hg]; exact (below_size (by repeat (first | (with_reducible first | exact HB.out | apply below_alloc | apply pw_below_drewN | apply below_drew1) | exact HB.out))) : w.heap.size ≤ gb243)); clear HB; have HB := n0_; have BK243 := n1_; have GW243 := n2_; have GE243 := n3_; clear n0_ n1_ n2_ n3_; clear hb hbox hg; have hcz10_0 : w9.cell? ⟨gb243, 0, none⟩ = some (.int .i64 0) := (blk_cell BK243.out 0).trans rfl; have hcz10_1 : w9.cell? ⟨gb243, 1, none⟩ = some (.bool false) := (blk_cell BK243.out 1).trans rfl; have hfz10_0 := blk_frozen BK243.out 0; have hfz10_1 := blk_frozen BK243.out 1))
              go_roundg k1
              case measure => have := HK1.out; omega
              case rel => exact ⟨(wrap64 (x7_1 + 1)), (by first | rfl | (simp; done) | (simp [*]; done)), H', ⟨by have := HK1.out; omega⟩, ⟨by repeat (first | (with_reducible first | exact HB.out | apply below_alloc | apply pw_below_drewN | apply below_drew1 | refine below_set ?_ GE243.out) | exact HB.out)⟩⟩
          · rw [if_neg c4] at H
            exact absurd H (by simp)
        · rw [if_neg c3] at H
          exact absurd H (by simp)
      · rw [if_neg c2] at H
        have c2b0 : decide (x7_1 < (l0.length : Int)) = false := decide_eq_false c2
        clear c2
        obtain rfl := Option.some.inj H
        go_wp2
        go_ret
        exact ⟨by first | rfl | (simp [errW_none, errW_some] <;> rfl) | (simp [*, errW_none, errW_some] <;> rfl), by repeat (first | (with_reducible first | exact HB.out | apply below_alloc | apply pw_below_drewN | apply below_drew1) | exact HB.out)⟩
end Go.Proofs.Ytenpiaafkmfjfaa.B

end
section
namespace Go.Proofs.Ytenpiaafkmfjfaa.B
open Go.RowKit Go.Proofs.YtenpiaafkmfjfaaW.PrintWords Go.Proofs.YtenpiaafkmfjfaaW.PrintLast Go.Proofs.YtenpiaafkmfjfaaW.PrintMore
attribute [local go_sem] max2_int min2_int max_two min_two max_three min_three max_four min_four
set_option linter.unusedVariables false
set_option linter.unusedSimpArgs false
mutual
def fixed_words_root.j0 : Nat → Bool → Int → Int → Option (Int)
  | 0, _, _, _ => none
  | k + 1, x17, x278000, x278001 => if x17 = true then (some 0) else ((bits_Len64.f x278000).bind fun t278 => (if x278001 = 0 then (fixed_words_root.j1 k t278 x278000 x278001) else ((bits_Len64.f x278001).bind fun t279 => (fixed_words_root.j1 k (wrap64 (64 + t279)) x278000 x278001))))
def fixed_words_root.j1 : Nat → Int → Int → Int → Option (Int)
  | 0, _, _, _ => none
  | k + 1, x3, x278000, x278001 => if (wrap64 (Int.tdiv (wrap64 (x3 + 1)) 2)) < 64 then (if 0 ≤ (wrap64 (Int.tdiv (wrap64 (x3 + 1)) 2)) then (fixed_words_root.j2 k (shl .u64 1 (wrap64 (Int.tdiv (wrap64 (x3 + 1)) 2))) x278000 x278001) else (none)) else (fixed_words_root.j2 k 18446744073709551615 x278000 x278001)
def fixed_words_root.j2 : Nat → Int → Int → Int → Option (Int)
  | 0, _, _, _ => none
  | k + 1, x4, x278000, x278001 => fixed_words_root.l0 k x4 x278000 x278001
def fixed_words_root.l0 : Nat → Int → Int → Int → Option (Int)
  | 0, _, _, _ => none
  | k + 1, x4, x278000, x278001 => if x278001 ≥ x4 then (some x4) else ((bits_Div64.f k x278001 x278000 x4).bind fun bt280 => (if bt280.1 ≥ x4 then (some x4) else (fixed_words_root.l0 k (Go.bits .or .u64 ((add64s x4 bt280.1 0) / 2) (IntKind.u64.wrap ((add64c x4 bt280.1 0) * 9223372036854775808))) x278000 x278001)))
end
def fixed_words_root.f (k : Nat) (a0_0 : Int) (a0_1 : Int) : Option (Int) := if a0_1 = 0 then (fixed_words_root.j0 k (a0_0 == 0) a0_0 a0_1) else (fixed_words_root.j0 k false a0_0 a0_1)
set_option maxHeartbeats 8000000 in
set_option maxRecDepth 100000 in
theorem fixed_words_root.calls (k : Nat) (a0_0 : Int) (a0_1 : Int) (r : Int) (w : World) (h : fixed_words_root.f k a0_0 a0_1 = some r) :
    Calls Try.prog 90 #[.agg #[.int .u64 a0_0, .int .u64 a0_1]] w fun e w' => e = .returned (.int .u64 r) ∧ Below w.heap.size w w' := by
  have hu58 := Try.underlying58
  have hx1080 := @ext108_0
  have hx1081 := @ext108_1
  have HB := Aside0.mk (Below.refl w.heap.size w)
  have H : (if a0_1 = 0 then (fixed_words_root.j0 k (a0_0 == 0) a0_0 a0_1) else (fixed_words_root.j0 k false a0_0 a0_1)) = some r := h
  clear h
  have HC2 := Aside0.mk H
  clear H
  go_enter Try.func90, Try.ntmps90
  go_upto_region 1 with (first | ((with_reducible refine gate_dst (N := 1) rfl ?_); refine box_event ?hg (N := 1) ?hd (cs := #[.int .u64 a0_0, .int .u64 a0_1]) (t := 58) ?hr ?_; (case hd => rfl); (case hg => rfl); (case hr => first | (go_simp; done) | (go_simp; rfl)); intro gb277 hg w3 hbox hb; have n0_ := Aside0.mk (below_step (by repeat (first | (with_reducible first | exact HB.out | apply below_alloc | apply pw_below_drewN | apply below_drew1) | exact HB.out)) hb); have n1_ := Aside0.mk (hbox); have n2_ := Aside0.mk ((by rw [hg]; exact (below_size (by repeat (first | (with_reducible first | exact HB.out | apply below_alloc | apply pw_below_drewN | apply below_drew1) | exact HB.out))) : w.heap.size ≤ gb277)); have n3_ := Aside0.mk ((by rw [hg]; exact (below_size (by repeat (first | (with_reducible first | exact HB.out | apply below_alloc | apply pw_below_drewN | apply below_drew1) | exact HB.out))) : w.heap.size ≤ gb277)); clear HB; have HB := n0_; have BK277 := n1_; have GW277 := n2_; have GE277 := n3_; clear n0_ n1_ n2_ n3_; clear hb hbox hg))
  (try simp only [Act.put, List.setIfInBounds_toArray, List.set_cons_zero, List.set_cons_succ])
  go_cut [17] (fun v17 wc => ∃ (kq : Nat) (x17_1 : Bool), v17 = .bool x17_1 ∧ Aside0 (fixed_words_root.j0 kq x17_1 a0_0 a0_1 = some r) ∧ Aside0 (kq ≤ k) ∧ Aside0 (wc.heap[gb277]? = some (.cells #[.int .u64 a0_0, .int .u64 a0_1] 58 (0, 0))) ∧ Aside0 (Below w.heap.size w wc))
  case first =>
    have H := HC2.out
    clear HC2
    by_cases c4 : a0_1 = 0
    · rw [if_pos c4] at H
      have c4b0 : (a0_1 == 0) = true := beq_iff_eq.mpr c4
      have c4b1 : (a0_1 != 0) = false := bne_eq_false_iff_eq.mpr c4
      clear c4
      (first | rw [c4b0] | (simp only [i64_w, i32_w]; rw [c4b0]) | skip)
      have H' := Aside0.mk H
      clear H
      have hcz5_0 : w3.cell? ⟨gb277, 0, none⟩ = some (.int .u64 a0_0) := (blk_cell BK277.out 0).trans rfl
      have hcz5_1 : w3.cell? ⟨gb277, 1, none⟩ = some (.int .u64 a0_1) := (blk_cell BK277.out 1).trans rfl
      have hfz5_0 := blk_frozen BK277.out 0
      have hfz5_1 := blk_frozen BK277.out 1
      go_wp2
      go_meet
      case rel => exact ⟨_, ((a0_0 == 0)), (by first | rfl | (simp; done) | (simp [*]; done)), H', ⟨by first | omega | exact Nat.le_refl _⟩, ⟨by (with_reducible repeat (first | refine blk_drewN ?_ _ | refine blk_drew ?_ | refine blk_alloc ?_ _)); exact BK277.out⟩, ⟨by repeat (first | (with_reducible first | exact HB.out | apply below_alloc | apply pw_below_drewN | apply below_drew1 | refine below_set ?_ GE277.out) | exact HB.out)⟩⟩
    · rw [if_neg c4] at H
      have c4b0 : (a0_1 == 0) = false := beq_eq_false_iff_ne.mpr c4
      have c4b1 : (a0_1 != 0) = true := bne_iff_ne.mpr c4
      (first | rw [c4b0] | (simp only [i64_w, i32_w]; rw [c4b0]) | skip)
      have H' := Aside0.mk H
      clear H
      have hcz6_0 : w3.cell? ⟨gb277, 0, none⟩ = some (.int .u64 a0_0) := (blk_cell BK277.out 0).trans rfl
      have hcz6_1 : w3.cell? ⟨gb277, 1, none⟩ = some (.int .u64 a0_1) := (blk_cell BK277.out 1).trans rfl
      have hfz6_0 := blk_frozen BK277.out 0
      have hfz6_1 := blk_frozen BK277.out 1
      go_wp2
      go_meet
      case rel => exact ⟨_, (false), (by first | rfl | (simp; done) | (simp [*]; done)), H', ⟨by first | omega | exact Nat.le_refl _⟩, ⟨by (with_reducible repeat (first | refine blk_drewN ?_ _ | refine blk_drew ?_ | refine blk_alloc ?_ _)); exact BK277.out⟩, ⟨by repeat (first | (with_reducible first | exact HB.out | apply below_alloc | apply pw_below_drewN | apply below_drew1 | refine below_set ?_ GE277.out) | exact HB.out)⟩⟩
  case rest =>
    clear HC2
    try clear p2
    try clear c4
    try clear c4b0
    try clear c4b1
    try clear hcz5_0
    try clear hcz5_1
    try clear hcz6_0
    try clear hcz6_1
    try clear hfz5_0
    try clear hfz5_1
    try clear hfz6_0
    try clear hfz6_1
    obtain ⟨kq, x17_1, rfl, HA, HJ1, BK277, HB⟩ := hcut
    cases kq with
    | zero => exact absurd HA.out (by simp [fixed_words_root.j0])
    | succ kj1 =>
      have H := HA.out
      clear HA
      simp only [fixed_words_root.j0] at H
      by_cases c7 : x17_1 = true
      · subst c7
        have H1 : (some 0) = some r := by rw [if_pos rfl] at H; exact H
        clear H
        have H := H1
        clear H1
        obtain rfl := Option.some.inj H
        go_wp2
        go_ret
        exact ⟨by first | rfl | (simp [errW_none, errW_some] <;> rfl) | (simp [*, errW_none, errW_some] <;> rfl), by repeat (first | (with_reducible first | exact HB.out | apply below_alloc | apply pw_below_drewN | apply below_drew1 | refine below_set ?_ GE277.out) | exact HB.out)⟩
      · replace c7 := Bool.eq_false_iff.mpr c7
        subst c7
        have H1 : ((bits_Len64.f a0_0).bind fun t278 => (if a0_1 = 0 then (fixed_words_root.j1 kj1 t278 a0_0 a0_1) else ((bits_Len64.f a0_1).bind fun t279 => (fixed_words_root.j1 kj1 (wrap64 (64 + t279)) a0_0 a0_1)))) = some r := by rw [if_neg (show ¬ (false = true) by decide)] at H; exact H
        clear H
        have H := H1
        clear H1
        replace H := Option.bind_eq_some_iff.mp H
        obtain ⟨t278, A80, H⟩ := H
        replace H : (if a0_1 = 0 then (fixed_words_root.j1 kj1 t278 a0_0 a0_1) else ((bits_Len64.f a0_1).bind fun t279 => (fixed_words_root.j1 kj1 (wrap64 (64 + t279)) a0_0 a0_1))) = some r := H
        have A8 := Aside0.mk A80
        clear A80
        have HC9 := Aside0.mk H
        clear H
        have hcz10_0 : wc.cell? ⟨gb277, 0, none⟩ = some (.int .u64 a0_0) := (blk_cell BK277.out 0).trans rfl
        have hcz10_1 : wc.cell? ⟨gb277, 1, none⟩ = some (.int .u64 a0_1) := (blk_cell BK277.out 1).trans rfl
        have hfz10_0 := blk_frozen BK277.out 0
        have hfz10_1 := blk_frozen BK277.out 1
        go_upto_if 23 with (first | ((with_reducible refine gate_callee (f := 113) rfl ?_); refine goesL_ (some 20) rfl rfl Try.func113 (by kernel_rfl) rfl #[.int .u64 a0_0] rfl (by (try simp only [List.map_toArray, List.map_cons, List.map_nil]); first | done | rfl | (simp only [List.length_drop, List.length_take]; rfl)) ?_; (with_reducible refine (bits_Len64.calls a0_0 t278 _ A8.out).mono ?_); rintro e w11 ⟨rfl, hb⟩; refine ⟨_, rfl, ?_⟩; have n0_ := Aside0.mk (blk_below (g := gb277) (o := .cells #[.int .u64 a0_0, .int .u64 a0_1] 58 (0, 0)) (by (with_reducible repeat (first | refine blk_drewN ?_ _ | refine blk_drew ?_ | refine blk_alloc ?_ _)); exact BK277.out) hb); have n1_ := Aside0.mk (below_step (by repeat (first | (with_reducible first | exact HB.out | apply below_alloc | apply pw_below_drewN | apply below_drew1 | refine below_set ?_ GE277.out) | exact HB.out)) hb); clear BK277; clear HB; have BK277 := n0_; have HB := n1_; clear n0_ n1_; (try clear hb); (try clear hb2); (try clear hk); (try clear hi); have hcz12_0 : w11.cell? ⟨gb277, 0, none⟩ = some (.int .u64 a0_0) := (blk_cell BK277.out 0).trans rfl; have hcz12_1 : w11.cell? ⟨gb277, 1, none⟩ = some (.int .u64 a0_1) := (blk_cell BK277.out 1).trans rfl; have hfz12_0 := blk_frozen BK277.out 0; have hfz12_1 := blk_frozen BK277.out 1))
        (try simp only [Act.put, List.setIfInBounds_toArray, List.set_cons_zero, List.set_cons_succ])
        go_cut [3] (fun v3 wc => ∃ (kq : Nat) (x3_8 : Int), v3 = .int .i64 x3_8 ∧ Aside0 (fixed_words_root.j1 kq x3_8 a0_0 a0_1 = some r) ∧ Aside0 (kq ≤ kj1) ∧ Aside0 (wc.heap[gb277]? = some (.cells #[.int .u64 a0_0, .int .u64 a0_1] 58 (0, 0))) ∧ Aside0 (Below w.heap.size w wc))
        case first =>
          have H := HC9.out
          clear HC9
          by_cases c13 : a0_1 = 0
          · rw [if_pos c13] at H
            have c13b0 : (a0_1 == 0) = true := beq_iff_eq.mpr c13
            have c13b1 : (a0_1 != 0) = false := bne_eq_false_iff_eq.mpr c13
            clear c13
            (first | rw [c13b0] | (simp only [i64_w, i32_w]; rw [c13b0]) | skip)
            have H' := Aside0.mk H
            clear H
            go_wp2
            go_meet
            case rel => exact ⟨_, (t278), (by first | rfl | (simp; done) | (simp [*]; done)), H', ⟨by have := HJ1.out; first | omega | exact Nat.le_refl _⟩, ⟨by (with_reducible repeat (first | refine blk_drewN ?_ _ | refine blk_drew ?_ | refine blk_alloc ?_ _)); exact BK277.out⟩, ⟨by repeat (first | (with_reducible first | exact HB.out | apply below_alloc | apply pw_below_drewN | apply below_drew1 | refine below_set ?_ GE277.out) | exact HB.out)⟩⟩
          · rw [if_neg c13] at H
            have c13b0 : (a0_1 == 0) = false := beq_eq_false_iff_ne.mpr c13
            have c13b1 : (a0_1 != 0) = true := bne_iff_ne.mpr c13
            (first | rw [c13b0] | (simp only [i64_w, i32_w]; rw [c13b0]) | skip)
            replace H := Option.bind_eq_some_iff.mp H
            obtain ⟨t279, A140, H⟩ := H
            replace H : (fixed_words_root.j1 kj1 (wrap64 (64 + t279)) a0_0 a0_1) = some r := H
            have A14 := Aside0.mk A140
            clear A140
            have H' := Aside0.mk H
            clear H
            have hcz15_0 : w11.cell? ⟨gb277, 0, none⟩ = some (.int .u64 a0_0) := (blk_cell BK277.out 0).trans rfl
            have hcz15_1 : w11.cell? ⟨gb277, 1, none⟩ = some (.int .u64 a0_1) := (blk_cell BK277.out 1).trans rfl
            have hfz15_0 := blk_frozen BK277.out 0
            have hfz15_1 := blk_frozen BK277.out 1
            go_wp2_with (first | ((with_reducible refine gate_callee (f := 113) rfl ?_); refine goesL_ (some 26) rfl rfl Try.func113 (by kernel_rfl) rfl #[.int .u64 a0_1] rfl (by (try simp only [List.map_toArray, List.map_cons, List.map_nil]); first | done | rfl | (simp only [List.length_drop, List.length_take]; rfl)) ?_; (with_reducible refine (bits_Len64.calls a0_1 t279 _ A14.out).mono ?_); rintro e w16 ⟨rfl, hb⟩; refine ⟨_, rfl, ?_⟩; have n0_ := Aside0.mk (blk_below (g := gb277) (o := .cells #[.int .u64 a0_0, .int .u64 a0_1] 58 (0, 0)) (by (with_reducible repeat (first | refine blk_drewN ?_ _ | refine blk_drew ?_ | refine blk_alloc ?_ _)); exact BK277.out) hb); have n1_ := Aside0.mk (below_step (by repeat (first | (with_reducible first | exact HB.out | apply below_alloc | apply pw_below_drewN | apply below_drew1 | refine below_set ?_ GE277.out) | exact HB.out)) hb); clear BK277; clear HB; have BK277 := n0_; have HB := n1_; clear n0_ n1_; (try clear hb); (try clear hb2); (try clear hk); (try clear hi)))
            go_meet
            case rel => exact ⟨_, (wrap64 (64 + t279)), (by first | rfl | (simp; done) | (simp [*]; done)), H', ⟨by have := HJ1.out; first | omega | exact Nat.le_refl _⟩, ⟨by (with_reducible repeat (first | refine blk_drewN ?_ _ | refine blk_drew ?_ | refine blk_alloc ?_ _)); exact BK277.out⟩, ⟨by repeat (first | (with_reducible first | exact HB.out | apply below_alloc | apply pw_below_drewN | apply below_drew1 | refine below_set ?_ GE277.out) | exact HB.out)⟩⟩
        case rest =>
          clear HC9
          try clear c1
          try clear p2
          try clear c4
          try clear c4b0
          try clear c4b1
          try clear p6
          try clear c7
          try clear c9
          try clear c11
          try clear c13
          try clear c13b0
          try clear c13b1
          try clear hcz10_0
          try clear hcz10_1
          try clear hcz12_0
          try clear hcz12_1
          try clear hcz15_0
          try clear hcz15_1
          try clear hcz5_0
          try clear hcz5_1
          try clear hcz6_0
          try clear hcz6_1
          try clear hfz10_0
          try clear hfz10_1
          try clear hfz12_0
          try clear hfz12_1
          try clear hfz15_0
          try clear hfz15_1
          try clear hfz5_0
          try clear hfz5_1
          try clear hfz6_0
          try clear hfz6_1
          try clear p2
          obtain ⟨kq, x3_8, rfl, HA, HJ8, BK277, HB⟩ := hcut
          cases kq with
          | zero => exact absurd HA.out (by simp [fixed_words_root.j1])
          | succ kj8 =>
            have H := HA.out
            clear HA
            simp only [fixed_words_root.j1] at H
            have HC17 := Aside0.mk H
            clear H
            go_upto_if 32 with (fail)
            go_cut [4] (fun v4 wc => ∃ (kq : Nat) (x4_16 : Int), v4 = .int .u64 x4_16 ∧ Aside0 (fixed_words_root.j2 kq x4_16 a0_0 a0_1 = some r) ∧ Aside0 (kq ≤ kj8) ∧ Aside0 (wc.heap[gb277]? = some (.cells #[.int .u64 a0_0, .int .u64 a0_1] 58 (0, 0))) ∧ Aside0 (Below w.heap.size w wc))
            case first =>
              have H := HC17.out
              clear HC17
              by_cases c18 : (wrap64 (Int.tdiv (wrap64 (x3_8 + 1)) 2)) < 64
              · rw [if_pos c18] at H
                have c18b0 : decide ((wrap64 (Int.tdiv (wrap64 (x3_8 + 1)) 2)) < 64) = true := decide_eq_true c18
                clear c18
                (first | rw [c18b0] | (simp only [i64_w, i32_w]; rw [c18b0]) | skip)
                obtain ⟨ji19, hji19⟩ : ∃ j_ : Int, (wrap64 (Int.tdiv (wrap64 (x3_8 + 1)) 2)) = j_ := ⟨_, rfl⟩
                replace H : (if 0 ≤ (ji19) then (fixed_words_root.j2 kj8 (shl .u64 1 (ji19)) a0_0 a0_1) else (none)) = some r := by first | (rw [hji19] at H; exact H) | (simp only [hji19] at H ⊢; exact H)
                (try rw [hji19] at c18b0)
                have hji19w : (IntKind.i64.wrap (Int.tdiv (wrap64 (x3_8 + 1)) 2)) = ji19 := (i64_w _).trans hji19
                by_cases c20 : 0 ≤ (ji19)
                · rw [if_pos c20] at H
                  have c20b0 := eq_true c20
                  have c20b1 : decide (0 ≤ (ji19)) = true := decide_eq_true c20
                  clear c20
                  obtain ⟨ji21, hji21⟩ : ∃ j_ : Int, (shl .u64 1 (ji19)) = j_ := ⟨_, rfl⟩
                  replace H : (fixed_words_root.j2 kj8 ji21 a0_0 a0_1) = some r := by first | (rw [hji21] at H; exact H) | (simp only [hji21] at H ⊢; exact H)
                  have hji21_ : (IntKind.u64.wrap (1 * 2 ^ min (ji19).toNat 64)) = ji21 := hji21
                  have hji21z : (ji19) ≤ 64 → (IntKind.u64.wrap (1 * 2 ^ (ji19).toNat)) = ji21 := shl_small hji21
                  have hji21u : (IntKind.u64.wrap (2 ^ min (ji19).toNat 64)) = ji21 := by have h_ := hji21_; rw [Int.one_mul] at h_; exact h_
                  have hji21v : (ji19) ≤ 64 → (IntKind.u64.wrap (2 ^ (ji19).toNat)) = ji21 := fun hle_ => by have h_ := hji21z hle_; rw [Int.one_mul] at h_; exact h_
                  have H' := Aside0.mk H
                  clear H
                  go_wp2
                  go_meet
                  case rel => exact ⟨_, (ji21), (by first | rfl | (simp; done) | (simp only [← hji21] <;> (first | rfl | simp)) | (simp [*]; done)), H', ⟨by have := HJ1.out; have := HJ8.out; first | omega | exact Nat.le_refl _⟩, ⟨by (with_reducible repeat (first | refine blk_drewN ?_ _ | refine blk_drew ?_ | refine blk_alloc ?_ _)); exact BK277.out⟩, ⟨by repeat (first | (with_reducible first | exact HB.out | apply below_alloc | apply pw_below_drewN | apply below_drew1 | refine below_set ?_ GE277.out) | exact HB.out)⟩⟩
                · rw [if_neg c20] at H
                  exact absurd H (by simp)
              · rw [if_neg c18] at H
                have c18b0 : decide ((wrap64 (Int.tdiv (wrap64 (x3_8 + 1)) 2)) < 64) = false := decide_eq_false c18
                clear c18
                (first | rw [c18b0] | (simp only [i64_w, i32_w]; rw [c18b0]) | skip)
                have H' := Aside0.mk H
                clear H
                go_wp2
                go_meet
                case rel => exact ⟨_, (18446744073709551615), (by first | rfl | (simp; done) | (simp [*]; done)), H', ⟨by have := HJ1.out; have := HJ8.out; first | omega | exact Nat.le_refl _⟩, ⟨by (with_reducible repeat (first | refine blk_drewN ?_ _ | refine blk_drew ?_ | refine blk_alloc ?_ _)); exact BK277.out⟩, ⟨by repeat (first | (with_reducible first | exact HB.out | apply below_alloc | apply pw_below_drewN | apply below_drew1 | refine below_set ?_ GE277.out) | exact HB.out)⟩⟩
            case rest =>
              clear HC17
              try clear c1
              try clear c2
              try clear p2
              try clear c4
              try clear c4b0
              try clear c4b1
              try clear p6
              try clear c7
              try clear c9
              try clear c11
              try clear c13
              try clear c13b0
              try clear c13b1
              try clear c18
              try clear c18b0
              try clear c20
              try clear c20b0
              try clear c20b1
              try clear hcz10_0
              try clear hcz10_1
              try clear hcz12_0
              try clear hcz12_1
              try clear hcz15_0
              try clear hcz15_1
              try clear hcz5_0
              try clear hcz5_1
              try clear hcz6_0
              try clear hcz6_1
              try clear hfz10_0
              try clear hfz10_1
              try clear hfz12_0
              try clear hfz12_1
              try clear hfz15_0
              try clear hfz15_1
              try clear hfz5_0
              try clear hfz5_1
              try clear hfz6_0
              try clear hfz6_1
              try clear p2
              try clear p6
              obtain ⟨kq, x4_16, rfl, HA, HJ16, BK277, HB⟩ := hcut
              cases kq with
              | zero => exact absurd HA.out (by simp [fixed_words_root.j2])
              | succ kj16 =>
                have H := HA.out
                clear HA
                simp only [fixed_words_root.j2] at H
                have H' := Aside0.mk H
                clear H
                go_wp2
                go_loopg [4] kj16 (fun kq v4 w' => ∃ (x4_4 : Int), v4 = .int .u64 x4_4 ∧ Aside0 (fixed_words_root.l0 kq x4_4 a0_0 a0_1 = some r) ∧ Aside0 (kq ≤ kj16) ∧ Aside0 (w'.heap[gb277]? = some (.cells #[.int .u64 a0_0, .int .u64 a0_1] 58 (0, 0))) ∧ Aside0 (Below w.heap.size w w'))
                case atStart => exact ⟨(x4_16), (by first | rfl | (simp; done) | (simp [*]; done)), H', ⟨Nat.le_refl _⟩, ⟨by (with_reducible repeat (first | refine blk_drewN ?_ _ | refine blk_drew ?_ | refine blk_alloc ?_ _)); exact BK277.out⟩, ⟨by repeat (first | (with_reducible first | exact HB.out | apply below_alloc | apply pw_below_drewN | apply below_drew1 | refine below_set ?_ GE277.out) | exact HB.out)⟩⟩
                case round =>
                  clear H'
                  try clear c1
                  try clear c2
                  try clear p2
                  try clear c4
                  try clear c4b0
                  try clear c4b1
                  try clear p6
                  try clear c7
                  try clear c9
                  try clear c11
                  try clear c13
                  try clear c13b0
                  try clear c13b1
                  try clear c18
                  try clear c18b0
                  try clear c20
                  try clear c20b0
                  try clear c20b1
                  try clear hcz10_0
                  try clear hcz10_1
                  try clear hcz12_0
                  try clear hcz12_1
                  try clear hcz15_0
                  try clear hcz15_1
                  try clear hcz5_0
                  try clear hcz5_1
                  try clear hcz6_0
                  try clear hcz6_1
                  try clear hfz10_0
                  try clear hfz10_1
                  try clear hfz12_0
                  try clear hfz12_1
                  try clear hfz15_0
                  try clear hfz15_1
                  try clear hfz5_0
                  try clear hfz5_1
                  try clear hfz6_0
                  try clear hfz6_1
                  try clear p2
                  try clear p6
                  obtain ⟨x4_4, rfl, HA, HK4, BK277, HB⟩ := hrel
                  cases gk with
                  | zero => exact absurd HA.out (by simp [fixed_words_root.l0])
                  | succ k4 =>
                    have H := HA.out
                    clear HA
                    simp only [fixed_words_root.l0] at H
                    by_cases c22 : a0_1 ≥ x4_4
                    · rw [if_pos c22] at H
                      have c22b0 : decide (x4_4 ≤ a0_1) = true := decide_eq_true c22
                      clear c22
                      obtain rfl := Option.some.inj H
                      have hcz23_0 : wr.cell? ⟨gb277, 0, none⟩ = some (.int .u64 a0_0) := (blk_cell BK277.out 0).trans rfl
                      have hcz23_1 : wr.cell? ⟨gb277, 1, none⟩ = some (.int .u64 a0_1) := (blk_cell BK277.out 1).trans rfl
                      have hfz23_0 := blk_frozen BK277.out 0
                      have hfz23_1 := blk_frozen BK277.out 1
                      go_wp2
                      go_ret
                      exact ⟨by first | rfl | (simp [errW_none, errW_some] <;> rfl) | (simp [*, errW_none, errW_some] <;> rfl), by repeat (first | (with_reducible first | exact HB.out | apply below_alloc | apply pw_below_drewN | apply below_drew1 | refine below_set ?_ GE277.out) | exact HB.out)⟩
                    · rw [if_neg c22] at H
                      have c22b0 : decide (x4_4 ≤ a0_1) = false := decide_eq_false c22
                      clear c22
                      replace H := Option.bind_eq_some_iff.mp H
                      obtain ⟨⟨t280, t281⟩, A240, H⟩ := H
                      replace H : (if t280 ≥ x4_4 then (some x4_4) else (fixed_words_root.l0 k4 (Go.bits .or .u64 ((add64s x4_4 t280 0) / 2) (IntKind.u64.wrap ((add64c x4_4 t280 0) * 9223372036854775808))) a0_0 a0_1)) = some r := H
                      have A24 := Aside0.mk A240
                      clear A240
                      by_cases c25 : t280 ≥ x4_4
                      · rw [if_pos c25] at H
                        have c25b0 : decide (x4_4 ≤ t280) = true := decide_eq_true c25
                        clear c25
                        obtain rfl := Option.some.inj H
                        have hcz26_0 : wr.cell? ⟨gb277, 0, none⟩ = some (.int .u64 a0_0) := (blk_cell BK277.out 0).trans rfl
                        have hcz26_1 : wr.cell? ⟨gb277, 1, none⟩ = some (.int .u64 a0_1) := (blk_cell BK277.out 1).trans rfl
                        have hfz26_0 := blk_frozen BK277.out 0
                        have hfz26_1 := blk_frozen BK277.out 1
                        go_wp2_with (first | ((with_reducible refine gate_callee (f := 91) rfl ?_); refine goesL_ (some 46) rfl rfl Try.func91 (by kernel_rfl) rfl #[.int .u64 a0_1, .int .u64 a0_0, .int .u64 x4_4] rfl (by (try simp only [List.map_toArray, List.map_cons, List.map_nil]); first | done | rfl | (simp only [List.length_drop, List.length_take]; rfl)) ?_; (with_reducible refine (bits_Div64.calls k4 a0_1 a0_0 x4_4 t280 t281 _ A24.out).mono ?_); rintro e w27 ⟨rfl, hb⟩; refine ⟨_, rfl, ?_⟩; have n0_ := Aside0.mk (blk_below (g := gb277) (o := .cells #[.int .u64 a0_0, .int .u64 a0_1] 58 (0, 0)) (by (with_reducible repeat (first | refine blk_drewN ?_ _ | refine blk_drew ?_ | refine blk_alloc ?_ _)); exact BK277.out) hb); have n1_ := Aside0.mk (below_step (by repeat (first | (with_reducible first | exact HB.out | apply below_alloc | apply pw_below_drewN | apply below_drew1 | refine below_set ?_ GE277.out) | exact HB.out)) hb); clear BK277; clear HB; have BK277 := n0_; have HB := n1_; clear n0_ n1_; (try clear hb); (try clear hb2); (try clear hk); (try clear hi)))
                        go_ret
                        exact ⟨by first | rfl | (simp [errW_none, errW_some] <;> rfl) | (simp [*, errW_none, errW_some] <;> rfl), by repeat (first | (with_reducible first | exact HB.out | apply below_alloc | apply pw_below_drewN | apply below_drew1 | refine below_set ?_ GE277.out) | exact HB.out)⟩
                      · rw [if_neg c25] at H
                        have c25b0 : decide (x4_4 ≤ t280) = false := decide_eq_false c25
                        clear c25
                        have H' := Aside0.mk H
                        clear H
                        have hcz28_0 : wr.cell? ⟨gb277, 0, none⟩ = some (.int .u64 a0_0) := (blk_cell BK277.out 0).trans rfl
                        have hcz28_1 : wr.cell? ⟨gb277, 1, none⟩ = some (.int .u64 a0_1) := (blk_cell BK277.out 1).trans rfl
                        have hfz28_0 := blk_frozen BK277.out 0
                        have hfz28_1 := blk_frozen BK277.out 1
                        go_wp2_with (first | ((with_reducible refine gate_callee (f := 91) rfl ?_); refine goesL_ (some 46) rfl rfl Try.func91 (by kernel_rfl) rfl #[.int .u64 a0_1, .int .u64 a0_0, .int .u64 x4_4] rfl (by (try simp only [List.map_toArray, List.map_cons, List.map_nil]); first | done | rfl | (simp only [List.length_drop, List.length_take]; rfl)) ?_; (with_reducible refine (bits_Div64.calls k4 a0_1 a0_0 x4_4 t280 t281 _ A24.out).mono ?_); rintro e w29 ⟨rfl, hb⟩; refine ⟨_, rfl, ?_⟩; have n0_ := Aside0.mk (blk_below (g := gb277) (o := .cells #[.int .u64 a0_0, .int .u64 a0_1] 58 (0, 0)) (by (with_reducible repeat (first | refine blk_drewN ?_ _ | refine blk_drew ?_ | refine blk_alloc ?_ _)); exact BK277.out) hb); have n1_ := Aside0.mk (below_step (by repeat (first | (with_reducible first | exact HB.out | apply below_alloc | apply pw_below_drewN | apply below_drew1 | refine below_set ?_ GE277.out) | exact HB.out)) hb); clear BK277; clear HB; have BK277 := n0_; have HB := n1_; clear n0_ n1_; (try clear hb); (try clear hb2); (try clear hk); (try clear hi)))
                        go_roundg k4
                        case measure => have := HJ1.out; have := HJ8.out; have := HJ16.out; have := HK4.out; omega
                        case rel => exact ⟨(Go.bits .or .u64 ((add64s x4_4 t280 0) / 2) (IntKind.u64.wrap ((add64c x4_4 t280 0) * 9223372036854775808))), (by first | rfl | (simp; done) | (simp [*]; done)), H', ⟨by have := HJ1.out; have := HJ8.out; have := HJ16.out; have := HK4.out; omega⟩, ⟨by (with_reducible repeat (first | refine blk_drewN ?_ _ | refine blk_drew ?_ | refine blk_alloc ?_ _)); exact BK277.out⟩, ⟨by repeat (first | (with_reducible first | exact HB.out | apply below_alloc | apply pw_below_drewN | apply below_drew1 | refine below_set ?_ GE277.out) | exact HB.out)⟩⟩
end Go.Proofs.Ytenpiaafkmfjfaa.B

end
section
namespace Go.Proofs.Ytenpiaafkmfjfaa.B
open Go.RowKit Go.Proofs.YtenpiaafkmfjfaaW.PrintWords Go.Proofs.YtenpiaafkmfjfaaW.PrintLast Go.Proofs.YtenpiaafkmfjfaaW.PrintMore
theorem rd_at {l : List S23} {i : Nat} (h : i < l.length) : rd_T23 l (i : Int) = l[i] := by
  unfold rd_T23
  rw [Int.toNat_natCast, List.getD_eq_getElem?_getD, List.getElem?_eq_getElem h]; rfl
theorem flags_loop (l : List S23) (hl : l.length ≤ 1000000) : ∀ (m i k : Nat), m + i = l.length → m + 1 ≤ k → fixed_flags.l0 k l l.length i = some ((l.drop i).any fun x => x.f1) := by
  intro m
  induction m with
  | zero =>
    intro i k hm hk
    obtain ⟨k, rfl⟩ : ∃ z, k = z + 1 := ⟨k - 1, by omega⟩
    rw [fixed_flags.l0, if_neg (by omega), List.drop_of_length_le (by omega)]
    rfl
  | succ m ih =>
    intro i k hm hk
    obtain ⟨k, rfl⟩ : ∃ z, k = z + 1 := ⟨k - 1, by omega⟩
    have hi : i < l.length := by omega
    rw [fixed_flags.l0, if_pos (by omega), if_pos (by omega), if_pos (by omega), rd_at hi, List.drop_eq_getElem_cons hi, List.any_cons]
    by_cases h : l[i].f1 = true
    · rw [if_pos h, h]; rfl
    · rw [if_neg h, wrap64_id (by omega) (by omega), show (i : Int) + 1 = ((i + 1 : Nat) : Int) by omega, ih (i + 1) k (by omega) (by omega)]
      rw [show l[i].f1 = false by simpa using h]; rfl
theorem flags_f (l : List S23) (hl : l.length ≤ 1000000) (k : Nat) (hk : l.length + 1 ≤ k) : fixed_flags.f k l = some (l.any fun x => x.f1) := by
  unfold fixed_flags.f
  have := flags_loop l hl l.length 0 k (by omega) hk
  rw [show ((0 : Nat) : Int) = 0 from rfl] at this
  rw [this]; rfl
end Go.Proofs.Ytenpiaafkmfjfaa.B

end
section
namespace Go.Proofs.Ytenpiaafkmfjfaa.B
open Go.RowKit Go.Proofs.YtenpiaafkmfjfaaW.PrintWords Go.Proofs.YtenpiaafkmfjfaaW.PrintLast Go.Proofs.YtenpiaafkmfjfaaW.PrintMore
attribute [local go_sem] max2_int min2_int max_two min_two max_three min_three max_four min_four
set_option linter.unusedVariables false
set_option linter.unusedSimpArgs false
def fixed_Sqrt.f (k : Nat) (a0_0 : Int) (a0_1 : Bool) : Option (Int × Bool) := (fixed_sound.f a0_0 a0_1).bind fun bt284 => (if bt284.1 < 0 then (some (0, true)) else ((fixed_of.f bt284.1).bind fun bt286 => ((fixed_exact_up.f bt286.1 bt286.2.1 bt286.2.2).bind fun bt289 => ((fixed_words_root.f k bt289.2.1 bt289.2.2).bind fun t292 => ((fixed_exact_fit.f k false t292 0 bt284.2).bind fun bt293 => (some (bt293.1, bt293.2)))))))
def fixed_Sqrt.T4 : Bool × List (List Nat × List Nat) := (true, [([], []), ([0], [0]), ([1], [1]), ([2, 2], [2]), ([3], [3]), ([4, 3], [4]), ([5], [5]), ([6], [6]), ([], []), ([8], [8]), ([7, 9, 5], [7, 9]), ([10, 10, 0, 1, 2, 3, 4, 5, 6, 7, 8, 9, 10], [10])])
def fixed_Sqrt.B4 : List Nat := [0, 1, 3, 7, 15, 31, 63, 127, 0, 256, 1023, 2047]
theorem fixed_Sqrt.tab4 : rtab .any (opsOf Try.f42 4) = fixed_Sqrt.T4 := by kernel_rfl
theorem fixed_Sqrt.bits4 : waitsOk fixed_Sqrt.T4.2 fixed_Sqrt.B4 = true := by kernel_rfl
set_option maxHeartbeats 8000000 in
set_option maxRecDepth 100000 in
theorem fixed_Sqrt.calls (k : Nat) (a0_0 : Int) (a0_1 : Bool) (r1 : Int) (r2 : Bool) (w : World) (h : fixed_Sqrt.f k a0_0 a0_1 = some (r1, r2)) :
    Calls Try.prog 42 #[.agg #[.int .i64 a0_0, .bool a0_1]] w fun e w' => e = .returned (.agg #[.int .i64 r1, .bool r2]) ∧ Below w.heap.size w w' := by
  have hu23 := Try.underlying23
  have hu58 := Try.underlying58
  have hu60 := Try.underlying60
  have hfld60_1 := @fld60_1
  have HB := Aside0.mk (Below.refl w.heap.size w)
  have H : ((fixed_sound.f a0_0 a0_1).bind fun bt284 => (if bt284.1 < 0 then (some (0, true)) else ((fixed_of.f bt284.1).bind fun bt286 => ((fixed_exact_up.f bt286.1 bt286.2.1 bt286.2.2).bind fun bt289 => ((fixed_words_root.f k bt289.2.1 bt289.2.2).bind fun t292 => ((fixed_exact_fit.f k false t292 0 bt284.2).bind fun bt293 => (some (bt293.1, bt293.2)))))))) = some (r1, r2) := h
  clear h
  replace H := Option.bind_eq_some_iff.mp H
  obtain ⟨⟨t284, t285⟩, A20, H⟩ := H
  replace H : (if t284 < 0 then (some (0, true)) else ((fixed_of.f t284).bind fun bt286 => ((fixed_exact_up.f bt286.1 bt286.2.1 bt286.2.2).bind fun bt289 => ((fixed_words_root.f k bt289.2.1 bt289.2.2).bind fun t292 => ((fixed_exact_fit.f k false t292 0 t285).bind fun bt293 => (some (bt293.1, bt293.2))))))) = some (r1, r2) := H
  have A2 := Aside0.mk A20
  clear A20
  by_cases c3 : t284 < 0
  · rw [if_pos c3] at H
    have c3b0 : decide (t284 < 0) = true := decide_eq_true c3
    clear c3
    simp only [Option.some.injEq, Prod.mk.injEq] at H
    obtain ⟨rfl, rfl⟩ := H
    go_enter Try.func42, Try.ntmps42
    go_wp2_with (first | ((with_reducible refine gate_dst (N := 1) rfl ?_); refine box_event ?hg (N := 1) ?hd (cs := #[.int .i64 a0_0, .bool a0_1]) (t := 23) ?hr ?_; (case hd => rfl); (case hg => rfl); (case hr => first | (go_simp; done) | (go_simp; rfl)); intro gb282 hg w4 hbox hb; have n0_ := Aside0.mk (below_step (by repeat (first | (with_reducible first | exact HB.out | apply below_alloc | apply pw_below_drewN | apply below_drew1) | exact HB.out)) hb); have n1_ := Aside0.mk (hbox); have n2_ := Aside0.mk ((by rw [hg]; exact (below_size (by repeat (first | (with_reducible first | exact HB.out | apply below_alloc | apply pw_below_drewN | apply below_drew1) | exact HB.out))) : w.heap.size ≤ gb282)); have n3_ := Aside0.mk ((by rw [hg]; exact (below_size (by repeat (first | (with_reducible first | exact HB.out | apply below_alloc | apply pw_below_drewN | apply below_drew1) | exact HB.out))) : w.heap.size ≤ gb282)); clear HB; have HB := n0_; have BK282 := n1_; have GW282 := n2_; have GE282 := n3_; clear n0_ n1_ n2_ n3_; clear hb hbox hg) | ((with_reducible refine gate_dst (N := 2) rfl ?_); refine box_event ?hg (N := 2) ?hd (cs := #[.int .i64 0, .bool false]) (t := 23) ?hr ?_; (case hd => rfl); (case hg => rfl); (case hr => first | (go_simp; done) | (go_simp; rfl)); intro gb283 hg w5 hbox hb; have n0_ := Aside0.mk (blk_below (g := gb282) (o := .cells #[.int .i64 a0_0, .bool a0_1] 23 (0, 0)) (by (with_reducible repeat (first | refine blk_drewN ?_ _ | refine blk_drew ?_ | refine blk_alloc ?_ _)); exact BK282.out) hb); have n1_ := Aside0.mk (below_step (by repeat (first | (with_reducible first | exact HB.out | apply below_alloc | apply pw_below_drewN | apply below_drew1 | refine below_set ?_ GE282.out) | exact HB.out)) hb); have n2_ := Aside0.mk (hbox); have n3_ := Aside0.mk ((by rw [hg]; exact (below_size (by repeat (first | (with_reducible first | exact HB.out | apply below_alloc | apply pw_below_drewN | apply below_drew1 | refine below_set ?_ GE282.out) | exact HB.out))) : w.heap.size ≤ gb283)); have n4_ := Aside0.mk ((by rw [hg]; exact (below_size (by repeat (first | (with_reducible first | exact HB.out | apply below_alloc | apply pw_below_drewN | apply below_drew1 | refine below_set ?_ GE282.out) | exact HB.out))) : w.heap.size ≤ gb283)); have n5_ := Aside0.mk ((by rw [hg]; exact Nat.ne_of_lt (blk_lt (g := gb282) (o := .cells #[.int .i64 a0_0, .bool a0_1] 23 (0, 0)) (by (with_reducible repeat (first | refine blk_drewN ?_ _ | refine blk_drew ?_ | refine blk_alloc ?_ _)); exact BK282.out)) : gb282 ≠ gb283)); have n6_ := Aside0.mk ((by rw [hg]; exact Nat.ne_of_gt (blk_lt (g := gb282) (o := .cells #[.int .i64 a0_0, .bool a0_1] 23 (0, 0)) (by (with_reducible repeat (first | refine blk_drewN ?_ _ | refine blk_drew ?_ | refine blk_alloc ?_ _)); exact BK282.out)) : gb283 ≠ gb282)); clear BK282; clear HB; have BK282 := n0_; have HB := n1_; have BK283 := n2_; have GW283 := n3_; have GE283 := n4_; have NB282_283 := n5_; have NB283_282 := n6_; clear n0_ n1_ n2_ n3_ n4_ n5_ n6_; clear hb hbox hg; have hnb6 := NB282_283.out; have hnc6 := NB283_282.out; have hcz7_0 : w5.cell? ⟨gb282, 0, none⟩ = some (.int .i64 a0_0) := (blk_cell BK282.out 0).trans rfl; have hcz7_1 : w5.cell? ⟨gb282, 1, none⟩ = some (.bool a0_1) := (blk_cell BK282.out 1).trans rfl; have hfz7_0 := blk_frozen BK282.out 0; have hfz7_1 := blk_frozen BK282.out 1) | ((with_reducible refine gate_callee (f := 72) rfl ?_); refine goesL_ (some 4) rfl rfl Try.func72 (by kernel_rfl) rfl #[.agg #[.int .i64 a0_0, .bool a0_1]] rfl (by (try simp only [List.map_toArray, List.map_cons, List.map_nil]); first | done | rfl | (simp only [List.length_drop, List.length_take]; rfl)) ?_; (with_reducible refine (fixed_sound.calls a0_0 a0_1 t284 t285 _ A2.out).mono ?_); rintro e w8 ⟨rfl, hb⟩; refine ⟨_, rfl, ?_⟩; have n0_ := Aside0.mk (blk_below (g := gb282) (o := .cells #[.int .i64 a0_0, .bool a0_1] 23 (0, 0)) (by (with_reducible repeat (first | refine blk_drewN ?_ _ | refine blk_drew ?_ | refine blk_alloc ?_ _)); exact BK282.out) hb); have n1_ := Aside0.mk (blk_below (g := gb283) (o := .cells #[.int .i64 0, .bool false] 23 (0, 0)) (by (with_reducible repeat (first | refine blk_drewN ?_ _ | refine blk_drew ?_ | refine blk_alloc ?_ _)); exact BK283.out) hb); have n2_ := Aside0.mk (below_step (by repeat (first | (with_reducible first | exact HB.out | apply below_alloc | apply pw_below_drewN | apply below_drew1 | refine below_set ?_ GE282.out | refine below_set ?_ GE283.out) | exact HB.out)) hb); clear BK282; clear BK283; clear HB; have BK282 := n0_; have BK283 := n1_; have HB := n2_; clear n0_ n1_ n2_; (try clear hb); (try clear hb2); (try clear hk); (try clear hi); have hcz9_0 : w8.cell? ⟨gb282, 0, none⟩ = some (.int .i64 a0_0) := (blk_cell BK282.out 0).trans rfl; have hcz9_1 : w8.cell? ⟨gb282, 1, none⟩ = some (.bool a0_1) := (blk_cell BK282.out 1).trans rfl; have hfz9_0 := blk_frozen BK282.out 0; have hfz9_1 := blk_frozen BK282.out 1; have hcz10_0 : w8.cell? ⟨gb283, 0, none⟩ = some (.int .i64 0) := (blk_cell BK283.out 0).trans rfl; have hcz10_1 : w8.cell? ⟨gb283, 1, none⟩ = some (.bool false) := (blk_cell BK283.out 1).trans rfl; have hfz10_0 := blk_frozen BK283.out 0; have hfz10_1 := blk_frozen BK283.out 1))
    refine bodyPost_ret (results_cell_row rfl _ _ gb283 23 #[.int .i64 0, .bool true] (0, 0) _ rfl (by (with_reducible repeat (first | refine blk_drewN ?_ _ | refine blk_drew ?_ | refine blk_alloc ?_ _)); refine blk_put (cs := #[.int .i64 0, .bool false]) ?_ 1 _ rfl; (with_reducible repeat (first | refine blk_drewN ?_ _ | refine blk_drew ?_ | refine blk_alloc ?_ _)); refine blk_put (cs := #[.int .i64 0, .bool false]) ?_ 0 _ rfl; (with_reducible repeat (first | refine blk_drewN ?_ _ | refine blk_drew ?_ | refine blk_alloc ?_ _)); refine blk_far ?_ NB283_282.out _; (with_reducible repeat (first | refine blk_drewN ?_ _ | refine blk_drew ?_ | refine blk_alloc ?_ _)); refine blk_far ?_ NB283_282.out _; (with_reducible repeat (first | refine blk_drewN ?_ _ | refine blk_drew ?_ | refine blk_alloc ?_ _)); exact BK283.out) Try.underlying23 rfl (by kernel_rfl)) rfl ?_
    exact ⟨by first | rfl | (simp [errW_none, errW_some] <;> rfl) | (simp [*, errW_none, errW_some] <;> rfl), by repeat (first | (with_reducible first | exact HB.out | apply below_alloc | apply pw_below_drewN | apply below_drew1 | refine below_set ?_ GE282.out | refine below_set ?_ GE283.out) | exact HB.out)⟩
  · rw [if_neg c3] at H
    have c3b0 : decide (t284 < 0) = false := decide_eq_false c3
    clear c3
    replace H := Option.bind_eq_some_iff.mp H
    obtain ⟨⟨t286, t287, t288⟩, A110, H⟩ := H
    replace H : ((fixed_exact_up.f t286 t287 t288).bind fun bt289 => ((fixed_words_root.f k bt289.2.1 bt289.2.2).bind fun t292 => ((fixed_exact_fit.f k false t292 0 t285).bind fun bt293 => (some (bt293.1, bt293.2))))) = some (r1, r2) := H
    have A11 := Aside0.mk A110
    clear A110
    replace H := Option.bind_eq_some_iff.mp H
    obtain ⟨⟨t289, t290, t291⟩, A120, H⟩ := H
    replace H : ((fixed_words_root.f k t290 t291).bind fun t292 => ((fixed_exact_fit.f k false t292 0 t285).bind fun bt293 => (some (bt293.1, bt293.2)))) = some (r1, r2) := H
    have A12 := Aside0.mk A120
    clear A120
    replace H := Option.bind_eq_some_iff.mp H
    obtain ⟨t292, A130, H⟩ := H
    replace H : ((fixed_exact_fit.f k false t292 0 t285).bind fun bt293 => (some (bt293.1, bt293.2))) = some (r1, r2) := H
    have A13 := Aside0.mk A130
    clear A130
    replace H := Option.bind_eq_some_iff.mp H
    obtain ⟨⟨t293, t294⟩, A140, H⟩ := H
    replace H : (some (t293, t294)) = some (r1, r2) := H
    have A14 := Aside0.mk A140
    clear A140
    simp only [Option.some.injEq, Prod.mk.injEq] at H
    obtain ⟨rfl, rfl⟩ := H
    go_enter Try.func42, Try.ntmps42
    try go_wp2_with (first | ((with_reducible refine gate_dst (N := 1) rfl ?_); refine box_event ?hg (N := 1) ?hd (cs := #[.int .i64 a0_0, .bool a0_1]) (t := 23) ?hr ?_; (case hd => rfl); (case hg => rfl); (case hr => first | (go_simp; done) | (go_simp; rfl)); intro gb282 hg w15 hbox hb; have n0_ := Aside0.mk (below_step (by repeat (first | (with_reducible first | exact HB.out | apply below_alloc | apply pw_below_drewN | apply below_drew1) | exact HB.out)) hb); have n1_ := Aside0.mk (hbox); have n2_ := Aside0.mk ((by rw [hg]; exact (below_size (by repeat (first | (with_reducible first | exact HB.out | apply below_alloc | apply pw_below_drewN | apply below_drew1) | exact HB.out))) : w.heap.size ≤ gb282)); have n3_ := Aside0.mk ((by rw [hg]; exact (below_size (by repeat (first | (with_reducible first | exact HB.out | apply below_alloc | apply pw_below_drewN | apply below_drew1) | exact HB.out))) : w.heap.size ≤ gb282)); clear HB; have HB := n0_; have BK282 := n1_; have GW282 := n2_; have GE282 := n3_; clear n0_ n1_ n2_ n3_; clear hb hbox hg) | ((with_reducible refine gate_dst (N := 2) rfl ?_); refine box_event ?hg (N := 2) ?hd (cs := #[.int .i64 0, .bool false]) (t := 23) ?hr ?_; (case hd => rfl); (case hg => rfl); (case hr => first | (go_simp; done) | (go_simp; rfl)); intro gb283 hg w16 hbox hb; have n0_ := Aside0.mk (blk_below (g := gb282) (o := .cells #[.int .i64 a0_0, .bool a0_1] 23 (0, 0)) (by (with_reducible repeat (first | refine blk_drewN ?_ _ | refine blk_drew ?_ | refine blk_alloc ?_ _)); exact BK282.out) hb); have n1_ := Aside0.mk (below_step (by repeat (first | (with_reducible first | exact HB.out | apply below_alloc | apply pw_below_drewN | apply below_drew1 | refine below_set ?_ GE282.out) | exact HB.out)) hb); have n2_ := Aside0.mk (hbox); have n3_ := Aside0.mk ((by rw [hg]; exact (below_size (by repeat (first | (with_reducible first | exact HB.out | apply below_alloc | apply pw_below_drewN | apply below_drew1 | refine below_set ?_ GE282.out) | exact HB.out))) : w.heap.size ≤ gb283)); have n4_ := Aside0.mk ((by rw [hg]; exact (below_size (by repeat (first | (with_reducible first | exact HB.out | apply below_alloc | apply pw_below_drewN | apply below_drew1 | refine below_set ?_ GE282.out) | exact HB.out))) : w.heap.size ≤ gb283)); have n5_ := Aside0.mk ((by rw [hg]; exact Nat.ne_of_lt (blk_lt (g := gb282) (o := .cells #[.int .i64 a0_0, .bool a0_1] 23 (0, 0)) (by (with_reducible repeat (first | refine blk_drewN ?_ _ | refine blk_drew ?_ | refine blk_alloc ?_ _)); exact BK282.out)) : gb282 ≠ gb283)); have n6_ := Aside0.mk ((by rw [hg]; exact Nat.ne_of_gt (blk_lt (g := gb282) (o := .cells #[.int .i64 a0_0, .bool a0_1] 23 (0, 0)) (by (with_reducible repeat (first | refine blk_drewN ?_ _ | refine blk_drew ?_ | refine blk_alloc ?_ _)); exact BK282.out)) : gb283 ≠ gb282)); clear BK282; clear HB; have BK282 := n0_; have HB := n1_; have BK283 := n2_; have GW283 := n3_; have GE283 := n4_; have NB282_283 := n5_; have NB283_282 := n6_; clear n0_ n1_ n2_ n3_ n4_ n5_ n6_; clear hb hbox hg; have hnb17 := NB282_283.out; have hnc17 := NB283_282.out; have hcz18_0 : w16.cell? ⟨gb282, 0, none⟩ = some (.int .i64 a0_0) := (blk_cell BK282.out 0).trans rfl; have hcz18_1 : w16.cell? ⟨gb282, 1, none⟩ = some (.bool a0_1) := (blk_cell BK282.out 1).trans rfl; have hfz18_0 := blk_frozen BK282.out 0; have hfz18_1 := blk_frozen BK282.out 1) | ((with_reducible refine gate_callee (f := 72) rfl ?_); refine goesL_ (some 4) rfl rfl Try.func72 (by kernel_rfl) rfl #[.agg #[.int .i64 a0_0, .bool a0_1]] rfl (by (try simp only [List.map_toArray, List.map_cons, List.map_nil]); first | done | rfl | (simp only [List.length_drop, List.length_take]; rfl)) ?_; (with_reducible refine (fixed_sound.calls a0_0 a0_1 t284 t285 _ A2.out).mono ?_); rintro e w19 ⟨rfl, hb⟩; refine ⟨_, rfl, ?_⟩; have n0_ := Aside0.mk (blk_below (g := gb282) (o := .cells #[.int .i64 a0_0, .bool a0_1] 23 (0, 0)) (by (with_reducible repeat (first | refine blk_drewN ?_ _ | refine blk_drew ?_ | refine blk_alloc ?_ _)); exact BK282.out) hb); have n1_ := Aside0.mk (blk_below (g := gb283) (o := .cells #[.int .i64 0, .bool false] 23 (0, 0)) (by (with_reducible repeat (first | refine blk_drewN ?_ _ | refine blk_drew ?_ | refine blk_alloc ?_ _)); exact BK283.out) hb); have n2_ := Aside0.mk (below_step (by repeat (first | (with_reducible first | exact HB.out | apply below_alloc | apply pw_below_drewN | apply below_drew1 | refine below_set ?_ GE282.out | refine below_set ?_ GE283.out) | exact HB.out)) hb); clear BK282; clear BK283; clear HB; have BK282 := n0_; have BK283 := n1_; have HB := n2_; clear n0_ n1_ n2_; (try clear hb); (try clear hb2); (try clear hk); (try clear hi); have hcz20_0 : w19.cell? ⟨gb282, 0, none⟩ = some (.int .i64 a0_0) := (blk_cell BK282.out 0).trans rfl; have hcz20_1 : w19.cell? ⟨gb282, 1, none⟩ = some (.bool a0_1) := (blk_cell BK282.out 1).trans rfl; have hfz20_0 := blk_frozen BK282.out 0; have hfz20_1 := blk_frozen BK282.out 1))
    have n0_ : Aside0 (((w19.setCell ⟨gb282, 0, none⟩ (.int .i64 t284)).setCell ⟨gb282, 1, none⟩ (.bool t285)).heap[gb282]? = some (.cells #[.int .i64 t284, .bool t285] 23 (0, 0))) := ⟨by (with_reducible repeat (first | refine blk_drewN ?_ _ | refine blk_drew ?_ | refine blk_alloc ?_ _)); refine blk_put (cs := #[.int .i64 t284, .bool a0_1]) ?_ 1 _ rfl; (with_reducible repeat (first | refine blk_drewN ?_ _ | refine blk_drew ?_ | refine blk_alloc ?_ _)); refine blk_put (cs := #[.int .i64 a0_0, .bool a0_1]) ?_ 0 _ rfl; (with_reducible repeat (first | refine blk_drewN ?_ _ | refine blk_drew ?_ | refine blk_alloc ?_ _)); exact BK282.out⟩
    have n1_ : Aside0 (((w19.setCell ⟨gb282, 0, none⟩ (.int .i64 t284)).setCell ⟨gb282, 1, none⟩ (.bool t285)).heap[gb283]? = some (.cells #[.int .i64 0, .bool false] 23 (0, 0))) := ⟨by (with_reducible repeat (first | refine blk_drewN ?_ _ | refine blk_drew ?_ | refine blk_alloc ?_ _)); refine blk_far ?_ NB283_282.out _; (with_reducible repeat (first | refine blk_drewN ?_ _ | refine blk_drew ?_ | refine blk_alloc ?_ _)); refine blk_far ?_ NB283_282.out _; (with_reducible repeat (first | refine blk_drewN ?_ _ | refine blk_drew ?_ | refine blk_alloc ?_ _)); exact BK283.out⟩
    have n2_ : Aside0 (Below w.heap.size w ((w19.setCell ⟨gb282, 0, none⟩ (.int .i64 t284)).setCell ⟨gb282, 1, none⟩ (.bool t285))) := ⟨by repeat (first | (with_reducible first | exact HB.out | apply below_alloc | apply pw_below_drewN | apply below_drew1 | refine below_set ?_ GE282.out | refine below_set ?_ GE283.out) | exact HB.out)⟩
    (try clear BK282)
    (try clear BK283)
    (try clear HB)
    generalize ((w19.setCell ⟨gb282, 0, none⟩ (.int .i64 t284)).setCell ⟨gb282, 1, none⟩ (.bool t285)) = w21 at n0_ n1_ n2_ ⊢
    have BK282 := n0_
    have BK283 := n1_
    have HB := n2_
    clear n0_ n1_ n2_
    have n0_ := Aside0.mk (blk_drew BK282.out)
    have n1_ := Aside0.mk (blk_drew BK283.out)
    have n2_ := Aside0.mk (below_drew1 HB.out)
    clear BK282
    clear BK283
    clear HB
    have BK282 := n0_
    have BK283 := n1_
    have HB := n2_
    clear n0_ n1_ n2_
    refine start_ (n := 12) (S := fun w' => w'.cell? ⟨gb282, 0, none⟩ = some (.int .i64 t284) ∧ w'.cell? ⟨gb282, 1, none⟩ = some (.bool t285)) (ds := []) #[false, false, false, false, false, false, false, false, false, false, false, false] (by kernel_rfl) rfl rfl ⟨(blk_cell BK282.out 0).trans rfl, (blk_cell BK282.out 1).trans rfl⟩ (fun hHeld => ?_); refine with_tabW fixed_Sqrt.tab4 fixed_Sqrt.bits4 (fun HT_ HW_ => ?_)
    generalize w21.drew = w22 at BK282 BK283 HB hHeld ⊢
    refine pure_ (i := 0) (N := some 9) (v := ?_) (a' := ?_) #[true, false, false, false, false, false, false, false, false, false, false, false] rfl rfl (any_of HT_.out (by kernel_rfl)) (fun _ _ _ h => h) (Or.inl ⟨by rfl, ?_⟩) ?_ ?_
    rotate_left
    · intro w'
      go_simp
      with_reducible rfl
    rotate_left
    · simp only [Act.put, List.setIfInBounds_toArray, List.set_cons_zero, List.set_cons_succ, i64_w, i32_w]
      rfl
    refine pure_ (i := 8) (N := some 17) (v := ?_) (a' := ?_) #[true, false, false, false, false, false, false, false, true, false, false, false] rfl rfl (any_of HT_.out (by kernel_rfl)) (fun _ _ _ h => h) (Or.inl ⟨by rfl, ?_⟩) ?_ ?_
    rotate_left
    · intro w'
      go_simp
      with_reducible rfl
    rotate_left
    · simp only [Act.put, List.setIfInBounds_toArray, List.set_cons_zero, List.set_cons_succ, i64_w, i32_w]
      rfl
    refine take_ (i := 1) (N := some 10) (v := ?_) (a' := ?_) #[true, true, false, false, false, false, false, false, true, false, false, false] rfl rfl (take_ofW HT_.out HW_.out (by kernel_rfl)) (fun _ _ _ h => h) (Or.inl ⟨by rfl, ?_⟩) hHeld ?_ ?_
    rotate_left
    · rintro w' ⟨s0, s1⟩
      go_simp
      with_reducible rfl
    rotate_left
    · simp only [Act.put, List.setIfInBounds_toArray, List.set_cons_zero, List.set_cons_succ, i64_w, i32_w]
      rfl
    refine take_ (i := 9) (N := some 18) (v := ?_) (a' := ?_) #[true, true, false, false, false, false, false, false, true, true, false, false] rfl rfl (take_ofW HT_.out HW_.out (by kernel_rfl)) (fun _ _ _ h => h) (Or.inl ⟨by rfl, ?_⟩) hHeld ?_ ?_
    rotate_left
    · rintro w' ⟨s0, s1⟩
      go_simp
      with_reducible rfl
    rotate_left
    · simp only [Act.put, List.setIfInBounds_toArray, List.set_cons_zero, List.set_cons_succ, i64_w, i32_w]
      rfl
    refine one_ (i := 2) (N := some 11) #[true, true, true, false, false, false, false, false, true, true, false, false] rfl rfl (one_of HT_.out (by kernel_rfl)) (by decide) (fun K hK => ?_)
    refine goes_ Try.func82 (by kernel_rfl) rfl #[.int .i64 t284] (by rfl) rfl rfl (by (try simp only [List.map_toArray, List.map_cons, List.map_nil]); first | done | rfl | (simp only [List.length_drop, List.length_take]; rfl)) ?_
    with_reducible refine (fixed_of.calls t284 t286 t287 t288 _ A11.out).mono ?_
    rintro e w23 ⟨rfl, hb⟩
    refine ⟨_, rfl, ?_⟩
    have n0_ := Aside0.mk (blk_below (g := gb282) (o := .cells #[.int .i64 t284, .bool t285] 23 (0, 0)) (by (with_reducible repeat (first | refine blk_drewN ?_ _ | refine blk_drew ?_ | refine blk_alloc ?_ _)); exact BK282.out) hb)
    have n1_ := Aside0.mk (blk_below (g := gb283) (o := .cells #[.int .i64 0, .bool false] 23 (0, 0)) (by (with_reducible repeat (first | refine blk_drewN ?_ _ | refine blk_drew ?_ | refine blk_alloc ?_ _)); exact BK283.out) hb)
    have n2_ := Aside0.mk (below_step (by repeat (first | (with_reducible first | exact HB.out | apply below_alloc | apply pw_below_drewN | apply below_drew1 | refine below_set ?_ GE282.out | refine below_set ?_ GE283.out) | exact HB.out)) hb)
    clear BK282
    clear BK283
    clear HB
    have BK282 := n0_
    have BK283 := n1_
    have HB := n2_
    clear n0_ n1_ n2_
    (try clear hb)
    (try clear hb2)
    (try clear hk)
    (try clear hi)
    refine hK.out _ _ ⟨(blk_cell BK282.out 0).trans rfl, (blk_cell BK282.out 1).trans rfl⟩ (fun hHeld => ?_)
    clear hK K
    refine norm_ (a' := ?_) ?_ ?_
    rotate_left
    · show Act.put _ (some 11) _ = _
      simp only [Act.put, List.setIfInBounds_toArray, List.set_cons_zero, List.set_cons_succ, i64_w, i32_w]
      rfl
    refine one_ (i := 3) (N := some 12) #[true, true, true, true, false, false, false, false, true, true, false, false] rfl rfl (one_of HT_.out (by kernel_rfl)) (by decide) (fun K hK => ?_)
    refine goes_ Try.func89 (by kernel_rfl) rfl #[.agg #[.bool t286, .int .u64 t287, .int .u64 t288]] (by rfl) rfl rfl (by (try simp only [List.map_toArray, List.map_cons, List.map_nil]); first | done | rfl | (simp only [List.length_drop, List.length_take]; rfl)) ?_
    with_reducible refine (fixed_exact_up.calls t286 t287 t288 t289 t290 t291 _ A12.out).mono ?_
    rintro e w24 ⟨rfl, hb⟩
    refine ⟨_, rfl, ?_⟩
    have n0_ := Aside0.mk (blk_below (g := gb282) (o := .cells #[.int .i64 t284, .bool t285] 23 (0, 0)) (by (with_reducible repeat (first | refine blk_drewN ?_ _ | refine blk_drew ?_ | refine blk_alloc ?_ _)); exact BK282.out) hb)
    have n1_ := Aside0.mk (blk_below (g := gb283) (o := .cells #[.int .i64 0, .bool false] 23 (0, 0)) (by (with_reducible repeat (first | refine blk_drewN ?_ _ | refine blk_drew ?_ | refine blk_alloc ?_ _)); exact BK283.out) hb)
    have n2_ := Aside0.mk (below_step (by repeat (first | (with_reducible first | exact HB.out | apply below_alloc | apply pw_below_drewN | apply below_drew1 | refine below_set ?_ GE282.out | refine below_set ?_ GE283.out) | exact HB.out)) hb)
    clear BK282
    clear BK283
    clear HB
    have BK282 := n0_
    have BK283 := n1_
    have HB := n2_
    clear n0_ n1_ n2_
    (try clear hb)
    (try clear hb2)
    (try clear hk)
    (try clear hi)
    refine hK.out _ _ ⟨(blk_cell BK282.out 0).trans rfl, (blk_cell BK282.out 1).trans rfl⟩ (fun hHeld => ?_)
    clear hK K
    refine norm_ (a' := ?_) ?_ ?_
    rotate_left
    · show Act.put _ (some 12) _ = _
      simp only [Act.put, List.setIfInBounds_toArray, List.set_cons_zero, List.set_cons_succ, i64_w, i32_w]
      rfl
    refine pure_ (i := 4) (N := some 13) (v := ?_) (a' := ?_) #[true, true, true, true, true, false, false, false, true, true, false, false] rfl rfl (any_of HT_.out (by kernel_rfl)) (fun _ _ _ h => h) (Or.inl ⟨by rfl, ?_⟩) ?_ ?_
    rotate_left
    · intro w'
      go_simp
      with_reducible rfl
    rotate_left
    · simp only [Act.put, List.setIfInBounds_toArray, List.set_cons_zero, List.set_cons_succ, i64_w, i32_w]
      rfl
    refine one_ (i := 5) (N := some 14) #[true, true, true, true, true, true, false, false, true, true, false, false] rfl rfl (one_of HT_.out (by kernel_rfl)) (by decide) (fun K hK => ?_)
    refine goes_ Try.func90 (by kernel_rfl) rfl #[.agg #[.int .u64 t290, .int .u64 t291]] (by rfl) rfl rfl (by (try simp only [List.map_toArray, List.map_cons, List.map_nil]); first | done | rfl | (simp only [List.length_drop, List.length_take]; rfl)) ?_
    with_reducible refine (fixed_words_root.calls k t290 t291 t292 _ A13.out).mono ?_
    rintro e w25 ⟨rfl, hb⟩
    refine ⟨_, rfl, ?_⟩
    have n0_ := Aside0.mk (blk_below (g := gb282) (o := .cells #[.int .i64 t284, .bool t285] 23 (0, 0)) (by (with_reducible repeat (first | refine blk_drewN ?_ _ | refine blk_drew ?_ | refine blk_alloc ?_ _)); exact BK282.out) hb)
    have n1_ := Aside0.mk (blk_below (g := gb283) (o := .cells #[.int .i64 0, .bool false] 23 (0, 0)) (by (with_reducible repeat (first | refine blk_drewN ?_ _ | refine blk_drew ?_ | refine blk_alloc ?_ _)); exact BK283.out) hb)
    have n2_ := Aside0.mk (below_step (by repeat (first | (with_reducible first | exact HB.out | apply below_alloc | apply pw_below_drewN | apply below_drew1 | refine below_set ?_ GE282.out | refine below_set ?_ GE283.out) | exact HB.out)) hb)
    clear BK282
    clear BK283
    clear HB
    have BK282 := n0_
    have BK283 := n1_
    have HB := n2_
    clear n0_ n1_ n2_
    (try clear hb)
    (try clear hb2)
    (try clear hk)
    (try clear hi)
    refine hK.out _ _ ⟨(blk_cell BK282.out 0).trans rfl, (blk_cell BK282.out 1).trans rfl⟩ (fun hHeld => ?_)
    clear hK K
    refine norm_ (a' := ?_) ?_ ?_
    rotate_left
    · show Act.put _ (some 14) _ = _
      simp only [Act.put, List.setIfInBounds_toArray, List.set_cons_zero, List.set_cons_succ, i64_w, i32_w]
      rfl
    refine pure_ (i := 6) (N := some 15) (v := ?_) (a' := ?_) #[true, true, true, true, true, true, true, false, true, true, false, false] rfl rfl (any_of HT_.out (by kernel_rfl)) (fun _ _ _ h => h) (Or.inl ⟨by rfl, ?_⟩) ?_ ?_
    rotate_left
    · intro w'
      go_simp
      with_reducible rfl
    rotate_left
    · simp only [Act.put, List.setIfInBounds_toArray, List.set_cons_zero, List.set_cons_succ, i64_w, i32_w]
      rfl
    refine pure_ (i := 7) (N := some 16) (v := ?_) (a' := ?_) #[true, true, true, true, true, true, true, true, true, true, false, false] rfl rfl (any_of HT_.out (by kernel_rfl)) (fun _ _ _ h => h) (Or.inl ⟨by rfl, ?_⟩) ?_ ?_
    rotate_left
    · intro w'
      go_simp
      with_reducible rfl
    rotate_left
    · simp only [Act.put, List.setIfInBounds_toArray, List.set_cons_zero, List.set_cons_succ, i64_w, i32_w]
      rfl
    refine one_ (i := 10) (N := some 19) #[true, true, true, true, true, true, true, true, true, true, true, false] rfl rfl (one_of HT_.out (by kernel_rfl)) (by decide) (fun K hK => ?_)
    refine goes_ Try.func83 (by kernel_rfl) rfl #[.agg #[.bool false, .int .u64 t292, .int .u64 0], .bool t285] (by rfl) rfl rfl (by (try simp only [List.map_toArray, List.map_cons, List.map_nil]); first | done | rfl | (simp only [List.length_drop, List.length_take]; rfl)) ?_
    with_reducible refine (fixed_exact_fit.calls k false t292 0 t285 t293 t294 _ A14.out).mono ?_
    rintro e w26 ⟨rfl, hb⟩
    refine ⟨_, rfl, ?_⟩
    have n0_ := Aside0.mk (blk_below (g := gb282) (o := .cells #[.int .i64 t284, .bool t285] 23 (0, 0)) (by (with_reducible repeat (first | refine blk_drewN ?_ _ | refine blk_drew ?_ | refine blk_alloc ?_ _)); exact BK282.out) hb)
    have n1_ := Aside0.mk (blk_below (g := gb283) (o := .cells #[.int .i64 0, .bool false] 23 (0, 0)) (by (with_reducible repeat (first | refine blk_drewN ?_ _ | refine blk_drew ?_ | refine blk_alloc ?_ _)); exact BK283.out) hb)
    have n2_ := Aside0.mk (below_step (by repeat (first | (with_reducible first | exact HB.out | apply below_alloc | apply pw_below_drewN | apply below_drew1 | refine below_set ?_ GE282.out | refine below_set ?_ GE283.out) | exact HB.out)) hb)
    clear BK282
    clear BK283
    clear HB
    have BK282 := n0_
    have BK283 := n1_
    have HB := n2_
    clear n0_ n1_ n2_
    (try clear hb)
    (try clear hb2)
    (try clear hk)
    (try clear hi)
    refine hK.out _ _ ⟨(blk_cell BK282.out 0).trans rfl, (blk_cell BK282.out 1).trans rfl⟩ (fun hHeld => ?_)
    clear hK K
    refine norm_ (a' := ?_) ?_ ?_
    rotate_left
    · show Act.put _ (some 19) _ = _
      simp only [Act.put, List.setIfInBounds_toArray, List.set_cons_zero, List.set_cons_succ, i64_w, i32_w]
      rfl
    refine one_ (i := 11) (N := none) #[true, true, true, true, true, true, true, true, true, true, true, true] rfl rfl (one_of HT_.out (by kernel_rfl)) (by decide) (fun K hK => ?_)
    have hs27 : w26.cell? ⟨gb283, 0, none⟩ = some (.int .i64 0) := (blk_cell BK283.out 0).trans rfl
    have hfs27 := blk_frozen BK283.out 0
    have hns27_0 := NB282_283.out
    have hms27_0 := NB283_282.out
    have hs28 : w26.cell? ⟨gb283, 1, none⟩ = some (.bool false) := (blk_cell BK283.out 1).trans rfl
    have hfs28 := blk_frozen BK283.out 1
    have hns28_0 := NB282_283.out
    have hms28_0 := NB283_282.out
    refine skip_ (w1 := ?_) (by rfl) rfl ?_ ?_
    rotate_left
    · go_simp
      rfl
    refine hK.out _ _ ⟨((cell_far (p := ⟨gb283, _, none⟩) NB282_283.out _).trans (((cell_far (p := ⟨gb283, _, none⟩) NB282_283.out _).trans (hHeld.1)))), ((cell_far (p := ⟨gb283, _, none⟩) NB282_283.out _).trans (((cell_far (p := ⟨gb283, _, none⟩) NB282_283.out _).trans (hHeld.2))))⟩ (fun hHeld => ?_)
    clear hK K
    refine done_ (done_of HT_.out (by kernel_rfl)) ?_
    try go_wp2
    refine bodyPost_ret (results_cell_row rfl _ _ gb283 23 #[.int .i64 t293, .bool t294] (0, 0) _ rfl (by (with_reducible repeat (first | refine blk_drewN ?_ _ | refine blk_drew ?_ | refine blk_alloc ?_ _)); refine blk_put (cs := #[.int .i64 t293, .bool false]) ?_ 1 _ rfl; (with_reducible repeat (first | refine blk_drewN ?_ _ | refine blk_drew ?_ | refine blk_alloc ?_ _)); refine blk_put (cs := #[.int .i64 0, .bool false]) ?_ 0 _ rfl; (with_reducible repeat (first | refine blk_drewN ?_ _ | refine blk_drew ?_ | refine blk_alloc ?_ _)); exact BK283.out) Try.underlying23 rfl (by kernel_rfl)) rfl ?_
    exact ⟨by first | rfl | (simp [errW_none, errW_some] <;> rfl) | (simp [*, errW_none, errW_some] <;> rfl), by repeat (first | (with_reducible first | exact HB.out | apply below_alloc | apply pw_below_drewN | apply below_drew1 | refine below_set ?_ GE282.out | refine below_set ?_ GE283.out) | exact HB.out)⟩
end Go.Proofs.Ytenpiaafkmfjfaa.B

end
section
namespace Go.Proofs.Ytenpiaafkmfjfaa.B
open Go.RowKit Go.Proofs.YtenpiaafkmfjfaaW.PrintWords Go.Proofs.YtenpiaafkmfjfaaW.PrintLast Go.Proofs.YtenpiaafkmfjfaaW.PrintMore
attribute [local go_sem] max2_int min2_int max_two min_two max_three min_three max_four min_four
set_option linter.unusedVariables false
set_option linter.unusedSimpArgs false
def fixed_Hypot.f (k : Nat) (a0_0 : Int) (a0_1 : Bool) (a1_0 : Int) (a1_1 : Bool) : Option (Int × Bool) := (fixed_sound.f a0_0 a0_1).bind fun bt298 => ((fixed_sound.f a1_0 a1_1).bind fun bt300 => ((fixed_product.f bt298.1 bt298.1).bind fun bt302 => ((fixed_product.f bt300.1 bt300.1).bind fun bt305 => ((fixed_exact_plus.f k bt302.1 bt302.2.1 bt302.2.2 bt305.1 bt305.2.1 bt305.2.2).bind fun bt308 => ((fixed_words_root.f k bt308.2.1 bt308.2.2).bind fun t311 => ((fixed_flags.f k (([(⟨bt298.1, bt298.2⟩ : S23), (⟨bt300.1, bt300.2⟩ : S23)] : List (S23)))).bind fun t315 => ((fixed_exact_fit.f k false t311 0 t315).bind fun bt316 => (some (bt316.1, bt316.2)))))))))
def fixed_Hypot.T2 : Bool × List (List Nat × List Nat) := (true, [([], []), ([0], [0]), ([], []), ([2], [2]), ([1, 3], [1, 3]), ([], []), ([5], [5]), ([], []), ([7], [7]), ([6, 8, 4], [6, 8]), ([4, 9, 9], [4, 9]), ([10], [10]), ([11, 10], [11]), ([12], [12]), ([13], [13]), ([], []), ([], []), ([15, 16], [15, 16]), ([17, 12], [17]), ([14, 18, 18], [14, 18]), ([19, 19, 0, 1, 2, 3, 4, 5, 6, 7, 8, 9, 10, 11, 12, 13, 14, 15, 16, 17, 18, 19], [19])])
def fixed_Hypot.B2 : List Nat := [0, 1, 0, 4, 15, 0, 32, 0, 128, 511, 1023, 2047, 4095, 8191, 16383, 0, 0, 98304, 237567, 524287, 1048575]
theorem fixed_Hypot.tab2 : rtab .any (opsOf Try.f44 2) = fixed_Hypot.T2 := by kernel_rfl
theorem fixed_Hypot.bits2 : waitsOk fixed_Hypot.T2.2 fixed_Hypot.B2 = true := by kernel_rfl
set_option maxHeartbeats 8000000 in
set_option maxRecDepth 100000 in
theorem fixed_Hypot.calls (k : Nat) (a0_0 : Int) (a0_1 : Bool) (a1_0 : Int) (a1_1 : Bool) (r1 : Int) (r2 : Bool) (w : World) (h : fixed_Hypot.f k a0_0 a0_1 a1_0 a1_1 = some (r1, r2)) :
    Calls Try.prog 44 #[.agg #[.int .i64 a0_0, .bool a0_1], .agg #[.int .i64 a1_0, .bool a1_1]] w fun e w' => e = .returned (.agg #[.int .i64 r1, .bool r2]) ∧ Below w.heap.size w w' := by
  have hu23 := Try.underlying23
  have hu58 := Try.underlying58
  have hu60 := Try.underlying60
  have hfld60_1 := @fld60_1
  have HB := Aside0.mk (Below.refl w.heap.size w)
  have H : ((fixed_sound.f a0_0 a0_1).bind fun bt298 => ((fixed_sound.f a1_0 a1_1).bind fun bt300 => ((fixed_product.f bt298.1 bt298.1).bind fun bt302 => ((fixed_product.f bt300.1 bt300.1).bind fun bt305 => ((fixed_exact_plus.f k bt302.1 bt302.2.1 bt302.2.2 bt305.1 bt305.2.1 bt305.2.2).bind fun bt308 => ((fixed_words_root.f k bt308.2.1 bt308.2.2).bind fun t311 => ((fixed_flags.f k (([(⟨bt298.1, bt298.2⟩ : S23), (⟨bt300.1, bt300.2⟩ : S23)] : List (S23)))).bind fun t315 => ((fixed_exact_fit.f k false t311 0 t315).bind fun bt316 => (some (bt316.1, bt316.2)))))))))) = some (r1, r2) := h
  clear h
  replace H := Option.bind_eq_some_iff.mp H
  obtain ⟨⟨t298, t299⟩, A30, H⟩ := H
  replace H : ((fixed_sound.f a1_0 a1_1).bind fun bt300 => ((fixed_product.f t298 t298).bind fun bt302 => ((fixed_product.f bt300.1 bt300.1).bind fun bt305 => ((fixed_exact_plus.f k bt302.1 bt302.2.1 bt302.2.2 bt305.1 bt305.2.1 bt305.2.2).bind fun bt308 => ((fixed_words_root.f k bt308.2.1 bt308.2.2).bind fun t311 => ((fixed_flags.f k (([(⟨t298, t299⟩ : S23), (⟨bt300.1, bt300.2⟩ : S23)] : List (S23)))).bind fun t315 => ((fixed_exact_fit.f k false t311 0 t315).bind fun bt316 => (some (bt316.1, bt316.2))))))))) = some (r1, r2) := H
  have A3 := Aside0.mk A30
  clear A30
  replace H := Option.bind_eq_some_iff.mp H
  obtain ⟨⟨t300, t301⟩, A40, H⟩ := H
  replace H : ((fixed_product.f t298 t298).bind fun bt302 => ((fixed_product.f t300 t300).bind fun bt305 => ((fixed_exact_plus.f k bt302.1 bt302.2.1 bt302.2.2 bt305.1 bt305.2.1 bt305.2.2).bind fun bt308 => ((fixed_words_root.f k bt308.2.1 bt308.2.2).bind fun t311 => ((fixed_flags.f k (([(⟨t298, t299⟩ : S23), (⟨t300, t301⟩ : S23)] : List (S23)))).bind fun t315 => ((fixed_exact_fit.f k false t311 0 t315).bind fun bt316 => (some (bt316.1, bt316.2)))))))) = some (r1, r2) := H
  have A4 := Aside0.mk A40
  clear A40
  replace H := Option.bind_eq_some_iff.mp H
  obtain ⟨⟨t302, t303, t304⟩, A50, H⟩ := H
  replace H : ((fixed_product.f t300 t300).bind fun bt305 => ((fixed_exact_plus.f k t302 t303 t304 bt305.1 bt305.2.1 bt305.2.2).bind fun bt308 => ((fixed_words_root.f k bt308.2.1 bt308.2.2).bind fun t311 => ((fixed_flags.f k (([(⟨t298, t299⟩ : S23), (⟨t300, t301⟩ : S23)] : List (S23)))).bind fun t315 => ((fixed_exact_fit.f k false t311 0 t315).bind fun bt316 => (some (bt316.1, bt316.2))))))) = some (r1, r2) := H
  have A5 := Aside0.mk A50
  clear A50
  replace H := Option.bind_eq_some_iff.mp H
  obtain ⟨⟨t305, t306, t307⟩, A60, H⟩ := H
  replace H : ((fixed_exact_plus.f k t302 t303 t304 t305 t306 t307).bind fun bt308 => ((fixed_words_root.f k bt308.2.1 bt308.2.2).bind fun t311 => ((fixed_flags.f k (([(⟨t298, t299⟩ : S23), (⟨t300, t301⟩ : S23)] : List (S23)))).bind fun t315 => ((fixed_exact_fit.f k false t311 0 t315).bind fun bt316 => (some (bt316.1, bt316.2)))))) = some (r1, r2) := H
  have A6 := Aside0.mk A60
  clear A60
  replace H := Option.bind_eq_some_iff.mp H
  obtain ⟨⟨t308, t309, t310⟩, A70, H⟩ := H
  replace H : ((fixed_words_root.f k t309 t310).bind fun t311 => ((fixed_flags.f k (([(⟨t298, t299⟩ : S23), (⟨t300, t301⟩ : S23)] : List (S23)))).bind fun t315 => ((fixed_exact_fit.f k false t311 0 t315).bind fun bt316 => (some (bt316.1, bt316.2))))) = some (r1, r2) := H
  have A7 := Aside0.mk A70
  clear A70
  replace H := Option.bind_eq_some_iff.mp H
  obtain ⟨t311, A80, H⟩ := H
  replace H : ((fixed_flags.f k (([(⟨t298, t299⟩ : S23), (⟨t300, t301⟩ : S23)] : List (S23)))).bind fun t315 => ((fixed_exact_fit.f k false t311 0 t315).bind fun bt316 => (some (bt316.1, bt316.2)))) = some (r1, r2) := H
  have A8 := Aside0.mk A80
  clear A80
  obtain ⟨y312, hy312⟩ : ∃ y_ : List (S23), y_ = (([(⟨t298, t299⟩ : S23), (⟨t300, t301⟩ : S23)] : List (S23))) := ⟨_, rfl⟩
  replace H : ((fixed_flags.f k y312).bind fun t315 => ((fixed_exact_fit.f k false t311 0 t315).bind fun bt316 => (some (bt316.1, bt316.2)))) = some (r1, r2) := by first | (rw [hy312]; with_reducible exact H) | (have H2_ := (Option.bind_some _ _).symm.trans H; rw [hy312]; with_reducible exact H2_) | (have H2_ := (Option.bind_some _ _).symm.trans H; with_reducible exact H2_) | with_reducible exact H | (rw [hy312]; exact H) | exact H
  have Ny312 := Aside0.mk hy312
  clear hy312
  replace H := Option.bind_eq_some_iff.mp H
  obtain ⟨t315, A90, H⟩ := H
  replace H : ((fixed_exact_fit.f k false t311 0 t315).bind fun bt316 => (some (bt316.1, bt316.2))) = some (r1, r2) := H
  have A9 := Aside0.mk A90
  clear A90
  replace H := Option.bind_eq_some_iff.mp H
  obtain ⟨⟨t316, t317⟩, A100, H⟩ := H
  replace H : (some (t316, t317)) = some (r1, r2) := H
  have A10 := Aside0.mk A100
  clear A100
  simp only [Option.some.injEq, Prod.mk.injEq] at H
  obtain ⟨rfl, rfl⟩ := H
  go_enter Try.func44, Try.ntmps44
  try go_wp2_with (first | ((with_reducible refine gate_dst (N := 2) rfl ?_); refine box_event ?hg (N := 2) ?hd (cs := #[.int .i64 a0_0, .bool a0_1]) (t := 23) ?hr ?_; (case hd => rfl); (case hg => rfl); (case hr => first | (go_simp; done) | (go_simp; rfl)); intro gb295 hg w11 hbox hb; have n0_ := Aside0.mk (below_step (by repeat (first | (with_reducible first | exact HB.out | apply below_alloc | apply pw_below_drewN | apply below_drew1) | exact HB.out)) hb); have n1_ := Aside0.mk (hbox); have n2_ := Aside0.mk ((by rw [hg]; exact (below_size (by repeat (first | (with_reducible first | exact HB.out | apply below_alloc | apply pw_below_drewN | apply below_drew1) | exact HB.out))) : w.heap.size ≤ gb295)); have n3_ := Aside0.mk ((by rw [hg]; exact (below_size (by repeat (first | (with_reducible first | exact HB.out | apply below_alloc | apply pw_below_drewN | apply below_drew1) | exact HB.out))) : w.heap.size ≤ gb295)); clear HB; have HB := n0_; have BK295 := n1_; have GW295 := n2_; have GE295 := n3_; clear n0_ n1_ n2_ n3_; clear hb hbox hg) | ((with_reducible refine gate_dst (N := 3) rfl ?_); refine box_event ?hg (N := 3) ?hd (cs := #[.int .i64 a1_0, .bool a1_1]) (t := 23) ?hr ?_; (case hd => rfl); (case hg => rfl); (case hr => first | (go_simp; done) | (go_simp; rfl)); intro gb296 hg w12 hbox hb; have n0_ := Aside0.mk (blk_below (g := gb295) (o := .cells #[.int .i64 a0_0, .bool a0_1] 23 (0, 0)) (by (with_reducible repeat (first | refine blk_drewN ?_ _ | refine blk_drew ?_ | refine blk_alloc ?_ _)); exact BK295.out) hb); have n1_ := Aside0.mk (below_step (by repeat (first | (with_reducible first | exact HB.out | apply below_alloc | apply pw_below_drewN | apply below_drew1 | refine below_set ?_ GE295.out) | exact HB.out)) hb); have n2_ := Aside0.mk (hbox); have n3_ := Aside0.mk ((by rw [hg]; exact (below_size (by repeat (first | (with_reducible first | exact HB.out | apply below_alloc | apply pw_below_drewN | apply below_drew1 | refine below_set ?_ GE295.out) | exact HB.out))) : w.heap.size ≤ gb296)); have n4_ := Aside0.mk ((by rw [hg]; exact (below_size (by repeat (first | (with_reducible first | exact HB.out | apply below_alloc | apply pw_below_drewN | apply below_drew1 | refine below_set ?_ GE295.out) | exact HB.out))) : w.heap.size ≤ gb296)); have n5_ := Aside0.mk ((by rw [hg]; exact Nat.ne_of_lt (blk_lt (g := gb295) (o := .cells #[.int .i64 a0_0, .bool a0_1] 23 (0, 0)) (by (with_reducible repeat (first | refine blk_drewN ?_ _ | refine blk_drew ?_ | refine blk_alloc ?_ _)); exact BK295.out)) : gb295 ≠ gb296)); have n6_ := Aside0.mk ((by rw [hg]; exact Nat.ne_of_gt (blk_lt (g := gb295) (o := .cells #[.int .i64 a0_0, .bool a0_1] 23 (0, 0)) (by (with_reducible repeat (first | refine blk_drewN ?_ _ | refine blk_drew ?_ | refine blk_alloc ?_ _)); exact BK295.out)) : gb296 ≠ gb295)); clear BK295; clear HB; have BK295 := n0_; have HB := n1_; have BK296 := n2_; have GW296 := n3_; have GE296 := n4_; have NB295_296 := n5_; have NB296_295 := n6_; clear n0_ n1_ n2_ n3_ n4_ n5_ n6_; clear hb hbox hg) | ((with_reducible refine gate_dst (N := 4) rfl ?_); refine box_event ?hg (N := 4) ?hd (cs := #[.int .i64 0, .bool false]) (t := 23) ?hr ?_; (case hd => rfl); (case hg => rfl); (case hr => first | (go_simp; done) | (go_simp; rfl)); intro gb297 hg w13 hbox hb; have n0_ := Aside0.mk (blk_below (g := gb295) (o := .cells #[.int .i64 a0_0, .bool a0_1] 23 (0, 0)) (by (with_reducible repeat (first | refine blk_drewN ?_ _ | refine blk_drew ?_ | refine blk_alloc ?_ _)); exact BK295.out) hb); have n1_ := Aside0.mk (blk_below (g := gb296) (o := .cells #[.int .i64 a1_0, .bool a1_1] 23 (0, 0)) (by (with_reducible repeat (first | refine blk_drewN ?_ _ | refine blk_drew ?_ | refine blk_alloc ?_ _)); exact BK296.out) hb); have n2_ := Aside0.mk (below_step (by repeat (first | (with_reducible first | exact HB.out | apply below_alloc | apply pw_below_drewN | apply below_drew1 | refine below_set ?_ GE295.out | refine below_set ?_ GE296.out) | exact HB.out)) hb); have n3_ := Aside0.mk (hbox); have n4_ := Aside0.mk ((by rw [hg]; exact (below_size (by repeat (first | (with_reducible first | exact HB.out | apply below_alloc | apply pw_below_drewN | apply below_drew1 | refine below_set ?_ GE295.out | refine below_set ?_ GE296.out) | exact HB.out))) : w.heap.size ≤ gb297)); have n5_ := Aside0.mk ((by rw [hg]; exact (below_size (by repeat (first | (with_reducible first | exact HB.out | apply below_alloc | apply pw_below_drewN | apply below_drew1 | refine below_set ?_ GE295.out | refine below_set ?_ GE296.out) | exact HB.out))) : w.heap.size ≤ gb297)); have n6_ := Aside0.mk ((by rw [hg]; exact Nat.ne_of_lt (blk_lt (g := gb295) (o := .cells #[.int .i64 a0_0, .bool a0_1] 23 (0, 0)) (by (with_reducible repeat (first | refine blk_drewN ?_ _ | refine blk_drew ?_ | refine blk_alloc ?_ _)); exact BK295.out)) : gb295 ≠ gb297)); have n7_ := Aside0.mk ((by rw [hg]; exact Nat.ne_of_gt (blk_lt (g := gb295) (o := .cells #[.int .i64 a0_0, .bool a0_1] 23 (0, 0)) (by (with_reducible repeat (first | refine blk_drewN ?_ _ | refine blk_drew ?_ | refine blk_alloc ?_ _)); exact BK295.out)) : gb297 ≠ gb295)); have n8_ := Aside0.mk ((by rw [hg]; exact Nat.ne_of_lt (blk_lt (g := gb296) (o := .cells #[.int .i64 a1_0, .bool a1_1] 23 (0, 0)) (by (with_reducible repeat (first | refine blk_drewN ?_ _ | refine blk_drew ?_ | refine blk_alloc ?_ _)); exact BK296.out)) : gb296 ≠ gb297)); have n9_ := Aside0.mk ((by rw [hg]; exact Nat.ne_of_gt (blk_lt (g := gb296) (o := .cells #[.int .i64 a1_0, .bool a1_1] 23 (0, 0)) (by (with_reducible repeat (first | refine blk_drewN ?_ _ | refine blk_drew ?_ | refine blk_alloc ?_ _)); exact BK296.out)) : gb297 ≠ gb296)); clear BK295; clear BK296; clear HB; have BK295 := n0_; have BK296 := n1_; have HB := n2_; have BK297 := n3_; have GW297 := n4_; have GE297 := n5_; have NB295_297 := n6_; have NB297_295 := n7_; have NB296_297 := n8_; have NB297_296 := n9_; clear n0_ n1_ n2_ n3_ n4_ n5_ n6_ n7_ n8_ n9_; clear hb hbox hg))
  have n0_ := Aside0.mk (blk_drew BK295.out)
  have n1_ := Aside0.mk (blk_drew BK296.out)
  have n2_ := Aside0.mk (blk_drew BK297.out)
  have n3_ := Aside0.mk (below_drew1 HB.out)
  clear BK295
  clear BK296
  clear BK297
  clear HB
  have BK295 := n0_
  have BK296 := n1_
  have BK297 := n2_
  have HB := n3_
  clear n0_ n1_ n2_ n3_
  refine start_ (n := 6) (S := fun w' => w'.cell? ⟨gb295, 0, none⟩ = some (.int .i64 a0_0) ∧ w'.cell? ⟨gb295, 1, none⟩ = some (.bool a0_1) ∧ w'.cell? ⟨gb296, 0, none⟩ = some (.int .i64 a1_0) ∧ w'.cell? ⟨gb296, 1, none⟩ = some (.bool a1_1)) (ds := [4, 5]) #[false, false, false, false, false, false] (by kernel_rfl) rfl rfl ⟨(blk_cell BK295.out 0).trans rfl, (blk_cell BK295.out 1).trans rfl, (blk_cell BK296.out 0).trans rfl, (blk_cell BK296.out 1).trans rfl⟩ (fun hHeld => ?_)
  generalize w13.drew = w14 at BK295 BK296 BK297 HB hHeld ⊢
  refine take_ (i := 0) (N := some 5) (v := ?_) (a' := ?_) #[true, false, false, false, false, false] rfl rfl (by kernel_rfl) (fun _ _ _ h => h) (Or.inl ⟨by rfl, ?_⟩) hHeld ?_ ?_
  rotate_left
  · rintro w' ⟨s0, s1, s2, s3⟩
    go_simp
    with_reducible rfl
  rotate_left
  · simp only [Act.put, List.setIfInBounds_toArray, List.set_cons_zero, List.set_cons_succ, i64_w, i32_w]
    rfl
  refine take_ (i := 2) (N := some 7) (v := ?_) (a' := ?_) #[true, false, true, false, false, false] rfl rfl (by kernel_rfl) (fun _ _ _ h => h) (Or.inl ⟨by rfl, ?_⟩) hHeld ?_ ?_
  rotate_left
  · rintro w' ⟨s0, s1, s2, s3⟩
    go_simp
    with_reducible rfl
  rotate_left
  · simp only [Act.put, List.setIfInBounds_toArray, List.set_cons_zero, List.set_cons_succ, i64_w, i32_w]
    rfl
  refine one_ (i := 1) (N := some 6) #[true, true, true, false, false, false] rfl rfl (by kernel_rfl) (by decide) (fun K hK => ?_)
  refine goes_ Try.func72 (by kernel_rfl) rfl #[.agg #[.int .i64 a0_0, .bool a0_1]] (by rfl) rfl rfl (by (try simp only [List.map_toArray, List.map_cons, List.map_nil]); first | done | rfl | (simp only [List.length_drop, List.length_take]; rfl)) ?_
  with_reducible refine (fixed_sound.calls a0_0 a0_1 t298 t299 _ A3.out).mono ?_
  rintro e w15 ⟨rfl, hb⟩
  refine ⟨_, rfl, ?_⟩
  have n0_ := Aside0.mk (blk_below (g := gb295) (o := .cells #[.int .i64 a0_0, .bool a0_1] 23 (0, 0)) (by (with_reducible repeat (first | refine blk_drewN ?_ _ | refine blk_drew ?_ | refine blk_alloc ?_ _)); exact BK295.out) hb)
  have n1_ := Aside0.mk (blk_below (g := gb296) (o := .cells #[.int .i64 a1_0, .bool a1_1] 23 (0, 0)) (by (with_reducible repeat (first | refine blk_drewN ?_ _ | refine blk_drew ?_ | refine blk_alloc ?_ _)); exact BK296.out) hb)
  have n2_ := Aside0.mk (blk_below (g := gb297) (o := .cells #[.int .i64 0, .bool false] 23 (0, 0)) (by (with_reducible repeat (first | refine blk_drewN ?_ _ | refine blk_drew ?_ | refine blk_alloc ?_ _)); exact BK297.out) hb)
  have n3_ := Aside0.mk (below_step (by repeat (first | (with_reducible first | exact HB.out | apply below_alloc | apply pw_below_drewN | apply below_drew1 | refine below_set ?_ GE295.out | refine below_set ?_ GE296.out | refine below_set ?_ GE297.out) | exact HB.out)) hb)
  clear BK295
  clear BK296
  clear BK297
  clear HB
  have BK295 := n0_
  have BK296 := n1_
  have BK297 := n2_
  have HB := n3_
  clear n0_ n1_ n2_ n3_
  (try clear hb)
  (try clear hb2)
  (try clear hk)
  (try clear hi)
  refine hK.out _ _ ⟨(blk_cell BK295.out 0).trans rfl, (blk_cell BK295.out 1).trans rfl, (blk_cell BK296.out 0).trans rfl, (blk_cell BK296.out 1).trans rfl⟩ (fun hHeld => ?_)
  clear hK K
  refine norm_ (a' := ?_) ?_ ?_
  rotate_left
  · show Act.put _ (some 6) _ = _
    simp only [Act.put, List.setIfInBounds_toArray, List.set_cons_zero, List.set_cons_succ, i64_w, i32_w]
    rfl
  refine one_ (i := 3) (N := some 8) #[true, true, true, true, false, false] rfl rfl (by kernel_rfl) (by decide) (fun K hK => ?_)
  refine goes_ Try.func72 (by kernel_rfl) rfl #[.agg #[.int .i64 a1_0, .bool a1_1]] (by rfl) rfl rfl (by (try simp only [List.map_toArray, List.map_cons, List.map_nil]); first | done | rfl | (simp only [List.length_drop, List.length_take]; rfl)) ?_
  with_reducible refine (fixed_sound.calls a1_0 a1_1 t300 t301 _ A4.out).mono ?_
  rintro e w16 ⟨rfl, hb⟩
  refine ⟨_, rfl, ?_⟩
  have n0_ := Aside0.mk (blk_below (g := gb295) (o := .cells #[.int .i64 a0_0, .bool a0_1] 23 (0, 0)) (by (with_reducible repeat (first | refine blk_drewN ?_ _ | refine blk_drew ?_ | refine blk_alloc ?_ _)); exact BK295.out) hb)
  have n1_ := Aside0.mk (blk_below (g := gb296) (o := .cells #[.int .i64 a1_0, .bool a1_1] 23 (0, 0)) (by (with_reducible repeat (first | refine blk_drewN ?_ _ | refine blk_drew ?_ | refine blk_alloc ?_ _)); exact BK296.out) hb)
  have n2_ := Aside0.mk (blk_below (g := gb297) (o := .cells #[.int .i64 0, .bool false] 23 (0, 0)) (by (with_reducible repeat (first | refine blk_drewN ?_ _ | refine blk_drew ?_ | refine blk_alloc ?_ _)); exact BK297.out) hb)
  have n3_ := Aside0.mk (below_step (by repeat (first | (with_reducible first | exact HB.out | apply below_alloc | apply pw_below_drewN | apply below_drew1 | refine below_set ?_ GE295.out | refine below_set ?_ GE296.out | refine below_set ?_ GE297.out) | exact HB.out)) hb)
  clear BK295
  clear BK296
  clear BK297
  clear HB
  have BK295 := n0_
  have BK296 := n1_
  have BK297 := n2_
  have HB := n3_
  clear n0_ n1_ n2_ n3_
  (try clear hb)
  (try clear hb2)
  (try clear hk)
  (try clear hi)
  refine hK.out _ _ ⟨(blk_cell BK295.out 0).trans rfl, (blk_cell BK295.out 1).trans rfl, (blk_cell BK296.out 0).trans rfl, (blk_cell BK296.out 1).trans rfl⟩ (fun hHeld => ?_)
  clear hK K
  refine norm_ (a' := ?_) ?_ ?_
  rotate_left
  · show Act.put _ (some 8) _ = _
    simp only [Act.put, List.setIfInBounds_toArray, List.set_cons_zero, List.set_cons_succ, i64_w, i32_w]
    rfl
  refine last_ (i := 4) (N := none) #[true, true, true, true, true, false] rfl rfl (by kernel_rfl) (by decide) (fun K hK => ?_)
  have hs17 : w16.cell? ⟨gb295, 0, none⟩ = some (.int .i64 a0_0) := (blk_cell BK295.out 0).trans rfl
  have hfs17 := blk_frozen BK295.out 0
  have hns17_1 := NB296_295.out
  have hns17_2 := NB297_295.out
  have hms17_1 := NB295_296.out
  have hms17_2 := NB295_297.out
  have hs18 : w16.cell? ⟨gb295, 1, none⟩ = some (.bool a0_1) := (blk_cell BK295.out 1).trans rfl
  have hfs18 := blk_frozen BK295.out 1
  have hns18_1 := NB296_295.out
  have hns18_2 := NB297_295.out
  have hms18_1 := NB295_296.out
  have hms18_2 := NB295_297.out
  refine skip_ (w1 := ?_) (by rfl) rfl ?_ ?_
  rotate_left
  · go_simp
    rfl
  refine hK.out _ _ ?_
  clear hK K
  refine last_ (i := 5) (N := none) #[true, true, true, true, true, true] rfl rfl (by kernel_rfl) (by decide) (fun K hK => ?_)
  have hs19 : w16.cell? ⟨gb296, 0, none⟩ = some (.int .i64 a1_0) := (blk_cell BK296.out 0).trans rfl
  have hfs19 := blk_frozen BK296.out 0
  have hns19_0 := NB295_296.out
  have hns19_2 := NB297_296.out
  have hms19_0 := NB296_295.out
  have hms19_2 := NB296_297.out
  have hs20 : w16.cell? ⟨gb296, 1, none⟩ = some (.bool a1_1) := (blk_cell BK296.out 1).trans rfl
  have hfs20 := blk_frozen BK296.out 1
  have hns20_0 := NB295_296.out
  have hns20_2 := NB297_296.out
  have hms20_0 := NB296_295.out
  have hms20_2 := NB296_297.out
  refine skip_ (w1 := ?_) (by rfl) rfl ?_ ?_
  rotate_left
  · go_simp
    rfl
  refine hK.out _ _ ?_
  clear hK K
  refine done_ (by kernel_rfl) ?_
  try go_wp2
  have n0_ : Aside0 (((((w16.setCell ⟨gb295, 0, none⟩ (.int .i64 t298)).setCell ⟨gb295, 1, none⟩ (.bool t299)).setCell ⟨gb296, 0, none⟩ (.int .i64 t300)).setCell ⟨gb296, 1, none⟩ (.bool t301)).heap[gb295]? = some (.cells #[.int .i64 t298, .bool t299] 23 (0, 0))) := ⟨by (with_reducible repeat (first | refine blk_drewN ?_ _ | refine blk_drew ?_ | refine blk_alloc ?_ _)); refine blk_far ?_ NB295_296.out _; (with_reducible repeat (first | refine blk_drewN ?_ _ | refine blk_drew ?_ | refine blk_alloc ?_ _)); refine blk_far ?_ NB295_296.out _; (with_reducible repeat (first | refine blk_drewN ?_ _ | refine blk_drew ?_ | refine blk_alloc ?_ _)); refine blk_put (cs := #[.int .i64 t298, .bool a0_1]) ?_ 1 _ rfl; (with_reducible repeat (first | refine blk_drewN ?_ _ | refine blk_drew ?_ | refine blk_alloc ?_ _)); refine blk_put (cs := #[.int .i64 a0_0, .bool a0_1]) ?_ 0 _ rfl; (with_reducible repeat (first | refine blk_drewN ?_ _ | refine blk_drew ?_ | refine blk_alloc ?_ _)); exact BK295.out⟩
  have n1_ : Aside0 (((((w16.setCell ⟨gb295, 0, none⟩ (.int .i64 t298)).setCell ⟨gb295, 1, none⟩ (.bool t299)).setCell ⟨gb296, 0, none⟩ (.int .i64 t300)).setCell ⟨gb296, 1, none⟩ (.bool t301)).heap[gb296]? = some (.cells #[.int .i64 t300, .bool t301] 23 (0, 0))) := ⟨by (with_reducible repeat (first | refine blk_drewN ?_ _ | refine blk_drew ?_ | refine blk_alloc ?_ _)); refine blk_put (cs := #[.int .i64 t300, .bool a1_1]) ?_ 1 _ rfl; (with_reducible repeat (first | refine blk_drewN ?_ _ | refine blk_drew ?_ | refine blk_alloc ?_ _)); refine blk_put (cs := #[.int .i64 a1_0, .bool a1_1]) ?_ 0 _ rfl; (with_reducible repeat (first | refine blk_drewN ?_ _ | refine blk_drew ?_ | refine blk_alloc ?_ _)); refine blk_far ?_ NB296_295.out _; (with_reducible repeat (first | refine blk_drewN ?_ _ | refine blk_drew ?_ | refine blk_alloc ?_ _)); refine blk_far ?_ NB296_295.out _; (with_reducible repeat (first | refine blk_drewN ?_ _ | refine blk_drew ?_ | refine blk_alloc ?_ _)); exact BK296.out⟩
  have n2_ : Aside0 (((((w16.setCell ⟨gb295, 0, none⟩ (.int .i64 t298)).setCell ⟨gb295, 1, none⟩ (.bool t299)).setCell ⟨gb296, 0, none⟩ (.int .i64 t300)).setCell ⟨gb296, 1, none⟩ (.bool t301)).heap[gb297]? = some (.cells #[.int .i64 0, .bool false] 23 (0, 0))) := ⟨by (with_reducible repeat (first | refine blk_drewN ?_ _ | refine blk_drew ?_ | refine blk_alloc ?_ _)); refine blk_far ?_ NB297_296.out _; (with_reducible repeat (first | refine blk_drewN ?_ _ | refine blk_drew ?_ | refine blk_alloc ?_ _)); refine blk_far ?_ NB297_296.out _; (with_reducible repeat (first | refine blk_drewN ?_ _ | refine blk_drew ?_ | refine blk_alloc ?_ _)); refine blk_far ?_ NB297_295.out _; (with_reducible repeat (first | refine blk_drewN ?_ _ | refine blk_drew ?_ | refine blk_alloc ?_ _)); refine blk_far ?_ NB297_295.out _; (with_reducible repeat (first | refine blk_drewN ?_ _ | refine blk_drew ?_ | refine blk_alloc ?_ _)); exact BK297.out⟩
  have n3_ : Aside0 (Below w.heap.size w ((((w16.setCell ⟨gb295, 0, none⟩ (.int .i64 t298)).setCell ⟨gb295, 1, none⟩ (.bool t299)).setCell ⟨gb296, 0, none⟩ (.int .i64 t300)).setCell ⟨gb296, 1, none⟩ (.bool t301))) := ⟨by repeat (first | (with_reducible first | exact HB.out | apply below_alloc | apply pw_below_drewN | apply below_drew1 | refine below_set ?_ GE295.out | refine below_set ?_ GE296.out | refine below_set ?_ GE297.out) | exact HB.out)⟩
  (try clear BK295)
  (try clear BK296)
  (try clear BK297)
  (try clear HB)
  generalize ((((w16.setCell ⟨gb295, 0, none⟩ (.int .i64 t298)).setCell ⟨gb295, 1, none⟩ (.bool t299)).setCell ⟨gb296, 0, none⟩ (.int .i64 t300)).setCell ⟨gb296, 1, none⟩ (.bool t301)) = w21 at n0_ n1_ n2_ n3_ ⊢
  have BK295 := n0_
  have BK296 := n1_
  have BK297 := n2_
  have HB := n3_
  clear n0_ n1_ n2_ n3_
  have n0_ := Aside0.mk (blk_drew BK295.out)
  have n1_ := Aside0.mk (blk_drew BK296.out)
  have n2_ := Aside0.mk (blk_drew BK297.out)
  have n3_ := Aside0.mk (below_drew1 HB.out)
  clear BK295
  clear BK296
  clear BK297
  clear HB
  have BK295 := n0_
  have BK296 := n1_
  have BK297 := n2_
  have HB := n3_
  clear n0_ n1_ n2_ n3_
  refine start_ (n := 21) (S := fun w' => True) (ds := []) #[false, false, false, false, false, false, false, false, false, false, false, false, false, false, false, false, false, false, false, false, false] (by kernel_rfl) rfl rfl trivial (fun hHeld => ?_); refine with_tabW fixed_Hypot.tab2 fixed_Hypot.bits2 (fun HT_ HW_ => ?_)
  generalize w21.drew = w22 at BK295 BK296 BK297 HB hHeld ⊢
  refine pure_ (i := 0) (N := some 9) (v := ?_) (a' := ?_) #[true, false, false, false, false, false, false, false, false, false, false, false, false, false, false, false, false, false, false, false, false] rfl rfl (any_of HT_.out (by kernel_rfl)) (fun _ _ _ h => h) (Or.inl ⟨by rfl, ?_⟩) ?_ ?_
  rotate_left
  · intro w'
    go_simp
    with_reducible rfl
  rotate_left
  · simp only [Act.put, List.setIfInBounds_toArray, List.set_cons_zero, List.set_cons_succ, i64_w, i32_w]
    rfl
  refine pure_ (i := 2) (N := some 11) (v := ?_) (a' := ?_) #[true, false, true, false, false, false, false, false, false, false, false, false, false, false, false, false, false, false, false, false, false] rfl rfl (any_of HT_.out (by kernel_rfl)) (fun _ _ _ h => h) (Or.inl ⟨by rfl, ?_⟩) ?_ ?_
  rotate_left
  · intro w'
    go_simp
    with_reducible rfl
  rotate_left
  · simp only [Act.put, List.setIfInBounds_toArray, List.set_cons_zero, List.set_cons_succ, i64_w, i32_w]
    rfl
  refine pure_ (i := 5) (N := some 14) (v := ?_) (a' := ?_) #[true, false, true, false, false, true, false, false, false, false, false, false, false, false, false, false, false, false, false, false, false] rfl rfl (any_of HT_.out (by kernel_rfl)) (fun _ _ _ h => h) (Or.inl ⟨by rfl, ?_⟩) ?_ ?_
  rotate_left
  · intro w'
    go_simp
    with_reducible rfl
  rotate_left
  · simp only [Act.put, List.setIfInBounds_toArray, List.set_cons_zero, List.set_cons_succ, i64_w, i32_w]
    rfl
  refine pure_ (i := 7) (N := some 16) (v := ?_) (a' := ?_) #[true, false, true, false, false, true, false, true, false, false, false, false, false, false, false, false, false, false, false, false, false] rfl rfl (any_of HT_.out (by kernel_rfl)) (fun _ _ _ h => h) (Or.inl ⟨by rfl, ?_⟩) ?_ ?_
  rotate_left
  · intro w'
    go_simp
    with_reducible rfl
  rotate_left
  · simp only [Act.put, List.setIfInBounds_toArray, List.set_cons_zero, List.set_cons_succ, i64_w, i32_w]
    rfl
  refine inv_at [1, 3, 4, 6, 8, 9, 10, 11, 12, 13, 14, 15, 16, 17, 18, 19, 20] (fun a0_ b a w' => ∃ (v313 : Value), a = putSel a0_ b [(1, 10, .int .i64 t298), (3, 12, .int .i64 t298), (4, 13, .agg #[.bool t302, .int .u64 t303, .int .u64 t304]), (6, 15, .int .i64 t300), (8, 17, .int .i64 t300), (9, 18, .agg #[.bool t305, .int .u64 t306, .int .u64 t307]), (10, 19, .agg #[.bool t308, .int .u64 t309, .int .u64 t310]), (11, 20, .agg #[.int .u64 t309, .int .u64 t310]), (12, 21, .int .u64 t311), (13, 22, .agg #[.int .u64 t311, .int .u64 0]), (14, 23, .agg #[.bool false, .int .u64 t311, .int .u64 0]), (15, 24, .agg #[.int .i64 t298, .bool t299]), (16, 25, .agg #[.int .i64 t300, .bool t301]), (17, 26, v313), (18, 27, .bool t315), (19, 28, .agg #[.int .i64 t316, .bool t317])] ∧ (w'.heap[gb295]? = some (.cells #[.int .i64 t298, .bool t299] 23 (0, 0))) ∧ (w'.heap[gb296]? = some (.cells #[.int .i64 t300, .bool t301] 23 (0, 0))) ∧ (b 20 = false → w'.heap[gb297]? = some (.cells #[.int .i64 0, .bool false] 23 (0, 0))) ∧ (Below w.heap.size w w') ∧ (b 17 = true → Kd.R k23 23 w' w.heap.size (fun k_ => k_ ≠ gb295 ∧ k_ ≠ gb296 ∧ k_ ≠ gb297) v313 y312) ∧ (b 20 = true → w'.heap[gb297]? = some (.cells #[.int .i64 t316, .bool t317] 23 (0, 0)))) HT_.out HW_.out (by kernel_rfl) (by kernel_rfl) ?_ ?_ ?_
  · exact ⟨.bool false, by simp only [putSel, Bool.false_eq_true, if_false], BK295.out, BK296.out, fun _ => BK297.out, HB.out, fun h_ => absurd h_ (by decide), fun h_ => absurd h_ (by decide)⟩
  · skip
    clear BK295 BK296 BK297 HB
    refine steps_cons ?_ ?_
    · rintro b a w' ⟨v313, ha, Q_BK295, Q_BK296, Q_BK297, Q_HB, Q_HO314, Q_BK297_e20⟩ hb_ hon hoff
      refine ⟨_, rfl, fun K hK => ?_⟩
      have e9 : a.tmps[9]? = some (.pointer (some ⟨gb295, 0, none⟩)) := by rw [ha]; exact (putSel_off rfl).trans rfl
      replace ha := Aside0.mk ha
      have BK295 := Aside0.mk Q_BK295
      have BK296 := Aside0.mk Q_BK296
      have BK297 := Aside0.mk (Q_BK297 (hoff 20 (by kernel_rfl)))
      have HB := Aside0.mk Q_HB
      have hc0_ : w'.cell? ⟨gb295, 0, none⟩ = some (.int .i64 t298) := (blk_cell BK295.out 0).trans rfl
      have hc1_ : w'.cell? ⟨gb295, 1, none⟩ = some (.bool t299) := (blk_cell BK295.out 1).trans rfl
      refine value_ (w1 := w') (v := .int .i64 t298) (by rfl) rfl ?_ ?_
      · go_simp
        (try simp only [i64_w])
        try rfl
      refine hK.out _ _ ⟨v313, (by rw [ha.out]; exact putSel_upk 0 hb_ rfl rfl rfl), Q_BK295, Q_BK296, Q_BK297, Q_HB, Q_HO314, fun h0_ => absurd ((hoff 20 (by kernel_rfl)).symm.trans h0_) (by decide)⟩
    refine steps_cons ?_ ?_
    · rintro b a w' ⟨v313, ha, Q_BK295, Q_BK296, Q_BK297, Q_HB, Q_HO314, Q_BK297_e20⟩ hb_ hon hoff
      refine ⟨_, rfl, fun K hK => ?_⟩
      have e11 : a.tmps[11]? = some (.pointer (some ⟨gb295, 0, none⟩)) := by rw [ha]; exact (putSel_off rfl).trans rfl
      replace ha := Aside0.mk ha
      have BK295 := Aside0.mk Q_BK295
      have BK296 := Aside0.mk Q_BK296
      have BK297 := Aside0.mk (Q_BK297 (hoff 20 (by kernel_rfl)))
      have HB := Aside0.mk Q_HB
      have hc0_ : w'.cell? ⟨gb295, 0, none⟩ = some (.int .i64 t298) := (blk_cell BK295.out 0).trans rfl
      have hc1_ : w'.cell? ⟨gb295, 1, none⟩ = some (.bool t299) := (blk_cell BK295.out 1).trans rfl
      refine value_ (w1 := w') (v := .int .i64 t298) (by rfl) rfl ?_ ?_
      · go_simp
        (try simp only [i64_w])
        try rfl
      refine hK.out _ _ ⟨v313, (by rw [ha.out]; exact putSel_upk 1 hb_ rfl rfl rfl), Q_BK295, Q_BK296, Q_BK297, Q_HB, Q_HO314, fun h0_ => absurd ((hoff 20 (by kernel_rfl)).symm.trans h0_) (by decide)⟩
    refine steps_cons ?_ ?_
    · rintro b a w' ⟨v313, ha, Q_BK295, Q_BK296, Q_BK297, Q_HB, Q_HO314, Q_BK297_e20⟩ hb_ hon hoff
      refine ⟨_, rfl, fun K hK => ?_⟩
      have e10 : a.tmps[10]? = some (.int .i64 t298) := by rw [ha]; exact putSel_on (e := (1, 10, .int .i64 t298)) 0 rfl rfl (hon 1 (by kernel_rfl)) rfl
      have e12 : a.tmps[12]? = some (.int .i64 t298) := by rw [ha]; exact putSel_on (e := (3, 12, .int .i64 t298)) 1 rfl rfl (hon 3 (by kernel_rfl)) rfl
      replace ha := Aside0.mk ha
      have BK295 := Aside0.mk Q_BK295
      have BK296 := Aside0.mk Q_BK296
      have BK297 := Aside0.mk (Q_BK297 (hoff 20 (by kernel_rfl)))
      have HB := Aside0.mk Q_HB
      refine goes_ Try.func74 (by kernel_rfl) rfl #[.int .i64 t298, .int .i64 t298] (by rfl) rfl rfl (by first | (simp only [List.map_toArray, List.map_cons, List.map_nil, Act.eval, Array.getD_eq_getD_getElem?, Option.getD_some, e10, e12]; done) | (simp only [List.map_toArray, List.map_cons, List.map_nil, Act.eval, Array.getD_eq_getD_getElem?, Option.getD_some, e10, e12]; rfl)) ?_
      with_reducible refine (fixed_product.calls t298 t298 t302 t303 t304 _ A5.out).mono ?_
      rintro e w23 ⟨rfl, hb⟩
      refine ⟨_, rfl, ?_⟩
      have n0_ := Aside0.mk (blk_below (g := gb295) (o := .cells #[.int .i64 t298, .bool t299] 23 (0, 0)) (by (with_reducible repeat (first | refine blk_drewN ?_ _ | refine blk_drew ?_ | refine blk_alloc ?_ _)); exact BK295.out) hb)
      have n1_ := Aside0.mk (blk_below (g := gb296) (o := .cells #[.int .i64 t300, .bool t301] 23 (0, 0)) (by (with_reducible repeat (first | refine blk_drewN ?_ _ | refine blk_drew ?_ | refine blk_alloc ?_ _)); exact BK296.out) hb)
      have n2_ := Aside0.mk (blk_below (g := gb297) (o := .cells #[.int .i64 0, .bool false] 23 (0, 0)) (by (with_reducible repeat (first | refine blk_drewN ?_ _ | refine blk_drew ?_ | refine blk_alloc ?_ _)); exact BK297.out) hb)
      have n3_ := Aside0.mk (below_step (by repeat (first | (with_reducible first | exact HB.out | apply below_alloc | apply pw_below_drewN | apply below_drew1 | refine below_set ?_ GE295.out | refine below_set ?_ GE296.out | refine below_set ?_ GE297.out) | exact HB.out)) hb)
      have z_HO314 := fun (h0_ : b 17 = true) => (show Kd.R k23 23 w23 w.heap.size (fun k_ => k_ ≠ gb295 ∧ k_ ≠ gb296 ∧ k_ ≠ gb297) v313 y312 from by first | exact (Kd.R_below (by (with_reducible repeat (first | apply Kd.R_alloc | apply Kd.R_drewN | apply Kd.R_drew)); exact (Q_HO314 h0_)) hb) | exact Kd.R_mono (Kd.R_below (by (with_reducible repeat (first | apply Kd.R_alloc | apply Kd.R_drewN | apply Kd.R_drew)); exact (Q_HO314 h0_)) hb) (fun _ h_ => by first | trivial | exact h_ | exact h_.1))
      clear BK295
      clear BK296
      clear BK297
      clear HB
      have BK295 := n0_
      have BK296 := n1_
      have BK297 := n2_
      have HB := n3_
      clear n0_ n1_ n2_ n3_
      (try clear hb)
      (try clear hb2)
      (try clear hk)
      (try clear hi)
      refine hK.out _ _ ⟨v313, (by rw [ha.out]; exact putSel_upk 2 hb_ rfl rfl rfl), (by (with_reducible repeat (first | refine blk_drewN ?_ _ | refine blk_drew ?_ | refine blk_alloc ?_ _)); exact BK295.out), (by (with_reducible repeat (first | refine blk_drewN ?_ _ | refine blk_drew ?_ | refine blk_alloc ?_ _)); exact BK296.out), fun _ => (by (with_reducible repeat (first | refine blk_drewN ?_ _ | refine blk_drew ?_ | refine blk_alloc ?_ _)); exact BK297.out), (by repeat (first | (with_reducible first | exact HB.out | apply below_alloc | apply pw_below_drewN | apply below_drew1 | refine below_set ?_ GE295.out | refine below_set ?_ GE296.out | refine below_set ?_ GE297.out) | exact HB.out)), z_HO314, fun h0_ => absurd ((hoff 20 (by kernel_rfl)).symm.trans h0_) (by decide)⟩
    refine steps_cons ?_ ?_
    · rintro b a w' ⟨v313, ha, Q_BK295, Q_BK296, Q_BK297, Q_HB, Q_HO314, Q_BK297_e20⟩ hb_ hon hoff
      refine ⟨_, rfl, fun K hK => ?_⟩
      have e14 : a.tmps[14]? = some (.pointer (some ⟨gb296, 0, none⟩)) := by rw [ha]; exact (putSel_off rfl).trans rfl
      replace ha := Aside0.mk ha
      have BK295 := Aside0.mk Q_BK295
      have BK296 := Aside0.mk Q_BK296
      have BK297 := Aside0.mk (Q_BK297 (hoff 20 (by kernel_rfl)))
      have HB := Aside0.mk Q_HB
      have hc0_ : w'.cell? ⟨gb296, 0, none⟩ = some (.int .i64 t300) := (blk_cell BK296.out 0).trans rfl
      have hc1_ : w'.cell? ⟨gb296, 1, none⟩ = some (.bool t301) := (blk_cell BK296.out 1).trans rfl
      refine value_ (w1 := w') (v := .int .i64 t300) (by rfl) rfl ?_ ?_
      · go_simp
        (try simp only [i64_w])
        try rfl
      refine hK.out _ _ ⟨v313, (by rw [ha.out]; exact putSel_upk 3 hb_ rfl rfl rfl), Q_BK295, Q_BK296, Q_BK297, Q_HB, Q_HO314, fun h0_ => absurd ((hoff 20 (by kernel_rfl)).symm.trans h0_) (by decide)⟩
    refine steps_cons ?_ ?_
    · rintro b a w' ⟨v313, ha, Q_BK295, Q_BK296, Q_BK297, Q_HB, Q_HO314, Q_BK297_e20⟩ hb_ hon hoff
      refine ⟨_, rfl, fun K hK => ?_⟩
      have e16 : a.tmps[16]? = some (.pointer (some ⟨gb296, 0, none⟩)) := by rw [ha]; exact (putSel_off rfl).trans rfl
      replace ha := Aside0.mk ha
      have BK295 := Aside0.mk Q_BK295
      have BK296 := Aside0.mk Q_BK296
      have BK297 := Aside0.mk (Q_BK297 (hoff 20 (by kernel_rfl)))
      have HB := Aside0.mk Q_HB
      have hc0_ : w'.cell? ⟨gb296, 0, none⟩ = some (.int .i64 t300) := (blk_cell BK296.out 0).trans rfl
      have hc1_ : w'.cell? ⟨gb296, 1, none⟩ = some (.bool t301) := (blk_cell BK296.out 1).trans rfl
      refine value_ (w1 := w') (v := .int .i64 t300) (by rfl) rfl ?_ ?_
      · go_simp
        (try simp only [i64_w])
        try rfl
      refine hK.out _ _ ⟨v313, (by rw [ha.out]; exact putSel_upk 4 hb_ rfl rfl rfl), Q_BK295, Q_BK296, Q_BK297, Q_HB, Q_HO314, fun h0_ => absurd ((hoff 20 (by kernel_rfl)).symm.trans h0_) (by decide)⟩
    refine steps_cons ?_ ?_
    · rintro b a w' ⟨v313, ha, Q_BK295, Q_BK296, Q_BK297, Q_HB, Q_HO314, Q_BK297_e20⟩ hb_ hon hoff
      refine ⟨_, rfl, fun K hK => ?_⟩
      have e15 : a.tmps[15]? = some (.int .i64 t300) := by rw [ha]; exact putSel_on (e := (6, 15, .int .i64 t300)) 3 rfl rfl (hon 6 (by kernel_rfl)) rfl
      have e17 : a.tmps[17]? = some (.int .i64 t300) := by rw [ha]; exact putSel_on (e := (8, 17, .int .i64 t300)) 4 rfl rfl (hon 8 (by kernel_rfl)) rfl
      replace ha := Aside0.mk ha
      have BK295 := Aside0.mk Q_BK295
      have BK296 := Aside0.mk Q_BK296
      have BK297 := Aside0.mk (Q_BK297 (hoff 20 (by kernel_rfl)))
      have HB := Aside0.mk Q_HB
      refine goes_ Try.func74 (by kernel_rfl) rfl #[.int .i64 t300, .int .i64 t300] (by rfl) rfl rfl (by first | (simp only [List.map_toArray, List.map_cons, List.map_nil, Act.eval, Array.getD_eq_getD_getElem?, Option.getD_some, e15, e17]; done) | (simp only [List.map_toArray, List.map_cons, List.map_nil, Act.eval, Array.getD_eq_getD_getElem?, Option.getD_some, e15, e17]; rfl)) ?_
      with_reducible refine (fixed_product.calls t300 t300 t305 t306 t307 _ A6.out).mono ?_
      rintro e w25 ⟨rfl, hb⟩
      refine ⟨_, rfl, ?_⟩
      have n0_ := Aside0.mk (blk_below (g := gb295) (o := .cells #[.int .i64 t298, .bool t299] 23 (0, 0)) (by (with_reducible repeat (first | refine blk_drewN ?_ _ | refine blk_drew ?_ | refine blk_alloc ?_ _)); exact BK295.out) hb)
      have n1_ := Aside0.mk (blk_below (g := gb296) (o := .cells #[.int .i64 t300, .bool t301] 23 (0, 0)) (by (with_reducible repeat (first | refine blk_drewN ?_ _ | refine blk_drew ?_ | refine blk_alloc ?_ _)); exact BK296.out) hb)
      have n2_ := Aside0.mk (blk_below (g := gb297) (o := .cells #[.int .i64 0, .bool false] 23 (0, 0)) (by (with_reducible repeat (first | refine blk_drewN ?_ _ | refine blk_drew ?_ | refine blk_alloc ?_ _)); exact BK297.out) hb)
      have n3_ := Aside0.mk (below_step (by repeat (first | (with_reducible first | exact HB.out | apply below_alloc | apply pw_below_drewN | apply below_drew1 | refine below_set ?_ GE295.out | refine below_set ?_ GE296.out | refine below_set ?_ GE297.out) | exact HB.out)) hb)
      have z_HO314 := fun (h0_ : b 17 = true) => (show Kd.R k23 23 w25 w.heap.size (fun k_ => k_ ≠ gb295 ∧ k_ ≠ gb296 ∧ k_ ≠ gb297) v313 y312 from by first | exact (Kd.R_below (by (with_reducible repeat (first | apply Kd.R_alloc | apply Kd.R_drewN | apply Kd.R_drew)); exact (Q_HO314 h0_)) hb) | exact Kd.R_mono (Kd.R_below (by (with_reducible repeat (first | apply Kd.R_alloc | apply Kd.R_drewN | apply Kd.R_drew)); exact (Q_HO314 h0_)) hb) (fun _ h_ => by first | trivial | exact h_ | exact h_.1))
      clear BK295
      clear BK296
      clear BK297
      clear HB
      have BK295 := n0_
      have BK296 := n1_
      have BK297 := n2_
      have HB := n3_
      clear n0_ n1_ n2_ n3_
      (try clear hb)
      (try clear hb2)
      (try clear hk)
      (try clear hi)
      refine hK.out _ _ ⟨v313, (by rw [ha.out]; exact putSel_upk 5 hb_ rfl rfl rfl), (by (with_reducible repeat (first | refine blk_drewN ?_ _ | refine blk_drew ?_ | refine blk_alloc ?_ _)); exact BK295.out), (by (with_reducible repeat (first | refine blk_drewN ?_ _ | refine blk_drew ?_ | refine blk_alloc ?_ _)); exact BK296.out), fun _ => (by (with_reducible repeat (first | refine blk_drewN ?_ _ | refine blk_drew ?_ | refine blk_alloc ?_ _)); exact BK297.out), (by repeat (first | (with_reducible first | exact HB.out | apply below_alloc | apply pw_below_drewN | apply below_drew1 | refine below_set ?_ GE295.out | refine below_set ?_ GE296.out | refine below_set ?_ GE297.out) | exact HB.out)), z_HO314, fun h0_ => absurd ((hoff 20 (by kernel_rfl)).symm.trans h0_) (by decide)⟩
    refine steps_cons ?_ ?_
    · rintro b a w' ⟨v313, ha, Q_BK295, Q_BK296, Q_BK297, Q_HB, Q_HO314, Q_BK297_e20⟩ hb_ hon hoff
      refine ⟨_, rfl, fun K hK => ?_⟩
      have e13 : a.tmps[13]? = some (.agg #[.bool t302, .int .u64 t303, .int .u64 t304]) := by rw [ha]; exact putSel_on (e := (4, 13, .agg #[.bool t302, .int .u64 t303, .int .u64 t304])) 2 rfl rfl (hon 4 (by kernel_rfl)) rfl
      have e18 : a.tmps[18]? = some (.agg #[.bool t305, .int .u64 t306, .int .u64 t307]) := by rw [ha]; exact putSel_on (e := (9, 18, .agg #[.bool t305, .int .u64 t306, .int .u64 t307])) 5 rfl rfl (hon 9 (by kernel_rfl)) rfl
      replace ha := Aside0.mk ha
      have BK295 := Aside0.mk Q_BK295
      have BK296 := Aside0.mk Q_BK296
      have BK297 := Aside0.mk (Q_BK297 (hoff 20 (by kernel_rfl)))
      have HB := Aside0.mk Q_HB
      refine goes_ Try.func75 (by kernel_rfl) rfl #[.agg #[.bool t302, .int .u64 t303, .int .u64 t304], .agg #[.bool t305, .int .u64 t306, .int .u64 t307]] (by rfl) rfl rfl (by first | (simp only [List.map_toArray, List.map_cons, List.map_nil, Act.eval, Array.getD_eq_getD_getElem?, Option.getD_some, e13, e18]; done) | (simp only [List.map_toArray, List.map_cons, List.map_nil, Act.eval, Array.getD_eq_getD_getElem?, Option.getD_some, e13, e18]; rfl)) ?_
      with_reducible refine (fixed_exact_plus.calls k t302 t303 t304 t305 t306 t307 t308 t309 t310 _ A7.out).mono ?_
      rintro e w26 ⟨rfl, hb⟩
      refine ⟨_, rfl, ?_⟩
      have n0_ := Aside0.mk (blk_below (g := gb295) (o := .cells #[.int .i64 t298, .bool t299] 23 (0, 0)) (by (with_reducible repeat (first | refine blk_drewN ?_ _ | refine blk_drew ?_ | refine blk_alloc ?_ _)); exact BK295.out) hb)
      have n1_ := Aside0.mk (blk_below (g := gb296) (o := .cells #[.int .i64 t300, .bool t301] 23 (0, 0)) (by (with_reducible repeat (first | refine blk_drewN ?_ _ | refine blk_drew ?_ | refine blk_alloc ?_ _)); exact BK296.out) hb)
      have n2_ := Aside0.mk (blk_below (g := gb297) (o := .cells #[.int .i64 0, .bool false] 23 (0, 0)) (by (with_reducible repeat (first | refine blk_drewN ?_ _ | refine blk_drew ?_ | refine blk_alloc ?_ _)); exact BK297.out) hb)
      have n3_ := Aside0.mk (below_step (by repeat (first | (with_reducible first | exact HB.out | apply below_alloc | apply pw_below_drewN | apply below_drew1 | refine below_set ?_ GE295.out | refine below_set ?_ GE296.out | refine below_set ?_ GE297.out) | exact HB.out)) hb)
      have z_HO314 := fun (h0_ : b 17 = true) => (show Kd.R k23 23 w26 w.heap.size (fun k_ => k_ ≠ gb295 ∧ k_ ≠ gb296 ∧ k_ ≠ gb297) v313 y312 from by first | exact (Kd.R_below (by (with_reducible repeat (first | apply Kd.R_alloc | apply Kd.R_drewN | apply Kd.R_drew)); exact (Q_HO314 h0_)) hb) | exact Kd.R_mono (Kd.R_below (by (with_reducible repeat (first | apply Kd.R_alloc | apply Kd.R_drewN | apply Kd.R_drew)); exact (Q_HO314 h0_)) hb) (fun _ h_ => by first | trivial | exact h_ | exact h_.1))
      clear BK295
      clear BK296
      clear BK297
      clear HB
      have BK295 := n0_
      have BK296 := n1_
      have BK297 := n2_
      have HB := n3_
      clear n0_ n1_ n2_ n3_
      (try clear hb)
      (try clear hb2)
      (try clear hk)
      (try clear hi)
      refine hK.out _ _ ⟨v313, (by rw [ha.out]; exact putSel_upk 6 hb_ rfl rfl rfl), (by (with_reducible repeat (first | refine blk_drewN ?_ _ | refine blk_drew ?_ | refine blk_alloc ?_ _)); exact BK295.out), (by (with_reducible repeat (first | refine blk_drewN ?_ _ | refine blk_drew ?_ | refine blk_alloc ?_ _)); exact BK296.out), fun _ => (by (with_reducible repeat (first | refine blk_drewN ?_ _ | refine blk_drew ?_ | refine blk_alloc ?_ _)); exact BK297.out), (by repeat (first | (with_reducible first | exact HB.out | apply below_alloc | apply pw_below_drewN | apply below_drew1 | refine below_set ?_ GE295.out | refine below_set ?_ GE296.out | refine below_set ?_ GE297.out) | exact HB.out)), z_HO314, fun h0_ => absurd ((hoff 20 (by kernel_rfl)).symm.trans h0_) (by decide)⟩
    refine steps_cons ?_ ?_
    · rintro b a w' ⟨v313, ha, Q_BK295, Q_BK296, Q_BK297, Q_HB, Q_HO314, Q_BK297_e20⟩ hb_ hon hoff
      refine ⟨_, rfl, fun K hK => ?_⟩
      have e19 : a.tmps[19]? = some (.agg #[.bool t308, .int .u64 t309, .int .u64 t310]) := by rw [ha]; exact putSel_on (e := (10, 19, .agg #[.bool t308, .int .u64 t309, .int .u64 t310])) 6 rfl rfl (hon 10 (by kernel_rfl)) rfl
      replace ha := Aside0.mk ha
      have BK295 := Aside0.mk Q_BK295
      have BK296 := Aside0.mk Q_BK296
      have BK297 := Aside0.mk (Q_BK297 (hoff 20 (by kernel_rfl)))
      have HB := Aside0.mk Q_HB
      refine value_ (w1 := w') (v := .agg #[.int .u64 t309, .int .u64 t310]) (by rfl) rfl ?_ ?_
      · go_simp
        (try simp only [i64_w])
        try rfl
      refine hK.out _ _ ⟨v313, (by rw [ha.out]; exact putSel_upk 7 hb_ rfl rfl rfl), Q_BK295, Q_BK296, Q_BK297, Q_HB, Q_HO314, fun h0_ => absurd ((hoff 20 (by kernel_rfl)).symm.trans h0_) (by decide)⟩
    refine steps_cons ?_ ?_
    · rintro b a w' ⟨v313, ha, Q_BK295, Q_BK296, Q_BK297, Q_HB, Q_HO314, Q_BK297_e20⟩ hb_ hon hoff
      refine ⟨_, rfl, fun K hK => ?_⟩
      have e20 : a.tmps[20]? = some (.agg #[.int .u64 t309, .int .u64 t310]) := by rw [ha]; exact putSel_on (e := (11, 20, .agg #[.int .u64 t309, .int .u64 t310])) 7 rfl rfl (hon 11 (by kernel_rfl)) rfl
      replace ha := Aside0.mk ha
      have BK295 := Aside0.mk Q_BK295
      have BK296 := Aside0.mk Q_BK296
      have BK297 := Aside0.mk (Q_BK297 (hoff 20 (by kernel_rfl)))
      have HB := Aside0.mk Q_HB
      refine goes_ Try.func90 (by kernel_rfl) rfl #[.agg #[.int .u64 t309, .int .u64 t310]] (by rfl) rfl rfl (by first | (simp only [List.map_toArray, List.map_cons, List.map_nil, Act.eval, Array.getD_eq_getD_getElem?, Option.getD_some, e20]; done) | (simp only [List.map_toArray, List.map_cons, List.map_nil, Act.eval, Array.getD_eq_getD_getElem?, Option.getD_some, e20]; rfl)) ?_
      with_reducible refine (fixed_words_root.calls k t309 t310 t311 _ A8.out).mono ?_
      rintro e w27 ⟨rfl, hb⟩
      refine ⟨_, rfl, ?_⟩
      have n0_ := Aside0.mk (blk_below (g := gb295) (o := .cells #[.int .i64 t298, .bool t299] 23 (0, 0)) (by (with_reducible repeat (first | refine blk_drewN ?_ _ | refine blk_drew ?_ | refine blk_alloc ?_ _)); exact BK295.out) hb)
      have n1_ := Aside0.mk (blk_below (g := gb296) (o := .cells #[.int .i64 t300, .bool t301] 23 (0, 0)) (by (with_reducible repeat (first | refine blk_drewN ?_ _ | refine blk_drew ?_ | refine blk_alloc ?_ _)); exact BK296.out) hb)
      have n2_ := Aside0.mk (blk_below (g := gb297) (o := .cells #[.int .i64 0, .bool false] 23 (0, 0)) (by (with_reducible repeat (first | refine blk_drewN ?_ _ | refine blk_drew ?_ | refine blk_alloc ?_ _)); exact BK297.out) hb)
      have n3_ := Aside0.mk (below_step (by repeat (first | (with_reducible first | exact HB.out | apply below_alloc | apply pw_below_drewN | apply below_drew1 | refine below_set ?_ GE295.out | refine below_set ?_ GE296.out | refine below_set ?_ GE297.out) | exact HB.out)) hb)
      have z_HO314 := fun (h0_ : b 17 = true) => (show Kd.R k23 23 w27 w.heap.size (fun k_ => k_ ≠ gb295 ∧ k_ ≠ gb296 ∧ k_ ≠ gb297) v313 y312 from by first | exact (Kd.R_below (by (with_reducible repeat (first | apply Kd.R_alloc | apply Kd.R_drewN | apply Kd.R_drew)); exact (Q_HO314 h0_)) hb) | exact Kd.R_mono (Kd.R_below (by (with_reducible repeat (first | apply Kd.R_alloc | apply Kd.R_drewN | apply Kd.R_drew)); exact (Q_HO314 h0_)) hb) (fun _ h_ => by first | trivial | exact h_ | exact h_.1))
      clear BK295
      clear BK296
      clear BK297
      clear HB
      have BK295 := n0_
      have BK296 := n1_
      have BK297 := n2_
      have HB := n3_
      clear n0_ n1_ n2_ n3_
      (try clear hb)
      (try clear hb2)
      (try clear hk)
      (try clear hi)
      refine hK.out _ _ ⟨v313, (by rw [ha.out]; exact putSel_upk 8 hb_ rfl rfl rfl), (by (with_reducible repeat (first | refine blk_drewN ?_ _ | refine blk_drew ?_ | refine blk_alloc ?_ _)); exact BK295.out), (by (with_reducible repeat (first | refine blk_drewN ?_ _ | refine blk_drew ?_ | refine blk_alloc ?_ _)); exact BK296.out), fun _ => (by (with_reducible repeat (first | refine blk_drewN ?_ _ | refine blk_drew ?_ | refine blk_alloc ?_ _)); exact BK297.out), (by repeat (first | (with_reducible first | exact HB.out | apply below_alloc | apply pw_below_drewN | apply below_drew1 | refine below_set ?_ GE295.out | refine below_set ?_ GE296.out | refine below_set ?_ GE297.out) | exact HB.out)), z_HO314, fun h0_ => absurd ((hoff 20 (by kernel_rfl)).symm.trans h0_) (by decide)⟩
    refine steps_cons ?_ ?_
    · rintro b a w' ⟨v313, ha, Q_BK295, Q_BK296, Q_BK297, Q_HB, Q_HO314, Q_BK297_e20⟩ hb_ hon hoff
      refine ⟨_, rfl, fun K hK => ?_⟩
      have e21 : a.tmps[21]? = some (.int .u64 t311) := by rw [ha]; exact putSel_on (e := (12, 21, .int .u64 t311)) 8 rfl rfl (hon 12 (by kernel_rfl)) rfl
      replace ha := Aside0.mk ha
      have BK295 := Aside0.mk Q_BK295
      have BK296 := Aside0.mk Q_BK296
      have BK297 := Aside0.mk (Q_BK297 (hoff 20 (by kernel_rfl)))
      have HB := Aside0.mk Q_HB
      refine value_ (w1 := w') (v := .agg #[.int .u64 t311, .int .u64 0]) (by rfl) rfl ?_ ?_
      · go_simp
        (try simp only [i64_w])
        try rfl
      refine hK.out _ _ ⟨v313, (by rw [ha.out]; exact putSel_upk 9 hb_ rfl rfl rfl), Q_BK295, Q_BK296, Q_BK297, Q_HB, Q_HO314, fun h0_ => absurd ((hoff 20 (by kernel_rfl)).symm.trans h0_) (by decide)⟩
    refine steps_cons ?_ ?_
    · rintro b a w' ⟨v313, ha, Q_BK295, Q_BK296, Q_BK297, Q_HB, Q_HO314, Q_BK297_e20⟩ hb_ hon hoff
      refine ⟨_, rfl, fun K hK => ?_⟩
      have e22 : a.tmps[22]? = some (.agg #[.int .u64 t311, .int .u64 0]) := by rw [ha]; exact putSel_on (e := (13, 22, .agg #[.int .u64 t311, .int .u64 0])) 9 rfl rfl (hon 13 (by kernel_rfl)) rfl
      replace ha := Aside0.mk ha
      have BK295 := Aside0.mk Q_BK295
      have BK296 := Aside0.mk Q_BK296
      have BK297 := Aside0.mk (Q_BK297 (hoff 20 (by kernel_rfl)))
      have HB := Aside0.mk Q_HB
      refine value_ (w1 := w') (v := .agg #[.bool false, .int .u64 t311, .int .u64 0]) (by rfl) rfl ?_ ?_
      · go_simp
        (try simp only [i64_w])
        try rfl
      refine hK.out _ _ ⟨v313, (by rw [ha.out]; exact putSel_upk 10 hb_ rfl rfl rfl), Q_BK295, Q_BK296, Q_BK297, Q_HB, Q_HO314, fun h0_ => absurd ((hoff 20 (by kernel_rfl)).symm.trans h0_) (by decide)⟩
    refine steps_cons ?_ ?_
    · rintro b a w' ⟨v313, ha, Q_BK295, Q_BK296, Q_BK297, Q_HB, Q_HO314, Q_BK297_e20⟩ hb_ hon hoff
      refine ⟨_, rfl, fun K hK => ?_⟩
      have e2 : a.tmps[2]? = some (.pointer (some ⟨gb295, 0, none⟩)) := by rw [ha]; exact (putSel_off rfl).trans rfl
      replace ha := Aside0.mk ha
      have BK295 := Aside0.mk Q_BK295
      have BK296 := Aside0.mk Q_BK296
      have BK297 := Aside0.mk (Q_BK297 (hoff 20 (by kernel_rfl)))
      have HB := Aside0.mk Q_HB
      have hc0_ : w'.cell? ⟨gb295, 0, none⟩ = some (.int .i64 t298) := (blk_cell BK295.out 0).trans rfl
      have hc1_ : w'.cell? ⟨gb295, 1, none⟩ = some (.bool t299) := (blk_cell BK295.out 1).trans rfl
      refine value_ (w1 := w') (v := .agg #[.int .i64 t298, .bool t299]) (by rfl) rfl ?_ ?_
      · go_simp
        (try simp only [i64_w])
        try rfl
      refine hK.out _ _ ⟨v313, (by rw [ha.out]; exact putSel_upk 11 hb_ rfl rfl rfl), Q_BK295, Q_BK296, Q_BK297, Q_HB, fun h0_ => absurd ((hoff 17 (by kernel_rfl)).symm.trans h0_) (by decide), fun h0_ => absurd ((hoff 20 (by kernel_rfl)).symm.trans h0_) (by decide)⟩
    refine steps_cons ?_ ?_
    · rintro b a w' ⟨v313, ha, Q_BK295, Q_BK296, Q_BK297, Q_HB, Q_HO314, Q_BK297_e20⟩ hb_ hon hoff
      refine ⟨_, rfl, fun K hK => ?_⟩
      have e3 : a.tmps[3]? = some (.pointer (some ⟨gb296, 0, none⟩)) := by rw [ha]; exact (putSel_off rfl).trans rfl
      replace ha := Aside0.mk ha
      have BK295 := Aside0.mk Q_BK295
      have BK296 := Aside0.mk Q_BK296
      have BK297 := Aside0.mk (Q_BK297 (hoff 20 (by kernel_rfl)))
      have HB := Aside0.mk Q_HB
      have hc0_ : w'.cell? ⟨gb296, 0, none⟩ = some (.int .i64 t300) := (blk_cell BK296.out 0).trans rfl
      have hc1_ : w'.cell? ⟨gb296, 1, none⟩ = some (.bool t301) := (blk_cell BK296.out 1).trans rfl
      refine value_ (w1 := w') (v := .agg #[.int .i64 t300, .bool t301]) (by rfl) rfl ?_ ?_
      · go_simp
        (try simp only [i64_w])
        try rfl
      refine hK.out _ _ ⟨v313, (by rw [ha.out]; exact putSel_upk 12 hb_ rfl rfl rfl), Q_BK295, Q_BK296, Q_BK297, Q_HB, fun h0_ => absurd ((hoff 17 (by kernel_rfl)).symm.trans h0_) (by decide), fun h0_ => absurd ((hoff 20 (by kernel_rfl)).symm.trans h0_) (by decide)⟩
    refine steps_cons ?_ ?_
    · rintro b a w' ⟨v313, ha, Q_BK295, Q_BK296, Q_BK297, Q_HB, Q_HO314, Q_BK297_e20⟩ hb_ hon hoff
      refine ⟨_, rfl, fun K hK => ?_⟩
      have e24 : a.tmps[24]? = some (.agg #[.int .i64 t298, .bool t299]) := by rw [ha]; exact putSel_on (e := (15, 24, .agg #[.int .i64 t298, .bool t299])) 11 rfl rfl (hon 15 (by kernel_rfl)) rfl
      have e25 : a.tmps[25]? = some (.agg #[.int .i64 t300, .bool t301]) := by rw [ha]; exact putSel_on (e := (16, 25, .agg #[.int .i64 t300, .bool t301])) 12 rfl rfl (hon 16 (by kernel_rfl)) rfl
      replace ha := Aside0.mk ha
      have BK295 := Aside0.mk Q_BK295
      have BK296 := Aside0.mk Q_BK296
      have BK297 := Aside0.mk (Q_BK297 (hoff 20 (by kernel_rfl)))
      have HB := Aside0.mk Q_HB
      refine Kd.R_lit_step k23 _ 23 ?hg (N := 26) ?hd (xs := ([(⟨t298, t299⟩ : S23), (⟨t300, t301⟩ : S23)] : List (S23))) (inner := [.int .i64 t298, .bool t299, .int .i64 t300, .bool t301]) (ok := fun _ => True) (okp := fun _ => True) ?hr ?hp (fun _ hk => hk) trivial (Below.refl _ _) (Nat.le_refl _) (by simp) ?_; (case hd => rfl); (case hg => rfl); (case hr => first | (go_simp; done) | (go_simp; rfl)); (case hp => exact (Reps.c2 (show Kd.M k23 _ _ _ (⟨t298, t299⟩ : S23) [.int .i64 t298, .bool t299] from (k23_mkM _ _ _ (⟨t298, t299⟩ : S23) )) (Reps.c2 (show Kd.M k23 _ _ _ (⟨t300, t301⟩ : S23) [.int .i64 t300, .bool t301] from (k23_mkM _ _ _ (⟨t300, t301⟩ : S23) )) (Reps.none _ _))))
      intro v313 w23 ho24 hb hg_ hnew_
      clear hg_ hnew_
      (first | rw [← Ny312.out] at ho24 | (simp only [Int.reduceToNat] at ho24; rw [← Ny312.out] at ho24))
      have n0_ := Aside0.mk (Kd.R_lower (Kd.R_newB (Kd.R_newB (Kd.R_newB ho24 (g := gb295) (o := .cells #[.int .i64 t298, .bool t299] 23 (0, 0)) (by (with_reducible repeat (first | refine blk_drewN ?_ _ | refine blk_drew ?_ | refine blk_alloc ?_ _)); exact BK295.out)) (g := gb296) (o := .cells #[.int .i64 t300, .bool t301] 23 (0, 0)) (by (with_reducible repeat (first | refine blk_drewN ?_ _ | refine blk_drew ?_ | refine blk_alloc ?_ _)); exact BK296.out)) (g := gb297) (o := .cells #[.int .i64 0, .bool false] 23 (0, 0)) (by (with_reducible repeat (first | refine blk_drewN ?_ _ | refine blk_drew ?_ | refine blk_alloc ?_ _)); exact BK297.out)) (below_size (by repeat (first | (with_reducible first | exact HB.out | apply below_alloc | apply pw_below_drewN | apply below_drew1 | refine below_set ?_ GE295.out | refine below_set ?_ GE296.out | refine below_set ?_ GE297.out) | exact HB.out))))
      have n1_ := Aside0.mk (blk_below (g := gb295) (o := .cells #[.int .i64 t298, .bool t299] 23 (0, 0)) (by (with_reducible repeat (first | refine blk_drewN ?_ _ | refine blk_drew ?_ | refine blk_alloc ?_ _)); exact BK295.out) hb)
      have n2_ := Aside0.mk (blk_below (g := gb296) (o := .cells #[.int .i64 t300, .bool t301] 23 (0, 0)) (by (with_reducible repeat (first | refine blk_drewN ?_ _ | refine blk_drew ?_ | refine blk_alloc ?_ _)); exact BK296.out) hb)
      have n3_ := Aside0.mk (blk_below (g := gb297) (o := .cells #[.int .i64 0, .bool false] 23 (0, 0)) (by (with_reducible repeat (first | refine blk_drewN ?_ _ | refine blk_drew ?_ | refine blk_alloc ?_ _)); exact BK297.out) hb)
      have n4_ := Aside0.mk (below_step (by repeat (first | (with_reducible first | exact HB.out | apply below_alloc | apply pw_below_drewN | apply below_drew1 | refine below_set ?_ GE295.out | refine below_set ?_ GE296.out | refine below_set ?_ GE297.out) | exact HB.out)) hb)
      clear BK295
      clear BK296
      clear BK297
      clear HB
      have HO314 := n0_
      have BK295 := n1_
      have BK296 := n2_
      have BK297 := n3_
      have HB := n4_
      clear n0_ n1_ n2_ n3_ n4_
      clear hb ho24
      refine hK.out _ _ ⟨v313, (by rw [ha.out]; exact putSel_upk 13 hb_ rfl rfl rfl), (by (with_reducible repeat (first | refine blk_drewN ?_ _ | refine blk_drew ?_ | refine blk_alloc ?_ _)); exact BK295.out), (by (with_reducible repeat (first | refine blk_drewN ?_ _ | refine blk_drew ?_ | refine blk_alloc ?_ _)); exact BK296.out), fun _ => (by (with_reducible repeat (first | refine blk_drewN ?_ _ | refine blk_drew ?_ | refine blk_alloc ?_ _)); exact BK297.out), (by repeat (first | (with_reducible first | exact HB.out | apply below_alloc | apply pw_below_drewN | apply below_drew1 | refine below_set ?_ GE295.out | refine below_set ?_ GE296.out | refine below_set ?_ GE297.out) | exact HB.out)), fun _ => (by (with_reducible repeat (first | apply Kd.R_alloc | apply Kd.R_drewN | apply Kd.R_drew)); exact Kd.R_mono HO314.out (fun _ hk => ⟨hk.1.1.2, ⟨hk.1.2, hk.2⟩⟩)), fun h0_ => absurd ((hoff 20 (by kernel_rfl)).symm.trans h0_) (by decide)⟩
    refine steps_cons ?_ ?_
    · rintro b a w' ⟨v313, ha, Q_BK295, Q_BK296, Q_BK297, Q_HB, Q_HO314, Q_BK297_e20⟩ hb_ hon hoff
      refine ⟨_, rfl, fun K hK => ?_⟩
      have e26 : a.tmps[26]? = some (v313) := by rw [ha]; exact putSel_on (e := (17, 26, v313)) 13 rfl rfl (hon 17 (by kernel_rfl)) rfl
      replace ha := Aside0.mk ha
      have BK295 := Aside0.mk Q_BK295
      have BK296 := Aside0.mk Q_BK296
      have BK297 := Aside0.mk (Q_BK297 (hoff 20 (by kernel_rfl)))
      have HB := Aside0.mk Q_HB
      have HO314 := Aside0.mk (Q_HO314 (hon 17 (by kernel_rfl)))
      obtain ⟨Ao30, co30, eo30⟩ := Kd.R_slice HO314.out
      (first | subst eo30 | (injection eo30 with f1_ f2_ f3_; have f4_ := f1_.symm; have f5_ := f3_.symm; clear f1_ f2_ f3_; subst f4_; subst f5_))
      refine goes_ Try.func88 (by kernel_rfl) rfl #[.slice Ao30 y312.length co30] (by rfl) rfl rfl (by first | (simp only [List.map_toArray, List.map_cons, List.map_nil, Act.eval, Array.getD_eq_getD_getElem?, Option.getD_some, e26]; done) | (simp only [List.map_toArray, List.map_cons, List.map_nil, Act.eval, Array.getD_eq_getD_getElem?, Option.getD_some, e26]; rfl)) ?_
      with_reducible refine (fixed_flags.calls k _ _ y312 t315 _ ?side1 ?side2 A9.out).mono ?_
      (case side1 => repeat (first | exact (Kd.R_reads' HO314.out).2.2 | (with_reducible refine Kd.C_alloc ?_ _) | (with_reducible refine Kd.C_drewN ?_ _) | (with_reducible refine Kd.C_drew ?_)))
      (case side2 => exact (Kd.R_reads' HO314.out).2.1)
      rintro e w31 ⟨rfl, hb⟩
      refine ⟨_, rfl, ?_⟩
      have n0_ := Aside0.mk (Kd.R_below (by (with_reducible repeat (first | apply Kd.R_alloc | apply Kd.R_drewN | apply Kd.R_drew)); exact HO314.out) hb)
      have n1_ := Aside0.mk (blk_below (g := gb295) (o := .cells #[.int .i64 t298, .bool t299] 23 (0, 0)) (by (with_reducible repeat (first | refine blk_drewN ?_ _ | refine blk_drew ?_ | refine blk_alloc ?_ _)); exact BK295.out) hb)
      have n2_ := Aside0.mk (blk_below (g := gb296) (o := .cells #[.int .i64 t300, .bool t301] 23 (0, 0)) (by (with_reducible repeat (first | refine blk_drewN ?_ _ | refine blk_drew ?_ | refine blk_alloc ?_ _)); exact BK296.out) hb)
      have n3_ := Aside0.mk (blk_below (g := gb297) (o := .cells #[.int .i64 0, .bool false] 23 (0, 0)) (by (with_reducible repeat (first | refine blk_drewN ?_ _ | refine blk_drew ?_ | refine blk_alloc ?_ _)); exact BK297.out) hb)
      have n4_ := Aside0.mk (below_step (by repeat (first | (with_reducible first | exact HB.out | apply below_alloc | apply pw_below_drewN | apply below_drew1 | refine below_set ?_ GE295.out | refine below_set ?_ GE296.out | refine below_set ?_ GE297.out) | exact HB.out)) hb)
      clear HO314
      clear BK295
      clear BK296
      clear BK297
      clear HB
      have HO314 := n0_
      have BK295 := n1_
      have BK296 := n2_
      have BK297 := n3_
      have HB := n4_
      clear n0_ n1_ n2_ n3_ n4_
      (try clear hb)
      (try clear hb2)
      (try clear hk)
      (try clear hi)
      refine hK.out _ _ ⟨.slice Ao30 y312.length co30, (by rw [ha.out]; exact putSel_upk 14 hb_ rfl rfl rfl), (by (with_reducible repeat (first | refine blk_drewN ?_ _ | refine blk_drew ?_ | refine blk_alloc ?_ _)); exact BK295.out), (by (with_reducible repeat (first | refine blk_drewN ?_ _ | refine blk_drew ?_ | refine blk_alloc ?_ _)); exact BK296.out), fun _ => (by (with_reducible repeat (first | refine blk_drewN ?_ _ | refine blk_drew ?_ | refine blk_alloc ?_ _)); exact BK297.out), (by repeat (first | (with_reducible first | exact HB.out | apply below_alloc | apply pw_below_drewN | apply below_drew1 | refine below_set ?_ GE295.out | refine below_set ?_ GE296.out | refine below_set ?_ GE297.out) | exact HB.out)), fun _ => (by (with_reducible repeat (first | apply Kd.R_alloc | apply Kd.R_drewN | apply Kd.R_drew)); exact HO314.out), fun h0_ => absurd ((hoff 20 (by kernel_rfl)).symm.trans h0_) (by decide)⟩
    refine steps_cons ?_ ?_
    · rintro b a w' ⟨v313, ha, Q_BK295, Q_BK296, Q_BK297, Q_HB, Q_HO314, Q_BK297_e20⟩ hb_ hon hoff
      refine ⟨_, rfl, fun K hK => ?_⟩
      have e23 : a.tmps[23]? = some (.agg #[.bool false, .int .u64 t311, .int .u64 0]) := by rw [ha]; exact putSel_on (e := (14, 23, .agg #[.bool false, .int .u64 t311, .int .u64 0])) 10 rfl rfl (hon 14 (by kernel_rfl)) rfl
      have e27 : a.tmps[27]? = some (.bool t315) := by rw [ha]; exact putSel_on (e := (18, 27, .bool t315)) 14 rfl rfl (hon 18 (by kernel_rfl)) rfl
      replace ha := Aside0.mk ha
      have BK295 := Aside0.mk Q_BK295
      have BK296 := Aside0.mk Q_BK296
      have BK297 := Aside0.mk (Q_BK297 (hoff 20 (by kernel_rfl)))
      have HB := Aside0.mk Q_HB
      have HO314 := Aside0.mk (Q_HO314 (hon 17 (by kernel_rfl)))
      refine goes_ Try.func83 (by kernel_rfl) rfl #[.agg #[.bool false, .int .u64 t311, .int .u64 0], .bool t315] (by rfl) rfl rfl (by first | (simp only [List.map_toArray, List.map_cons, List.map_nil, Act.eval, Array.getD_eq_getD_getElem?, Option.getD_some, e23, e27]; done) | (simp only [List.map_toArray, List.map_cons, List.map_nil, Act.eval, Array.getD_eq_getD_getElem?, Option.getD_some, e23, e27]; rfl)) ?_
      with_reducible refine (fixed_exact_fit.calls k false t311 0 t315 t316 t317 _ A10.out).mono ?_
      rintro e w32 ⟨rfl, hb⟩
      refine ⟨_, rfl, ?_⟩
      have n0_ := Aside0.mk (Kd.R_below (by (with_reducible repeat (first | apply Kd.R_alloc | apply Kd.R_drewN | apply Kd.R_drew)); exact HO314.out) hb)
      have n1_ := Aside0.mk (blk_below (g := gb295) (o := .cells #[.int .i64 t298, .bool t299] 23 (0, 0)) (by (with_reducible repeat (first | refine blk_drewN ?_ _ | refine blk_drew ?_ | refine blk_alloc ?_ _)); exact BK295.out) hb)
      have n2_ := Aside0.mk (blk_below (g := gb296) (o := .cells #[.int .i64 t300, .bool t301] 23 (0, 0)) (by (with_reducible repeat (first | refine blk_drewN ?_ _ | refine blk_drew ?_ | refine blk_alloc ?_ _)); exact BK296.out) hb)
      have n3_ := Aside0.mk (blk_below (g := gb297) (o := .cells #[.int .i64 0, .bool false] 23 (0, 0)) (by (with_reducible repeat (first | refine blk_drewN ?_ _ | refine blk_drew ?_ | refine blk_alloc ?_ _)); exact BK297.out) hb)
      have n4_ := Aside0.mk (below_step (by repeat (first | (with_reducible first | exact HB.out | apply below_alloc | apply pw_below_drewN | apply below_drew1 | refine below_set ?_ GE295.out | refine below_set ?_ GE296.out | refine below_set ?_ GE297.out) | exact HB.out)) hb)
      clear HO314
      clear BK295
      clear BK296
      clear BK297
      clear HB
      have HO314 := n0_
      have BK295 := n1_
      have BK296 := n2_
      have BK297 := n3_
      have HB := n4_
      clear n0_ n1_ n2_ n3_ n4_
      (try clear hb)
      (try clear hb2)
      (try clear hk)
      (try clear hi)
      refine hK.out _ _ ⟨v313, (by rw [ha.out]; exact putSel_upk 15 hb_ rfl rfl rfl), (by (with_reducible repeat (first | refine blk_drewN ?_ _ | refine blk_drew ?_ | refine blk_alloc ?_ _)); exact BK295.out), (by (with_reducible repeat (first | refine blk_drewN ?_ _ | refine blk_drew ?_ | refine blk_alloc ?_ _)); exact BK296.out), fun _ => (by (with_reducible repeat (first | refine blk_drewN ?_ _ | refine blk_drew ?_ | refine blk_alloc ?_ _)); exact BK297.out), (by repeat (first | (with_reducible first | exact HB.out | apply below_alloc | apply pw_below_drewN | apply below_drew1 | refine below_set ?_ GE295.out | refine below_set ?_ GE296.out | refine below_set ?_ GE297.out) | exact HB.out)), fun _ => (by (with_reducible repeat (first | apply Kd.R_alloc | apply Kd.R_drewN | apply Kd.R_drew)); exact HO314.out), fun h0_ => absurd ((hoff 20 (by kernel_rfl)).symm.trans h0_) (by decide)⟩
    refine steps_cons ?_ ?_
    · rintro b a w' ⟨v313, ha, Q_BK295, Q_BK296, Q_BK297, Q_HB, Q_HO314, Q_BK297_e20⟩ hb_ hon hoff
      refine ⟨_, rfl, fun K hK => ?_⟩
      have e4 : a.tmps[4]? = some (.pointer (some ⟨gb297, 0, none⟩)) := by rw [ha]; exact (putSel_off rfl).trans rfl
      have e28 : a.tmps[28]? = some (.agg #[.int .i64 t316, .bool t317]) := by rw [ha]; exact putSel_on (e := (19, 28, .agg #[.int .i64 t316, .bool t317])) 15 rfl rfl (hon 19 (by kernel_rfl)) rfl
      replace ha := Aside0.mk ha
      have BK295 := Aside0.mk Q_BK295
      have BK296 := Aside0.mk Q_BK296
      have BK297 := Aside0.mk (Q_BK297 hb_)
      have HB := Aside0.mk Q_HB
      have HO314 := Aside0.mk (Q_HO314 (hon 17 (by kernel_rfl)))
      have hs33 : w'.cell? ⟨gb297, 0, none⟩ = some (.int .i64 0) := (blk_cell BK297.out 0).trans rfl
      have hfs33 := blk_frozen BK297.out 0
      have hns33_0 := NB295_297.out
      have hns33_1 := NB296_297.out
      have hms33_0 := NB297_295.out
      have hms33_1 := NB297_296.out
      have hs34 : w'.cell? ⟨gb297, 1, none⟩ = some (.bool false) := (blk_cell BK297.out 1).trans rfl
      have hfs34 := blk_frozen BK297.out 1
      have hns34_0 := NB295_297.out
      have hns34_1 := NB296_297.out
      have hms34_0 := NB297_295.out
      have hms34_1 := NB297_296.out
      refine skip_ (w1 := ?_) (by rfl) rfl ?_ ?_
      rotate_left
      · go_simp
        rfl
      refine hK.out _ _ ⟨v313, (by rw [ha.out]; exact putSel_none (v := undef) rfl), (by (with_reducible repeat (first | refine blk_drewN ?_ _ | refine blk_drew ?_ | refine blk_alloc ?_ _)); refine blk_far ?_ NB295_297.out _; (with_reducible repeat (first | refine blk_drewN ?_ _ | refine blk_drew ?_ | refine blk_alloc ?_ _)); refine blk_far ?_ NB295_297.out _; (with_reducible repeat (first | refine blk_drewN ?_ _ | refine blk_drew ?_ | refine blk_alloc ?_ _)); exact BK295.out), (by (with_reducible repeat (first | refine blk_drewN ?_ _ | refine blk_drew ?_ | refine blk_alloc ?_ _)); refine blk_far ?_ NB296_297.out _; (with_reducible repeat (first | refine blk_drewN ?_ _ | refine blk_drew ?_ | refine blk_alloc ?_ _)); refine blk_far ?_ NB296_297.out _; (with_reducible repeat (first | refine blk_drewN ?_ _ | refine blk_drew ?_ | refine blk_alloc ?_ _)); exact BK296.out), fun h0_ => absurd ((up_self b 20).symm.trans h0_) (by decide), (by repeat (first | (with_reducible first | exact HB.out | apply below_alloc | apply pw_below_drewN | apply below_drew1 | refine below_set ?_ GE295.out | refine below_set ?_ GE296.out | refine below_set ?_ GE297.out) | exact HB.out)), fun _ => (by (with_reducible repeat (first | apply Kd.R_alloc | apply Kd.R_drewN | apply Kd.R_drew)); exact Kd.R_mono (Kd.R_far (p := ⟨gb297, 1, none⟩) (Kd.R_far (p := ⟨gb297, 0, none⟩) (Kd.R_mono HO314.out (fun k_ hk => (⟨hk, hk.2.2⟩ : _ ∧ k_ ≠ gb297))) (fun _ hk => hk.2) (.int .i64 t316)) (fun _ hk => hk.2) (.bool t317)) (fun _ hk => ⟨hk.1.1, ⟨hk.1.2.1, hk.1.2.2⟩⟩)), fun _ => (by (with_reducible repeat (first | refine blk_drewN ?_ _ | refine blk_drew ?_ | refine blk_alloc ?_ _)); refine blk_put (cs := #[.int .i64 t316, .bool false]) ?_ 1 _ rfl; (with_reducible repeat (first | refine blk_drewN ?_ _ | refine blk_drew ?_ | refine blk_alloc ?_ _)); refine blk_put (cs := #[.int .i64 0, .bool false]) ?_ 0 _ rfl; (with_reducible repeat (first | refine blk_drewN ?_ _ | refine blk_drew ?_ | refine blk_alloc ?_ _)); exact BK297.out)⟩
    exact steps_nil
  rintro b a w34 hall ⟨v313, ha, Q_BK295, Q_BK296, Q_BK297, Q_HB, Q_HO314, Q_BK297_e20⟩
  clear BK295 BK296 BK297 HB
  have hb1_ := hall 1 (by kernel_rfl)
  have hb3_ := hall 3 (by kernel_rfl)
  have hb4_ := hall 4 (by kernel_rfl)
  have hb6_ := hall 6 (by kernel_rfl)
  have hb8_ := hall 8 (by kernel_rfl)
  have hb9_ := hall 9 (by kernel_rfl)
  have hb10_ := hall 10 (by kernel_rfl)
  have hb11_ := hall 11 (by kernel_rfl)
  have hb12_ := hall 12 (by kernel_rfl)
  have hb13_ := hall 13 (by kernel_rfl)
  have hb14_ := hall 14 (by kernel_rfl)
  have hb15_ := hall 15 (by kernel_rfl)
  have hb16_ := hall 16 (by kernel_rfl)
  have hb17_ := hall 17 (by kernel_rfl)
  have hb18_ := hall 18 (by kernel_rfl)
  have hb19_ := hall 19 (by kernel_rfl)
  have hb20_ := hall 20 (by kernel_rfl)
  subst ha
  simp only [putSel, hb1_, hb3_, hb4_, hb6_, hb8_, hb9_, hb10_, hb11_, hb12_, hb13_, hb14_, hb15_, hb16_, hb17_, hb18_, hb19_, hb20_, if_true, Act.put, List.setIfInBounds_toArray, List.set_cons_zero, List.set_cons_succ]
  have BK295 := Aside0.mk Q_BK295
  clear Q_BK295
  have BK296 := Aside0.mk Q_BK296
  clear Q_BK296
  clear Q_BK297
  have HB := Aside0.mk Q_HB
  clear Q_HB
  have HO314 := Aside0.mk (Q_HO314 hb17_)
  clear Q_HO314
  have BK297 := Aside0.mk (Q_BK297_e20 hb20_)
  clear Q_BK297_e20
  clear hall hb1_ hb3_ hb4_ hb6_ hb8_ hb9_ hb10_ hb11_ hb12_ hb13_ hb14_ hb15_ hb16_ hb17_ hb18_ hb19_ hb20_
  try go_wp2
  refine bodyPost_ret (results_cell_row rfl _ _ gb297 23 #[.int .i64 t316, .bool t317] (0, 0) _ rfl (by (with_reducible repeat (first | refine blk_drewN ?_ _ | refine blk_drew ?_ | refine blk_alloc ?_ _)); exact BK297.out) Try.underlying23 rfl (by kernel_rfl)) rfl ?_
  exact ⟨by first | rfl | (simp [errW_none, errW_some] <;> rfl) | (simp [*, errW_none, errW_some] <;> rfl), by repeat (first | (with_reducible first | exact HB.out | apply below_alloc | apply pw_below_drewN | apply below_drew1 | refine below_set ?_ GE295.out | refine below_set ?_ GE296.out | refine below_set ?_ GE297.out) | exact HB.out)⟩
end Go.Proofs.Ytenpiaafkmfjfaa.B

end
section
namespace Go.Proofs.Ytenpiaafkmfjfaa.B
open Go.RowKit Go.Proofs.YtenpiaafkmfjfaaW.PrintWords Go.Proofs.YtenpiaafkmfjfaaW.PrintLast Go.Proofs.YtenpiaafkmfjfaaW.PrintMore
theorem or63 (a c : Nat) (ha : a < 9223372036854775808) (hc : c ≤ 1) : bits .or .u64 (a : Int) (IntKind.u64.wrap ((c : Int) * 9223372036854775808)) = ((a + c * 9223372036854775808 : Nat) : Int) := by
  rw [u64_id (x := (c : Int) * 9223372036854775808) (by omega) (by omega), show (c : Int) * 9223372036854775808 = ((c * 9223372036854775808 : Nat) : Int) by omega, bits_or_u64_nat _ _ (by omega) (by omega), Nat.or_comm]
  have := Nat.two_pow_add_eq_or_of_lt (i := 63) (b := a) (by simpa using ha) c
  rw [show c * 9223372036854775808 = 2 ^ 63 * c by rw [Nat.mul_comm], ← this]
  congr 1; omega
theorem newton (n x r : Nat) (hx : 0 < x) (hr : r * r ≤ n) : r ≤ (x + n / x) / 2 := by
  rcases Nat.lt_or_ge ((x + n / x) / 2) r with h | h
  · exfalso
    have h1 : x + n / x + 1 ≤ 2 * r := by omega
    have h2 : n < x * (n / x + 1) := by
      have := Nat.div_add_mod n x
      have := Nat.mod_lt n hx
      rw [Nat.mul_add]; omega
    have h3 : x * (n / x + 1) ≤ x * (2 * r - x) := Nat.mul_le_mul_left x (by omega)
    have hxr : x ≤ 2 * r := by generalize n / x = t at *; omega
    clear h h1
    have h4 : x * (2 * r - x) ≤ r * r := by
      rcases Nat.le_total x r with hl | hl
      · obtain ⟨d, rfl⟩ := Nat.exists_eq_add_of_le hl
        rw [show 2 * (x + d) - x = x + 2 * d by omega, Nat.mul_add, Nat.add_mul, Nat.mul_add, Nat.mul_add, Nat.mul_comm d x, Nat.mul_left_comm x 2 d]
        omega
      · obtain ⟨d, rfl⟩ := Nat.exists_eq_add_of_le hl
        have hd : d ≤ r := by omega
        rw [show 2 * r - (r + d) = r - d by omega, Nat.add_mul, Nat.mul_sub, Nat.mul_sub, Nat.mul_comm d r]
        have : r * d ≤ r * r := Nat.mul_le_mul_left r hd
        omega
    omega
  · exact h
theorem root_loop (lo hi : Nat) (hl : lo < 18446744073709551616) (hh : hi < 18446744073709551616) (hn : 0 < hi * 18446744073709551616 + lo) : ∀ (x k : Nat), 0 < x → x < 18446744073709551616 → x + 15 ≤ k → isq (hi * 18446744073709551616 + lo) ≤ x →
    fixed_words_root.l0 k (x : Int) (lo : Int) (hi : Int) = some ((isq (hi * 18446744073709551616 + lo) : Nat) : Int) := by
  have hN : hi * 18446744073709551616 + lo < 340282366920938463463374607431768211456 := by omega
  obtain ⟨i1, i2⟩ := isq_spec _ hN
  intro x
  induction x using Nat.strongRecOn with
  | _ x ih =>
    intro k hx hx2 hk hr
    obtain ⟨k, rfl⟩ : ∃ z, k = z + 1 := ⟨k - 1, by omega⟩
    have done : x * x ≤ hi * 18446744073709551616 + lo → x = isq (hi * 18446744073709551616 + lo) := by
      intro h
      rcases Nat.lt_or_ge (isq (hi * 18446744073709551616 + lo)) x with hlt | hge
      · have := sq_lt hlt; omega
      · omega
    rw [fixed_words_root.l0]
    by_cases h1 : x ≤ hi
    · rw [if_pos (by omega)]
      have h3 : x * x ≤ hi * 18446744073709551616 := Nat.mul_le_mul h1 (Nat.le_of_lt hx2)
      have hd := done (Nat.le_trans h3 (Nat.le_add_right _ _))
      rw [← hd]
    · rw [if_neg (by omega)]
      obtain ⟨r, e⟩ := div64_f k (by omega) hi lo x (by omega) hl hx2
      rw [e, Option.bind_some]
      dsimp only
      have hq : (hi * 18446744073709551616 + lo) / x < 18446744073709551616 := two_lt hi x lo (by omega) hl
      have hnw := newton (hi * 18446744073709551616 + lo) x (isq (hi * 18446744073709551616 + lo)) hx i1
      by_cases h2 : x ≤ (hi * 18446744073709551616 + lo) / x
      · rw [if_pos (by omega)]
        have : x * x ≤ hi * 18446744073709551616 + lo := by
          rw [Nat.le_div_iff_mul_le hx] at h2; exact h2
        rw [← done this]
      · rw [if_neg (by omega)]
        have hpos : 0 < isq (hi * 18446744073709551616 + lo) := by
          rcases Nat.eq_zero_or_pos (isq (hi * 18446744073709551616 + lo)) with h0 | hp
          · rw [h0] at i2; omega
          · exact hp
        generalize (hi * 18446744073709551616 + lo) / x = q at *
        have e1 : add64s (x : Int) (q : Int) 0 / 2 = (((x + q) % 18446744073709551616 / 2 : Nat) : Int) := by rw [add64s_i (by omega) (by omega) (by omega)]; omega
        have e2 : add64c (x : Int) (q : Int) 0 = (((x + q) / 18446744073709551616 : Nat) : Int) := by rw [add64c_i (by omega) (by omega) (by omega)]; omega
        rw [e1, e2, or63 _ _ (by omega) (by omega), show (x + q) % 18446744073709551616 / 2 + (x + q) / 18446744073709551616 * 9223372036854775808 = (x + q) / 2 by omega]
        exact ih ((x + q) / 2) (by omega) k (by omega) (by omega) (by omega) hnw
theorem isq_lt (n : Nat) (h : n < 340282366920938463463374607431768211456) : isq n < 18446744073709551616 := by
  obtain ⟨h1, _⟩ := isq_spec n h
  rcases Nat.lt_or_ge (isq n) 18446744073709551616 with hl | hg
  · exact hl
  · have := Nat.mul_le_mul hg hg; omega
theorem isq_le_pow (n s : Nat) (h : n < 340282366920938463463374607431768211456) (hn : n < 2 ^ s * 2 ^ s) : isq n ≤ 2 ^ s := by
  obtain ⟨h1, _⟩ := isq_spec n h
  rcases Nat.lt_or_ge (2 ^ s) (isq n) with hl | hg
  · have := Nat.mul_le_mul (Nat.le_of_lt hl) (Nat.le_of_lt hl); omega
  · exact hg
theorem len_f (x : Nat) (h : x < 18446744073709551616) : bits_Len64.f (x : Int) = some ((Lib.bitLen x : Nat) : Int) := by
  unfold bits_Len64.f
  rw [if_pos (by omega), if_pos (by omega), Int.toNat_natCast]
theorem blen_le (x : Nat) (h : x < 18446744073709551616) : Lib.bitLen x ≤ 64 := Lib.bitLen_le x 64 (by decide) h
theorem root_j1 (k : Nat) (hk : 18446744073709551650 ≤ k) (L lo hi : Nat) (hl : lo < 18446744073709551616) (hh : hi < 18446744073709551616) (hn : 0 < hi * 18446744073709551616 + lo) (hL : L ≤ 128) (hlt : hi * 18446744073709551616 + lo < 2 ^ L) :
    fixed_words_root.j1 k (L : Int) (lo : Int) (hi : Int) = some ((isq (hi * 18446744073709551616 + lo) : Nat) : Int) := by
  obtain ⟨k, rfl⟩ : ∃ z, k = z + 2 := ⟨k - 2, by omega⟩
  have e : wrap64 (Int.tdiv (wrap64 ((L : Int) + 1)) 2) = (((L + 1) / 2 : Nat) : Int) := by
    rw [wrap64_id (x := (L : Int) + 1) (by omega) (by omega), Int.tdiv_eq_ediv_of_nonneg (by omega), wrap64_id (by omega) (by omega)]; omega
  have hN : hi * 18446744073709551616 + lo < 340282366920938463463374607431768211456 := by omega
  rw [fixed_words_root.j1, e]
  by_cases h : (L + 1) / 2 < 64
  · have hp : 1 * 2 ^ ((L + 1) / 2) < 18446744073709551616 := by
      rw [Nat.one_mul]
      exact Nat.pow_lt_pow_right (a := 2) (by decide) (show (L + 1) / 2 < 64 from h)
    have h1 := shl_nat 1 ((L + 1) / 2) (by omega) hp
    rw [show ((1 : Nat) : Int) = 1 from rfl, Nat.one_mul] at h1
    rw [if_pos (by omega), if_pos (by omega), h1, fixed_words_root.j2]
    rw [Nat.one_mul] at hp
    refine root_loop lo hi hl hh hn _ k (Nat.two_pow_pos _) hp (by omega) (isq_le_pow _ _ hN ?_)
    rw [← Nat.pow_add]
    exact Nat.lt_of_lt_of_le hlt (Nat.pow_le_pow_right (by decide) (by omega))
  · rw [if_neg (by omega), fixed_words_root.j2]
    have := isq_lt _ hN
    exact root_loop lo hi hl hh hn 18446744073709551615 k (by omega) (by omega) (by omega) (by omega)
theorem root_f (k : Nat) (hk : 18446744073709551660 ≤ k) (lo hi : Nat) (hl : lo < 18446744073709551616) (hh : hi < 18446744073709551616) :
    fixed_words_root.f k (lo : Int) (hi : Int) = some ((isq (hi * 18446744073709551616 + lo) : Nat) : Int) := by
  obtain ⟨k, rfl⟩ : ∃ z, k = z + 1 := ⟨k - 1, by omega⟩
  unfold fixed_words_root.f
  by_cases h0 : hi = 0
  · subst h0
    rw [if_pos (show ((0 : Nat) : Int) = 0 from rfl), fixed_words_root.j0]
    by_cases h1 : lo = 0
    · subst h1
      rw [if_pos (show (((0 : Nat) : Int) == 0) = true from rfl)]
      have : isq (0 * 18446744073709551616 + 0) = 0 := isq_unique _ 0 (by omega) (by omega) (by omega)
      rw [this]; rfl
    · rw [if_neg (by simp; omega), len_f lo hl, Option.bind_some, if_pos (show ((0 : Nat) : Int) = 0 from rfl)]
      obtain ⟨b1, _⟩ := blen lo hl
      have := blen_le lo hl
      exact root_j1 k (by omega) _ lo 0 hl hh (by omega) (by omega) (by omega)
  · rw [if_neg (by omega), fixed_words_root.j0, if_neg (by decide), len_f lo hl, Option.bind_some, if_neg (by omega), len_f hi hh, Option.bind_some]
    obtain ⟨b1, _⟩ := blen hi hh
    have hb := blen_le hi hh
    rw [wrap64_id (by omega) (by omega), show (64 : Int) + ((Lib.bitLen hi : Nat) : Int) = ((64 + Lib.bitLen hi : Nat) : Int) by omega]
    refine root_j1 k (by omega) _ lo hi hl hh (by omega) (by omega) ?_
    rw [Nat.pow_add]
    omega
end Go.Proofs.Ytenpiaafkmfjfaa.B

end
section
namespace Go.Proofs.Ytenpiaafkmfjfaa.B
open Go.RowKit Go.Proofs.YtenpiaafkmfjfaaW.PrintWords Go.Proofs.YtenpiaafkmfjfaaW.PrintLast Go.Proofs.YtenpiaafkmfjfaaW.PrintMore
theorem root_ex {n : Bool} {lo hi x : Int} (k : Nat) (hk : 18446744073709551660 ≤ k) (h : Ex n lo hi x) : fixed_words_root.f k lo hi = some ((isq x.natAbs : Nat) : Int) := by
  have ha := h.abs
  obtain ⟨h1, h2, h3, h4, _, _⟩ := h
  have := root_f k hk lo.toNat hi.toNat (by omega) (by omega)
  rw [show hi.toNat * 18446744073709551616 + lo.toNat = x.natAbs by omega, Int.toNat_of_nonneg h1, Int.toNat_of_nonneg h3] at this
  exact this
theorem fit_root (k : Nat) (hk : 1 ≤ k) (r : Nat) (hr : r < 18446744073709551616) (f : Bool) : fixed_exact_fit.f k false (r : Int) 0 f = some (fitV (r : Int), fitF (r : Int) f) :=
  fit_ex ⟨by omega, by omega, by omega, by omega, fun _ => by omega, fun h => absurd h (by decide)⟩ f k hk
theorem sqrt_neg (k : Nat) {v : Int} (f : Bool) (h : sv v < 0) : fixed_Sqrt.f k v f = some (0, true) := by
  unfold fixed_Sqrt.f
  rw [sound_f, Option.bind_some]
  dsimp only
  rw [if_pos h]
theorem sqrt_f (k : Nat) (hk : 18446744073709551660 ≤ k) {v : Int} (f : Bool) (hv : I64 v) (h : ¬ sv v < 0) : fixed_Sqrt.f k v f = some (fitV ((isq (sv v * 4294967296).natAbs : Nat) : Int), fitF ((isq (sv v * 4294967296).natAbs : Nat) : Int) (sf v f)) := by
  have hs := sv_i64 hv
  unfold fixed_Sqrt.f
  rw [sound_f, Option.bind_some]
  dsimp only
  rw [if_neg h, of_f hs.i64, Option.bind_some]
  dsimp only
  unfold Snd at hs
  rw [up_f (by omega) (by omega), Option.bind_some]
  dsimp only
  have x : Ex (decide (sv v < 0)) (((sv v).natAbs : Int) % 4294967296 * 4294967296) (((sv v).natAbs : Int) / 4294967296) (sv v * 4294967296) := by
    refine ⟨by omega, by omega, by omega, by omega, fun e => ?_, fun e => ?_⟩
    · have := of_decide_eq_false e; omega
    · have := of_decide_eq_true e; omega
  rw [root_ex k hk x, Option.bind_some, fit_root k (by omega) _ (isq_lt _ (by omega)), Option.bind_some]
theorem snd_mul {a b : Int} (ha : Snd a) (hb : Snd b) : -85070591730234615847396907784232501249 ≤ a * b ∧ a * b ≤ 85070591730234615847396907784232501249 := by
  have h : a.natAbs * b.natAbs ≤ 9223372036854775807 * 9223372036854775807 := by unfold Snd at *; exact Nat.mul_le_mul (by omega) (by omega)
  rw [← Int.natAbs_mul] at h
  omega
theorem hypot_f (k : Nat) (hk : 18446744073709551660 ≤ k) {a b : Int} (fa fb : Bool) (ha : I64 a) (hb : I64 b) :
    fixed_Hypot.f k a fa b fb = some (fitV ((isq (sv a * sv a + sv b * sv b).natAbs : Nat) : Int), fitF ((isq (sv a * sv a + sv b * sv b).natAbs : Nat) : Int) (sf a fa || sf b fb)) := by
  have sa := sv_i64 ha
  have sb := sv_i64 hb
  have ma := snd_mul sa sa
  have mb := snd_mul sb sb
  obtain ⟨n1, lo1, hi1, e1, x1⟩ := product_ex sa.i64 sa.i64
  obtain ⟨n2, lo2, hi2, e2, x2⟩ := product_ex sb.i64 sb.i64
  have hb : (sv a * sv a + sv b * sv b).natAbs < 170141183460469231731687303715884105728 := by omega
  obtain ⟨n, lo, hi, e, x⟩ := plus_ex k (by omega) x1 x2 hb
  have hfl : fixed_flags.f k [(⟨sv a, sf a fa⟩ : S23), ⟨sv b, sf b fb⟩] = some (sf a fa || sf b fb) := by
    rw [flags_f _ (by simp) k (by simp; omega)]
    simp
  unfold fixed_Hypot.f
  rw [sound_f, Option.bind_some, sound_f, Option.bind_some]
  dsimp only
  rw [e1, Option.bind_some, e2, Option.bind_some]
  dsimp only
  rw [e, Option.bind_some]
  dsimp only
  rw [root_ex k hk x, Option.bind_some, hfl, Option.bind_some, fit_root k (by omega) _ (isq_lt _ (by omega)), Option.bind_some]
end Go.Proofs.Ytenpiaafkmfjfaa.B

end
section
namespace Go.Proofs.Ytenpiaafkmfjfaa.B
open Go.RowKit Go.Proofs.YtenpiaafkmfjfaaW.PrintWords Go.Proofs.YtenpiaafkmfjfaaW.PrintLast Go.Proofs.YtenpiaafkmfjfaaW.PrintMore
attribute [local go_sem] max2_int min2_int max_two min_two max_three min_three max_four min_four
set_option linter.unusedVariables false
set_option linter.unusedSimpArgs false
def fixed_extreme_int64.l0 : Nat → Int → Int → List Int → Int → Int → Option (Int)
  | 0, _, _, _, _, _ => none
  | k + 1, x0, x1, x9, x10, x11 => if x11 < x10 then (if 0 ≤ x11 then (if x11 < (x9.length : Int) then ((cmp_Compare_int64.f (rd x9 x11) x1).bind fun t350 => (if (wrap64 (t350 * x0)) < 0 then (fixed_extreme_int64.l0 k x0 (rd x9 x11) x9 x10 (wrap64 (x11 + 1))) else (fixed_extreme_int64.l0 k x0 x1 x9 x10 (wrap64 (x11 + 1))))) else (none)) else (none)) else (some x1)
def fixed_extreme_int64.f (k : Nat) (a0 : Int) (a1 : Int) (l2 : List Int) : Option (Int) := fixed_extreme_int64.l0 k a0 a1 l2 (l2.length : Int) 0
set_option maxHeartbeats 8000000 in
set_option maxRecDepth 100000 in
theorem fixed_extreme_int64.calls (k : Nat) (a0 : Int) (a1 : Int) (A2 : Option Addr) (c2 : Nat) (l2 : List Int) (r : Int) (w : World) (hr2 : Kd.C (Kd.int .i64) w A2 l2.length l2) (hc2 : l2.length ≤ c2) (h : fixed_extreme_int64.f k a0 a1 l2 = some r) :
    Calls Try.prog 112 #[.int .i64 a0, .int .i64 a1, .slice A2 l2.length c2] w fun e w' => e = .returned (.int .i64 r) ∧ Drawn0 w w' := by
  have HR2 := Aside0.mk hr2
  have HC2 := Aside0.mk hc2
  clear hr2 hc2
  have H : (fixed_extreme_int64.l0 k a0 a1 l2 (l2.length : Int) 0) = some r := h
  clear h
  have H' := Aside0.mk H
  clear H
  go_enter Try.func112, Try.ntmps112
  go_wp2
  go_loopg [1, 11] k (fun kq v1 v11 w' => ∃ (x1_1 : Int) (x11_1 : Int), v1 = .int .i64 x1_1 ∧ v11 = .int .i64 x11_1 ∧ Aside0 (fixed_extreme_int64.l0 kq a0 x1_1 l2 (l2.length : Int) x11_1 = some r) ∧ Aside0 (kq ≤ k) ∧ Drawn0 w w')
  case atStart => exact ⟨(a1), (0), (by first | rfl | (simp; done) | (simp [*]; done)), (by first | rfl | (simp; done) | (simp [*]; done)), H', ⟨Nat.le_refl _⟩, by repeat (first | exact Drawn0.refl _ | apply Drawn0.step)⟩
  case round =>
    clear H'
    try clear c1
    try clear c2
    try clear p2
    obtain ⟨x1_1, x11_1, rfl, rfl, HA, HK1, ⟨m1, rfl⟩⟩ := hrel
    cases gk with
    | zero => exact absurd HA.out (by simp [fixed_extreme_int64.l0])
    | succ k1 =>
      have H := HA.out
      clear HA
      simp only [fixed_extreme_int64.l0] at H
      by_cases c4 : x11_1 < (l2.length : Int)
      · rw [if_pos c4] at H
        have c4b0 : decide (x11_1 < (l2.length : Int)) = true := decide_eq_true c4
        clear c4
        by_cases c5 : 0 ≤ x11_1
        · rw [if_pos c5] at H
          have c5b0 : decide (0 ≤ x11_1) = true := decide_eq_true c5
          clear c5
          by_cases c6 : x11_1 < (l2.length : Int)
          · rw [if_pos c6] at H
            have c6b0 : decide (x11_1 < (l2.length : Int)) = true := decide_eq_true c6
            clear c6
            replace H := Option.bind_eq_some_iff.mp H
            obtain ⟨t350, A70, H⟩ := H
            replace H : (if (wrap64 (t350 * a0)) < 0 then (fixed_extreme_int64.l0 k1 a0 (rd l2 x11_1) l2 (l2.length : Int) (wrap64 (x11_1 + 1))) else (fixed_extreme_int64.l0 k1 a0 x1_1 l2 (l2.length : Int) (wrap64 (x11_1 + 1)))) = some r := H
            have A7 := Aside0.mk A70
            clear A70
            by_cases c8 : (wrap64 (t350 * a0)) < 0
            · rw [if_pos c8] at H
              have c8b0 : decide ((wrap64 (t350 * a0)) < 0) = true := decide_eq_true c8
              clear c8
              have H' := Aside0.mk H
              clear H
              have p349 : 0 ≤ (x11_1 : Int) := of_decide_eq_true (by first | (with_reducible assumption) | assumption)
              have q349 : x11_1 < (l2.length : Int) := of_decide_eq_true (by first | (with_reducible assumption) | assumption)
              obtain ⟨ad349, e349, hx349_0⟩ := Kd.at_int HR2.out x11_1 p349 q349
              cases e349
              replace p349 := eq_true p349
              replace q349 := eq_true q349
              go_wp2_with (first | ((with_reducible refine gate_callee (f := 78) rfl ?_); refine goesL_ (some 17) rfl rfl Try.func78 (by kernel_rfl) rfl #[.int .i64 (rd l2 x11_1), .int .i64 x1_1] rfl (by (try simp only [List.map_toArray, List.map_cons, List.map_nil]); first | done | rfl | (simp only [List.length_drop, List.length_take]; rfl)) ?_; (with_reducible refine (cmp_Compare_int64.calls (rd l2 x11_1) x1_1 t350 _ A7.out).mono ?_); rintro e w' ⟨rfl, ⟨nd, rfl⟩⟩; refine ⟨_, rfl, ?_⟩))
              go_roundg k1
              case measure => have := HK1.out; omega
              case rel => exact ⟨(rd l2 x11_1), (wrap64 (x11_1 + 1)), (by first | rfl | (simp; done) | (simp [*]; done)), (by first | rfl | (simp; done) | (simp [*]; done)), H', ⟨by have := HK1.out; omega⟩, by repeat (first | exact Drawn0.refl _ | apply Drawn0.step)⟩
            · rw [if_neg c8] at H
              have c8b0 : decide ((wrap64 (t350 * a0)) < 0) = false := decide_eq_false c8
              clear c8
              have H' := Aside0.mk H
              clear H
              have p349 : 0 ≤ (x11_1 : Int) := of_decide_eq_true (by first | (with_reducible assumption) | assumption)
              have q349 : x11_1 < (l2.length : Int) := of_decide_eq_true (by first | (with_reducible assumption) | assumption)
              obtain ⟨ad349, e349, hx349_0⟩ := Kd.at_int HR2.out x11_1 p349 q349
              cases e349
              replace p349 := eq_true p349
              replace q349 := eq_true q349
              go_wp2_with (first | ((with_reducible refine gate_callee (f := 78) rfl ?_); refine goesL_ (some 17) rfl rfl Try.func78 (by kernel_rfl) rfl #[.int .i64 (rd l2 x11_1), .int .i64 x1_1] rfl (by (try simp only [List.map_toArray, List.map_cons, List.map_nil]); first | done | rfl | (simp only [List.length_drop, List.length_take]; rfl)) ?_; (with_reducible refine (cmp_Compare_int64.calls (rd l2 x11_1) x1_1 t350 _ A7.out).mono ?_); rintro e w' ⟨rfl, ⟨nd, rfl⟩⟩; refine ⟨_, rfl, ?_⟩))
              go_roundg k1
              case measure => have := HK1.out; omega
              case rel => exact ⟨(x1_1), (wrap64 (x11_1 + 1)), (by first | rfl | (simp; done) | (simp [*]; done)), (by first | rfl | (simp; done) | (simp [*]; done)), H', ⟨by have := HK1.out; omega⟩, by repeat (first | exact Drawn0.refl _ | apply Drawn0.step)⟩
          · rw [if_neg c6] at H
            exact absurd H (by simp)
        · rw [if_neg c5] at H
          exact absurd H (by simp)
      · rw [if_neg c4] at H
        have c4b0 : decide (x11_1 < (l2.length : Int)) = false := decide_eq_false c4
        clear c4
        obtain rfl := Option.some.inj H
        go_wp2
        go_ret
        exact ⟨by first | rfl | (simp; done) | (simp [*]; done), by repeat (first | exact Drawn0.refl _ | apply Drawn0.step)⟩
def fixed_most.f (k : Nat) (a0 : Int) (l1 : List (S23)) : Option (Int × Bool) := if (l1.length : Int) = 0 then (some (0, false)) else ((fixed_values.f l1).bind fun bt352 => (if 0 < (bt352.1.length : Int) then (if 1 ≤ (bt352.1.length : Int) then ((fixed_extreme_int64.f k a0 (rd bt352.1 0) (bt352.1.drop 1)).bind fun t361 => (some (t361, bt352.2))) else (none)) else (none)))
def fixed_most.T4 : Bool × List (List Nat × List Nat) := (true, [([], []), ([], []), ([1], [1]), ([2], [2]), ([], []), ([4], [4]), ([0, 3, 5], [0, 3, 5]), ([], []), ([6, 7], [6, 7]), ([8, 6, 0, 1, 2, 3, 4, 5, 6, 7, 8], [8])])
def fixed_most.B4 : List Nat := [0, 0, 2, 6, 0, 16, 63, 0, 255, 511]
theorem fixed_most.tab4 : rtab .any (opsOf Try.f79 4) = fixed_most.T4 := by kernel_rfl
theorem fixed_most.bits4 : waitsOk fixed_most.T4.2 fixed_most.B4 = true := by kernel_rfl
set_option maxHeartbeats 8000000 in
set_option maxRecDepth 100000 in
theorem fixed_most.calls (k : Nat) (a0 : Int) (A1 : Option Addr) (c1 : Nat) (l1 : List (S23)) (r1 : Int) (r2 : Bool) (w : World) (hr1 : Kd.C k23 w A1 l1.length l1) (hc1 : l1.length ≤ c1) (h : fixed_most.f k a0 l1 = some (r1, r2)) :
    Calls Try.prog 79 #[.int .i64 a0, .slice A1 l1.length c1] w fun e w' => e = .returned (.agg #[.int .i64 r1, .bool r2]) ∧ Below w.heap.size w w' := by
  have hu23 := Try.underlying23
  have HR1 := Aside0.mk hr1
  have HC1 := Aside0.mk hc1
  clear hr1 hc1
  have HB := Aside0.mk (Below.refl w.heap.size w)
  have H : (if (l1.length : Int) = 0 then (some (0, false)) else ((fixed_values.f l1).bind fun bt352 => (if 0 < (bt352.1.length : Int) then (if 1 ≤ (bt352.1.length : Int) then ((fixed_extreme_int64.f k a0 (rd bt352.1 0) (bt352.1.drop 1)).bind fun t361 => (some (t361, bt352.2))) else (none)) else (none)))) = some (r1, r2) := h
  clear h
  by_cases c3 : (l1.length : Int) = 0
  · rw [if_pos c3] at H
    have c3b0 : ((l1.length : Int) == 0) = true := beq_iff_eq.mpr c3
    have c3b1 : ((l1.length : Int) != 0) = false := bne_eq_false_iff_eq.mpr c3
    clear c3
    simp only [Option.some.injEq, Prod.mk.injEq] at H
    obtain ⟨rfl, rfl⟩ := H
    go_enter Try.func79, Try.ntmps79
    go_wp2_with (first | ((with_reducible refine gate_dst (N := 4) rfl ?_); refine box_event ?hg (N := 4) ?hd (cs := #[.int .i64 0, .bool false]) (t := 23) ?hr ?_; (case hd => rfl); (case hg => rfl); (case hr => first | (go_simp; done) | (go_simp; rfl)); intro gb351 hg w4 hbox hb; have n0_ := Aside0.mk (below_step (by repeat (first | (with_reducible first | exact HB.out | apply below_alloc | apply pw_below_drewN | apply below_drew1) | exact HB.out)) hb); have n1_ := Aside0.mk (hbox); have n2_ := Aside0.mk ((by rw [hg]; exact (below_size (by repeat (first | (with_reducible first | exact HB.out | apply below_alloc | apply pw_below_drewN | apply below_drew1) | exact HB.out))) : w.heap.size ≤ gb351)); have n3_ := Aside0.mk ((by rw [hg]; exact (below_size (by repeat (first | (with_reducible first | exact HB.out | apply below_alloc | apply pw_below_drewN | apply below_drew1) | exact HB.out))) : w.heap.size ≤ gb351)); clear HB; have HB := n0_; have BK351 := n1_; have GW351 := n2_; have GE351 := n3_; clear n0_ n1_ n2_ n3_; clear hb hbox hg; have hcz5_0 : w4.cell? ⟨gb351, 0, none⟩ = some (.int .i64 0) := (blk_cell BK351.out 0).trans rfl; have hcz5_1 : w4.cell? ⟨gb351, 1, none⟩ = some (.bool false) := (blk_cell BK351.out 1).trans rfl; have hfz5_0 := blk_frozen BK351.out 0; have hfz5_1 := blk_frozen BK351.out 1))
    refine bodyPost_ret (results_cell_row rfl _ _ gb351 23 #[.int .i64 0, .bool false] (0, 0) _ rfl (by (with_reducible repeat (first | refine blk_drewN ?_ _ | refine blk_drew ?_ | refine blk_alloc ?_ _)); refine blk_put (cs := #[.int .i64 0, .bool false]) ?_ 1 _ rfl; (with_reducible repeat (first | refine blk_drewN ?_ _ | refine blk_drew ?_ | refine blk_alloc ?_ _)); refine blk_put (cs := #[.int .i64 0, .bool false]) ?_ 0 _ rfl; (with_reducible repeat (first | refine blk_drewN ?_ _ | refine blk_drew ?_ | refine blk_alloc ?_ _)); exact BK351.out) Try.underlying23 rfl (by kernel_rfl)) rfl ?_
    exact ⟨by first | rfl | (simp [errW_none, errW_some] <;> rfl) | (simp [*, errW_none, errW_some] <;> rfl), by repeat (first | (with_reducible first | exact HB.out | apply below_alloc | apply pw_below_drewN | apply below_drew1 | refine below_set ?_ GE351.out) | exact HB.out)⟩
  · rw [if_neg c3] at H
    have c3b0 : ((l1.length : Int) == 0) = false := beq_eq_false_iff_ne.mpr c3
    have c3b1 : ((l1.length : Int) != 0) = true := bne_iff_ne.mpr c3
    have c3b2 : ¬ (l1 = []) := fun h_ => c3 (by rw [h_]; rfl)
    replace H := Option.bind_eq_some_iff.mp H
    obtain ⟨⟨t352, t353⟩, A60, H⟩ := H
    replace H : (if 0 < (t352.length : Int) then (if 1 ≤ (t352.length : Int) then ((fixed_extreme_int64.f k a0 (rd t352 0) (t352.drop 1)).bind fun t361 => (some (t361, t353))) else (none)) else (none)) = some (r1, r2) := H
    have A6 := Aside0.mk A60
    clear A60
    by_cases c7 : 0 < (t352.length : Int)
    · rw [if_pos c7] at H
      have c7b0 : decide (0 < (t352.length : Int)) = true := decide_eq_true c7
      have c7b1 : decide (0 < t352.length) = true := decide_eq_true (by omega)
      clear c7
      by_cases c8 : 1 ≤ (t352.length : Int)
      · rw [if_pos c8] at H
        have c8b0 := eq_true c8
        have c8b1 : decide (1 ≤ (t352.length : Int)) = true := decide_eq_true c8
        clear c8
        obtain ⟨y357, hy357⟩ : ∃ y_ : List Int, y_ = (t352.drop 1) := ⟨_, rfl⟩
        replace H : ((fixed_extreme_int64.f k a0 (rd t352 0) y357).bind fun t361 => (some (t361, t353))) = some (r1, r2) := by first | (rw [hy357]; with_reducible exact H) | (have H2_ := (Option.bind_some _ _).symm.trans H; rw [hy357]; with_reducible exact H2_) | (have H2_ := (Option.bind_some _ _).symm.trans H; with_reducible exact H2_) | with_reducible exact H | (rw [hy357]; exact H) | exact H
        have Ny357 := Aside0.mk hy357
        clear hy357
        replace H := Option.bind_eq_some_iff.mp H
        obtain ⟨t361, A90, H⟩ := H
        replace H : (some (t361, t353)) = some (r1, r2) := H
        have A9 := Aside0.mk A90
        clear A90
        simp only [Option.some.injEq, Prod.mk.injEq] at H
        obtain ⟨rfl, rfl⟩ := H
        go_enter Try.func79, Try.ntmps79
        try go_wp2_with (first | ((with_reducible refine gate_dst (N := 4) rfl ?_); refine box_event ?hg (N := 4) ?hd (cs := #[.int .i64 0, .bool false]) (t := 23) ?hr ?_; (case hd => rfl); (case hg => rfl); (case hr => first | (go_simp; done) | (go_simp; rfl)); intro gb351 hg w10 hbox hb; have n0_ := Aside0.mk (below_step (by repeat (first | (with_reducible first | exact HB.out | apply below_alloc | apply pw_below_drewN | apply below_drew1) | exact HB.out)) hb); have n1_ := Aside0.mk (hbox); have n2_ := Aside0.mk ((by rw [hg]; exact (below_size (by repeat (first | (with_reducible first | exact HB.out | apply below_alloc | apply pw_below_drewN | apply below_drew1) | exact HB.out))) : w.heap.size ≤ gb351)); have n3_ := Aside0.mk ((by rw [hg]; exact (below_size (by repeat (first | (with_reducible first | exact HB.out | apply below_alloc | apply pw_below_drewN | apply below_drew1) | exact HB.out))) : w.heap.size ≤ gb351)); clear HB; have HB := n0_; have BK351 := n1_; have GW351 := n2_; have GE351 := n3_; clear n0_ n1_ n2_ n3_; clear hb hbox hg) | ((with_reducible refine gate_callee (f := 81) rfl ?_); refine goesL_ (some 13) rfl rfl Try.func81 (by kernel_rfl) rfl #[.slice A1 l1.length c1] rfl (by (try simp only [List.map_toArray, List.map_cons, List.map_nil]); first | done | rfl | (simp only [List.length_drop, List.length_take]; rfl)) ?_; (with_reducible refine (fixed_values.calls _ _ l1 t352 t353 _ ?side1 ?side2 A6.out).mono ?_); (case side1 => repeat (first | exact (Kd.C_below HR1.out HB.out) | (with_reducible refine Kd.C_alloc ?_ _) | (with_reducible refine Kd.C_drewN ?_ _) | (with_reducible refine Kd.C_drew ?_))); (case side2 => exact HC1.out); rintro e w11 ⟨v354, rfl, ho0, hb⟩; refine ⟨_, rfl, ?_⟩; have n0_ := Aside0.mk (Kd.R_lower ho0 (below_size (by repeat (first | (with_reducible first | exact HB.out | apply below_alloc | apply pw_below_drewN | apply below_drew1 | refine below_set ?_ GE351.out) | exact HB.out)))); have n1_ := Aside0.mk (blk_below (g := gb351) (o := .cells #[.int .i64 0, .bool false] 23 (0, 0)) (by (with_reducible repeat (first | refine blk_drewN ?_ _ | refine blk_drew ?_ | refine blk_alloc ?_ _)); exact BK351.out) hb); have n2_ := Aside0.mk (below_step (by repeat (first | (with_reducible first | exact HB.out | apply below_alloc | apply pw_below_drewN | apply below_drew1 | refine below_set ?_ GE351.out) | exact HB.out)) hb); clear BK351; clear HB; have HO355 := n0_; have BK351 := n1_; have HB := n2_; clear n0_ n1_ n2_; (try clear hb); (try clear hb2); (try clear hk); (try clear hi); (try clear ho0)))
        have n0_ := Aside0.mk (Kd.R_drew HO355.out)
        have n1_ := Aside0.mk (blk_drew BK351.out)
        have n2_ := Aside0.mk (below_drew1 HB.out)
        clear HO355
        clear BK351
        clear HB
        have HO355 := n0_
        have BK351 := n1_
        have HB := n2_
        clear n0_ n1_ n2_
        obtain ⟨Ao13, co13, eo13⟩ := Kd.R_slice HO355.out
        (first | subst eo13 | (injection eo13 with f1_ f2_ f3_; have f4_ := f1_.symm; have f5_ := f3_.symm; clear f1_ f2_ f3_; subst f4_; subst f5_))
        have p356 : 0 ≤ (0 : Int) := (by omega)
        have q356 : 0 < (t352.length : Int) := of_decide_eq_true (by first | (with_reducible assumption) | assumption)
        obtain ⟨ad356, e356, hx356_0⟩ := Kd.at_int (Kd.R_reads' HO355.out).2.2 0 p356 q356
        cases e356
        have qi356 : (0 < t352.length) = True := eq_true (by omega)
        (try rw [show ((0 : Int)).toNat = 0 from rfl] at hx356_0)
        (try rw [Addr.add_zero'] at hx356_0)
        replace p356 := eq_true p356
        replace q356 := eq_true q356
        have q14 : (1 : Int) ≤ ((t352.length : Int) : Int) := of_decide_eq_true (by first | (with_reducible assumption) | assumption)
        obtain ⟨i014, hi014, _, hsz14, _⟩ := info_parts info2
        have hroom14 : t352.length ≤ co13 := (Kd.R_reads' HO355.out).2.1
        have hC14 : Kd.C (Kd.int .i64) _ (some ad356) t352.length t352 := (Kd.R_reads' HO355.out).2.2
        have hcut14 := cut_from (P := Try.prog) 70 2 .i64 Try.underlying70 hi014 1 hsz14 (some ad356) t352.length co13 1 (by omega) q14
        have hr14 := Kd.C_drop (m := (1 : Int).toNat) (c := co13) hC14 (by omega) hroom14
        obtain ⟨A14, hA14⟩ : ∃ A1, A1 = (if co13 = (1 : Int).toNat then (some ad356) else ((some ad356) : Option Addr).map (·.add ((1 : Int).toNat * 1))) := ⟨_, rfl⟩
        obtain ⟨c14, hc14⟩ : ∃ c1, c1 = co13 - (1 : Int).toNat := ⟨_, rfl⟩
        have hy14 : y357.length = t352.length - (1 : Int).toNat := (by rw [Ny357.out, List.length_drop] <;> omega)
        rw [show (t352).drop (1 : Int).toNat = y357 from Ny357.out.symm] at hr14
        replace hr14 : Kd.C (Kd.int .i64) _ A14 y357.length y357 := (by rw [hA14]; exact hr14)
        rw [← hy14, ← hA14, ← hc14] at hcut14
        have HR360 := Aside0.mk hr14
        have HC360 := Aside0.mk (show y357.length ≤ c14 from by rw [hy14, hc14]; exact Nat.sub_le_sub_right hroom14 _)
        clear hr14 hC14 hroom14 hi014 hsz14 hc14
        have KY14 := Aside0.mk hy14
        have KA14 := Aside0.mk hA14
        clear hy14 hA14
        have KL14 := Aside0.mk (show 1 ≤ t352.length from by omega)
        replace q14 := eq_true q14
        refine start_ (n := 10) (S := fun w' => w'.cell? ad356 = some (.int .i64 (rd t352 0))) (ds := []) #[false, false, false, false, false, false, false, false, false, false] (by kernel_rfl) rfl rfl (hx356_0) (fun hHeld => ?_); refine with_tabW fixed_most.tab4 fixed_most.bits4 (fun HT_ HW_ => ?_)
        generalize w11.drew = w12 at HO355 BK351 HB HR360 hx356_0 hHeld ⊢
        refine pure_ (i := 0) (N := some 16) (v := ?_) (a' := ?_) #[true, false, false, false, false, false, false, false, false, false] rfl rfl (any_of HT_.out (by kernel_rfl)) (fun _ _ _ h => h) (Or.inl ⟨by rfl, ?_⟩) ?_ ?_
        rotate_left
        · intro w'
          go_simp
          with_reducible rfl
        rotate_left
        · simp only [Act.put, List.setIfInBounds_toArray, List.set_cons_zero, List.set_cons_succ, i64_w, i32_w]
          rfl
        refine pure_ (i := 1) (N := some 17) (v := ?_) (a' := ?_) #[true, true, false, false, false, false, false, false, false, false] rfl rfl (any_of HT_.out (by kernel_rfl)) (fun _ _ _ h => h) (Or.inl ⟨by rfl, ?_⟩) ?_ ?_
        rotate_left
        · intro w'
          go_simp
          with_reducible rfl
        rotate_left
        · simp only [Act.put, List.setIfInBounds_toArray, List.set_cons_zero, List.set_cons_succ, i64_w, i32_w]
          rfl
        refine pure_ (i := 2) (N := some 18) (v := ?_) (a' := ?_) #[true, true, true, false, false, false, false, false, false, false] rfl rfl (any_of HT_.out (by kernel_rfl)) (fun _ _ _ h => h) (Or.inl ⟨by rfl, ?_⟩) ?_ ?_
        rotate_left
        · intro w'
          go_simp
          with_reducible rfl
        rotate_left
        · simp only [Act.put, List.setIfInBounds_toArray, List.set_cons_zero, List.set_cons_succ, i64_w, i32_w]
          rfl
        refine pure_ (i := 4) (N := some 20) (v := ?_) (a' := ?_) #[true, true, true, false, true, false, false, false, false, false] rfl rfl (any_of HT_.out (by kernel_rfl)) (fun _ _ _ h => h) (Or.inl ⟨by rfl, ?_⟩) ?_ ?_
        rotate_left
        · intro w'
          go_simp
          with_reducible rfl
        rotate_left
        · simp only [Act.put, List.setIfInBounds_toArray, List.set_cons_zero, List.set_cons_succ, i64_w, i32_w]
          rfl
        refine pure_ (i := 5) (N := some 21) (v := ?_) (a' := ?_) #[true, true, true, false, true, true, false, false, false, false] rfl rfl (any_of HT_.out (by kernel_rfl)) (fun _ _ _ h => h) (Or.inl ⟨by rfl, ?_⟩) ?_ ?_
        rotate_left
        · intro w'
          go_simp
          with_reducible rfl
        rotate_left
        · simp only [Act.put, List.setIfInBounds_toArray, List.set_cons_zero, List.set_cons_succ, i64_w, i32_w]
          rfl
        refine pure_ (i := 7) (N := some 23) (v := ?_) (a' := ?_) #[true, true, true, false, true, true, false, true, false, false] rfl rfl (any_of HT_.out (by kernel_rfl)) (fun _ _ _ h => h) (Or.inl ⟨by rfl, ?_⟩) ?_ ?_
        rotate_left
        · intro w'
          go_simp
          with_reducible rfl
        rotate_left
        · simp only [Act.put, List.setIfInBounds_toArray, List.set_cons_zero, List.set_cons_succ, i64_w, i32_w]
          rfl
        refine take_ (i := 3) (N := some 19) (v := ?_) (a' := ?_) #[true, true, true, true, true, true, false, true, false, false] rfl rfl (take_ofW HT_.out HW_.out (by kernel_rfl)) (fun _ _ _ h => h) (Or.inl ⟨by rfl, ?_⟩) hHeld ?_ ?_
        rotate_left
        · intro w' s0
          go_simp
          with_reducible rfl
        rotate_left
        · simp only [Act.put, List.setIfInBounds_toArray, List.set_cons_zero, List.set_cons_succ, i64_w, i32_w]
          rfl
        refine one_ (i := 6) (N := some 22) #[true, true, true, true, true, true, true, true, false, false] rfl rfl (one_of HT_.out (by kernel_rfl)) (by decide) (fun K hK => ?_)
        refine goes_ Try.func112 (by kernel_rfl) rfl #[.int .i64 a0, .int .i64 (rd t352 0), .slice A14 y357.length c14] (by rfl) rfl rfl (by (try simp only [List.map_toArray, List.map_cons, List.map_nil]); first | done | rfl | (simp only [List.length_drop, List.length_take]; rfl)) ?_
        with_reducible refine (fixed_extreme_int64.calls k a0 (rd t352 0) _ _ y357 t361 _ ?side1 ?side2 A9.out).mono ?_
        (case side1 => repeat (first | exact (by repeat (first | (with_reducible exact HR360.out) | (with_reducible refine Kd.C_alloc ?_ _) | (with_reducible refine Kd.C_drewN ?_ _) | (with_reducible refine Kd.C_drew ?_) | exact HR360.out)) | (with_reducible refine Kd.C_alloc ?_ _) | (with_reducible refine Kd.C_drewN ?_ _) | (with_reducible refine Kd.C_drew ?_)))
        (case side2 => exact HC360.out)
        rintro e w' ⟨rfl, ⟨nd, rfl⟩⟩
        refine ⟨_, rfl, ?_⟩
        refine hK.out _ _ (hHeld) (fun hHeld => ?_)
        clear hK K
        refine norm_ (a' := ?_) ?_ ?_
        rotate_left
        · show Act.put _ (some 22) _ = _
          simp only [Act.put, List.setIfInBounds_toArray, List.set_cons_zero, List.set_cons_succ, i64_w, i32_w]
          rfl
        refine pure_ (i := 8) (N := some 24) (v := ?_) (a' := ?_) #[true, true, true, true, true, true, true, true, true, false] rfl rfl (any_of HT_.out (by kernel_rfl)) (fun _ _ _ h => h) (Or.inl ⟨by rfl, ?_⟩) ?_ ?_
        rotate_left
        · intro w'
          go_simp
          with_reducible rfl
        rotate_left
        · simp only [Act.put, List.setIfInBounds_toArray, List.set_cons_zero, List.set_cons_succ, i64_w, i32_w]
          rfl
        refine one_ (i := 9) (N := none) #[true, true, true, true, true, true, true, true, true, true] rfl rfl (one_of HT_.out (by kernel_rfl)) (by decide) (fun K hK => ?_)
        have hs15 : w12.cell? ⟨gb351, 0, none⟩ = some (.int .i64 0) := (blk_cell BK351.out 0).trans rfl
        have hfs15 := blk_frozen BK351.out 0
        have hs16 : w12.cell? ⟨gb351, 1, none⟩ = some (.bool false) := (blk_cell BK351.out 1).trans rfl
        have hfs16 := blk_frozen BK351.out 1
        refine skip_ (w1 := ?_) (by rfl) rfl ?_ ?_
        rotate_left
        · go_simp
          rfl
        refine hK.out _ _ (((cell_far (p := ⟨gb351, _, none⟩) (by first | exact Kd.own_blk (Kd.R_ne HO355.out BK351.out (by decide)) | (rw [add_block]; exact Kd.own_blk (Kd.R_ne HO355.out BK351.out (by decide))) | (show (Addr.add _ _).block ≠ _; rw [add_block]; exact Kd.own_blk (Kd.R_ne HO355.out BK351.out (by decide))) | (dsimp only; exact Kd.own_blk (Kd.R_ne HO355.out BK351.out (by decide)))) _).trans (((cell_far (p := ⟨gb351, _, none⟩) (by first | exact Kd.own_blk (Kd.R_ne HO355.out BK351.out (by decide)) | (rw [add_block]; exact Kd.own_blk (Kd.R_ne HO355.out BK351.out (by decide))) | (show (Addr.add _ _).block ≠ _; rw [add_block]; exact Kd.own_blk (Kd.R_ne HO355.out BK351.out (by decide))) | (dsimp only; exact Kd.own_blk (Kd.R_ne HO355.out BK351.out (by decide)))) _).trans (hHeld))))) (fun hHeld => ?_)
        clear hK K
        refine done_ (done_of HT_.out (by kernel_rfl)) ?_
        try go_wp2
        refine bodyPost_ret (results_cell_row rfl _ _ gb351 23 #[.int .i64 t361, .bool t353] (0, 0) _ rfl (by (with_reducible repeat (first | refine blk_drewN ?_ _ | refine blk_drew ?_ | refine blk_alloc ?_ _)); refine blk_put (cs := #[.int .i64 t361, .bool false]) ?_ 1 _ rfl; (with_reducible repeat (first | refine blk_drewN ?_ _ | refine blk_drew ?_ | refine blk_alloc ?_ _)); refine blk_put (cs := #[.int .i64 0, .bool false]) ?_ 0 _ rfl; (with_reducible repeat (first | refine blk_drewN ?_ _ | refine blk_drew ?_ | refine blk_alloc ?_ _)); exact BK351.out) Try.underlying23 rfl (by kernel_rfl)) rfl ?_
        exact ⟨by first | rfl | (simp [errW_none, errW_some] <;> rfl) | (simp [*, errW_none, errW_some] <;> rfl), by repeat (first | (with_reducible first | exact HB.out | apply below_alloc | apply pw_below_drewN | apply below_drew1 | refine below_set ?_ GE351.out) | exact HB.out)⟩
      · rw [if_neg c8] at H
        exact absurd H (by simp)
    · rw [if_neg c7] at H
      exact absurd H (by simp)
def fixed_Max.f (k : Nat) (l0 : List (S23)) : Option (Int × Bool) := (fixed_most.f k (-1) l0).bind fun bt366 => (some (bt366.1, bt366.2))
set_option maxHeartbeats 8000000 in
set_option maxRecDepth 100000 in
theorem fixed_Max.calls (k : Nat) (A0 : Option Addr) (c0 : Nat) (l0 : List (S23)) (r1 : Int) (r2 : Bool) (w : World) (hr0 : Kd.C k23 w A0 l0.length l0) (hc0 : l0.length ≤ c0) (h : fixed_Max.f k l0 = some (r1, r2)) :
    Calls Try.prog 30 #[.slice A0 l0.length c0] w fun e w' => e = .returned (.agg #[.int .i64 r1, .bool r2]) ∧ Below w.heap.size w w' := by
  have hu23 := Try.underlying23
  have HR0 := Aside0.mk hr0
  have HC0 := Aside0.mk hc0
  clear hr0 hc0
  have HB := Aside0.mk (Below.refl w.heap.size w)
  have H : ((fixed_most.f k (-1) l0).bind fun bt366 => (some (bt366.1, bt366.2))) = some (r1, r2) := h
  clear h
  replace H := Option.bind_eq_some_iff.mp H
  obtain ⟨⟨t366, t367⟩, A20, H⟩ := H
  replace H : (some (t366, t367)) = some (r1, r2) := H
  have A2 := Aside0.mk A20
  clear A20
  simp only [Option.some.injEq, Prod.mk.injEq] at H
  obtain ⟨rfl, rfl⟩ := H
  go_enter Try.func30, Try.ntmps30
  go_wp2_with (first | ((with_reducible refine gate_dst (N := 2) rfl ?_); refine box_event ?hg (N := 2) ?hd (cs := #[.int .i64 0, .bool false]) (t := 23) ?hr ?_; (case hd => rfl); (case hg => rfl); (case hr => first | (go_simp; done) | (go_simp; rfl)); intro gb365 hg w3 hbox hb; have n0_ := Aside0.mk (below_step (by repeat (first | (with_reducible first | exact HB.out | apply below_alloc | apply pw_below_drewN | apply below_drew1) | exact HB.out)) hb); have n1_ := Aside0.mk (hbox); have n2_ := Aside0.mk ((by rw [hg]; exact (below_size (by repeat (first | (with_reducible first | exact HB.out | apply below_alloc | apply pw_below_drewN | apply below_drew1) | exact HB.out))) : w.heap.size ≤ gb365)); have n3_ := Aside0.mk ((by rw [hg]; exact (below_size (by repeat (first | (with_reducible first | exact HB.out | apply below_alloc | apply pw_below_drewN | apply below_drew1) | exact HB.out))) : w.heap.size ≤ gb365)); clear HB; have HB := n0_; have BK365 := n1_; have GW365 := n2_; have GE365 := n3_; clear n0_ n1_ n2_ n3_; clear hb hbox hg) | ((with_reducible refine gate_callee (f := 79) rfl ?_); refine goesL_ (some 4) rfl rfl Try.func79 (by kernel_rfl) rfl #[.int .i64 (-1), .slice A0 l0.length c0] rfl (by (try simp only [List.map_toArray, List.map_cons, List.map_nil]); first | done | rfl | (simp only [List.length_drop, List.length_take]; rfl)) ?_; (with_reducible refine (fixed_most.calls k (-1) _ _ l0 t366 t367 _ ?side1 ?side2 A2.out).mono ?_); (case side1 => repeat (first | exact (Kd.C_below HR0.out HB.out) | (with_reducible refine Kd.C_alloc ?_ _) | (with_reducible refine Kd.C_drewN ?_ _) | (with_reducible refine Kd.C_drew ?_))); (case side2 => exact HC0.out); rintro e w4 ⟨rfl, hb⟩; refine ⟨_, rfl, ?_⟩; have n0_ := Aside0.mk (blk_below (g := gb365) (o := .cells #[.int .i64 0, .bool false] 23 (0, 0)) (by (with_reducible repeat (first | refine blk_drewN ?_ _ | refine blk_drew ?_ | refine blk_alloc ?_ _)); exact BK365.out) hb); have n1_ := Aside0.mk (below_step (by repeat (first | (with_reducible first | exact HB.out | apply below_alloc | apply pw_below_drewN | apply below_drew1 | refine below_set ?_ GE365.out) | exact HB.out)) hb); clear BK365; clear HB; have BK365 := n0_; have HB := n1_; clear n0_ n1_; (try clear hb); (try clear hb2); (try clear hk); (try clear hi); have hcz5_0 : w4.cell? ⟨gb365, 0, none⟩ = some (.int .i64 0) := (blk_cell BK365.out 0).trans rfl; have hcz5_1 : w4.cell? ⟨gb365, 1, none⟩ = some (.bool false) := (blk_cell BK365.out 1).trans rfl; have hfz5_0 := blk_frozen BK365.out 0; have hfz5_1 := blk_frozen BK365.out 1))
  refine bodyPost_ret (results_cell_row rfl _ _ gb365 23 #[.int .i64 t366, .bool t367] (0, 0) _ rfl (by (with_reducible repeat (first | refine blk_drewN ?_ _ | refine blk_drew ?_ | refine blk_alloc ?_ _)); refine blk_put (cs := #[.int .i64 t366, .bool false]) ?_ 1 _ rfl; (with_reducible repeat (first | refine blk_drewN ?_ _ | refine blk_drew ?_ | refine blk_alloc ?_ _)); refine blk_put (cs := #[.int .i64 0, .bool false]) ?_ 0 _ rfl; (with_reducible repeat (first | refine blk_drewN ?_ _ | refine blk_drew ?_ | refine blk_alloc ?_ _)); exact BK365.out) Try.underlying23 rfl (by kernel_rfl)) rfl ?_
  exact ⟨by first | rfl | (simp [errW_none, errW_some] <;> rfl) | (simp [*, errW_none, errW_some] <;> rfl), by repeat (first | (with_reducible first | exact HB.out | apply below_alloc | apply pw_below_drewN | apply below_drew1 | refine below_set ?_ GE365.out) | exact HB.out)⟩
end Go.Proofs.Ytenpiaafkmfjfaa.B

end
section
namespace Go.Proofs.Ytenpiaafkmfjfaa.B
open Go.RowKit Go.Proofs.YtenpiaafkmfjfaaW.PrintWords Go.Proofs.YtenpiaafkmfjfaaW.PrintLast Go.Proofs.YtenpiaafkmfjfaaW.PrintMore
def minS (m v : Int) : Int := if v < m then v else m
def maxS (m v : Int) : Int := if v > m then v else m
def minL : List Int → Int
  | [] => 0
  | v :: l => l.foldl minS v
def maxL : List Int → Int
  | [] => 0
  | v :: l => l.foldl maxS v
theorem rd_i {vs : List Int} {i : Nat} (h : i < vs.length) : rd vs (i : Int) = vs[i] := by
  unfold rd
  rw [Int.toNat_natCast, List.getD_eq_getElem?_getD, List.getElem?_eq_getElem h]; rfl
theorem ext_loop (s : Int) (st : Int → Int → Int) (hst : ∀ m v : Int, (if wrap64 (sgn3 v m * s) < 0 then v else m) = st m v) (vs : List Int) (hl : vs.length ≤ 1000000) :
    ∀ (n i k : Nat) (m : Int), n + i = vs.length → n + 1 ≤ k → fixed_extreme_int64.l0 k s m vs vs.length i = some ((vs.drop i).foldl st m) := by
  intro n
  induction n with
  | zero =>
    intro i k m hm hk
    obtain ⟨k, rfl⟩ : ∃ z, k = z + 1 := ⟨k - 1, by omega⟩
    rw [fixed_extreme_int64.l0, if_neg (by omega), List.drop_of_length_le (by omega)]
    rfl
  | succ n ih =>
    intro i k m hm hk
    obtain ⟨k, rfl⟩ : ∃ z, k = z + 1 := ⟨k - 1, by omega⟩
    have hi : i < vs.length := by omega
    rw [fixed_extreme_int64.l0, if_pos (by omega), if_pos (by omega), if_pos (by omega), rd_i hi, compare_i, Option.bind_some, List.drop_eq_getElem_cons hi, List.foldl_cons, ← hst, wrap64_id (x := (i : Int) + 1) (by omega) (by omega), show (i : Int) + 1 = ((i + 1 : Nat) : Int) by omega]
    by_cases h : wrap64 (sgn3 vs[i] m * s) < 0
    · rw [if_pos h, if_pos h, ih (i + 1) k _ (by omega) (by omega)]
    · rw [if_neg h, if_neg h, ih (i + 1) k _ (by omega) (by omega)]
theorem sgn_cases (x y : Int) : (x < y ∧ sgn3 x y = -1) ∨ (x = y ∧ sgn3 x y = 0) ∨ (x > y ∧ sgn3 x y = 1) := by
  unfold sgn3
  by_cases h : x < y
  · rw [if_pos h]; exact Or.inl ⟨h, rfl⟩
  · rw [if_neg h]
    by_cases h2 : x = y
    · rw [if_pos h2]; exact Or.inr (Or.inl ⟨h2, rfl⟩)
    · rw [if_neg h2]; exact Or.inr (Or.inr ⟨by omega, rfl⟩)
theorem st_max (m v : Int) : (if wrap64 (sgn3 v m * (-1)) < 0 then v else m) = maxS m v := by
  have := sgn_cases v m
  rw [wrap64_id (by omega) (by omega)]
  unfold maxS
  by_cases h : v > m
  · rw [if_pos h, if_pos (by omega)]
  · rw [if_neg h, if_neg (by omega)]
theorem most_f (s : Int) (st : Int → Int → Int) (hst : ∀ m v : Int, (if wrap64 (sgn3 v m * s) < 0 then v else m) = st m v) (L : List Int → Int) (hL0 : L [] = 0) (hL : ∀ v l, L (v :: l) = l.foldl st v)
    (l : List S23) (hl : l.length ≤ 1000000) (k : Nat) (hk : l.length + 1 ≤ k) : fixed_most.f k s l = some (L (vals l), anyF l) := by
  unfold fixed_most.f fixed_values.f
  cases l with
  | nil => rw [if_pos (by simp)]; show some (0, false) = some (L [], false); rw [hL0]
  | cons x l =>
    have hlen : (vals (x :: l)).length = (x :: l).length := by unfold vals; simp
    rw [if_neg (by rw [List.length_cons]; omega), if_pos hl, Option.bind_some]
    dsimp only
    rw [if_pos (by rw [hlen, List.length_cons]; omega), if_pos (by rw [hlen, List.length_cons]; omega)]
    have e : vals (x :: l) = sv x.f0 :: vals l := rfl
    rw [e, hL]
    unfold fixed_extreme_int64.f
    have hl2 : (vals l).length = l.length := by unfold vals; simp
    have hl3 : (x :: l).length = l.length + 1 := rfl
    have := ext_loop s st hst (vals l) (by omega) (vals l).length 0 k (sv x.f0) (by omega) (by omega)
    rw [show ((0 : Nat) : Int) = 0 from rfl] at this
    rw [show rd (sv x.f0 :: vals l) 0 = sv x.f0 from rfl, show (sv x.f0 :: vals l).drop 1 = vals l from rfl, this, Option.bind_some]
    rfl
theorem max_f (l : List S23) (hl : l.length ≤ 1000000) (k : Nat) (hk : l.length + 1 ≤ k) : fixed_Max.f k l = some (maxL (vals l), anyF l) := by
  unfold fixed_Max.f
  rw [most_f (-1) maxS st_max maxL rfl (fun _ _ => rfl) l hl k hk, Option.bind_some]
theorem maxS_or (m v : Int) : maxS m v = m ∨ maxS m v = v := by unfold maxS; split; exact Or.inr rfl; exact Or.inl rfl
end Go.Proofs.Ytenpiaafkmfjfaa.B

end
