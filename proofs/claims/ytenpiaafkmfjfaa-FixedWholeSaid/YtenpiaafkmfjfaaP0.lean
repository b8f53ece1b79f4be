/- What fixed-point numbers are made of, in plain integers: fitting, exact values as two words, roots. -/
import Derived.RowKit
import Derived.Laws.Bits64
import Derived.Laws.Bits64b
namespace Go.Proofs.Ytenpiaafkmfjfaa.B
open Go.RowKit

/-- An exact value, fitted into a number. -/
def fitV (x : Int) : Int := if 9223372036854775807 < x then 9223372036854775807 else if x < -9223372036854775807 then -9223372036854775807 else x
def fitF (x : Int) (f : Bool) : Bool := if 9223372036854775807 < x then true else if x < -9223372036854775807 then true else f
/-- A value of a sound number. -/
def Snd (v : Int) : Prop := -9223372036854775807 ≤ v ∧ v ≤ 9223372036854775807
theorem fitV_snd (x : Int) : Snd (fitV x) := by
  unfold fitV Snd
  by_cases h : 9223372036854775807 < x
  · rw [if_pos h]; omega
  · rw [if_neg h]
    by_cases h2 : x < -9223372036854775807
    · rw [if_pos h2]; omega
    · rw [if_neg h2]; omega
theorem fitV_id {x : Int} (h : Snd x) : fitV x = x := by
  unfold Snd at h; unfold fitV; rw [if_neg (by omega), if_neg (by omega)]
theorem fitF_id {x : Int} (h : Snd x) (f : Bool) : fitF x f = f := by
  unfold Snd at h; unfold fitF; rw [if_neg (by omega), if_neg (by omega)]
/-- Sign, lower and upper word of an exact value. -/
structure Ex (n : Bool) (lo hi x : Int) : Prop where
  lo0 : 0 ≤ lo
  lo1 : lo < 18446744073709551616
  hi0 : 0 ≤ hi
  hi1 : hi < 9223372036854775808
  p : n = false → x = hi * 18446744073709551616 + lo
  m : n = true → x = -(hi * 18446744073709551616 + lo)
theorem Ex.abs {n : Bool} {lo hi x : Int} (h : Ex n lo hi x) : (x.natAbs : Int) = hi * 18446744073709551616 + lo := by
  have h0 := h.lo0; have h1 := h.hi0
  cases n
  · have := h.p rfl; omega
  · have := h.m rfl; omega
theorem wrap64_id {x : Int} (h1 : -9223372036854775808 ≤ x) (h2 : x ≤ 9223372036854775807) : wrap64 x = x := by unfold wrap64; omega
theorem u64_id {x : Int} (h1 : 0 ≤ x) (h2 : x < 18446744073709551616) : IntKind.u64.wrap x = x := by rw [IntKind.wrap_u64]; omega

/-- The bits' or of words that share no bit is their sum. -/
theorem or_add (i : Nat) (a b : Nat) (hb : b < 2 ^ i) (h : 2 ^ i * a + b < 18446744073709551616) : bits .or .u64 ((2 ^ i * a : Nat) : Int) (b : Int) = ((2 ^ i * a + b : Nat) : Int) := by
  rw [bits_or_u64_nat _ _ (by omega) (by omega), ← Nat.two_pow_add_eq_or_of_lt hb a]
theorem or32 (a b : Int) (ha : 0 ≤ a) (hb0 : 0 ≤ b) (hb : b < 4294967296) (h : a < 4294967296) : bits .or .u64 (a * 4294967296) b = a * 4294967296 + b := by
  obtain ⟨a, rfl⟩ := Int.eq_ofNat_of_zero_le ha
  obtain ⟨b, rfl⟩ := Int.eq_ofNat_of_zero_le hb0
  have e := or_add 32 a b (by simp; omega) (by simp; omega)
  have e1 : ((2 ^ 32 * a : Nat) : Int) = (a : Int) * 4294967296 := by simp; omega
  have e2 : ((2 ^ 32 * a + b : Nat) : Int) = (a : Int) * 4294967296 + (b : Int) := by simp; omega
  rw [e1, e2] at e
  exact e

/-- The root of a number, rounded down. -/
def isqF : Nat → Nat → Nat
  | 0, _ => 0
  | k + 1, n => if (2 * isqF k (n / 4) + 1) * (2 * isqF k (n / 4) + 1) ≤ n then 2 * isqF k (n / 4) + 1 else 2 * isqF k (n / 4)
def isq (n : Nat) : Nat := isqF 64 n
theorem isqF_spec : ∀ (k n : Nat), n < 4 ^ k → isqF k n * isqF k n ≤ n ∧ n < (isqF k n + 1) * (isqF k n + 1)
  | 0, n, h => by simp at h; subst h; simp [isqF]
  | k + 1, n, h => by
    have hk := isqF_spec k (n / 4) (by rw [Nat.pow_succ] at h; omega)
    rw [isqF]
    generalize isqF k (n / 4) = r at hk
    obtain ⟨h1, h2⟩ := hk
    have e1 : 2 * r * (2 * r) = 4 * (r * r) := by rw [Nat.mul_mul_mul_comm]
    have e2 : (2 * r + 1 + 1) * (2 * r + 1 + 1) = 4 * ((r + 1) * (r + 1)) := by
      rw [show 2 * r + 1 + 1 = 2 * (r + 1) by omega]
      rw [Nat.mul_mul_mul_comm]
    split
    · rename_i hc
      exact ⟨hc, by omega⟩
    · rename_i hc
      exact ⟨by omega, by omega⟩
theorem isq_spec (n : Nat) (h : n < 340282366920938463463374607431768211456) : isq n * isq n ≤ n ∧ n < (isq n + 1) * (isq n + 1) := isqF_spec 64 n (by simpa using h)
theorem sq_lt {a b : Nat} (h : a < b) : (a + 1) * (a + 1) ≤ b * b := Nat.mul_le_mul h h
/-- Only one number is the root. -/
theorem isq_unique (n r : Nat) (h : n < 340282366920938463463374607431768211456) (h1 : r * r ≤ n) (h2 : n < (r + 1) * (r + 1)) : isq n = r := by
  obtain ⟨g1, g2⟩ := isq_spec n h
  rcases Nat.lt_trichotomy (isq n) r with hlt | he | hgt
  · have := sq_lt hlt; omega
  · exact he
  · have := sq_lt hgt; omega
end Go.Proofs.Ytenpiaafkmfjfaa.B
