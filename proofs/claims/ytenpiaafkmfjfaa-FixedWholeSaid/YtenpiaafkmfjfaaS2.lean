/- The text of a number: its digits, the point, the digits behind the point. -/
import Derived.Test.YtenpiaafkmfjfaaS1
namespace Go.Proofs.Ytenpiaafkmfjfaa.B

/-- The decimal digits of a number, the last one first found. -/
def decA : Nat → Nat → List Nat → List Nat
  | 0, _, acc => acc
  | f + 1, n, acc => if n / 10 = 0 then n % 10 :: acc else decA f (n / 10) (n % 10 :: acc)
def decs (n : Nat) : List Nat := decA 20 n []
/-- The digits behind the point of p / 2^32. -/
def fd : Nat → Nat → List Nat
  | 0, _ => []
  | k + 1, p => if p = 0 then [] else p * 10 / 4294967296 :: fd k (p * 10 % 4294967296)
def dig (d : Nat) : UInt8 := UInt8.ofNat (48 + d)
def textN (neg : Bool) (n : Nat) (f : Bool) : List UInt8 :=
  (((if neg then [45] else []) ++ (decs (n / 4294967296)).map dig) ++ (if n % 4294967296 = 0 then [] else 46 :: (fd 32 (n % 4294967296)).map dig)) ++ (if f then [33] else [])

theorem decA_nine : ∀ (f n : Nat) (acc : List Nat), ninth acc → ninth (decA f n acc)
  | 0, _, acc, h => h
  | f + 1, n, acc, h => by
    have hc : ninth (n % 10 :: acc) := by
      intro x hx
      rcases List.mem_cons.1 hx with rfl | hx
      · omega
      · exact h x hx
    rw [decA]
    split
    · exact hc
    · exact decA_nine f (n / 10) _ hc
theorem decs_nine (n : Nat) : ninth (decs n) := decA_nine 20 n [] (fun x hx => by cases hx)
theorem decA_len : ∀ (f n : Nat) (acc : List Nat), (decA f n acc).length ≤ f + acc.length
  | 0, _, acc => by simp [decA]
  | f + 1, n, acc => by
    rw [decA]
    split
    · simp; omega
    · have := decA_len f (n / 10) (n % 10 :: acc); simp at this; omega
theorem decs_len (n : Nat) : (decs n).length ≤ 20 := (by simpa using decA_len 20 n [] : (decA 20 n []).length ≤ 20)
theorem dig_toNat (d : Nat) (h : d ≤ 9) : (dig d).toNat = 48 + d := by
  unfold dig
  rw [UInt8.toNat_ofNat']
  omega
/-- What stands behind the point comes to its end. -/
theorem fd_stable : ∀ (j p : Nat), j ≤ 32 → p < 4294967296 → 2 ^ (32 - j) ∣ p → ∀ k, j ≤ k → fd k p = fd j p
  | 0, p, _, hp, hd, k, _ => by
    have : p = 0 := by
      obtain ⟨c, rfl⟩ := hd
      simp at hp ⊢
      omega
    subst this
    cases k with
    | zero => rfl
    | succ k => simp [fd]
  | j + 1, p, hj, hp, hd, k, hk => by
    obtain ⟨k, rfl⟩ : ∃ m, k = m + 1 := ⟨k - 1, by omega⟩
    rw [fd, fd]
    by_cases h0 : p = 0
    · rw [if_pos h0, if_pos h0]
    · rw [if_neg h0, if_neg h0, fd_stable j (p * 10 % 4294967296) (by omega) (Nat.mod_lt _ (by decide)) ?_ k (by omega)]
      have e : 32 - j = (32 - (j + 1)) + 1 := by omega
      have h1 : 2 ^ (32 - j) ∣ p * 10 := by
        obtain ⟨c, rfl⟩ := hd
        refine ⟨c * 5, ?_⟩
        rw [e, Nat.pow_succ]
        simp only [Nat.mul_assoc, Nat.mul_left_comm, Nat.mul_comm]
        congr 1
        omega
      have h2 : 2 ^ (32 - j) ∣ 4294967296 := ⟨2 ^ j, by rw [← Nat.pow_add, show 32 - j + j = 32 by omega]⟩
      exact (Nat.dvd_mod_iff h2).2 h1
theorem fd_dvd (j p : Nat) (hj : j + 1 ≤ 32) (hd : 2 ^ (32 - (j + 1)) ∣ p) : 2 ^ (32 - j) ∣ p * 10 % 4294967296 := by
  have e : 32 - j = (32 - (j + 1)) + 1 := by omega
  have h1 : 2 ^ (32 - j) ∣ p * 10 := by
    obtain ⟨c, rfl⟩ := hd
    refine ⟨c * 5, ?_⟩
    rw [e, Nat.pow_succ]
    simp only [Nat.mul_assoc, Nat.mul_left_comm, Nat.mul_comm]
    congr 1
    omega
  have h2 : 2 ^ (32 - j) ∣ 4294967296 := ⟨2 ^ j, by rw [← Nat.pow_add, show 32 - j + j = 32 by omega]⟩
  exact (Nat.dvd_mod_iff h2).2 h1
theorem fd_step (p : Nat) (h0 : p ≠ 0) (hp : p < 4294967296) : fd 32 p = p * 10 / 4294967296 :: fd 32 (p * 10 % 4294967296) := by
  have h := fd_stable 32 p (by omega) hp (by simp) 33 (by omega)
  rw [← h, fd, if_neg h0]
theorem fd_nine : ∀ (k p : Nat), p < 4294967296 → ninth (fd k p)
  | 0, _, _ => fun x hx => by cases hx
  | k + 1, p, hp => by
    rw [fd]
    split
    · exact fun x hx => by cases hx
    · intro x hx
      rcases List.mem_cons.1 hx with rfl | hx
      · omega
      · exact fd_nine k _ (Nat.mod_lt _ (by decide)) x hx
theorem fd_len : ∀ (k p : Nat), (fd k p).length ≤ k
  | 0, _ => by simp [fd]
  | k + 1, p => by
    rw [fd]
    split
    · simp
    · have := fd_len k (p * 10 % 4294967296); simp; omega
end Go.Proofs.Ytenpiaafkmfjfaa.B
