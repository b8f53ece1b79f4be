/- A decimal fraction, doubled again and again, hands out the bits behind the point. -/
import Derived.Laws.Bits64b
namespace Go.Proofs.Ytenpiaafkmfjfaa.B

/-- One doubling of a row of decimal digits: the new digits, and what is carried out. -/
def dblR : List Nat → List Nat × Nat
  | [] => ([], 0)
  | d :: ds => ((2 * d + (dblR ds).2) % 10 :: (dblR ds).1, (2 * d + (dblR ds).2) / 10)
/-- What some doublings carry out, behind what was there. -/
def frac : Nat → List Nat → Nat → Nat
  | 0, _, out => out
  | r + 1, l, out => frac r (dblR l).1 (2 * out + (dblR l).2)
def ninth (l : List Nat) : Prop := ∀ d ∈ l, d ≤ 9

theorem dblR_len : ∀ l : List Nat, (dblR l).1.length = l.length
  | [] => rfl
  | d :: ds => by simp [dblR, dblR_len ds]
theorem dblR_nine : ∀ l : List Nat, ninth (dblR l).1
  | [] => by simp [dblR, ninth]
  | d :: ds => by
    intro x hx
    simp only [dblR, List.mem_cons] at hx
    rcases hx with rfl | hx
    · omega
    · exact dblR_nine ds x hx
theorem dblR_carry : ∀ l : List Nat, ninth l → (dblR l).2 ≤ 1
  | [], _ => by simp [dblR]
  | d :: ds, h => by
    have h1 := dblR_carry ds (fun x hx => h x (by simp [hx]))
    have h2 := h d (by simp)
    simp only [dblR]
    omega
/-- The row while it is being doubled from behind: the first p digits are still the old ones. -/
def mid (l : List Nat) (p : Nat) : List Nat := l.take p ++ (dblR (l.drop p)).1
def midC (l : List Nat) (p : Nat) : Nat := (dblR (l.drop p)).2
theorem mid_len (l : List Nat) (p : Nat) : (mid l p).length = l.length := by
  unfold mid; rw [List.length_append, dblR_len, List.length_take, List.length_drop]; omega
theorem mid_all (l : List Nat) : mid l l.length = l ∧ midC l l.length = 0 := by
  unfold mid midC; simp [dblR]
theorem mid_zero (l : List Nat) : mid l 0 = (dblR l).1 ∧ midC l 0 = (dblR l).2 := by
  unfold mid midC; simp
theorem mid_at (l : List Nat) (p : Nat) (h : p < l.length) : (mid l (p + 1))[p]? = some l[p] := by
  unfold mid
  rw [List.getElem?_append_left (by rw [List.length_take]; omega), List.getElem?_take_of_lt (by omega), List.getElem?_eq_getElem h]
theorem mid_step (l : List Nat) (p : Nat) (h : p < l.length) :
    mid l p = (mid l (p + 1)).set p ((2 * l[p] + midC l (p + 1)) % 10) ∧ midC l p = (2 * l[p] + midC l (p + 1)) / 10 := by
  have e : l.drop p = l[p] :: l.drop (p + 1) := (List.getElem_cons_drop (h := h)).symm
  constructor
  · unfold mid midC
    rw [e, List.take_succ_eq_append_getElem h]
    simp only [dblR]
    rw [List.set_append_left _ _ (by simp; omega), List.set_append_right _ _ (by rw [List.length_take]; omega), List.length_take, Nat.min_eq_left (by omega), Nat.sub_self]
    simp
  · unfold midC
    rw [e]
    simp only [dblR]
theorem midC_le (l : List Nat) (p : Nat) (h : ninth l) : midC l p ≤ 1 := dblR_carry _ (fun x hx => h x (List.mem_of_mem_drop hx))
theorem mid_nine (l : List Nat) (p : Nat) (h : ninth l) : ninth (mid l p) := by
  intro x hx
  unfold mid at hx
  rcases List.mem_append.1 hx with hx | hx
  · exact h x (List.mem_of_mem_take hx)
  · exact dblR_nine _ x hx
theorem frac_step (r : Nat) (l : List Nat) (out : Nat) : frac (r + 1) l out = frac r (dblR l).1 (2 * out + (dblR l).2) := rfl

/-- The bits' or of an even number and a bit is their sum. -/
theorem or_bit (a b : Nat) (hb : b ≤ 1) (ha : 2 * a + 1 < 18446744073709551616) : bits .or .u64 ((2 * a : Nat) : Int) (b : Int) = ((2 * a + b : Nat) : Int) := by
  rw [bits_or_u64_nat _ _ (by omega) (by omega)]
  have := Nat.two_pow_add_eq_or_of_lt (i := 1) (b := b) (by omega) a
  simp only [Nat.pow_one] at this
  rw [← this]
end Go.Proofs.Ytenpiaafkmfjfaa.B
