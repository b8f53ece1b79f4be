/- fixed.Text answers the text of a number. -/
import Derived.Test.YtenpiaafkmfjfaaG8
import Derived.Test.YtenpiaafkmfjfaaG2
import Derived.Test.YtenpiaafkmfjfaaT1
import Derived.Test.YtenpiaafkmfjfaaT2
import Derived.Test.YtenpiaafkmfjfaaT3
namespace Go.Proofs.Ytenpiaafkmfjfaa.B
open Go.RowKit Go.Proofs.YtenpiaafkmfjfaaW.PrintWords Go.Proofs.YtenpiaafkmfjfaaW.PrintLast Go.Proofs.YtenpiaafkmfjfaaW.PrintMore

/-- A builder in block b that holds these bytes. -/
def IsB (b : Nat) (l : List UInt8) (w : World) : Prop := Lib.IsBuilder 96 5 b b (Lib.byteCells l) w
theorem IsB.below {b : Nat} {l : List UInt8} {w w1 : World} (h : IsB b l w) (hb : Below w.heap.size w w1) : IsB b l w1 := by
  have k : ∀ p, Lib.BuilderAt 96 5 b b p (Lib.byteCells l) w → Lib.BuilderAt 96 5 b b p (Lib.byteCells l) w1 := by
    rintro p ⟨hB, v, hbk, hown, hne⟩
    exact ⟨hB, v, blk_below hbk hb, own_move hown (fun k hk => by obtain ⟨cells, hc⟩ := own_typed hown k hk; exact hb.block k (blk_lt hc)), hne⟩
  rcases h with h | h
  · exact .inl (k _ h)
  · exact .inr (k _ h)
theorem IsB.lt {b : Nat} {l : List UInt8} {w : World} (h : IsB b l w) : b < w.heap.size := by
  rcases h with h | h
  · exact h.lt
  · exact h.lt
theorem isB_new (w : World) : IsB w.heap.size [] (w.alloc (.cells #[.pointer none, .slice none 0 0] 96)) := Lib.fresh_isBuilder 96 5 w
theorem writeB (b : Nat) (l : List UInt8) (c : UInt8) (ci : Int) (hc : ci = (c.toNat : Int)) (w : World) (h : IsB b l w) (hl : l.length ≤ 1000) :
    Calls Try.prog 102 #[.pointer (some ⟨b, 0, none⟩), .int .u8 ci] w fun e w' => e = .returned .nilIface ∧ IsB b (l ++ [c]) w' ∧ Below b w w' := by
  subst hc
  refine (writeByte b b _ (c.toNat : Int) w h (by rw [Lib.byteCells_length]; omega) (Nat.le_of_lt h.lt)).mono ?_
  rintro e w' ⟨rfl, h1, h2⟩
  refine ⟨rfl, .inr ?_, h2⟩
  have e : Lib.byteCells l ++ [.int .u8 (c.toNat : Int)] = Lib.byteCells (l ++ [c]) := by simp [Lib.byteCells]
  rwa [e] at h1
theorem writeL (b : Nat) (l news : List UInt8) (g m : Nat) (w : World) (h : IsB b l w) (hl : l.length ≤ 1000) (hm : news.length = m) (hm2 : m ≤ 1000)
    (hg : w.heap[g]? = some (.cells (Lib.byteCells news).toArray 5 (0, 0))) (hne : g ≠ b) :
    Calls Try.prog 103 #[.pointer (some ⟨b, 0, none⟩), .slice (some ⟨g, 0, none⟩) m m] w fun e w' => e = .returned (.tuple #[.int .i64 m, .nilIface]) ∧ IsB b (l ++ news) w' ∧ Below b w w' := by
  refine (writeBytes b b _ ⟨g, 0, none⟩ m m (Lib.byteCells news) w h (by rw [Lib.byteCells_length]; exact hm) (fun j u hj => ?_) hne ?_ (by rw [Lib.byteCells_length]; omega) (Nat.le_of_lt h.lt)).mono ?_
  · rw [add_off, Nat.zero_add]
    exact (blk_cell hg j).trans (by simpa using hj)
  · intro u hu
    obtain ⟨x, _, rfl⟩ := List.mem_map.1 hu
    rfl
  · rintro e w' ⟨rfl, h1, h2⟩
    refine ⟨rfl, .inr ?_, h2⟩
    have e : Lib.byteCells l ++ Lib.byteCells news = Lib.byteCells (l ++ news) := by simp [Lib.byteCells]
    rwa [e] at h1
theorem ch_bytes (l : List Nat) (h : ninth l) : l.map ch = Lib.byteCells (l.map dig) := by
  unfold Lib.byteCells
  rw [List.map_map]
  apply List.map_congr_left
  intro d hd
  unfold ch
  simp only [Function.comp]
  rw [dig_toNat d (h d hd)]
theorem and_mask (n : Nat) (hn : n < 18446744073709551616) : bits .and .u64 (n : Int) 4294967295 = ((n % 4294967296 : Nat) : Int) := by
  have h := bits_and_u64_nat n 4294967295 hn (by omega)
  have e : n &&& 4294967295 = n % 4294967296 := Nat.and_two_pow_sub_one_eq_mod n 32
  rw [e] at h
  exact h

theorem Lib_hid {p : Prop} (h : p) : Hid p := h
/-- What the call holds while it writes: the number in its box x, the bytes l in the builder b. -/
structure StT (w : World) (x b : Nat) (v : Int) (f : Bool) (l : List UInt8) (W : World) : Prop where
  box : W.heap[x]? = some (.cells #[.int .i64 v, .bool f] 23 (0, 0))
  isB : IsB b l W
  bel : Below w.heap.size w W
  xb : x < b
  wx : w.heap.size ≤ x
theorem StT.below {w : World} {x b : Nat} {v : Int} {f : Bool} {l : List UInt8} {W W' : World} (h : StT w x b v f l W) (hb : Below W.heap.size W W') : StT w x b v f l W' :=
  ⟨blk_below h.box hb, h.isB.below hb, below_step h.bel hb, h.xb, h.wx⟩
theorem StT.last {w : World} {x b : Nat} {v : Int} {f : Bool} {l : List UInt8} {W W' : World} (h : StT w x b v f l W) (hb : Below b W W') : Below w.heap.size w W' :=
  h.bel.trans (hb.mono (Nat.le_trans h.wx (Nat.le_of_lt h.xb)))
theorem StT.write {w : World} {x b : Nat} {v : Int} {f : Bool} {l l' : List UInt8} {W W' : World} (h : StT w x b v f l W) (hB : IsB b l' W') (hb : Below b W W') : StT w x b v f l' W' :=
  ⟨(hb.block x h.xb).trans h.box, hB, h.last hb, h.xb, h.wx⟩
theorem StT.q0 {w : World} {x b : Nat} {v : Int} {f : Bool} {l : List UInt8} {W : World} (h : StT w x b v f l W) : W.cell? ⟨x, 0, none⟩ = some (.int .i64 v) := (blk_cell h.box 0).trans rfl
theorem StT.q1 {w : World} {x b : Nat} {v : Int} {f : Bool} {l : List UInt8} {W : World} (h : StT w x b v f l W) : W.cell? ⟨x, 1, none⟩ = some (.bool f) := (blk_cell h.box 1).trans rfl
theorem stT_new (w w1 : World) (v v1 : Int) (f f1 : Bool) (hbox : w1.heap[w.heap.size]? = some (.cells #[.int .i64 v, .bool f] 23 (0, 0))) (hB : Below w.heap.size w w1) :
    StT w w.heap.size w1.heap.size v1 f1 [] (((w1.setCell ⟨w.heap.size, 0, none⟩ (.int .i64 v1)).setCell ⟨w.heap.size, 1, none⟩ (.bool f1)).alloc (.cells #[.pointer none, .slice none 0 0] 96)) := by
  refine ⟨blk_alloc (blk_put (cs := #[.int .i64 v1, .bool f]) (blk_put (cs := #[.int .i64 v, .bool f]) hbox 0 _ rfl) 1 _ rfl) _, ?_, below_alloc (below_set (below_set hB (Nat.le_refl _)) (Nat.le_refl _)) _, blk_lt hbox, Nat.le_refl _⟩
  have h := isB_new ((w1.setCell ⟨w.heap.size, 0, none⟩ (.int .i64 v1)).setCell ⟨w.heap.size, 1, none⟩ (.bool f1))
  have e : ((w1.setCell ⟨w.heap.size, 0, none⟩ (.int .i64 v1)).setCell ⟨w.heap.size, 1, none⟩ (.bool f1)).heap.size = w1.heap.size := by simp
  rw [e] at h
  exact h
theorem strB (b : Nat) (l : List UInt8) (w : World) (h : IsB b l w) :
    Calls Try.prog 105 #[.pointer (some ⟨b, 0, none⟩)] w fun e w' => e = .returned (.string ⟨l.toArray⟩) ∧ Below b w w' := Builder_String_any b b l w h (Nat.le_of_lt h.lt)
theorem retT {a b : List UInt8} (h : a = b) : Ending.returned (Value.string ⟨a.toArray⟩) = .returned (Value.string ⟨b.toArray⟩) := by rw [h]

theorem c10 (q : Nat) : ((q * 10 % 4294967296 : Nat) : Int) = (q : Int) * 10 % 4294967296 := by omega
theorem tn10 (q m : Nat) (h : q * 10 % 4294967296 = m) : ((q : Int) * 10 % 4294967296).toNat = m := by
  rw [← c10, h, Int.toNat_natCast]
theorem meas_dec (q : Nat) (h : (fd 32 q).length = (fd 32 (q * 10 % 4294967296)).length + 1) : (fd 32 ((q : Int) * 10 % 4294967296).toNat).length < (fd 32 (q : Int).toNat).length := by
  generalize hm : q * 10 % 4294967296 = m at h
  have e := tn10 q m hm
  generalize ((q : Int) * 10 % 4294967296).toNat = z at e ⊢
  subst e
  rw [Int.toNat_natCast, h]
  exact Nat.lt_succ_self _

set_option maxHeartbeats 800000 in
set_option maxRecDepth 100000 in
theorem text_000 (v : Int) (f : Bool) (v1 : Int) (n p : Nat) (w : World) (hs : fixed_sound.f v f = some (v1, false)) (hof : fixed_of.f v1 = some (false, (n : Int), 0)) (hneg : ¬ v1 < 0) (hn : n < 18446744073709551616) (hp : n % 4294967296 = p) (hp0 : p = 0) :
    Calls Try.prog 67 #[.agg #[.int .i64 v, .bool f]] w fun e w' => e = .returned (.string ⟨(textN false n false).toArray⟩) ∧ Below w.heap.size w w' := by
  have HS : Hid (fixed_sound.f v f = some (v1, false)) := hs
  have HOF : Hid (fixed_of.f v1 = some (false, (n : Int), 0)) := hof
  have hidx := idx58_0
  have hfld := fld60_1
  have HP : Hid (n % 4294967296 = p) := hp
  have hp32 : p < 4294967296 := by omega
  have HD : Hid (∀ W, Calls Try.prog 104 #[.int .u64 ((n : Int) / 4294967296)] W fun e w' => ∃ g, e = .returned (.slice (some ⟨g, 0, none⟩) (decs (n / 4294967296)).length (decs (n / 4294967296)).length) ∧ W.heap.size ≤ g ∧ w'.heap[g]? = some (.cells (Lib.byteCells ((decs (n / 4294967296)).map dig)).toArray 5 (0, 0)) ∧ Below W.heap.size W w') := fun W => by
    have h := decimal_calls (n / 4294967296) (by omega) W
    rw [show ((n / 4294967296 : Nat) : Int) = (n : Int) / 4294967296 by omega, ch_bytes _ (decs_nine _)] at h
    exact h
  have hmask : bits .and .u64 (n : Int) 4294967295 = (p : Int) := by rw [and_mask n hn, hp]
  clear hs hof hp
  subst hp0
  generalize hT : textN false n false = T
  have HT : Hid (textN false n false = T) := hT
  clear hT
  go_enter Try.func67, Try.ntmps67
  go_wp2_with fail
  refine (fixed_sound.calls v f v1 false _ HS.out).mono ?_
  rintro e w1 ⟨rfl, hb⟩
  have hbox : w1.heap[w.heap.size]? = some (.cells #[.int .i64 v, .bool f] 23 (0, 0)) := blk_below (blk_new w _) hb
  have hB : Hid (Below w.heap.size w w1) := below_step (below_alloc (Below.refl _ _) _) hb
  have q0 : w1.cell? ⟨w.heap.size, 0, none⟩ = some (.int .i64 v) := (blk_cell hbox 0).trans rfl
  have q1 : w1.cell? ⟨w.heap.size, 1, none⟩ = some (.bool f) := (blk_cell hbox 1).trans rfl
  have z0 := blk_frozen hbox 0
  have z1 := blk_frozen hbox 1
  have hlt : w.heap.size < w1.heap.size := blk_lt hbox
  have hst : Hid (StT w w.heap.size w1.heap.size v1 false [] _) := stT_new w w1 v v1 f false hbox hB.out
  have hne1 : w.heap.size ≠ w1.heap.size := Nat.ne_of_lt hlt
  have hne2 : w1.heap.size ≠ w.heap.size := Nat.ne_of_gt hlt
  clear hbox hb hB
  go_wp2_with fail
  clear q0 q1 z0 z1
  refine (fixed_of.calls v1 false n 0 _ HOF.out).mono ?_
  rintro e w2 ⟨rfl, hb⟩
  replace hst := Lib_hid (hst.out.below hb)
  clear hb
  have q0 := hst.out.q0
  have q1 := hst.out.q1
  go_wp2_with fail
  clear q0 q1
  refine (HD.out _).mono ?_
  rintro e w3 ⟨g, rfl, hg, hgb, hb⟩
  have hgn : g ≠ w1.heap.size := by have := hst.out.isB.lt; omega
  have HGB := Lib_hid hgb
  replace hst := Lib_hid (hst.out.below hb)
  clear hb hgb hg
  have q0 := hst.out.q0
  have q1 := hst.out.q1
  go_wp2_with fail
  clear q0 q1
  have hlen := decs_len (n / 4294967296)
  refine (writeL _ _ _ g _ _ hst.out.isB (by simp) (by rw [List.length_map]) (by omega) HGB.out hgn).mono ?_
  clear HGB
  rintro e w4 ⟨rfl, hB, hb⟩
  replace hst := Lib_hid (hst.out.write hB hb)
  clear hB  hb
  have q0 := hst.out.q0
  have q1 := hst.out.q1
  go_wp2_with fail
  clear q0 q1
  refine (strB _ _ _ hst.out.isB).mono ?_
  rintro e w5 ⟨rfl, hb⟩
  have hfin := Lib_hid (hst.out.last hb)
  clear hb hst
  go_wp2
  go_ret
  exact ⟨retT (by rw [← HT.out]; simp [textN, HP.out]), hfin.out⟩

set_option maxHeartbeats 800000 in
set_option maxRecDepth 100000 in
theorem text_001 (v : Int) (f : Bool) (v1 : Int) (n p : Nat) (w : World) (hs : fixed_sound.f v f = some (v1, true)) (hof : fixed_of.f v1 = some (false, (n : Int), 0)) (hneg : ¬ v1 < 0) (hn : n < 18446744073709551616) (hp : n % 4294967296 = p) (hp0 : p = 0) :
    Calls Try.prog 67 #[.agg #[.int .i64 v, .bool f]] w fun e w' => e = .returned (.string ⟨(textN false n true).toArray⟩) ∧ Below w.heap.size w w' := by
  have HS : Hid (fixed_sound.f v f = some (v1, true)) := hs
  have HOF : Hid (fixed_of.f v1 = some (false, (n : Int), 0)) := hof
  have hidx := idx58_0
  have hfld := fld60_1
  have HP : Hid (n % 4294967296 = p) := hp
  have hp32 : p < 4294967296 := by omega
  have HD : Hid (∀ W, Calls Try.prog 104 #[.int .u64 ((n : Int) / 4294967296)] W fun e w' => ∃ g, e = .returned (.slice (some ⟨g, 0, none⟩) (decs (n / 4294967296)).length (decs (n / 4294967296)).length) ∧ W.heap.size ≤ g ∧ w'.heap[g]? = some (.cells (Lib.byteCells ((decs (n / 4294967296)).map dig)).toArray 5 (0, 0)) ∧ Below W.heap.size W w') := fun W => by
    have h := decimal_calls (n / 4294967296) (by omega) W
    rw [show ((n / 4294967296 : Nat) : Int) = (n : Int) / 4294967296 by omega, ch_bytes _ (decs_nine _)] at h
    exact h
  have hmask : bits .and .u64 (n : Int) 4294967295 = (p : Int) := by rw [and_mask n hn, hp]
  clear hs hof hp
  subst hp0
  generalize hT : textN false n true = T
  have HT : Hid (textN false n true = T) := hT
  clear hT
  go_enter Try.func67, Try.ntmps67
  go_wp2_with fail
  refine (fixed_sound.calls v f v1 true _ HS.out).mono ?_
  rintro e w1 ⟨rfl, hb⟩
  have hbox : w1.heap[w.heap.size]? = some (.cells #[.int .i64 v, .bool f] 23 (0, 0)) := blk_below (blk_new w _) hb
  have hB : Hid (Below w.heap.size w w1) := below_step (below_alloc (Below.refl _ _) _) hb
  have q0 : w1.cell? ⟨w.heap.size, 0, none⟩ = some (.int .i64 v) := (blk_cell hbox 0).trans rfl
  have q1 : w1.cell? ⟨w.heap.size, 1, none⟩ = some (.bool f) := (blk_cell hbox 1).trans rfl
  have z0 := blk_frozen hbox 0
  have z1 := blk_frozen hbox 1
  have hlt : w.heap.size < w1.heap.size := blk_lt hbox
  have hst : Hid (StT w w.heap.size w1.heap.size v1 true [] _) := stT_new w w1 v v1 f true hbox hB.out
  have hne1 : w.heap.size ≠ w1.heap.size := Nat.ne_of_lt hlt
  have hne2 : w1.heap.size ≠ w.heap.size := Nat.ne_of_gt hlt
  clear hbox hb hB
  go_wp2_with fail
  clear q0 q1 z0 z1
  refine (fixed_of.calls v1 false n 0 _ HOF.out).mono ?_
  rintro e w2 ⟨rfl, hb⟩
  replace hst := Lib_hid (hst.out.below hb)
  clear hb
  have q0 := hst.out.q0
  have q1 := hst.out.q1
  go_wp2_with fail
  clear q0 q1
  refine (HD.out _).mono ?_
  rintro e w3 ⟨g, rfl, hg, hgb, hb⟩
  have hgn : g ≠ w1.heap.size := by have := hst.out.isB.lt; omega
  have HGB := Lib_hid hgb
  replace hst := Lib_hid (hst.out.below hb)
  clear hb hgb hg
  have q0 := hst.out.q0
  have q1 := hst.out.q1
  go_wp2_with fail
  clear q0 q1
  have hlen := decs_len (n / 4294967296)
  refine (writeL _ _ _ g _ _ hst.out.isB (by simp) (by rw [List.length_map]) (by omega) HGB.out hgn).mono ?_
  clear HGB
  rintro e w4 ⟨rfl, hB, hb⟩
  replace hst := Lib_hid (hst.out.write hB hb)
  clear hB  hb
  have q0 := hst.out.q0
  have q1 := hst.out.q1
  go_wp2_with fail
  clear q0 q1
  refine (writeB _ _ 33 _ rfl _ hst.out.isB (by simp; omega)).mono ?_
  rintro e w5 ⟨rfl, hB, hb⟩
  replace hst := Lib_hid (hst.out.write hB hb)
  clear hB hb
  have q0 := hst.out.q0
  have q1 := hst.out.q1
  go_wp2_with fail
  clear q0 q1
  refine (strB _ _ _ hst.out.isB).mono ?_
  rintro e w6 ⟨rfl, hb⟩
  have hfin := Lib_hid (hst.out.last hb)
  clear hb hst
  go_wp2
  go_ret
  exact ⟨retT (by rw [← HT.out]; simp [textN, HP.out]), hfin.out⟩

set_option maxHeartbeats 800000 in
set_option maxRecDepth 100000 in
theorem text_010 (v : Int) (f : Bool) (v1 : Int) (n p : Nat) (w : World) (hs : fixed_sound.f v f = some (v1, false)) (hof : fixed_of.f v1 = some (false, (n : Int), 0)) (hneg : ¬ v1 < 0) (hn : n < 18446744073709551616) (hp : n % 4294967296 = p) (hp0 : ¬ p = 0) :
    Calls Try.prog 67 #[.agg #[.int .i64 v, .bool f]] w fun e w' => e = .returned (.string ⟨(textN false n false).toArray⟩) ∧ Below w.heap.size w w' := by
  have HS : Hid (fixed_sound.f v f = some (v1, false)) := hs
  have HOF : Hid (fixed_of.f v1 = some (false, (n : Int), 0)) := hof
  have hidx := idx58_0
  have hfld := fld60_1
  have HP : Hid (n % 4294967296 = p) := hp
  have hp32 : p < 4294967296 := by omega
  have HD : Hid (∀ W, Calls Try.prog 104 #[.int .u64 ((n : Int) / 4294967296)] W fun e w' => ∃ g, e = .returned (.slice (some ⟨g, 0, none⟩) (decs (n / 4294967296)).length (decs (n / 4294967296)).length) ∧ W.heap.size ≤ g ∧ w'.heap[g]? = some (.cells (Lib.byteCells ((decs (n / 4294967296)).map dig)).toArray 5 (0, 0)) ∧ Below W.heap.size W w') := fun W => by
    have h := decimal_calls (n / 4294967296) (by omega) W
    rw [show ((n / 4294967296 : Nat) : Int) = (n : Int) / 4294967296 by omega, ch_bytes _ (decs_nine _)] at h
    exact h
  have hmask : bits .and .u64 (n : Int) 4294967295 = (p : Int) := by rw [and_mask n hn, hp]
  clear hs hof hp
  have hpB : ((p : Int) != 0) = true := by simp; omega
  generalize hT : textN false n false = T
  have HT : Hid (textN false n false = T) := hT
  clear hT
  go_enter Try.func67, Try.ntmps67
  go_wp2_with fail
  refine (fixed_sound.calls v f v1 false _ HS.out).mono ?_
  rintro e w1 ⟨rfl, hb⟩
  have hbox : w1.heap[w.heap.size]? = some (.cells #[.int .i64 v, .bool f] 23 (0, 0)) := blk_below (blk_new w _) hb
  have hB : Hid (Below w.heap.size w w1) := below_step (below_alloc (Below.refl _ _) _) hb
  have q0 : w1.cell? ⟨w.heap.size, 0, none⟩ = some (.int .i64 v) := (blk_cell hbox 0).trans rfl
  have q1 : w1.cell? ⟨w.heap.size, 1, none⟩ = some (.bool f) := (blk_cell hbox 1).trans rfl
  have z0 := blk_frozen hbox 0
  have z1 := blk_frozen hbox 1
  have hlt : w.heap.size < w1.heap.size := blk_lt hbox
  have hst : Hid (StT w w.heap.size w1.heap.size v1 false [] _) := stT_new w w1 v v1 f false hbox hB.out
  have hne1 : w.heap.size ≠ w1.heap.size := Nat.ne_of_lt hlt
  have hne2 : w1.heap.size ≠ w.heap.size := Nat.ne_of_gt hlt
  clear hbox hb hB
  go_wp2_with fail
  clear q0 q1 z0 z1
  refine (fixed_of.calls v1 false n 0 _ HOF.out).mono ?_
  rintro e w2 ⟨rfl, hb⟩
  replace hst := Lib_hid (hst.out.below hb)
  clear hb
  have q0 := hst.out.q0
  have q1 := hst.out.q1
  go_wp2_with fail
  clear q0 q1
  refine (HD.out _).mono ?_
  rintro e w3 ⟨g, rfl, hg, hgb, hb⟩
  have hgn : g ≠ w1.heap.size := by have := hst.out.isB.lt; omega
  have HGB := Lib_hid hgb
  replace hst := Lib_hid (hst.out.below hb)
  clear hb hgb hg
  have q0 := hst.out.q0
  have q1 := hst.out.q1
  go_wp2_with fail
  clear q0 q1
  have hlen := decs_len (n / 4294967296)
  refine (writeL _ _ _ g _ _ hst.out.isB (by simp) (by rw [List.length_map]) (by omega) HGB.out hgn).mono ?_
  clear HGB
  rintro e w4 ⟨rfl, hB, hb⟩
  replace hst := Lib_hid (hst.out.write hB hb)
  clear hB  hb
  have q0 := hst.out.q0
  have q1 := hst.out.q1
  go_wp2_with fail
  clear q0 q1
  refine (writeB _ _ 46 _ rfl _ hst.out.isB (by simp; omega)).mono ?_
  rintro e w5 ⟨rfl, hB, hb⟩
  replace hst := Lib_hid (hst.out.write hB hb)
  clear hB hb
  have q0 := hst.out.q0
  have q1 := hst.out.q1
  go_wp2_with fail
  clear q0 q1
  obtain ⟨L, hL⟩ : ∃ L : List UInt8, L = [] ++ (decs (n / 4294967296)).map dig ++ [46] := ⟨_, rfl⟩
  have HL := Lib_hid hL
  have hst2 : Hid (StT w w.heap.size w1.heap.size v1 false (L ++ ([] : List Nat).map dig) w5) := by rw [hL]; simpa [Hid] using hst.out
  have hLl : L.length ≤ 30 := by rw [hL]; simp; omega
  clear hst hL
  go_loopw [5] (fun r wr => ∃ (q : Nat) (acc : List Nat), r = .int .u64 q ∧ q < 4294967296 ∧ Hid (acc ++ fd 32 q = fd 32 p) ∧ Hid (StT w w.heap.size w1.heap.size v1 false (L ++ acc.map dig) wr)) (fun r _ => (fd 32 (intOf r).toNat).length)
  case atStart => exact ⟨p, [], rfl, hp32, (rfl : [] ++ fd 32 p = fd 32 p), hst2⟩
  case round =>
    clear hst2
    obtain ⟨q, acc, rfl, hq, hacc, hst⟩ := hrel
    have hal : Hid (acc.length ≤ 32) := by have h1 := fd_len 32 p; rw [← hacc.out, List.length_append] at h1; show _ ≤ _; omega
    by_cases hq0 : q = 0
    · subst hq0
      have hacc2 : Hid (acc = fd 32 p) := by have := hacc.out; simpa [fd, Hid] using this
      clear hacc
      have q0 := hst.out.q0
      have q1 := hst.out.q1
      go_wp2_with fail
      clear q0 q1
      refine (strB _ _ _ hst.out.isB).mono ?_
      rintro e w6 ⟨rfl, hb⟩
      have hfin := Lib_hid (hst.out.last hb)
      clear hb hst
      go_wp2
      go_ret
      exact ⟨retT (by rw [← HT.out, hacc2.out, HL.out]; simp [textN, HP.out, hp0]), hfin.out⟩
    · have hqB : ((q : Int) != 0) = true := by simp; omega
      have hst' := fd_step q hq0 hq
      have hacc2 : Hid ((acc ++ [q * 10 / 4294967296]) ++ fd 32 (q * 10 % 4294967296) = fd 32 p) := by show _ = _; rw [← hacc.out, hst']; simp
      have hmeas : Hid ((fd 32 q).length = (fd 32 (q * 10 % 4294967296)).length + 1) := by show _ = _; rw [hst']; simp
      have hdig : Hid (48 + (q : Int) * 10 / 4294967296 = ((dig (q * 10 / 4294967296)).toNat : Int)) := by show _ = _; rw [dig_toNat _ (by omega)]; omega
      have hmask2 : bits .and .u64 ((q : Int) * 10) 4294967295 = ((q * 10 % 4294967296 : Nat) : Int) := by
        rw [show (q : Int) * 10 = ((q * 10 : Nat) : Int) by omega]; exact and_mask (q * 10) (by omega)
      have HMK := Lib_hid hmask2
      clear hst' hacc hmask hmask2
      have q0 := hst.out.q0
      have q1 := hst.out.q1
      go_wp2_with fail
      clear q0 q1
      refine (writeB _ _ (dig (q * 10 / 4294967296)) _ hdig.out _ hst.out.isB (by have h1 := hal.out; simp; omega)).mono ?_
      rintro e wz ⟨rfl, hB, hb⟩
      replace hst := Lib_hid (hst.out.write hB hb)
      clear hB hb
      have hmask2 := HMK.out
      clear HMK
      have q0 := hst.out.q0
      have q1 := hst.out.q1
      go_wp2
      go_roundw
      case rel => exact ⟨q * 10 % 4294967296, acc ++ [q * 10 / 4294967296], rfl, Nat.mod_lt _ (by decide), hacc2, (by have := hst.out; rw [List.append_assoc] at this; simpa [Hid] using this)⟩
      case measure =>
        have hmm := meas_dec q hmeas.out
        simp only [intOf]
        exact hmm

set_option maxHeartbeats 800000 in
set_option maxRecDepth 100000 in
theorem text_011 (v : Int) (f : Bool) (v1 : Int) (n p : Nat) (w : World) (hs : fixed_sound.f v f = some (v1, true)) (hof : fixed_of.f v1 = some (false, (n : Int), 0)) (hneg : ¬ v1 < 0) (hn : n < 18446744073709551616) (hp : n % 4294967296 = p) (hp0 : ¬ p = 0) :
    Calls Try.prog 67 #[.agg #[.int .i64 v, .bool f]] w fun e w' => e = .returned (.string ⟨(textN false n true).toArray⟩) ∧ Below w.heap.size w w' := by
  have HS : Hid (fixed_sound.f v f = some (v1, true)) := hs
  have HOF : Hid (fixed_of.f v1 = some (false, (n : Int), 0)) := hof
  have hidx := idx58_0
  have hfld := fld60_1
  have HP : Hid (n % 4294967296 = p) := hp
  have hp32 : p < 4294967296 := by omega
  have HD : Hid (∀ W, Calls Try.prog 104 #[.int .u64 ((n : Int) / 4294967296)] W fun e w' => ∃ g, e = .returned (.slice (some ⟨g, 0, none⟩) (decs (n / 4294967296)).length (decs (n / 4294967296)).length) ∧ W.heap.size ≤ g ∧ w'.heap[g]? = some (.cells (Lib.byteCells ((decs (n / 4294967296)).map dig)).toArray 5 (0, 0)) ∧ Below W.heap.size W w') := fun W => by
    have h := decimal_calls (n / 4294967296) (by omega) W
    rw [show ((n / 4294967296 : Nat) : Int) = (n : Int) / 4294967296 by omega, ch_bytes _ (decs_nine _)] at h
    exact h
  have hmask : bits .and .u64 (n : Int) 4294967295 = (p : Int) := by rw [and_mask n hn, hp]
  clear hs hof hp
  have hpB : ((p : Int) != 0) = true := by simp; omega
  generalize hT : textN false n true = T
  have HT : Hid (textN false n true = T) := hT
  clear hT
  go_enter Try.func67, Try.ntmps67
  go_wp2_with fail
  refine (fixed_sound.calls v f v1 true _ HS.out).mono ?_
  rintro e w1 ⟨rfl, hb⟩
  have hbox : w1.heap[w.heap.size]? = some (.cells #[.int .i64 v, .bool f] 23 (0, 0)) := blk_below (blk_new w _) hb
  have hB : Hid (Below w.heap.size w w1) := below_step (below_alloc (Below.refl _ _) _) hb
  have q0 : w1.cell? ⟨w.heap.size, 0, none⟩ = some (.int .i64 v) := (blk_cell hbox 0).trans rfl
  have q1 : w1.cell? ⟨w.heap.size, 1, none⟩ = some (.bool f) := (blk_cell hbox 1).trans rfl
  have z0 := blk_frozen hbox 0
  have z1 := blk_frozen hbox 1
  have hlt : w.heap.size < w1.heap.size := blk_lt hbox
  have hst : Hid (StT w w.heap.size w1.heap.size v1 true [] _) := stT_new w w1 v v1 f true hbox hB.out
  have hne1 : w.heap.size ≠ w1.heap.size := Nat.ne_of_lt hlt
  have hne2 : w1.heap.size ≠ w.heap.size := Nat.ne_of_gt hlt
  clear hbox hb hB
  go_wp2_with fail
  clear q0 q1 z0 z1
  refine (fixed_of.calls v1 false n 0 _ HOF.out).mono ?_
  rintro e w2 ⟨rfl, hb⟩
  replace hst := Lib_hid (hst.out.below hb)
  clear hb
  have q0 := hst.out.q0
  have q1 := hst.out.q1
  go_wp2_with fail
  clear q0 q1
  refine (HD.out _).mono ?_
  rintro e w3 ⟨g, rfl, hg, hgb, hb⟩
  have hgn : g ≠ w1.heap.size := by have := hst.out.isB.lt; omega
  have HGB := Lib_hid hgb
  replace hst := Lib_hid (hst.out.below hb)
  clear hb hgb hg
  have q0 := hst.out.q0
  have q1 := hst.out.q1
  go_wp2_with fail
  clear q0 q1
  have hlen := decs_len (n / 4294967296)
  refine (writeL _ _ _ g _ _ hst.out.isB (by simp) (by rw [List.length_map]) (by omega) HGB.out hgn).mono ?_
  clear HGB
  rintro e w4 ⟨rfl, hB, hb⟩
  replace hst := Lib_hid (hst.out.write hB hb)
  clear hB  hb
  have q0 := hst.out.q0
  have q1 := hst.out.q1
  go_wp2_with fail
  clear q0 q1
  refine (writeB _ _ 46 _ rfl _ hst.out.isB (by simp; omega)).mono ?_
  rintro e w5 ⟨rfl, hB, hb⟩
  replace hst := Lib_hid (hst.out.write hB hb)
  clear hB hb
  have q0 := hst.out.q0
  have q1 := hst.out.q1
  go_wp2_with fail
  clear q0 q1
  obtain ⟨L, hL⟩ : ∃ L : List UInt8, L = [] ++ (decs (n / 4294967296)).map dig ++ [46] := ⟨_, rfl⟩
  have HL := Lib_hid hL
  have hst2 : Hid (StT w w.heap.size w1.heap.size v1 true (L ++ ([] : List Nat).map dig) w5) := by rw [hL]; simpa [Hid] using hst.out
  have hLl : L.length ≤ 30 := by rw [hL]; simp; omega
  clear hst hL
  go_loopw [5] (fun r wr => ∃ (q : Nat) (acc : List Nat), r = .int .u64 q ∧ q < 4294967296 ∧ Hid (acc ++ fd 32 q = fd 32 p) ∧ Hid (StT w w.heap.size w1.heap.size v1 true (L ++ acc.map dig) wr)) (fun r _ => (fd 32 (intOf r).toNat).length)
  case atStart => exact ⟨p, [], rfl, hp32, (rfl : [] ++ fd 32 p = fd 32 p), hst2⟩
  case round =>
    clear hst2
    obtain ⟨q, acc, rfl, hq, hacc, hst⟩ := hrel
    have hal : Hid (acc.length ≤ 32) := by have h1 := fd_len 32 p; rw [← hacc.out, List.length_append] at h1; show _ ≤ _; omega
    by_cases hq0 : q = 0
    · subst hq0
      have hacc2 : Hid (acc = fd 32 p) := by have := hacc.out; simpa [fd, Hid] using this
      clear hacc
      have q0 := hst.out.q0
      have q1 := hst.out.q1
      go_wp2_with fail
      clear q0 q1
      refine (writeB _ _ 33 _ rfl _ hst.out.isB (by have h1 := hal.out; simp; omega)).mono ?_
      rintro e w6 ⟨rfl, hB, hb⟩
      replace hst := Lib_hid (hst.out.write hB hb)
      clear hB hb
      have q0 := hst.out.q0
      have q1 := hst.out.q1
      go_wp2_with fail
      clear q0 q1
      refine (strB _ _ _ hst.out.isB).mono ?_
      rintro e w7 ⟨rfl, hb⟩
      have hfin := Lib_hid (hst.out.last hb)
      clear hb hst
      go_wp2
      go_ret
      exact ⟨retT (by rw [← HT.out, hacc2.out, HL.out]; simp [textN, HP.out, hp0]), hfin.out⟩
    · have hqB : ((q : Int) != 0) = true := by simp; omega
      have hst' := fd_step q hq0 hq
      have hacc2 : Hid ((acc ++ [q * 10 / 4294967296]) ++ fd 32 (q * 10 % 4294967296) = fd 32 p) := by show _ = _; rw [← hacc.out, hst']; simp
      have hmeas : Hid ((fd 32 q).length = (fd 32 (q * 10 % 4294967296)).length + 1) := by show _ = _; rw [hst']; simp
      have hdig : Hid (48 + (q : Int) * 10 / 4294967296 = ((dig (q * 10 / 4294967296)).toNat : Int)) := by show _ = _; rw [dig_toNat _ (by omega)]; omega
      have hmask2 : bits .and .u64 ((q : Int) * 10) 4294967295 = ((q * 10 % 4294967296 : Nat) : Int) := by
        rw [show (q : Int) * 10 = ((q * 10 : Nat) : Int) by omega]; exact and_mask (q * 10) (by omega)
      have HMK := Lib_hid hmask2
      clear hst' hacc hmask hmask2
      have q0 := hst.out.q0
      have q1 := hst.out.q1
      go_wp2_with fail
      clear q0 q1
      refine (writeB _ _ (dig (q * 10 / 4294967296)) _ hdig.out _ hst.out.isB (by have h1 := hal.out; simp; omega)).mono ?_
      rintro e wz ⟨rfl, hB, hb⟩
      replace hst := Lib_hid (hst.out.write hB hb)
      clear hB hb
      have hmask2 := HMK.out
      clear HMK
      have q0 := hst.out.q0
      have q1 := hst.out.q1
      go_wp2
      go_roundw
      case rel => exact ⟨q * 10 % 4294967296, acc ++ [q * 10 / 4294967296], rfl, Nat.mod_lt _ (by decide), hacc2, (by have := hst.out; rw [List.append_assoc] at this; simpa [Hid] using this)⟩
      case measure =>
        have hmm := meas_dec q hmeas.out
        simp only [intOf]
        exact hmm

set_option maxHeartbeats 800000 in
set_option maxRecDepth 100000 in
theorem text_100 (v : Int) (f : Bool) (v1 : Int) (n p : Nat) (w : World) (hs : fixed_sound.f v f = some (v1, false)) (hof : fixed_of.f v1 = some (true, (n : Int), 0)) (hneg : v1 < 0) (hn : n < 18446744073709551616) (hp : n % 4294967296 = p) (hp0 : p = 0) :
    Calls Try.prog 67 #[.agg #[.int .i64 v, .bool f]] w fun e w' => e = .returned (.string ⟨(textN true n false).toArray⟩) ∧ Below w.heap.size w w' := by
  have HS : Hid (fixed_sound.f v f = some (v1, false)) := hs
  have HOF : Hid (fixed_of.f v1 = some (true, (n : Int), 0)) := hof
  have hidx := idx58_0
  have hfld := fld60_1
  have HP : Hid (n % 4294967296 = p) := hp
  have hp32 : p < 4294967296 := by omega
  have HD : Hid (∀ W, Calls Try.prog 104 #[.int .u64 ((n : Int) / 4294967296)] W fun e w' => ∃ g, e = .returned (.slice (some ⟨g, 0, none⟩) (decs (n / 4294967296)).length (decs (n / 4294967296)).length) ∧ W.heap.size ≤ g ∧ w'.heap[g]? = some (.cells (Lib.byteCells ((decs (n / 4294967296)).map dig)).toArray 5 (0, 0)) ∧ Below W.heap.size W w') := fun W => by
    have h := decimal_calls (n / 4294967296) (by omega) W
    rw [show ((n / 4294967296 : Nat) : Int) = (n : Int) / 4294967296 by omega, ch_bytes _ (decs_nine _)] at h
    exact h
  have hmask : bits .and .u64 (n : Int) 4294967295 = (p : Int) := by rw [and_mask n hn, hp]
  clear hs hof hp
  subst hp0
  generalize hT : textN true n false = T
  have HT : Hid (textN true n false = T) := hT
  clear hT
  go_enter Try.func67, Try.ntmps67
  go_wp2_with fail
  refine (fixed_sound.calls v f v1 false _ HS.out).mono ?_
  rintro e w1 ⟨rfl, hb⟩
  have hbox : w1.heap[w.heap.size]? = some (.cells #[.int .i64 v, .bool f] 23 (0, 0)) := blk_below (blk_new w _) hb
  have hB : Hid (Below w.heap.size w w1) := below_step (below_alloc (Below.refl _ _) _) hb
  have q0 : w1.cell? ⟨w.heap.size, 0, none⟩ = some (.int .i64 v) := (blk_cell hbox 0).trans rfl
  have q1 : w1.cell? ⟨w.heap.size, 1, none⟩ = some (.bool f) := (blk_cell hbox 1).trans rfl
  have z0 := blk_frozen hbox 0
  have z1 := blk_frozen hbox 1
  have hlt : w.heap.size < w1.heap.size := blk_lt hbox
  have hst : Hid (StT w w.heap.size w1.heap.size v1 false [] _) := stT_new w w1 v v1 f false hbox hB.out
  have hne1 : w.heap.size ≠ w1.heap.size := Nat.ne_of_lt hlt
  have hne2 : w1.heap.size ≠ w.heap.size := Nat.ne_of_gt hlt
  clear hbox hb hB
  go_wp2_with fail
  clear q0 q1 z0 z1
  refine (writeB _ _ 45 _ rfl _ hst.out.isB (by simp)).mono ?_
  rintro e w2 ⟨rfl, hB, hb⟩
  replace hst := Lib_hid (hst.out.write hB hb)
  clear hB  hb
  have q0 := hst.out.q0
  have q1 := hst.out.q1
  go_wp2_with fail
  clear q0 q1
  refine (fixed_of.calls v1 true n 0 _ HOF.out).mono ?_
  rintro e w3 ⟨rfl, hb⟩
  replace hst := Lib_hid (hst.out.below hb)
  clear hb
  have q0 := hst.out.q0
  have q1 := hst.out.q1
  go_wp2_with fail
  clear q0 q1
  refine (HD.out _).mono ?_
  rintro e w4 ⟨g, rfl, hg, hgb, hb⟩
  have hgn : g ≠ w1.heap.size := by have := hst.out.isB.lt; omega
  have HGB := Lib_hid hgb
  replace hst := Lib_hid (hst.out.below hb)
  clear hb hgb hg
  have q0 := hst.out.q0
  have q1 := hst.out.q1
  go_wp2_with fail
  clear q0 q1
  have hlen := decs_len (n / 4294967296)
  refine (writeL _ _ _ g _ _ hst.out.isB (by simp) (by rw [List.length_map]) (by omega) HGB.out hgn).mono ?_
  clear HGB
  rintro e w5 ⟨rfl, hB, hb⟩
  replace hst := Lib_hid (hst.out.write hB hb)
  clear hB  hb
  have q0 := hst.out.q0
  have q1 := hst.out.q1
  go_wp2_with fail
  clear q0 q1
  refine (strB _ _ _ hst.out.isB).mono ?_
  rintro e w6 ⟨rfl, hb⟩
  have hfin := Lib_hid (hst.out.last hb)
  clear hb hst
  go_wp2
  go_ret
  exact ⟨retT (by rw [← HT.out]; simp [textN, HP.out]), hfin.out⟩

set_option maxHeartbeats 800000 in
set_option maxRecDepth 100000 in
theorem text_101 (v : Int) (f : Bool) (v1 : Int) (n p : Nat) (w : World) (hs : fixed_sound.f v f = some (v1, true)) (hof : fixed_of.f v1 = some (true, (n : Int), 0)) (hneg : v1 < 0) (hn : n < 18446744073709551616) (hp : n % 4294967296 = p) (hp0 : p = 0) :
    Calls Try.prog 67 #[.agg #[.int .i64 v, .bool f]] w fun e w' => e = .returned (.string ⟨(textN true n true).toArray⟩) ∧ Below w.heap.size w w' := by
  have HS : Hid (fixed_sound.f v f = some (v1, true)) := hs
  have HOF : Hid (fixed_of.f v1 = some (true, (n : Int), 0)) := hof
  have hidx := idx58_0
  have hfld := fld60_1
  have HP : Hid (n % 4294967296 = p) := hp
  have hp32 : p < 4294967296 := by omega
  have HD : Hid (∀ W, Calls Try.prog 104 #[.int .u64 ((n : Int) / 4294967296)] W fun e w' => ∃ g, e = .returned (.slice (some ⟨g, 0, none⟩) (decs (n / 4294967296)).length (decs (n / 4294967296)).length) ∧ W.heap.size ≤ g ∧ w'.heap[g]? = some (.cells (Lib.byteCells ((decs (n / 4294967296)).map dig)).toArray 5 (0, 0)) ∧ Below W.heap.size W w') := fun W => by
    have h := decimal_calls (n / 4294967296) (by omega) W
    rw [show ((n / 4294967296 : Nat) : Int) = (n : Int) / 4294967296 by omega, ch_bytes _ (decs_nine _)] at h
    exact h
  have hmask : bits .and .u64 (n : Int) 4294967295 = (p : Int) := by rw [and_mask n hn, hp]
  clear hs hof hp
  subst hp0
  generalize hT : textN true n true = T
  have HT : Hid (textN true n true = T) := hT
  clear hT
  go_enter Try.func67, Try.ntmps67
  go_wp2_with fail
  refine (fixed_sound.calls v f v1 true _ HS.out).mono ?_
  rintro e w1 ⟨rfl, hb⟩
  have hbox : w1.heap[w.heap.size]? = some (.cells #[.int .i64 v, .bool f] 23 (0, 0)) := blk_below (blk_new w _) hb
  have hB : Hid (Below w.heap.size w w1) := below_step (below_alloc (Below.refl _ _) _) hb
  have q0 : w1.cell? ⟨w.heap.size, 0, none⟩ = some (.int .i64 v) := (blk_cell hbox 0).trans rfl
  have q1 : w1.cell? ⟨w.heap.size, 1, none⟩ = some (.bool f) := (blk_cell hbox 1).trans rfl
  have z0 := blk_frozen hbox 0
  have z1 := blk_frozen hbox 1
  have hlt : w.heap.size < w1.heap.size := blk_lt hbox
  have hst : Hid (StT w w.heap.size w1.heap.size v1 true [] _) := stT_new w w1 v v1 f true hbox hB.out
  have hne1 : w.heap.size ≠ w1.heap.size := Nat.ne_of_lt hlt
  have hne2 : w1.heap.size ≠ w.heap.size := Nat.ne_of_gt hlt
  clear hbox hb hB
  go_wp2_with fail
  clear q0 q1 z0 z1
  refine (writeB _ _ 45 _ rfl _ hst.out.isB (by simp)).mono ?_
  rintro e w2 ⟨rfl, hB, hb⟩
  replace hst := Lib_hid (hst.out.write hB hb)
  clear hB  hb
  have q0 := hst.out.q0
  have q1 := hst.out.q1
  go_wp2_with fail
  clear q0 q1
  refine (fixed_of.calls v1 true n 0 _ HOF.out).mono ?_
  rintro e w3 ⟨rfl, hb⟩
  replace hst := Lib_hid (hst.out.below hb)
  clear hb
  have q0 := hst.out.q0
  have q1 := hst.out.q1
  go_wp2_with fail
  clear q0 q1
  refine (HD.out _).mono ?_
  rintro e w4 ⟨g, rfl, hg, hgb, hb⟩
  have hgn : g ≠ w1.heap.size := by have := hst.out.isB.lt; omega
  have HGB := Lib_hid hgb
  replace hst := Lib_hid (hst.out.below hb)
  clear hb hgb hg
  have q0 := hst.out.q0
  have q1 := hst.out.q1
  go_wp2_with fail
  clear q0 q1
  have hlen := decs_len (n / 4294967296)
  refine (writeL _ _ _ g _ _ hst.out.isB (by simp) (by rw [List.length_map]) (by omega) HGB.out hgn).mono ?_
  clear HGB
  rintro e w5 ⟨rfl, hB, hb⟩
  replace hst := Lib_hid (hst.out.write hB hb)
  clear hB  hb
  have q0 := hst.out.q0
  have q1 := hst.out.q1
  go_wp2_with fail
  clear q0 q1
  refine (writeB _ _ 33 _ rfl _ hst.out.isB (by simp; omega)).mono ?_
  rintro e w6 ⟨rfl, hB, hb⟩
  replace hst := Lib_hid (hst.out.write hB hb)
  clear hB hb
  have q0 := hst.out.q0
  have q1 := hst.out.q1
  go_wp2_with fail
  clear q0 q1
  refine (strB _ _ _ hst.out.isB).mono ?_
  rintro e w7 ⟨rfl, hb⟩
  have hfin := Lib_hid (hst.out.last hb)
  clear hb hst
  go_wp2
  go_ret
  exact ⟨retT (by rw [← HT.out]; simp [textN, HP.out]), hfin.out⟩

set_option maxHeartbeats 800000 in
set_option maxRecDepth 100000 in
theorem text_110 (v : Int) (f : Bool) (v1 : Int) (n p : Nat) (w : World) (hs : fixed_sound.f v f = some (v1, false)) (hof : fixed_of.f v1 = some (true, (n : Int), 0)) (hneg : v1 < 0) (hn : n < 18446744073709551616) (hp : n % 4294967296 = p) (hp0 : ¬ p = 0) :
    Calls Try.prog 67 #[.agg #[.int .i64 v, .bool f]] w fun e w' => e = .returned (.string ⟨(textN true n false).toArray⟩) ∧ Below w.heap.size w w' := by
  have HS : Hid (fixed_sound.f v f = some (v1, false)) := hs
  have HOF : Hid (fixed_of.f v1 = some (true, (n : Int), 0)) := hof
  have hidx := idx58_0
  have hfld := fld60_1
  have HP : Hid (n % 4294967296 = p) := hp
  have hp32 : p < 4294967296 := by omega
  have HD : Hid (∀ W, Calls Try.prog 104 #[.int .u64 ((n : Int) / 4294967296)] W fun e w' => ∃ g, e = .returned (.slice (some ⟨g, 0, none⟩) (decs (n / 4294967296)).length (decs (n / 4294967296)).length) ∧ W.heap.size ≤ g ∧ w'.heap[g]? = some (.cells (Lib.byteCells ((decs (n / 4294967296)).map dig)).toArray 5 (0, 0)) ∧ Below W.heap.size W w') := fun W => by
    have h := decimal_calls (n / 4294967296) (by omega) W
    rw [show ((n / 4294967296 : Nat) : Int) = (n : Int) / 4294967296 by omega, ch_bytes _ (decs_nine _)] at h
    exact h
  have hmask : bits .and .u64 (n : Int) 4294967295 = (p : Int) := by rw [and_mask n hn, hp]
  clear hs hof hp
  have hpB : ((p : Int) != 0) = true := by simp; omega
  generalize hT : textN true n false = T
  have HT : Hid (textN true n false = T) := hT
  clear hT
  go_enter Try.func67, Try.ntmps67
  go_wp2_with fail
  refine (fixed_sound.calls v f v1 false _ HS.out).mono ?_
  rintro e w1 ⟨rfl, hb⟩
  have hbox : w1.heap[w.heap.size]? = some (.cells #[.int .i64 v, .bool f] 23 (0, 0)) := blk_below (blk_new w _) hb
  have hB : Hid (Below w.heap.size w w1) := below_step (below_alloc (Below.refl _ _) _) hb
  have q0 : w1.cell? ⟨w.heap.size, 0, none⟩ = some (.int .i64 v) := (blk_cell hbox 0).trans rfl
  have q1 : w1.cell? ⟨w.heap.size, 1, none⟩ = some (.bool f) := (blk_cell hbox 1).trans rfl
  have z0 := blk_frozen hbox 0
  have z1 := blk_frozen hbox 1
  have hlt : w.heap.size < w1.heap.size := blk_lt hbox
  have hst : Hid (StT w w.heap.size w1.heap.size v1 false [] _) := stT_new w w1 v v1 f false hbox hB.out
  have hne1 : w.heap.size ≠ w1.heap.size := Nat.ne_of_lt hlt
  have hne2 : w1.heap.size ≠ w.heap.size := Nat.ne_of_gt hlt
  clear hbox hb hB
  go_wp2_with fail
  clear q0 q1 z0 z1
  refine (writeB _ _ 45 _ rfl _ hst.out.isB (by simp)).mono ?_
  rintro e w2 ⟨rfl, hB, hb⟩
  replace hst := Lib_hid (hst.out.write hB hb)
  clear hB  hb
  have q0 := hst.out.q0
  have q1 := hst.out.q1
  go_wp2_with fail
  clear q0 q1
  refine (fixed_of.calls v1 true n 0 _ HOF.out).mono ?_
  rintro e w3 ⟨rfl, hb⟩
  replace hst := Lib_hid (hst.out.below hb)
  clear hb
  have q0 := hst.out.q0
  have q1 := hst.out.q1
  go_wp2_with fail
  clear q0 q1
  refine (HD.out _).mono ?_
  rintro e w4 ⟨g, rfl, hg, hgb, hb⟩
  have hgn : g ≠ w1.heap.size := by have := hst.out.isB.lt; omega
  have HGB := Lib_hid hgb
  replace hst := Lib_hid (hst.out.below hb)
  clear hb hgb hg
  have q0 := hst.out.q0
  have q1 := hst.out.q1
  go_wp2_with fail
  clear q0 q1
  have hlen := decs_len (n / 4294967296)
  refine (writeL _ _ _ g _ _ hst.out.isB (by simp) (by rw [List.length_map]) (by omega) HGB.out hgn).mono ?_
  clear HGB
  rintro e w5 ⟨rfl, hB, hb⟩
  replace hst := Lib_hid (hst.out.write hB hb)
  clear hB  hb
  have q0 := hst.out.q0
  have q1 := hst.out.q1
  go_wp2_with fail
  clear q0 q1
  refine (writeB _ _ 46 _ rfl _ hst.out.isB (by simp; omega)).mono ?_
  rintro e w6 ⟨rfl, hB, hb⟩
  replace hst := Lib_hid (hst.out.write hB hb)
  clear hB hb
  have q0 := hst.out.q0
  have q1 := hst.out.q1
  go_wp2_with fail
  clear q0 q1
  obtain ⟨L, hL⟩ : ∃ L : List UInt8, L = ([] ++ [45]) ++ (decs (n / 4294967296)).map dig ++ [46] := ⟨_, rfl⟩
  have HL := Lib_hid hL
  have hst2 : Hid (StT w w.heap.size w1.heap.size v1 false (L ++ ([] : List Nat).map dig) w6) := by rw [hL]; simpa [Hid] using hst.out
  have hLl : L.length ≤ 30 := by rw [hL]; simp; omega
  clear hst hL
  go_loopw [5] (fun r wr => ∃ (q : Nat) (acc : List Nat), r = .int .u64 q ∧ q < 4294967296 ∧ Hid (acc ++ fd 32 q = fd 32 p) ∧ Hid (StT w w.heap.size w1.heap.size v1 false (L ++ acc.map dig) wr)) (fun r _ => (fd 32 (intOf r).toNat).length)
  case atStart => exact ⟨p, [], rfl, hp32, (rfl : [] ++ fd 32 p = fd 32 p), hst2⟩
  case round =>
    clear hst2
    obtain ⟨q, acc, rfl, hq, hacc, hst⟩ := hrel
    have hal : Hid (acc.length ≤ 32) := by have h1 := fd_len 32 p; rw [← hacc.out, List.length_append] at h1; show _ ≤ _; omega
    by_cases hq0 : q = 0
    · subst hq0
      have hacc2 : Hid (acc = fd 32 p) := by have := hacc.out; simpa [fd, Hid] using this
      clear hacc
      have q0 := hst.out.q0
      have q1 := hst.out.q1
      go_wp2_with fail
      clear q0 q1
      refine (strB _ _ _ hst.out.isB).mono ?_
      rintro e w7 ⟨rfl, hb⟩
      have hfin := Lib_hid (hst.out.last hb)
      clear hb hst
      go_wp2
      go_ret
      exact ⟨retT (by rw [← HT.out, hacc2.out, HL.out]; simp [textN, HP.out, hp0]), hfin.out⟩
    · have hqB : ((q : Int) != 0) = true := by simp; omega
      have hst' := fd_step q hq0 hq
      have hacc2 : Hid ((acc ++ [q * 10 / 4294967296]) ++ fd 32 (q * 10 % 4294967296) = fd 32 p) := by show _ = _; rw [← hacc.out, hst']; simp
      have hmeas : Hid ((fd 32 q).length = (fd 32 (q * 10 % 4294967296)).length + 1) := by show _ = _; rw [hst']; simp
      have hdig : Hid (48 + (q : Int) * 10 / 4294967296 = ((dig (q * 10 / 4294967296)).toNat : Int)) := by show _ = _; rw [dig_toNat _ (by omega)]; omega
      have hmask2 : bits .and .u64 ((q : Int) * 10) 4294967295 = ((q * 10 % 4294967296 : Nat) : Int) := by
        rw [show (q : Int) * 10 = ((q * 10 : Nat) : Int) by omega]; exact and_mask (q * 10) (by omega)
      have HMK := Lib_hid hmask2
      clear hst' hacc hmask hmask2
      have q0 := hst.out.q0
      have q1 := hst.out.q1
      go_wp2_with fail
      clear q0 q1
      refine (writeB _ _ (dig (q * 10 / 4294967296)) _ hdig.out _ hst.out.isB (by have h1 := hal.out; simp; omega)).mono ?_
      rintro e wz ⟨rfl, hB, hb⟩
      replace hst := Lib_hid (hst.out.write hB hb)
      clear hB hb
      have hmask2 := HMK.out
      clear HMK
      have q0 := hst.out.q0
      have q1 := hst.out.q1
      go_wp2
      go_roundw
      case rel => exact ⟨q * 10 % 4294967296, acc ++ [q * 10 / 4294967296], rfl, Nat.mod_lt _ (by decide), hacc2, (by have := hst.out; rw [List.append_assoc] at this; simpa [Hid] using this)⟩
      case measure =>
        have hmm := meas_dec q hmeas.out
        simp only [intOf]
        exact hmm

set_option maxHeartbeats 800000 in
set_option maxRecDepth 100000 in
theorem text_111 (v : Int) (f : Bool) (v1 : Int) (n p : Nat) (w : World) (hs : fixed_sound.f v f = some (v1, true)) (hof : fixed_of.f v1 = some (true, (n : Int), 0)) (hneg : v1 < 0) (hn : n < 18446744073709551616) (hp : n % 4294967296 = p) (hp0 : ¬ p = 0) :
    Calls Try.prog 67 #[.agg #[.int .i64 v, .bool f]] w fun e w' => e = .returned (.string ⟨(textN true n true).toArray⟩) ∧ Below w.heap.size w w' := by
  have HS : Hid (fixed_sound.f v f = some (v1, true)) := hs
  have HOF : Hid (fixed_of.f v1 = some (true, (n : Int), 0)) := hof
  have hidx := idx58_0
  have hfld := fld60_1
  have HP : Hid (n % 4294967296 = p) := hp
  have hp32 : p < 4294967296 := by omega
  have HD : Hid (∀ W, Calls Try.prog 104 #[.int .u64 ((n : Int) / 4294967296)] W fun e w' => ∃ g, e = .returned (.slice (some ⟨g, 0, none⟩) (decs (n / 4294967296)).length (decs (n / 4294967296)).length) ∧ W.heap.size ≤ g ∧ w'.heap[g]? = some (.cells (Lib.byteCells ((decs (n / 4294967296)).map dig)).toArray 5 (0, 0)) ∧ Below W.heap.size W w') := fun W => by
    have h := decimal_calls (n / 4294967296) (by omega) W
    rw [show ((n / 4294967296 : Nat) : Int) = (n : Int) / 4294967296 by omega, ch_bytes _ (decs_nine _)] at h
    exact h
  have hmask : bits .and .u64 (n : Int) 4294967295 = (p : Int) := by rw [and_mask n hn, hp]
  clear hs hof hp
  have hpB : ((p : Int) != 0) = true := by simp; omega
  generalize hT : textN true n true = T
  have HT : Hid (textN true n true = T) := hT
  clear hT
  go_enter Try.func67, Try.ntmps67
  go_wp2_with fail
  refine (fixed_sound.calls v f v1 true _ HS.out).mono ?_
  rintro e w1 ⟨rfl, hb⟩
  have hbox : w1.heap[w.heap.size]? = some (.cells #[.int .i64 v, .bool f] 23 (0, 0)) := blk_below (blk_new w _) hb
  have hB : Hid (Below w.heap.size w w1) := below_step (below_alloc (Below.refl _ _) _) hb
  have q0 : w1.cell? ⟨w.heap.size, 0, none⟩ = some (.int .i64 v) := (blk_cell hbox 0).trans rfl
  have q1 : w1.cell? ⟨w.heap.size, 1, none⟩ = some (.bool f) := (blk_cell hbox 1).trans rfl
  have z0 := blk_frozen hbox 0
  have z1 := blk_frozen hbox 1
  have hlt : w.heap.size < w1.heap.size := blk_lt hbox
  have hst : Hid (StT w w.heap.size w1.heap.size v1 true [] _) := stT_new w w1 v v1 f true hbox hB.out
  have hne1 : w.heap.size ≠ w1.heap.size := Nat.ne_of_lt hlt
  have hne2 : w1.heap.size ≠ w.heap.size := Nat.ne_of_gt hlt
  clear hbox hb hB
  go_wp2_with fail
  clear q0 q1 z0 z1
  refine (writeB _ _ 45 _ rfl _ hst.out.isB (by simp)).mono ?_
  rintro e w2 ⟨rfl, hB, hb⟩
  replace hst := Lib_hid (hst.out.write hB hb)
  clear hB  hb
  have q0 := hst.out.q0
  have q1 := hst.out.q1
  go_wp2_with fail
  clear q0 q1
  refine (fixed_of.calls v1 true n 0 _ HOF.out).mono ?_
  rintro e w3 ⟨rfl, hb⟩
  replace hst := Lib_hid (hst.out.below hb)
  clear hb
  have q0 := hst.out.q0
  have q1 := hst.out.q1
  go_wp2_with fail
  clear q0 q1
  refine (HD.out _).mono ?_
  rintro e w4 ⟨g, rfl, hg, hgb, hb⟩
  have hgn : g ≠ w1.heap.size := by have := hst.out.isB.lt; omega
  have HGB := Lib_hid hgb
  replace hst := Lib_hid (hst.out.below hb)
  clear hb hgb hg
  have q0 := hst.out.q0
  have q1 := hst.out.q1
  go_wp2_with fail
  clear q0 q1
  have hlen := decs_len (n / 4294967296)
  refine (writeL _ _ _ g _ _ hst.out.isB (by simp) (by rw [List.length_map]) (by omega) HGB.out hgn).mono ?_
  clear HGB
  rintro e w5 ⟨rfl, hB, hb⟩
  replace hst := Lib_hid (hst.out.write hB hb)
  clear hB  hb
  have q0 := hst.out.q0
  have q1 := hst.out.q1
  go_wp2_with fail
  clear q0 q1
  refine (writeB _ _ 46 _ rfl _ hst.out.isB (by simp; omega)).mono ?_
  rintro e w6 ⟨rfl, hB, hb⟩
  replace hst := Lib_hid (hst.out.write hB hb)
  clear hB hb
  have q0 := hst.out.q0
  have q1 := hst.out.q1
  go_wp2_with fail
  clear q0 q1
  obtain ⟨L, hL⟩ : ∃ L : List UInt8, L = ([] ++ [45]) ++ (decs (n / 4294967296)).map dig ++ [46] := ⟨_, rfl⟩
  have HL := Lib_hid hL
  have hst2 : Hid (StT w w.heap.size w1.heap.size v1 true (L ++ ([] : List Nat).map dig) w6) := by rw [hL]; simpa [Hid] using hst.out
  have hLl : L.length ≤ 30 := by rw [hL]; simp; omega
  clear hst hL
  go_loopw [5] (fun r wr => ∃ (q : Nat) (acc : List Nat), r = .int .u64 q ∧ q < 4294967296 ∧ Hid (acc ++ fd 32 q = fd 32 p) ∧ Hid (StT w w.heap.size w1.heap.size v1 true (L ++ acc.map dig) wr)) (fun r _ => (fd 32 (intOf r).toNat).length)
  case atStart => exact ⟨p, [], rfl, hp32, (rfl : [] ++ fd 32 p = fd 32 p), hst2⟩
  case round =>
    clear hst2
    obtain ⟨q, acc, rfl, hq, hacc, hst⟩ := hrel
    have hal : Hid (acc.length ≤ 32) := by have h1 := fd_len 32 p; rw [← hacc.out, List.length_append] at h1; show _ ≤ _; omega
    by_cases hq0 : q = 0
    · subst hq0
      have hacc2 : Hid (acc = fd 32 p) := by have := hacc.out; simpa [fd, Hid] using this
      clear hacc
      have q0 := hst.out.q0
      have q1 := hst.out.q1
      go_wp2_with fail
      clear q0 q1
      refine (writeB _ _ 33 _ rfl _ hst.out.isB (by have h1 := hal.out; simp; omega)).mono ?_
      rintro e w7 ⟨rfl, hB, hb⟩
      replace hst := Lib_hid (hst.out.write hB hb)
      clear hB hb
      have q0 := hst.out.q0
      have q1 := hst.out.q1
      go_wp2_with fail
      clear q0 q1
      refine (strB _ _ _ hst.out.isB).mono ?_
      rintro e w8 ⟨rfl, hb⟩
      have hfin := Lib_hid (hst.out.last hb)
      clear hb hst
      go_wp2
      go_ret
      exact ⟨retT (by rw [← HT.out, hacc2.out, HL.out]; simp [textN, HP.out, hp0]), hfin.out⟩
    · have hqB : ((q : Int) != 0) = true := by simp; omega
      have hst' := fd_step q hq0 hq
      have hacc2 : Hid ((acc ++ [q * 10 / 4294967296]) ++ fd 32 (q * 10 % 4294967296) = fd 32 p) := by show _ = _; rw [← hacc.out, hst']; simp
      have hmeas : Hid ((fd 32 q).length = (fd 32 (q * 10 % 4294967296)).length + 1) := by show _ = _; rw [hst']; simp
      have hdig : Hid (48 + (q : Int) * 10 / 4294967296 = ((dig (q * 10 / 4294967296)).toNat : Int)) := by show _ = _; rw [dig_toNat _ (by omega)]; omega
      have hmask2 : bits .and .u64 ((q : Int) * 10) 4294967295 = ((q * 10 % 4294967296 : Nat) : Int) := by
        rw [show (q : Int) * 10 = ((q * 10 : Nat) : Int) by omega]; exact and_mask (q * 10) (by omega)
      have HMK := Lib_hid hmask2
      clear hst' hacc hmask hmask2
      have q0 := hst.out.q0
      have q1 := hst.out.q1
      go_wp2_with fail
      clear q0 q1
      refine (writeB _ _ (dig (q * 10 / 4294967296)) _ hdig.out _ hst.out.isB (by have h1 := hal.out; simp; omega)).mono ?_
      rintro e wz ⟨rfl, hB, hb⟩
      replace hst := Lib_hid (hst.out.write hB hb)
      clear hB hb
      have hmask2 := HMK.out
      clear HMK
      have q0 := hst.out.q0
      have q1 := hst.out.q1
      go_wp2
      go_roundw
      case rel => exact ⟨q * 10 % 4294967296, acc ++ [q * 10 / 4294967296], rfl, Nat.mod_lt _ (by decide), hacc2, (by have := hst.out; rw [List.append_assoc] at this; simpa [Hid] using this)⟩
      case measure =>
        have hmm := meas_dec q hmeas.out
        simp only [intOf]
        exact hmm

/-- The text of a number as bytes: of any int64 (the least one counts as the greatest one's opposite, flagged). -/
def textB (v : Int) (f : Bool) : List UInt8 := textN (decide (sv v < 0)) (sv v).natAbs (sf v f)
def fixed_Text.f (a0_0 : Int) (a0_1 : Bool) : Option ByteArray := if -9223372036854775808 ≤ a0_0 then (if a0_0 ≤ 9223372036854775807 then some ⟨(textB a0_0 a0_1).toArray⟩ else none) else none
theorem of_neg (v : Int) (h1 : v < 0) (h2 : -9223372036854775807 ≤ v) : fixed_of.f v = some (true, (v.natAbs : Int), 0) := by
  unfold fixed_of.f
  rw [if_pos h1]
  congr 2
  simp only [Prod.mk.injEq, and_true]
  rw [IntKind.wrap_u64, IntKind.wrap_u64]
  omega
theorem of_pos (v : Int) (h1 : ¬ v < 0) (h2 : v ≤ 9223372036854775807) : fixed_of.f v = some (false, (v.natAbs : Int), 0) := by
  unfold fixed_of.f
  rw [if_neg h1]
  congr 2
  simp only [Prod.mk.injEq, and_true]
  rw [IntKind.wrap_u64]
  omega
theorem fixed_Text.calls (a0_0 : Int) (a0_1 : Bool) (r : ByteArray) (w : World) (h : fixed_Text.f a0_0 a0_1 = some r) :
    Calls Try.prog 67 #[.agg #[.int .i64 a0_0, .bool a0_1]] w fun e w' => e = .returned (.string r) ∧ Below w.heap.size w w' := by
  unfold fixed_Text.f at h
  by_cases h1 : -9223372036854775808 ≤ a0_0
  · rw [if_pos h1] at h
    by_cases h2 : a0_0 ≤ 9223372036854775807
    · rw [if_pos h2] at h
      obtain rfl := Option.some.inj h
      have hs := sound_f a0_0 a0_1
      have hv1 : -9223372036854775807 ≤ sv a0_0 := by unfold sv; split <;> omega
      have hv2 : sv a0_0 ≤ 9223372036854775807 := by unfold sv; split <;> omega
      unfold textB
      generalize sv a0_0 = v1 at *
      generalize sf a0_0 a0_1 = f1 at *
      have hn : v1.natAbs < 18446744073709551616 := by omega
      by_cases hneg : v1 < 0
      · rw [decide_eq_true hneg]
        by_cases hp : v1.natAbs % 4294967296 = 0
        · cases f1
          · exact text_100 a0_0 a0_1 v1 _ 0 w hs (of_neg v1 hneg hv1) hneg hn hp rfl
          · exact text_101 a0_0 a0_1 v1 _ 0 w hs (of_neg v1 hneg hv1) hneg hn hp rfl
        · cases f1
          · exact text_110 a0_0 a0_1 v1 _ _ w hs (of_neg v1 hneg hv1) hneg hn rfl hp
          · exact text_111 a0_0 a0_1 v1 _ _ w hs (of_neg v1 hneg hv1) hneg hn rfl hp
      · rw [decide_eq_false hneg]
        by_cases hp : v1.natAbs % 4294967296 = 0
        · cases f1
          · exact text_000 a0_0 a0_1 v1 _ 0 w hs (of_pos v1 hneg hv2) hneg hn hp rfl
          · exact text_001 a0_0 a0_1 v1 _ 0 w hs (of_pos v1 hneg hv2) hneg hn hp rfl
        · cases f1
          · exact text_010 a0_0 a0_1 v1 _ _ w hs (of_pos v1 hneg hv2) hneg hn rfl hp
          · exact text_011 a0_0 a0_1 v1 _ _ w hs (of_pos v1 hneg hv2) hneg hn rfl hp
    · rw [if_neg h2] at h
      cases h
  · rw [if_neg h1] at h
    cases h
end Go.Proofs.Ytenpiaafkmfjfaa.B
