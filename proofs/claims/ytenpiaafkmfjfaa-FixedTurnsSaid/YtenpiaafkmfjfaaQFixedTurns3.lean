/- FixedTurns: part 3 of the proof. -/
import Derived.Test.YtenpiaafkmfjfaaQFixedTurns2
import Derived.Shelf.Strings.Builder1
import Derived.Laws.AppendOwn
import Derived.Laws.CopyOwn
import Derived.Shelf.Bits.Mul64
section
set_option linter.unusedVariables false
namespace Go.Proofs.Ytenpiaafkmfjfaa.B
open Go.RowKit Go.Proofs
theorem sizeBuilder : (Try.prog.info? 96).map (·.size) = some 2 := by kernel_rfl
theorem liesBuilder : liesAt Try.prog Try.prog.depth 96 (2 / Try.prog.cellsOf 96) 0 96 1 = true := by kernel_rfl
theorem infoByte : (Try.prog.info? 5).map (fun i => (i.zero, i.size, i.bytes)) = some (some (.int .u8 0), 1, 1) := by kernel_rfl
set_option maxHeartbeats 1000000 in
set_option maxRecDepth 100000 in
theorem copyCheck_used (b : Nat) (w : World) (h0 : w.cell? ⟨b, 0, none⟩ = some (.pointer (some ⟨b, 0, none⟩))) :
    Calls Try.prog 116 #[.pointer (some ⟨b, 0, none⟩)] w fun e w' => e = .returned (.tuple #[]) ∧ w' = w := by
  obtain ⟨j, hj, _⟩ := Option.map_eq_some_iff.1 sizeBuilder
  go_enter Try.func116, Try.ntmps116
  go_wp2
  rw [Lib.run_neq_ptr_same w _ Try.underlying93 hj]
  go_wp2
  go_end0
  exact ⟨rfl, rfl⟩
set_option maxHeartbeats 1000000 in
set_option maxRecDepth 100000 in
theorem copyCheck_fresh (b : Nat) (w : World) (h0 : w.cell? ⟨b, 0, none⟩ = some (.pointer none)) (hsh : w.shape? b = some (96, 2)) (hfz : w.frozen? ⟨b, 0, none⟩ = false) :
    Calls Try.prog 116 #[.pointer (some ⟨b, 0, none⟩)] w fun e w' => e = .returned (.tuple #[]) ∧ w' = w.setCell ⟨b, 0, none⟩ (.pointer (some ⟨b, 0, none⟩)) := by
  obtain ⟨j, hj, hjs⟩ := Option.map_eq_some_iff.1 sizeBuilder
  go_enter Try.func116, Try.ntmps116
  go_wp2
  rw [Lib.run_to_unsafe w ⟨b, 0, none⟩ Try.underlying93 Try.underlying115 hj (by rw [hjs]; decide) hsh (Nat.zero_lt_succ 1)]
  simp only [Result.andThen]
  rw [Oper.upon_value]
  go_wp2
  rw [run_callFunc_extern Try.func120 (by kernel_rfl) (by kernel_rfl) (by kernel_rfl) (e := Extern.AbiNoEscape.same) (by kernel_rfl)]
  rw [Lib.run_noEscape]
  simp only [Result.andThen]
  rw [Oper.upon_value]
  go_wp2
  rw [Lib.run_from_unsafe w ⟨b, 0, none⟩ Try.underlying115 Try.underlying93 hj hsh liesBuilder]
  simp only [Result.andThen]
  rw [Oper.upon_value]
  go_wp2
  go_end0
  exact ⟨rfl, rfl⟩
theorem copyCheckK (B b : Nat) (bs : List Value) (w : World) (h : Lib.IsBuilder 96 5 B b bs w) :
    Calls Try.prog 116 #[.pointer (some ⟨b, 0, none⟩)] w fun e w' => e = .returned (.tuple #[]) ∧ (Lib.BuilderAt 96 5 B b (.pointer (some ⟨b, 0, none⟩)) bs w' ∧ Below B w w' ∧ ∀ p : Addr, p.block ≠ b → w'.cell? p = w.cell? p) := by
  rcases h with h | h
  · refine (copyCheck_fresh b w h.cell0 h.shape h.frozen0).mono ?_
    rintro e w' ⟨rfl, rfl⟩
    exact ⟨rfl, h.used _, (Below.refl B w).setCell (p := ⟨b, 0, none⟩) h.1 _, fun p hp => World.cell?_setCell_other _ _ _ _ (fun e => hp (by rw [← e]))⟩
  · refine (copyCheck_used b w h.cell0).mono ?_
    rintro e w' ⟨rfl, rfl⟩
    exact ⟨rfl, h, Below.refl B _, fun p _ => rfl⟩
theorem copyCheck (B b : Nat) (bs : List Value) (w : World) (h : Lib.IsBuilder 96 5 B b bs w) :
    Calls Try.prog 116 #[.pointer (some ⟨b, 0, none⟩)] w fun e w' => e = .returned (.tuple #[]) ∧ (Lib.BuilderAt 96 5 B b (.pointer (some ⟨b, 0, none⟩)) bs w' ∧ Below B w w') := by
  rcases h with h | h
  · refine (copyCheck_fresh b w h.cell0 h.shape h.frozen0).mono ?_
    rintro e w' ⟨rfl, rfl⟩
    exact ⟨rfl, h.used _, (Below.refl B w).setCell (p := ⟨b, 0, none⟩) h.1 _⟩
  · refine (copyCheck_used b w h.cell0).mono ?_
    rintro e w' ⟨rfl, rfl⟩
    exact ⟨rfl, h, Below.refl B _⟩
set_option maxHeartbeats 2000000 in
set_option maxRecDepth 100000 in
theorem writeByte (B b : Nat) (bs : List Value) (c : Int) (w : World) (h : Lib.IsBuilder 96 5 B b bs w) (hlen : bs.length + 1 ≤ 140737488355328) (hBw : B ≤ w.heap.size) :
    Calls Try.prog 102 #[.pointer (some ⟨b, 0, none⟩), .int .u8 c] w fun e w' => e = .returned .nilIface ∧ (Lib.BuilderAt 96 5 B b (.pointer (some ⟨b, 0, none⟩)) (bs ++ [.int .u8 c]) w' ∧ Below B w w') := by
  obtain ⟨i0, hi, hz0, hz1, hz2⟩ := info_parts infoByte
  go_enter Try.func102, Try.ntmps102
  go_wp2_with (go_at_call 116; refine (copyCheck B b bs _ h).mono ?_)
  rintro e w1 ⟨rfl, h1, hb1⟩
  obtain ⟨hB, v, hbk, hown, hne⟩ := h1
  have c0 : w1.cell? ⟨b, 0, none⟩ = some (.pointer (some ⟨b, 0, none⟩)) := by rw [Lib.cell_of_heap hbk]; rfl
  have c1 : w1.cell? ⟨b, 1, none⟩ = some v := by rw [Lib.cell_of_heap hbk]; rfl
  go_wp2_with (at_builtin; refine wpList_append_own _ rfl _ _ 94 rfl B 5 i0 (.int .u8 0) 1 1 Try.underlying94 hi hz0 hz1 hz2 rfl (by decide) _ _ _ rfl (hown.alloc _) ⟨w1.heap.size, 0, none⟩ 1 1 [.int .u8 c] rfl rfl ?c1 ?c2 ?c3 ?c4 ?c5 ?_)
  case c1 =>
    intro j u hj
    match j, hj with
    | 0, hj => simp at hj; subst hj; simp [Addr.add]
  case c2 => intro u hu; simp at hu; subst hu; rfl
  case c3 => unfold maxLen; omega
  case c4 => omega
  case c5 => have := hb1.size; simp; omega
  intro v' w2 hown' hgrow _
  have hlt : b < w1.heap.size := by
    rcases Nat.lt_or_ge b w1.heap.size with h' | h'
    · exact h'
    · simp [Array.getElem?_eq_none h'] at hbk
  have hb2 : w2.heap[b]? = some (.cells #[.pointer (some ⟨b, 0, none⟩), v] 96 (0, 0)) := by
    rw [hgrow.block b (by simp; omega) (fun e => hne e.symm), Lib.alloc_old w1 _ b hlt]
    exact hbk
  have d0 : w2.cell? ⟨b, 0, none⟩ = some (.pointer (some ⟨b, 0, none⟩)) := by rw [Lib.cell_of_heap hb2]; rfl
  have d1 : w2.cell? ⟨b, 1, none⟩ = some v := by rw [Lib.cell_of_heap hb2]; rfl
  have f1 : w2.frozen? ⟨b, 1, none⟩ = false := Lib.frozen_of_heap hb2 1
  obtain ⟨g, cap, rfl⟩ : ∃ g cap, v' = .slice (some ⟨g, 0, none⟩) (bs.length + 1) cap := by
    rcases hown'.2 with ⟨_, h0⟩ | ⟨g, cap, cur, hv, _⟩
    · omega
    · exact ⟨g, cap, hv⟩
  go_wp2
  go_ret
  refine ⟨rfl, ?_, ?_⟩
  · exact Lib.BuilderAt.put (T := 96) (e := 5) hB hb2 (bs' := bs ++ [.int .u8 c]) (by simpa using hown') (by decide)
  · exact ((hb1.alloc (by have := hb1.size; omega) _).grown hgrow (by have := hb1.size; simp; omega) (fun k hk => (hown.lt k hk).1)).setCell (p := ⟨b, 1, none⟩) hB _
set_option maxHeartbeats 2000000 in
set_option maxRecDepth 100000 in
theorem writeBytes (B b : Nat) (bs : List Value) (ad : Addr) (m c : Nat) (news : List Value) (w : World) (h : Lib.IsBuilder 96 5 B b bs w)
    (hl : news.length = m) (hnews : ∀ j u, news[j]? = some u → w.cell? (ad.add j) = some u) (hne0 : ad.block ≠ b) (h1 : ∀ u ∈ news, u.oneCell' = true)
    (hlen : bs.length + m ≤ 140737488355328) (hBw : B ≤ w.heap.size) :
    Calls Try.prog 103 #[.pointer (some ⟨b, 0, none⟩), .slice (some ad) m c] w fun e w' => e = .returned (.tuple #[.int .i64 m, .nilIface]) ∧ (Lib.BuilderAt 96 5 B b (.pointer (some ⟨b, 0, none⟩)) (bs ++ news) w' ∧ Below B w w') := by
  obtain ⟨i0, hi, hz0, hz1, hz2⟩ := info_parts infoByte
  have hadd : ∀ j, (ad.add j).block = ad.block := fun j => by unfold Addr.add; split <;> rfl
  have HN : Hid (∀ j u, news[j]? = some u → w.cell? (ad.add j) = some u) := hnews
  have HA : Hid (∀ j, (ad.add j).block = ad.block) := hadd
  clear hnews hadd
  go_enter Try.func103, Try.ntmps103
  go_wp2_with (go_at_call 116; refine (copyCheckK B b bs _ h).mono ?_)
  rintro e w1 ⟨rfl, h1', hb1, hcs⟩
  have hnews1 : Hid (∀ j u, news[j]? = some u → w1.cell? (ad.add j) = some u) := fun j u hj => by rw [hcs _ (by rw [HA.out j]; exact hne0)]; exact HN.out j u hj
  clear hcs
  obtain ⟨hB, v, hbk, hown, hne⟩ := h1'
  have c0 : w1.cell? ⟨b, 0, none⟩ = some (.pointer (some ⟨b, 0, none⟩)) := by rw [Lib.cell_of_heap hbk]; rfl
  have c1 : w1.cell? ⟨b, 1, none⟩ = some v := by rw [Lib.cell_of_heap hbk]; rfl
  go_wp2_with (at_builtin; refine wpList_append_own _ rfl _ _ 94 rfl B 5 i0 (.int .u8 0) 1 1 Try.underlying94 hi hz0 hz1 hz2 rfl (by decide) _ _ _ rfl hown ad m c news rfl (by omega) hnews1.out h1 ?c3 ?c4 ?c5 ?_)
  case c3 => unfold maxLen; omega
  case c4 => omega
  case c5 => have := hb1.size; omega
  intro v' w2 hown' hgrow _
  have hlt : b < w1.heap.size := by
    rcases Nat.lt_or_ge b w1.heap.size with h' | h'
    · exact h'
    · simp [Array.getElem?_eq_none h'] at hbk
  have hb2 : w2.heap[b]? = some (.cells #[.pointer (some ⟨b, 0, none⟩), v] 96 (0, 0)) := by
    rw [hgrow.block b hlt (fun e => hne e.symm)]
    exact hbk
  have d0 : w2.cell? ⟨b, 0, none⟩ = some (.pointer (some ⟨b, 0, none⟩)) := by rw [Lib.cell_of_heap hb2]; rfl
  have d1 : w2.cell? ⟨b, 1, none⟩ = some v := by rw [Lib.cell_of_heap hb2]; rfl
  have f1 : w2.frozen? ⟨b, 1, none⟩ = false := Lib.frozen_of_heap hb2 1
  obtain ⟨ao, n', cap, rfl⟩ : ∃ ao n' cap, v' = .slice ao n' cap := by
    rcases hown'.2 with ⟨hv, _⟩ | ⟨g, cap, cur, hv, _⟩
    · exact ⟨_, _, _, hv⟩
    · exact ⟨_, _, _, hv⟩
  go_wp2
  go_ret2
  refine ⟨rfl, ?_, ?_⟩
  · exact Lib.BuilderAt.put (T := 96) (e := 5) hB hb2 (bs' := bs ++ news) (by simpa [hl] using hown') (by decide)
  · exact (hb1.grown hgrow (by have := hb1.size; omega) (fun k hk => (hown.lt k hk).1)).setCell (p := ⟨b, 1, none⟩) hB _
end Go.Proofs.Ytenpiaafkmfjfaa.B

end
section
namespace Go.Proofs.Ytenpiaafkmfjfaa.B
open Go.Shelf Go.RowKit
def lays169_ren : Go.Shelf.Ren := ⟨fun | 169 => 105 | n => n, fun | 70 => 93 | 9 => 9 | 0 => 0 | 72 => 96 | 37 => 94 | 127 => 111 | 3 => 3 | 5 => 5 | n => n, fun | n => n⟩
theorem lays169 : Go.Proofs.Lays.n169 Try.prog lays169_ren := {
  mixed := by kernel_rfl
  f169 := Try.func105.trans (congrArg some (by kernel_rfl))
  t0 := Try.underlying0
  a0 := Try.isAgg0
  z0 := Try.sizeOf0
  v0 := Try.zeroValue0
  t3 := Try.underlying3
  a3 := Try.isAgg3
  z3 := Try.sizeOf3
  v3 := Try.zeroValue3
  t9 := Try.underlying9
  a9 := Try.isAgg9
  z9 := Try.sizeOf9
  v9 := Try.zeroValue9
  t37 := Try.underlying94
  a37 := Try.isAgg94
  z37 := Try.sizeOf94
  v37 := Try.zeroValue94
  t70 := Try.underlying93
  a70 := Try.isAgg93
  z70 := Try.sizeOf93
  v70 := Try.zeroValue93
  t72 := Try.underlying96
  a72 := Try.isAgg96
  z72 := Try.sizeOf96
  v72 := Try.zeroValue96
  t127 := Try.underlying111
  a127 := Try.isAgg111
  z127 := Try.sizeOf111
  v127 := Try.zeroValue111 }
theorem Builder_Extra_169 : Builder.Extra Try.prog lays169_ren := {
  sizeBuilder := by kernel_rfl
  liesBuilder := by kernel_rfl
  t5 := Try.underlying5
  a5 := Try.isAgg5
  z5 := Try.sizeOf5
  v5 := Try.zeroValue5
  infoByte := by kernel_rfl
  cellsByte := by kernel_rfl
  sizeByte := by kernel_rfl
  neB5 := by decide }
theorem Builder_String_any (B b : Nat) (l : List UInt8) (w : World) (h : Lib.IsBuilder 96 5 B b (Lib.byteCells l) w) (hBw : B ≤ w.heap.size) :
    Calls Try.prog 105 #[.pointer (some ⟨b, 0, none⟩)] w fun e w' => e = .returned (.string ⟨l.toArray⟩) ∧ Below B w w' := Any.Builder_String_any lays169 Builder_Extra_169 B b l w h hBw
end Go.Proofs.Ytenpiaafkmfjfaa.B

end
section
namespace Go.Proofs.Ytenpiaafkmfjfaa.B
def ninth (l : List Nat) : Prop := ∀ d ∈ l, d ≤ 9
end Go.Proofs.Ytenpiaafkmfjfaa.B

end
section
namespace Go.Proofs.Ytenpiaafkmfjfaa.B
def decA : Nat → Nat → List Nat → List Nat
  | 0, _, acc => acc
  | f + 1, n, acc => if n / 10 = 0 then n % 10 :: acc else decA f (n / 10) (n % 10 :: acc)
def decs (n : Nat) : List Nat := decA 20 n []
def fd : Nat → Nat → List Nat
  | 0, _ => []
  | k + 1, p => if p = 0 then [] else p * 10 / 4294967296 :: fd k (p * 10 % 4294967296)
def dig (d : Nat) : UInt8 := UInt8.ofNat (48 + d)
def textN (neg : Bool) (n : Nat) (f : Bool) : List UInt8 :=
  (((if neg then [45] else []) ++ (decs (n / 4294967296)).map dig) ++ (if n % 4294967296 = 0 then [] else 46 :: (fd 32 (n % 4294967296)).map dig)) ++ (if f then [33] else [])
theorem decA_nine : ∀ (f n : Nat) (acc : List Nat), ninth acc → ninth (decA f n acc)
  | 0, _, acc, h => h
  | f + 1, n, acc, h => by
    have hc : ninth (n % 10 :: acc) := by
      intro x hx
      rcases List.mem_cons.1 hx with rfl | hx
      · omega
      · exact h x hx
    rw [decA]
    split
    · exact hc
    · exact decA_nine f (n / 10) _ hc
theorem decs_nine (n : Nat) : ninth (decs n) := decA_nine 20 n [] (fun x hx => by cases hx)
theorem decA_len : ∀ (f n : Nat) (acc : List Nat), (decA f n acc).length ≤ f + acc.length
  | 0, _, acc => by simp [decA]
  | f + 1, n, acc => by
    rw [decA]
    split
    · simp; omega
    · have := decA_len f (n / 10) (n % 10 :: acc); simp at this; omega
theorem decs_len (n : Nat) : (decs n).length ≤ 20 := (by simpa using decA_len 20 n [] : (decA 20 n []).length ≤ 20)
theorem dig_toNat (d : Nat) (h : d ≤ 9) : (dig d).toNat = 48 + d := by
  unfold dig
  rw [UInt8.toNat_ofNat']
  omega
theorem fd_stable : ∀ (j p : Nat), j ≤ 32 → p < 4294967296 → 2 ^ (32 - j) ∣ p → ∀ k, j ≤ k → fd k p = fd j p
  | 0, p, _, hp, hd, k, _ => by
    have : p = 0 := by
      obtain ⟨c, rfl⟩ := hd
      simp at hp ⊢
      omega
    subst this
    cases k with
    | zero => rfl
    | succ k => simp [fd]
  | j + 1, p, hj, hp, hd, k, hk => by
    obtain ⟨k, rfl⟩ : ∃ m, k = m + 1 := ⟨k - 1, by omega⟩
    rw [fd, fd]
    by_cases h0 : p = 0
    · rw [if_pos h0, if_pos h0]
    · rw [if_neg h0, if_neg h0, fd_stable j (p * 10 % 4294967296) (by omega) (Nat.mod_lt _ (by decide)) ?_ k (by omega)]
      have e : 32 - j = (32 - (j + 1)) + 1 := by omega
      have h1 : 2 ^ (32 - j) ∣ p * 10 := by
        obtain ⟨c, rfl⟩ := hd
        refine ⟨c * 5, ?_⟩
        rw [e, Nat.pow_succ]
        simp only [Nat.mul_assoc, Nat.mul_left_comm, Nat.mul_comm]
        congr 1
        omega
      have h2 : 2 ^ (32 - j) ∣ 4294967296 := ⟨2 ^ j, by rw [← Nat.pow_add, show 32 - j + j = 32 by omega]⟩
      exact (Nat.dvd_mod_iff h2).2 h1
theorem fd_step (p : Nat) (h0 : p ≠ 0) (hp : p < 4294967296) : fd 32 p = p * 10 / 4294967296 :: fd 32 (p * 10 % 4294967296) := by
  have h := fd_stable 32 p (by omega) hp (by simp) 33 (by omega)
  rw [← h, fd, if_neg h0]
theorem fd_len : ∀ (k p : Nat), (fd k p).length ≤ k
  | 0, _ => by simp [fd]
  | k + 1, p => by
    rw [fd]
    split
    · simp
    · have := fd_len k (p * 10 % 4294967296); simp; omega
end Go.Proofs.Ytenpiaafkmfjfaa.B

end
section
namespace Go.Proofs.Ytenpiaafkmfjfaa.B
open Go.RowKit Go.Proofs.YtenpiaafkmfjfaaW.PrintWords Go.Proofs.YtenpiaafkmfjfaaW.PrintLast
def ch (d : Nat) : Value := .int .u8 ((48 + d : Nat) : Int)
def rowT (k : Nat) (acc : List Nat) : Array Value := (List.replicate (20 - k) (Value.int .u8 0) ++ acc.map ch).toArray
theorem rowT_put (k : Nat) (acc : List Nat) (d : Nat) (hk : k < 20) : (rowT k acc).setIfInBounds (19 - k) (.int .u8 ((48 + d : Nat) : Int)) = rowT (k + 1) (d :: acc) := by
  unfold rowT
  apply Array.ext'
  rw [Array.toList_setIfInBounds]
  simp only
  rw [List.set_append_left _ _ (by simp; omega), show 20 - k = (19 - k) + 1 by omega, List.replicate_succ', List.set_append_right _ _ (by simp)]
  simp [ch, show 20 - (k + 1) = 19 - k by omega]
theorem decA_go (k : Nat) (hk : k < 20) (n : Nat) (acc : List Nat) (h : ¬ n / 10 = 0) : decA (20 - k) n acc = decA (20 - (k + 1)) (n / 10) (n % 10 :: acc) := by
  rw [show 20 - k = (20 - (k + 1)) + 1 by omega, decA, if_neg h]
theorem decA_end (k : Nat) (hk : k < 20) (n : Nat) (acc : List Nat) (h : n / 10 = 0) : decA (20 - k) n acc = n % 10 :: acc := by
  rw [show 20 - k = (20 - (k + 1)) + 1 by omega, decA, if_pos h]
set_option maxRecDepth 10000 in
theorem slice110 (b y : Nat) (hy : y < 20) (W : World) : (Instr.sliceAt 110 (.pointer (some ⟨b, 0, none⟩)) (some (.int .i64 (y : Int))) none none).run Try.prog W = .ok (.slice (some ⟨b, y, none⟩) (20 - y) (20 - y)) W := by
  have h := run_sliceAt_array_l (P := Try.prog) W 110 ⟨b, 0, none⟩ (by kernel_rfl) .i64 (y : Int) (by omega) (by show (y : Int) ≤ ((20 : Nat) : Int); omega)
  rw [h]
  have e1 : (sizeOf (Try.prog.elem 110)).run Try.prog W = .ok 1 W := by kernel_rfl
  have e2 : Try.prog.arrayLen 110 = 20 := by kernel_rfl
  rw [e1, e2]
  have e3 : ¬ 20 = y := by omega
  simp [slicedAt, Addr.add, e3]
  omega
theorem rowT_drop (y : Nat) (acc : List Nat) (h : y + acc.length = 20) (j : Nat) (u : Value) (hu : (acc.map ch)[j]? = some u) : (rowT acc.length acc)[y + j]? = some u := by
  unfold rowT
  rw [List.getElem?_toArray, List.getElem?_append_right (by simp; omega), List.length_replicate, show y + j - (20 - acc.length) = j by omega]
  exact hu
theorem add_off (b o j : Nat) : (⟨b, o, none⟩ : Addr).add j = ⟨b, o + j, none⟩ := by simp [Addr.add]
theorem retS {a : Option Addr} {m n : Nat} (h : n = m) : Ending.returned (Value.slice a m m) = .returned (Value.slice a n n) := by rw [h]
theorem splice_all (k : Nat) (cs : List Value) (h : cs.length = k) : splice (madeCells #[.int .u8 0] k).toList 0 cs = cs := by
  subst h
  simp [splice, madeCells]
set_option maxHeartbeats 2000000 in
set_option maxRecDepth 100000 in
theorem decimal_calls (n : Nat) (hn : n < 18446744073709551616) (w : World) :
    Calls Try.prog 104 #[.int .u64 n] w fun e w' => ∃ g, e = .returned (.slice (some ⟨g, 0, none⟩) (decs n).length (decs n).length) ∧ w.heap.size ≤ g ∧ w'.heap[g]? = some (.cells ((decs n).map ch).toArray 5 (0, 0)) ∧ Below w.heap.size w w' := by
  generalize hD : decs n = D
  have HD : Hid (decs n = D) := hD
  clear hD
  go_enter Try.func104, Try.ntmps104
  go_wp2
  have hA : Hid (_ = some (Obj.cells (rowT 0 []) 110 (0, 0))) := blk_new w (.cells (rowT 0 []) 110 (0, 0))
  have hB : Hid (Below w.heap.size w (w.alloc (.cells (rowT 0 []) 110 (0, 0)))) := zzf (Below.refl _ _) _
  go_loopw [0, 4, 6] (fun m at_ i wr => ∃ (k y m' : Nat) (acc : List Nat), k ≤ 20 ∧ i = .int .i64 k ∧ at_ = .int .i64 y ∧ Hid (y + k = 20) ∧ m = .int .u64 m' ∧ m' < 18446744073709551616 ∧ Hid (acc.length = k) ∧ Hid (decA (20 - k) m' acc = D) ∧ Hid (wr.heap[w.heap.size]? = some (.cells (rowT k acc) 110 (0, 0))) ∧ Hid (Below w.heap.size w wr)) (fun _ _ i _ => 20 - (intOf i).toNat)
  case atStart => exact ⟨0, 20, n, [], by omega, rfl, rfl, (rfl : 20 + 0 = 20), rfl, hn, (rfl : [].length = 0), HD, hA, hB⟩
  case round =>
    clear hA hB hn HD
    obtain ⟨k, y, m, acc, hk, rfl, rfl, hy, rfl, hm, hl, hD, hA, hB⟩ := hrel
    by_cases hlt : k < 20
    · have hltB : decide ((k : Int) < 20) = true := by simp; omega
      have hyy := hy.out
      cases y with
      | zero => omega
      | succ y =>
        have hz0 := zzh hA.out y
        have hsz : y < (rowT k acc).size := by have := hl.out; simp [rowT]; omega
        have hc0 := (zzi hA.out y).trans (Array.getElem?_eq_getElem hsz)
        generalize (rowT k acc)[y]'hsz = old at hc0
        have e48 : ((48 + m % 10 : Nat) : Int) = 48 + (m : Int) % 10 := by omega
        have hA2 : Hid ((wr.setCell ⟨w.heap.size, y, none⟩ (.int .u8 (48 + (m : Int) % 10))).heap[w.heap.size]? = some (.cells (rowT (k + 1) (m % 10 :: acc)) 110 (0, 0))) := by
          obtain rfl : y = 19 - k := by omega
          rw [← e48]
          exact zzo hA.out (19 - k) _ (rowT_put k acc (m % 10) hlt)
        have hB2 : Hid (Below w.heap.size w (wr.setCell ⟨w.heap.size, y, none⟩ (.int .u8 (48 + (m : Int) % 10)))) := zze hB.out (Nat.le_refl _)
        clear e48
        have hy20 : y < 20 := by omega
        have hBs : w.heap.size ≤ wr.heap.size := hB.out.size
        clear hA hB hyy hsz
        by_cases h10 : m / 10 = 0
        · have hD2 : Hid (m % 10 :: acc = D) := by rw [← hD.out]; exact (decA_end k hlt m acc h10).symm
          have hl2 : Hid ((m % 10 :: acc).length = k + 1) := by have := hl.out; simp [Hid, this]
          have h10' : (((m : Int) / 10) == 0) = true := by simp; omega
          clear h10 hD hl
          have hmk : ∀ W, (Instr.makeSlice 94 (.int .i64 (20 - (y : Int))) (.int .i64 (20 - (y : Int)))).run Try.prog W = .ok (.slice (some ⟨W.heap.size, 0, none⟩) (k + 1) (k + 1)) (W.alloc (.cells (madeCells #[.int .u8 0] (k + 1)) 5)) := fun W => by
            have := hy.out
            rw [show (20 - (y : Int)) = ((k + 1 : Nat) : Int) by omega]
            exact run_make_row' (P := Try.prog) 94 5 (.int .u8 0) 1 Try.underlying94 info5 rfl .i64 .i64 (k + 1) (by omega) (by omega) W
          have hsl := fun W => slice110 w.heap.size y hy20 W
          obtain ⟨cs, hcs⟩ : ∃ cs, cs = (m % 10 :: acc).map ch := ⟨_, rfl⟩
          have HCS : Hid (cs = (m % 10 :: acc).map ch) := hcs
          have HDL : Hid (D.length = k + 1) := by show _ = _; rw [← hD2.out]; exact hl2.out
          have HDC : Hid (cs = D.map ch) := by show _ = _; rw [← hD2.out]; exact hcs
          have Hlen : Hid (cs.length = k + 1) := by show _ = _; rw [hcs, List.length_map]; exact hl2.out
          have Hone : Hid (∀ v ∈ cs, v.oneCell' = true) := by rw [hcs]; intro v hv; obtain ⟨d, _, rfl⟩ := List.mem_map.1 hv; rfl
          have Hsrc : Hid (∀ j v, cs[j]? = some v → (rowT (k + 1) (m % 10 :: acc))[y + j]? = some v) := by
            intro j v hj
            have h1 := hl2.out
            have h2 := hy.out
            have := rowT_drop y (m % 10 :: acc) (by omega) j v (by rw [← hcs]; exact hj)
            rwa [h1] at this
          clear hcs
          go_wp2_with (refine wpList_copy_splice rfl (.tmp 24) (.tmp 26) 94 94 rfl 5 Try.underlying94 (by kernel_rfl) (some ⟨wr.heap.size, 0, none⟩) (some ⟨w.heap.size, y, none⟩) (k + 1) (k + 1) (20 - y) (20 - y) rfl rfl wr.heap.size 0 (madeCells #[.int .u8 0] (k + 1)).toList 5 (by have := blk_new (wr.setCell ⟨w.heap.size, y, none⟩ (.int .u8 (48 + (m : Int) % 10))) (.cells (madeCells #[.int .u8 0] (k + 1)) 5); simpa using this) cs (by have h1 := Hlen.out; have h2 := hy.out; rw [h1]; show _ = min _ _; omega) (fun _ => ⟨rfl, ⟨w.heap.size, y, none⟩, rfl, fun j v hj => by rw [add_off]; exact (zzi (zzb hA2.out _) (y + j)).trans (Hsrc.out j v hj)⟩) (by rw [Hlen.out]; simp [madeCells]) Hone.out w.heap.size w (zzf hB2.out _) hBs ?_)
          intro w' hg' hb'
          have hg2 : Hid (w'.heap[wr.heap.size]? = some (.cells (D.map ch).toArray 5 (0, 0))) := by
            have := hg'.out
            rw [splice_all (k + 1) _ Hlen.out, HDC.out] at this
            exact this
          clear hg'
          go_wp2
          go_ret
          exact ⟨wr.heap.size, retS HDL.out, hBs, hg2.out, hb'⟩
        · have hD2 : Hid (decA (20 - (k + 1)) (m / 10) (m % 10 :: acc) = D) := by rw [← hD.out]; exact (decA_go k hlt m acc h10).symm
          have h10' : (((m : Int) / 10) == 0) = false := by simp; omega
          have hl2 : Hid ((m % 10 :: acc).length = k + 1) := by have := hl.out; simp [Hid, this]
          clear h10 hD hl
          go_wp2
          go_roundw
          case rel =>
            refine ⟨k + 1, y, m / 10, m % 10 :: acc, by omega, by go_num, rfl, ?_, by go_num, by omega, hl2, hD2, ?_, ?_⟩
            · have := hy.out; show _ = _; omega
            · exact hA2.out
            · exact hB2.out
          case measure => first | (simp [intOf]; done) | (simp [intOf]; omega)
    · obtain rfl : k = 20 := by omega
      obtain rfl : y = 0 := by have := hy.out; omega
      have hlt2 : decide ((20 : Int) < 20) = false := by decide
      have hBs : w.heap.size ≤ wr.heap.size := hB.out.size
      have hD2 : Hid (acc = D) := hD.out
      clear hD
      have hmk : ∀ W, (Instr.makeSlice 94 (.int .i64 20) (.int .i64 20)).run Try.prog W = .ok (.slice (some ⟨W.heap.size, 0, none⟩) 20 20) (W.alloc (.cells (madeCells #[.int .u8 0] 20) 5)) := fun W => run_make_row' (P := Try.prog) 94 5 (.int .u8 0) 1 Try.underlying94 info5 rfl .i64 .i64 20 (by omega) (by omega) W
      have hsl : ∀ W, (Instr.sliceAt 110 (.pointer (some ⟨w.heap.size, 0, none⟩)) (some (.int .i64 0)) none none).run Try.prog W = .ok (.slice (some ⟨w.heap.size, 0, none⟩) 20 20) W := fun W => slice110 w.heap.size 0 (by omega) W
      obtain ⟨cs, hcs⟩ : ∃ cs, cs = acc.map ch := ⟨_, rfl⟩
      have HDL : Hid (D.length = 20) := by show _ = _; rw [← hD2.out]; exact hl.out
      have HDC : Hid (cs = D.map ch) := by show _ = _; rw [← hD2.out]; exact hcs
      have Hlen : Hid (cs.length = 20) := by show _ = _; rw [hcs, List.length_map]; exact hl.out
      have Hone : Hid (∀ v ∈ cs, v.oneCell' = true) := by rw [hcs]; intro v hv; obtain ⟨d, _, rfl⟩ := List.mem_map.1 hv; rfl
      have Hsrc : Hid (∀ j v, cs[j]? = some v → (rowT 20 acc)[0 + j]? = some v) := by
        intro j v hj
        have h1 := hl.out
        have := rowT_drop 0 acc (by omega) j v (by rw [← hcs]; exact hj)
        rwa [h1] at this
      clear hcs
      go_wp2_with (refine wpList_copy_splice rfl (.tmp 24) (.tmp 26) 94 94 rfl 5 Try.underlying94 (by kernel_rfl) (some ⟨wr.heap.size, 0, none⟩) (some ⟨w.heap.size, 0, none⟩) 20 20 20 20 rfl rfl wr.heap.size 0 (madeCells #[.int .u8 0] 20).toList 5 (by have := blk_new wr (.cells (madeCells #[.int .u8 0] 20) 5); simpa using this) cs (by have h1 := Hlen.out; rw [h1]; rfl) (fun _ => ⟨rfl, ⟨w.heap.size, 0, none⟩, rfl, fun j v hj => by rw [add_off]; exact (zzi (zzb hA.out _) (0 + j)).trans (Hsrc.out j v hj)⟩) (by rw [Hlen.out]; simp [madeCells]) Hone.out w.heap.size w (zzf hB.out _) hBs ?_)
      intro w' hg' hb'
      have hg2 : Hid (w'.heap[wr.heap.size]? = some (.cells (D.map ch).toArray 5 (0, 0))) := by
        have := hg'.out
        rw [splice_all 20 _ Hlen.out, HDC.out] at this
        exact this
      clear hg'
      go_wp2
      go_ret
      exact ⟨wr.heap.size, retS HDL.out, hBs, hg2.out, hb'⟩
end Go.Proofs.Ytenpiaafkmfjfaa.B

end
section
namespace Go.Proofs.Ytenpiaafkmfjfaa.B
open Go.RowKit Go.Proofs.YtenpiaafkmfjfaaW.PrintWords Go.Proofs.YtenpiaafkmfjfaaW.PrintLast
def IsB (b : Nat) (l : List UInt8) (w : World) : Prop := Lib.IsBuilder 96 5 b b (Lib.byteCells l) w
theorem IsB.below {b : Nat} {l : List UInt8} {w w1 : World} (h : IsB b l w) (hb : Below w.heap.size w w1) : IsB b l w1 := by
  have k : ∀ p, Lib.BuilderAt 96 5 b b p (Lib.byteCells l) w → Lib.BuilderAt 96 5 b b p (Lib.byteCells l) w1 := by
    rintro p ⟨hB, v, hbk, hown, hne⟩
    exact ⟨hB, v, zzj hbk hb, own_move hown (fun k hk => by obtain ⟨cells, hc⟩ := own_typed hown k hk; exact hb.block k (zzr hc)), hne⟩
  rcases h with h | h
  · exact .inl (k _ h)
  · exact .inr (k _ h)
theorem IsB.lt {b : Nat} {l : List UInt8} {w : World} (h : IsB b l w) : b < w.heap.size := by
  rcases h with h | h
  · exact h.lt
  · exact h.lt
theorem isB_new (w : World) : IsB w.heap.size [] (w.alloc (.cells #[.pointer none, .slice none 0 0] 96)) := Lib.fresh_isBuilder 96 5 w
theorem writeB (b : Nat) (l : List UInt8) (c : UInt8) (ci : Int) (hc : ci = (c.toNat : Int)) (w : World) (h : IsB b l w) (hl : l.length ≤ 1000) :
    Calls Try.prog 102 #[.pointer (some ⟨b, 0, none⟩), .int .u8 ci] w fun e w' => e = .returned .nilIface ∧ IsB b (l ++ [c]) w' ∧ Below b w w' := by
  subst hc
  refine (writeByte b b _ (c.toNat : Int) w h (by rw [Lib.byteCells_length]; omega) (Nat.le_of_lt h.lt)).mono ?_
  rintro e w' ⟨rfl, h1, h2⟩
  refine ⟨rfl, .inr ?_, h2⟩
  have e : Lib.byteCells l ++ [.int .u8 (c.toNat : Int)] = Lib.byteCells (l ++ [c]) := by simp [Lib.byteCells]
  rwa [e] at h1
theorem writeL (b : Nat) (l news : List UInt8) (g m : Nat) (w : World) (h : IsB b l w) (hl : l.length ≤ 1000) (hm : news.length = m) (hm2 : m ≤ 1000)
    (hg : w.heap[g]? = some (.cells (Lib.byteCells news).toArray 5 (0, 0))) (hne : g ≠ b) :
    Calls Try.prog 103 #[.pointer (some ⟨b, 0, none⟩), .slice (some ⟨g, 0, none⟩) m m] w fun e w' => e = .returned (.tuple #[.int .i64 m, .nilIface]) ∧ IsB b (l ++ news) w' ∧ Below b w w' := by
  refine (writeBytes b b _ ⟨g, 0, none⟩ m m (Lib.byteCells news) w h (by rw [Lib.byteCells_length]; exact hm) (fun j u hj => ?_) hne ?_ (by rw [Lib.byteCells_length]; omega) (Nat.le_of_lt h.lt)).mono ?_
  · rw [add_off, Nat.zero_add]
    exact (zzi hg j).trans (by simpa using hj)
  · intro u hu
    obtain ⟨x, _, rfl⟩ := List.mem_map.1 hu
    rfl
  · rintro e w' ⟨rfl, h1, h2⟩
    refine ⟨rfl, .inr ?_, h2⟩
    have e : Lib.byteCells l ++ Lib.byteCells news = Lib.byteCells (l ++ news) := by simp [Lib.byteCells]
    rwa [e] at h1
theorem ch_bytes (l : List Nat) (h : ninth l) : l.map ch = Lib.byteCells (l.map dig) := by
  unfold Lib.byteCells
  rw [List.map_map]
  apply List.map_congr_left
  intro d hd
  unfold ch
  simp only [Function.comp]
  rw [dig_toNat d (h d hd)]
theorem and_mask (n : Nat) (hn : n < 18446744073709551616) : bits .and .u64 (n : Int) 4294967295 = ((n % 4294967296 : Nat) : Int) := by
  have h := bits_and_u64_nat n 4294967295 hn (by omega)
  have e : n &&& 4294967295 = n % 4294967296 := Nat.and_two_pow_sub_one_eq_mod n 32
  rw [e] at h
  exact h
theorem Lib_hid {p : Prop} (h : p) : Hid p := h
structure StT (w : World) (x b : Nat) (v : Int) (f : Bool) (l : List UInt8) (W : World) : Prop where
  box : W.heap[x]? = some (.cells #[.int .i64 v, .bool f] 23 (0, 0))
  isB : IsB b l W
  bel : Below w.heap.size w W
  xb : x < b
  wx : w.heap.size ≤ x
theorem StT.below {w : World} {x b : Nat} {v : Int} {f : Bool} {l : List UInt8} {W W' : World} (h : StT w x b v f l W) (hb : Below W.heap.size W W') : StT w x b v f l W' :=
  ⟨zzj h.box hb, h.isB.below hb, zzl h.bel hb, h.xb, h.wx⟩
theorem StT.last {w : World} {x b : Nat} {v : Int} {f : Bool} {l : List UInt8} {W W' : World} (h : StT w x b v f l W) (hb : Below b W W') : Below w.heap.size w W' :=
  h.bel.trans (hb.mono (Nat.le_trans h.wx (Nat.le_of_lt h.xb)))
theorem StT.write {w : World} {x b : Nat} {v : Int} {f : Bool} {l l' : List UInt8} {W W' : World} (h : StT w x b v f l W) (hB : IsB b l' W') (hb : Below b W W') : StT w x b v f l' W' :=
  ⟨(hb.block x h.xb).trans h.box, hB, h.last hb, h.xb, h.wx⟩
theorem StT.q0 {w : World} {x b : Nat} {v : Int} {f : Bool} {l : List UInt8} {W : World} (h : StT w x b v f l W) : W.cell? ⟨x, 0, none⟩ = some (.int .i64 v) := (zzi h.box 0).trans rfl
theorem StT.q1 {w : World} {x b : Nat} {v : Int} {f : Bool} {l : List UInt8} {W : World} (h : StT w x b v f l W) : W.cell? ⟨x, 1, none⟩ = some (.bool f) := (zzi h.box 1).trans rfl
theorem stT_new (w w1 : World) (v v1 : Int) (f f1 : Bool) (hbox : w1.heap[w.heap.size]? = some (.cells #[.int .i64 v, .bool f] 23 (0, 0))) (hB : Below w.heap.size w w1) :
    StT w w.heap.size w1.heap.size v1 f1 [] (((w1.setCell ⟨w.heap.size, 0, none⟩ (.int .i64 v1)).setCell ⟨w.heap.size, 1, none⟩ (.bool f1)).alloc (.cells #[.pointer none, .slice none 0 0] 96)) := by
  refine ⟨zzb (zzo (cs := #[.int .i64 v1, .bool f]) (zzo (cs := #[.int .i64 v, .bool f]) hbox 0 _ rfl) 1 _ rfl) _, ?_, zzf (zze (zze hB (Nat.le_refl _)) (Nat.le_refl _)) _, zzr hbox, Nat.le_refl _⟩
  have h := isB_new ((w1.setCell ⟨w.heap.size, 0, none⟩ (.int .i64 v1)).setCell ⟨w.heap.size, 1, none⟩ (.bool f1))
  have e : ((w1.setCell ⟨w.heap.size, 0, none⟩ (.int .i64 v1)).setCell ⟨w.heap.size, 1, none⟩ (.bool f1)).heap.size = w1.heap.size := by simp
  rw [e] at h
  exact h
theorem strB (b : Nat) (l : List UInt8) (w : World) (h : IsB b l w) :
    Calls Try.prog 105 #[.pointer (some ⟨b, 0, none⟩)] w fun e w' => e = .returned (.string ⟨l.toArray⟩) ∧ Below b w w' := Builder_String_any b b l w h (Nat.le_of_lt h.lt)
theorem retT {a b : List UInt8} (h : a = b) : Ending.returned (Value.string ⟨a.toArray⟩) = .returned (Value.string ⟨b.toArray⟩) := by rw [h]
theorem c10 (q : Nat) : ((q * 10 % 4294967296 : Nat) : Int) = (q : Int) * 10 % 4294967296 := by omega
theorem tn10 (q m : Nat) (h : q * 10 % 4294967296 = m) : ((q : Int) * 10 % 4294967296).toNat = m := by
  rw [← c10, h, Int.toNat_natCast]
theorem meas_dec (q : Nat) (h : (fd 32 q).length = (fd 32 (q * 10 % 4294967296)).length + 1) : (fd 32 ((q : Int) * 10 % 4294967296).toNat).length < (fd 32 (q : Int).toNat).length := by
  generalize hm : q * 10 % 4294967296 = m at h
  have e := tn10 q m hm
  generalize ((q : Int) * 10 % 4294967296).toNat = z at e ⊢
  subst e
  rw [Int.toNat_natCast, h]
  exact Nat.lt_succ_self _
set_option maxHeartbeats 800000 in
set_option maxRecDepth 100000 in
theorem text_000 (v : Int) (f : Bool) (v1 : Int) (n p : Nat) (w : World) (hs : fixed_sound.f v f = some (v1, false)) (hof : fixed_of.f v1 = some (false, (n : Int), 0)) (hneg : ¬ v1 < 0) (hn : n < 18446744073709551616) (hp : n % 4294967296 = p) (hp0 : p = 0) :
    Calls Try.prog 67 #[.agg #[.int .i64 v, .bool f]] w fun e w' => e = .returned (.string ⟨(textN false n false).toArray⟩) ∧ Below w.heap.size w w' := by
  have HS : Hid (fixed_sound.f v f = some (v1, false)) := hs
  have HOF : Hid (fixed_of.f v1 = some (false, (n : Int), 0)) := hof
  have hidx := idx58_0
  have hfld := fld60_1
  have HP : Hid (n % 4294967296 = p) := hp
  have hp32 : p < 4294967296 := by omega
  have HD : Hid (∀ W, Calls Try.prog 104 #[.int .u64 ((n : Int) / 4294967296)] W fun e w' => ∃ g, e = .returned (.slice (some ⟨g, 0, none⟩) (decs (n / 4294967296)).length (decs (n / 4294967296)).length) ∧ W.heap.size ≤ g ∧ w'.heap[g]? = some (.cells (Lib.byteCells ((decs (n / 4294967296)).map dig)).toArray 5 (0, 0)) ∧ Below W.heap.size W w') := fun W => by
    have h := decimal_calls (n / 4294967296) (by omega) W
    rw [show ((n / 4294967296 : Nat) : Int) = (n : Int) / 4294967296 by omega, ch_bytes _ (decs_nine _)] at h
    exact h
  have hmask : bits .and .u64 (n : Int) 4294967295 = (p : Int) := by rw [and_mask n hn, hp]
  clear hs hof hp
  subst hp0
  generalize hT : textN false n false = T
  have HT : Hid (textN false n false = T) := hT
  clear hT
  go_enter Try.func67, Try.ntmps67
  go_wp2_with fail
  refine (fixed_sound.calls v f v1 false _ HS.out).mono ?_
  rintro e w1 ⟨rfl, hb⟩
  have hbox : w1.heap[w.heap.size]? = some (.cells #[.int .i64 v, .bool f] 23 (0, 0)) := zzj (blk_new w _) hb
  have hB : Hid (Below w.heap.size w w1) := zzl (zzf (Below.refl _ _) _) hb
  have q0 : w1.cell? ⟨w.heap.size, 0, none⟩ = some (.int .i64 v) := (zzi hbox 0).trans rfl
  have q1 : w1.cell? ⟨w.heap.size, 1, none⟩ = some (.bool f) := (zzi hbox 1).trans rfl
  have z0 := zzh hbox 0
  have z1 := zzh hbox 1
  have hlt : w.heap.size < w1.heap.size := zzr hbox
  have hst : Hid (StT w w.heap.size w1.heap.size v1 false [] _) := stT_new w w1 v v1 f false hbox hB.out
  have hne1 : w.heap.size ≠ w1.heap.size := Nat.ne_of_lt hlt
  have hne2 : w1.heap.size ≠ w.heap.size := Nat.ne_of_gt hlt
  clear hbox hb hB
  go_wp2_with fail
  clear q0 q1 z0 z1
  refine (fixed_of.calls v1 false n 0 _ HOF.out).mono ?_
  rintro e w2 ⟨rfl, hb⟩
  replace hst := Lib_hid (hst.out.below hb)
  clear hb
  have q0 := hst.out.q0
  have q1 := hst.out.q1
  go_wp2_with fail
  clear q0 q1
  refine (HD.out _).mono ?_
  rintro e w3 ⟨g, rfl, hg, hgb, hb⟩
  have hgn : g ≠ w1.heap.size := by have := hst.out.isB.lt; omega
  have HGB := Lib_hid hgb
  replace hst := Lib_hid (hst.out.below hb)
  clear hb hgb hg
  have q0 := hst.out.q0
  have q1 := hst.out.q1
  go_wp2_with fail
  clear q0 q1
  have hlen := decs_len (n / 4294967296)
  refine (writeL _ _ _ g _ _ hst.out.isB (by simp) (by rw [List.length_map]) (by omega) HGB.out hgn).mono ?_
  clear HGB
  rintro e w4 ⟨rfl, hB, hb⟩
  replace hst := Lib_hid (hst.out.write hB hb)
  clear hB  hb
  have q0 := hst.out.q0
  have q1 := hst.out.q1
  go_wp2_with fail
  clear q0 q1
  refine (strB _ _ _ hst.out.isB).mono ?_
  rintro e w5 ⟨rfl, hb⟩
  have hfin := Lib_hid (hst.out.last hb)
  clear hb hst
  go_wp2
  go_ret
  exact ⟨retT (by rw [← HT.out]; simp [textN, HP.out]), hfin.out⟩
set_option maxHeartbeats 800000 in
set_option maxRecDepth 100000 in
theorem text_001 (v : Int) (f : Bool) (v1 : Int) (n p : Nat) (w : World) (hs : fixed_sound.f v f = some (v1, true)) (hof : fixed_of.f v1 = some (false, (n : Int), 0)) (hneg : ¬ v1 < 0) (hn : n < 18446744073709551616) (hp : n % 4294967296 = p) (hp0 : p = 0) :
    Calls Try.prog 67 #[.agg #[.int .i64 v, .bool f]] w fun e w' => e = .returned (.string ⟨(textN false n true).toArray⟩) ∧ Below w.heap.size w w' := by
  have HS : Hid (fixed_sound.f v f = some (v1, true)) := hs
  have HOF : Hid (fixed_of.f v1 = some (false, (n : Int), 0)) := hof
  have hidx := idx58_0
  have hfld := fld60_1
  have HP : Hid (n % 4294967296 = p) := hp
  have hp32 : p < 4294967296 := by omega
  have HD : Hid (∀ W, Calls Try.prog 104 #[.int .u64 ((n : Int) / 4294967296)] W fun e w' => ∃ g, e = .returned (.slice (some ⟨g, 0, none⟩) (decs (n / 4294967296)).length (decs (n / 4294967296)).length) ∧ W.heap.size ≤ g ∧ w'.heap[g]? = some (.cells (Lib.byteCells ((decs (n / 4294967296)).map dig)).toArray 5 (0, 0)) ∧ Below W.heap.size W w') := fun W => by
    have h := decimal_calls (n / 4294967296) (by omega) W
    rw [show ((n / 4294967296 : Nat) : Int) = (n : Int) / 4294967296 by omega, ch_bytes _ (decs_nine _)] at h
    exact h
  have hmask : bits .and .u64 (n : Int) 4294967295 = (p : Int) := by rw [and_mask n hn, hp]
  clear hs hof hp
  subst hp0
  generalize hT : textN false n true = T
  have HT : Hid (textN false n true = T) := hT
  clear hT
  go_enter Try.func67, Try.ntmps67
  go_wp2_with fail
  refine (fixed_sound.calls v f v1 true _ HS.out).mono ?_
  rintro e w1 ⟨rfl, hb⟩
  have hbox : w1.heap[w.heap.size]? = some (.cells #[.int .i64 v, .bool f] 23 (0, 0)) := zzj (blk_new w _) hb
  have hB : Hid (Below w.heap.size w w1) := zzl (zzf (Below.refl _ _) _) hb
  have q0 : w1.cell? ⟨w.heap.size, 0, none⟩ = some (.int .i64 v) := (zzi hbox 0).trans rfl
  have q1 : w1.cell? ⟨w.heap.size, 1, none⟩ = some (.bool f) := (zzi hbox 1).trans rfl
  have z0 := zzh hbox 0
  have z1 := zzh hbox 1
  have hlt : w.heap.size < w1.heap.size := zzr hbox
  have hst : Hid (StT w w.heap.size w1.heap.size v1 true [] _) := stT_new w w1 v v1 f true hbox hB.out
  have hne1 : w.heap.size ≠ w1.heap.size := Nat.ne_of_lt hlt
  have hne2 : w1.heap.size ≠ w.heap.size := Nat.ne_of_gt hlt
  clear hbox hb hB
  go_wp2_with fail
  clear q0 q1 z0 z1
  refine (fixed_of.calls v1 false n 0 _ HOF.out).mono ?_
  rintro e w2 ⟨rfl, hb⟩
  replace hst := Lib_hid (hst.out.below hb)
  clear hb
  have q0 := hst.out.q0
  have q1 := hst.out.q1
  go_wp2_with fail
  clear q0 q1
  refine (HD.out _).mono ?_
  rintro e w3 ⟨g, rfl, hg, hgb, hb⟩
  have hgn : g ≠ w1.heap.size := by have := hst.out.isB.lt; omega
  have HGB := Lib_hid hgb
  replace hst := Lib_hid (hst.out.below hb)
  clear hb hgb hg
  have q0 := hst.out.q0
  have q1 := hst.out.q1
  go_wp2_with fail
  clear q0 q1
  have hlen := decs_len (n / 4294967296)
  refine (writeL _ _ _ g _ _ hst.out.isB (by simp) (by rw [List.length_map]) (by omega) HGB.out hgn).mono ?_
  clear HGB
  rintro e w4 ⟨rfl, hB, hb⟩
  replace hst := Lib_hid (hst.out.write hB hb)
  clear hB  hb
  have q0 := hst.out.q0
  have q1 := hst.out.q1
  go_wp2_with fail
  clear q0 q1
  refine (writeB _ _ 33 _ rfl _ hst.out.isB (by simp; omega)).mono ?_
  rintro e w5 ⟨rfl, hB, hb⟩
  replace hst := Lib_hid (hst.out.write hB hb)
  clear hB hb
  have q0 := hst.out.q0
  have q1 := hst.out.q1
  go_wp2_with fail
  clear q0 q1
  refine (strB _ _ _ hst.out.isB).mono ?_
  rintro e w6 ⟨rfl, hb⟩
  have hfin := Lib_hid (hst.out.last hb)
  clear hb hst
  go_wp2
  go_ret
  exact ⟨retT (by rw [← HT.out]; simp [textN, HP.out]), hfin.out⟩
set_option maxHeartbeats 800000 in
set_option maxRecDepth 100000 in
theorem text_010 (v : Int) (f : Bool) (v1 : Int) (n p : Nat) (w : World) (hs : fixed_sound.f v f = some (v1, false)) (hof : fixed_of.f v1 = some (false, (n : Int), 0)) (hneg : ¬ v1 < 0) (hn : n < 18446744073709551616) (hp : n % 4294967296 = p) (hp0 : ¬ p = 0) :
    Calls Try.prog 67 #[.agg #[.int .i64 v, .bool f]] w fun e w' => e = .returned (.string ⟨(textN false n false).toArray⟩) ∧ Below w.heap.size w w' := by
  have HS : Hid (fixed_sound.f v f = some (v1, false)) := hs
  have HOF : Hid (fixed_of.f v1 = some (false, (n : Int), 0)) := hof
  have hidx := idx58_0
  have hfld := fld60_1
  have HP : Hid (n % 4294967296 = p) := hp
  have hp32 : p < 4294967296 := by omega
  have HD : Hid (∀ W, Calls Try.prog 104 #[.int .u64 ((n : Int) / 4294967296)] W fun e w' => ∃ g, e = .returned (.slice (some ⟨g, 0, none⟩) (decs (n / 4294967296)).length (decs (n / 4294967296)).length) ∧ W.heap.size ≤ g ∧ w'.heap[g]? = some (.cells (Lib.byteCells ((decs (n / 4294967296)).map dig)).toArray 5 (0, 0)) ∧ Below W.heap.size W w') := fun W => by
    have h := decimal_calls (n / 4294967296) (by omega) W
    rw [show ((n / 4294967296 : Nat) : Int) = (n : Int) / 4294967296 by omega, ch_bytes _ (decs_nine _)] at h
    exact h
  have hmask : bits .and .u64 (n : Int) 4294967295 = (p : Int) := by rw [and_mask n hn, hp]
  clear hs hof hp
  have hpB : ((p : Int) != 0) = true := by simp; omega
  generalize hT : textN false n false = T
  have HT : Hid (textN false n false = T) := hT
  clear hT
  go_enter Try.func67, Try.ntmps67
  go_wp2_with fail
  refine (fixed_sound.calls v f v1 false _ HS.out).mono ?_
  rintro e w1 ⟨rfl, hb⟩
  have hbox : w1.heap[w.heap.size]? = some (.cells #[.int .i64 v, .bool f] 23 (0, 0)) := zzj (blk_new w _) hb
  have hB : Hid (Below w.heap.size w w1) := zzl (zzf (Below.refl _ _) _) hb
  have q0 : w1.cell? ⟨w.heap.size, 0, none⟩ = some (.int .i64 v) := (zzi hbox 0).trans rfl
  have q1 : w1.cell? ⟨w.heap.size, 1, none⟩ = some (.bool f) := (zzi hbox 1).trans rfl
  have z0 := zzh hbox 0
  have z1 := zzh hbox 1
  have hlt : w.heap.size < w1.heap.size := zzr hbox
  have hst : Hid (StT w w.heap.size w1.heap.size v1 false [] _) := stT_new w w1 v v1 f false hbox hB.out
  have hne1 : w.heap.size ≠ w1.heap.size := Nat.ne_of_lt hlt
  have hne2 : w1.heap.size ≠ w.heap.size := Nat.ne_of_gt hlt
  clear hbox hb hB
  go_wp2_with fail
  clear q0 q1 z0 z1
  refine (fixed_of.calls v1 false n 0 _ HOF.out).mono ?_
  rintro e w2 ⟨rfl, hb⟩
  replace hst := Lib_hid (hst.out.below hb)
  clear hb
  have q0 := hst.out.q0
  have q1 := hst.out.q1
  go_wp2_with fail
  clear q0 q1
  refine (HD.out _).mono ?_
  rintro e w3 ⟨g, rfl, hg, hgb, hb⟩
  have hgn : g ≠ w1.heap.size := by have := hst.out.isB.lt; omega
  have HGB := Lib_hid hgb
  replace hst := Lib_hid (hst.out.below hb)
  clear hb hgb hg
  have q0 := hst.out.q0
  have q1 := hst.out.q1
  go_wp2_with fail
  clear q0 q1
  have hlen := decs_len (n / 4294967296)
  refine (writeL _ _ _ g _ _ hst.out.isB (by simp) (by rw [List.length_map]) (by omega) HGB.out hgn).mono ?_
  clear HGB
  rintro e w4 ⟨rfl, hB, hb⟩
  replace hst := Lib_hid (hst.out.write hB hb)
  clear hB  hb
  have q0 := hst.out.q0
  have q1 := hst.out.q1
  go_wp2_with fail
  clear q0 q1
  refine (writeB _ _ 46 _ rfl _ hst.out.isB (by simp; omega)).mono ?_
  rintro e w5 ⟨rfl, hB, hb⟩
  replace hst := Lib_hid (hst.out.write hB hb)
  clear hB hb
  have q0 := hst.out.q0
  have q1 := hst.out.q1
  go_wp2_with fail
  clear q0 q1
  obtain ⟨L, hL⟩ : ∃ L : List UInt8, L = [] ++ (decs (n / 4294967296)).map dig ++ [46] := ⟨_, rfl⟩
  have HL := Lib_hid hL
  have hst2 : Hid (StT w w.heap.size w1.heap.size v1 false (L ++ ([] : List Nat).map dig) w5) := by rw [hL]; simpa [Hid] using hst.out
  have hLl : L.length ≤ 30 := by rw [hL]; simp; omega
  clear hst hL
  go_loopw [5] (fun r wr => ∃ (q : Nat) (acc : List Nat), r = .int .u64 q ∧ q < 4294967296 ∧ Hid (acc ++ fd 32 q = fd 32 p) ∧ Hid (StT w w.heap.size w1.heap.size v1 false (L ++ acc.map dig) wr)) (fun r _ => (fd 32 (intOf r).toNat).length)
  case atStart => exact ⟨p, [], rfl, hp32, (rfl : [] ++ fd 32 p = fd 32 p), hst2⟩
  case round =>
    clear hst2
    obtain ⟨q, acc, rfl, hq, hacc, hst⟩ := hrel
    have hal : Hid (acc.length ≤ 32) := by have h1 := fd_len 32 p; rw [← hacc.out, List.length_append] at h1; show _ ≤ _; omega
    by_cases hq0 : q = 0
    · subst hq0
      have hacc2 : Hid (acc = fd 32 p) := by have := hacc.out; simpa [fd, Hid] using this
      clear hacc
      have q0 := hst.out.q0
      have q1 := hst.out.q1
      go_wp2_with fail
      clear q0 q1
      refine (strB _ _ _ hst.out.isB).mono ?_
      rintro e w6 ⟨rfl, hb⟩
      have hfin := Lib_hid (hst.out.last hb)
      clear hb hst
      go_wp2
      go_ret
      exact ⟨retT (by rw [← HT.out, hacc2.out, HL.out]; simp [textN, HP.out, hp0]), hfin.out⟩
    · have hqB : ((q : Int) != 0) = true := by simp; omega
      have hst' := fd_step q hq0 hq
      have hacc2 : Hid ((acc ++ [q * 10 / 4294967296]) ++ fd 32 (q * 10 % 4294967296) = fd 32 p) := by show _ = _; rw [← hacc.out, hst']; simp
      have hmeas : Hid ((fd 32 q).length = (fd 32 (q * 10 % 4294967296)).length + 1) := by show _ = _; rw [hst']; simp
      have hdig : Hid (48 + (q : Int) * 10 / 4294967296 = ((dig (q * 10 / 4294967296)).toNat : Int)) := by show _ = _; rw [dig_toNat _ (by omega)]; omega
      have hmask2 : bits .and .u64 ((q : Int) * 10) 4294967295 = ((q * 10 % 4294967296 : Nat) : Int) := by
        rw [show (q : Int) * 10 = ((q * 10 : Nat) : Int) by omega]; exact and_mask (q * 10) (by omega)
      have HMK := Lib_hid hmask2
      clear hst' hacc hmask hmask2
      have q0 := hst.out.q0
      have q1 := hst.out.q1
      go_wp2_with fail
      clear q0 q1
      refine (writeB _ _ (dig (q * 10 / 4294967296)) _ hdig.out _ hst.out.isB (by have h1 := hal.out; simp; omega)).mono ?_
      rintro e wz ⟨rfl, hB, hb⟩
      replace hst := Lib_hid (hst.out.write hB hb)
      clear hB hb
      have hmask2 := HMK.out
      clear HMK
      have q0 := hst.out.q0
      have q1 := hst.out.q1
      go_wp2
      go_roundw
      case rel => exact ⟨q * 10 % 4294967296, acc ++ [q * 10 / 4294967296], rfl, Nat.mod_lt _ (by decide), hacc2, (by have := hst.out; rw [List.append_assoc] at this; simpa [Hid] using this)⟩
      case measure =>
        have hmm := meas_dec q hmeas.out
        simp only [intOf]
        exact hmm
set_option maxHeartbeats 800000 in
set_option maxRecDepth 100000 in
theorem text_011 (v : Int) (f : Bool) (v1 : Int) (n p : Nat) (w : World) (hs : fixed_sound.f v f = some (v1, true)) (hof : fixed_of.f v1 = some (false, (n : Int), 0)) (hneg : ¬ v1 < 0) (hn : n < 18446744073709551616) (hp : n % 4294967296 = p) (hp0 : ¬ p = 0) :
    Calls Try.prog 67 #[.agg #[.int .i64 v, .bool f]] w fun e w' => e = .returned (.string ⟨(textN false n true).toArray⟩) ∧ Below w.heap.size w w' := by
  have HS : Hid (fixed_sound.f v f = some (v1, true)) := hs
  have HOF : Hid (fixed_of.f v1 = some (false, (n : Int), 0)) := hof
  have hidx := idx58_0
  have hfld := fld60_1
  have HP : Hid (n % 4294967296 = p) := hp
  have hp32 : p < 4294967296 := by omega
  have HD : Hid (∀ W, Calls Try.prog 104 #[.int .u64 ((n : Int) / 4294967296)] W fun e w' => ∃ g, e = .returned (.slice (some ⟨g, 0, none⟩) (decs (n / 4294967296)).length (decs (n / 4294967296)).length) ∧ W.heap.size ≤ g ∧ w'.heap[g]? = some (.cells (Lib.byteCells ((decs (n / 4294967296)).map dig)).toArray 5 (0, 0)) ∧ Below W.heap.size W w') := fun W => by
    have h := decimal_calls (n / 4294967296) (by omega) W
    rw [show ((n / 4294967296 : Nat) : Int) = (n : Int) / 4294967296 by omega, ch_bytes _ (decs_nine _)] at h
    exact h
  have hmask : bits .and .u64 (n : Int) 4294967295 = (p : Int) := by rw [and_mask n hn, hp]
  clear hs hof hp
  have hpB : ((p : Int) != 0) = true := by simp; omega
  generalize hT : textN false n true = T
  have HT : Hid (textN false n true = T) := hT
  clear hT
  go_enter Try.func67, Try.ntmps67
  go_wp2_with fail
  refine (fixed_sound.calls v f v1 true _ HS.out).mono ?_
  rintro e w1 ⟨rfl, hb⟩
  have hbox : w1.heap[w.heap.size]? = some (.cells #[.int .i64 v, .bool f] 23 (0, 0)) := zzj (blk_new w _) hb
  have hB : Hid (Below w.heap.size w w1) := zzl (zzf (Below.refl _ _) _) hb
  have q0 : w1.cell? ⟨w.heap.size, 0, none⟩ = some (.int .i64 v) := (zzi hbox 0).trans rfl
  have q1 : w1.cell? ⟨w.heap.size, 1, none⟩ = some (.bool f) := (zzi hbox 1).trans rfl
  have z0 := zzh hbox 0
  have z1 := zzh hbox 1
  have hlt : w.heap.size < w1.heap.size := zzr hbox
  have hst : Hid (StT w w.heap.size w1.heap.size v1 true [] _) := stT_new w w1 v v1 f true hbox hB.out
  have hne1 : w.heap.size ≠ w1.heap.size := Nat.ne_of_lt hlt
  have hne2 : w1.heap.size ≠ w.heap.size := Nat.ne_of_gt hlt
  clear hbox hb hB
  go_wp2_with fail
  clear q0 q1 z0 z1
  refine (fixed_of.calls v1 false n 0 _ HOF.out).mono ?_
  rintro e w2 ⟨rfl, hb⟩
  replace hst := Lib_hid (hst.out.below hb)
  clear hb
  have q0 := hst.out.q0
  have q1 := hst.out.q1
  go_wp2_with fail
  clear q0 q1
  refine (HD.out _).mono ?_
  rintro e w3 ⟨g, rfl, hg, hgb, hb⟩
  have hgn : g ≠ w1.heap.size := by have := hst.out.isB.lt; omega
  have HGB := Lib_hid hgb
  replace hst := Lib_hid (hst.out.below hb)
  clear hb hgb hg
  have q0 := hst.out.q0
  have q1 := hst.out.q1
  go_wp2_with fail
  clear q0 q1
  have hlen := decs_len (n / 4294967296)
  refine (writeL _ _ _ g _ _ hst.out.isB (by simp) (by rw [List.length_map]) (by omega) HGB.out hgn).mono ?_
  clear HGB
  rintro e w4 ⟨rfl, hB, hb⟩
  replace hst := Lib_hid (hst.out.write hB hb)
  clear hB  hb
  have q0 := hst.out.q0
  have q1 := hst.out.q1
  go_wp2_with fail
  clear q0 q1
  refine (writeB _ _ 46 _ rfl _ hst.out.isB (by simp; omega)).mono ?_
  rintro e w5 ⟨rfl, hB, hb⟩
  replace hst := Lib_hid (hst.out.write hB hb)
  clear hB hb
  have q0 := hst.out.q0
  have q1 := hst.out.q1
  go_wp2_with fail
  clear q0 q1
  obtain ⟨L, hL⟩ : ∃ L : List UInt8, L = [] ++ (decs (n / 4294967296)).map dig ++ [46] := ⟨_, rfl⟩
  have HL := Lib_hid hL
  have hst2 : Hid (StT w w.heap.size w1.heap.size v1 true (L ++ ([] : List Nat).map dig) w5) := by rw [hL]; simpa [Hid] using hst.out
  have hLl : L.length ≤ 30 := by rw [hL]; simp; omega
  clear hst hL
  go_loopw [5] (fun r wr => ∃ (q : Nat) (acc : List Nat), r = .int .u64 q ∧ q < 4294967296 ∧ Hid (acc ++ fd 32 q = fd 32 p) ∧ Hid (StT w w.heap.size w1.heap.size v1 true (L ++ acc.map dig) wr)) (fun r _ => (fd 32 (intOf r).toNat).length)
  case atStart => exact ⟨p, [], rfl, hp32, (rfl : [] ++ fd 32 p = fd 32 p), hst2⟩
  case round =>
    clear hst2
    obtain ⟨q, acc, rfl, hq, hacc, hst⟩ := hrel
    have hal : Hid (acc.length ≤ 32) := by have h1 := fd_len 32 p; rw [← hacc.out, List.length_append] at h1; show _ ≤ _; omega
    by_cases hq0 : q = 0
    · subst hq0
      have hacc2 : Hid (acc = fd 32 p) := by have := hacc.out; simpa [fd, Hid] using this
      clear hacc
      have q0 := hst.out.q0
      have q1 := hst.out.q1
      go_wp2_with fail
      clear q0 q1
      refine (writeB _ _ 33 _ rfl _ hst.out.isB (by have h1 := hal.out; simp; omega)).mono ?_
      rintro e w6 ⟨rfl, hB, hb⟩
      replace hst := Lib_hid (hst.out.write hB hb)
      clear hB hb
      have q0 := hst.out.q0
      have q1 := hst.out.q1
      go_wp2_with fail
      clear q0 q1
      refine (strB _ _ _ hst.out.isB).mono ?_
      rintro e w7 ⟨rfl, hb⟩
      have hfin := Lib_hid (hst.out.last hb)
      clear hb hst
      go_wp2
      go_ret
      exact ⟨retT (by rw [← HT.out, hacc2.out, HL.out]; simp [textN, HP.out, hp0]), hfin.out⟩
    · have hqB : ((q : Int) != 0) = true := by simp; omega
      have hst' := fd_step q hq0 hq
      have hacc2 : Hid ((acc ++ [q * 10 / 4294967296]) ++ fd 32 (q * 10 % 4294967296) = fd 32 p) := by show _ = _; rw [← hacc.out, hst']; simp
      have hmeas : Hid ((fd 32 q).length = (fd 32 (q * 10 % 4294967296)).length + 1) := by show _ = _; rw [hst']; simp
      have hdig : Hid (48 + (q : Int) * 10 / 4294967296 = ((dig (q * 10 / 4294967296)).toNat : Int)) := by show _ = _; rw [dig_toNat _ (by omega)]; omega
      have hmask2 : bits .and .u64 ((q : Int) * 10) 4294967295 = ((q * 10 % 4294967296 : Nat) : Int) := by
        rw [show (q : Int) * 10 = ((q * 10 : Nat) : Int) by omega]; exact and_mask (q * 10) (by omega)
      have HMK := Lib_hid hmask2
      clear hst' hacc hmask hmask2
      have q0 := hst.out.q0
      have q1 := hst.out.q1
      go_wp2_with fail
      clear q0 q1
      refine (writeB _ _ (dig (q * 10 / 4294967296)) _ hdig.out _ hst.out.isB (by have h1 := hal.out; simp; omega)).mono ?_
      rintro e wz ⟨rfl, hB, hb⟩
      replace hst := Lib_hid (hst.out.write hB hb)
      clear hB hb
      have hmask2 := HMK.out
      clear HMK
      have q0 := hst.out.q0
      have q1 := hst.out.q1
      go_wp2
      go_roundw
      case rel => exact ⟨q * 10 % 4294967296, acc ++ [q * 10 / 4294967296], rfl, Nat.mod_lt _ (by decide), hacc2, (by have := hst.out; rw [List.append_assoc] at this; simpa [Hid] using this)⟩
      case measure =>
        have hmm := meas_dec q hmeas.out
        simp only [intOf]
        exact hmm
set_option maxHeartbeats 800000 in
set_option maxRecDepth 100000 in
theorem text_100 (v : Int) (f : Bool) (v1 : Int) (n p : Nat) (w : World) (hs : fixed_sound.f v f = some (v1, false)) (hof : fixed_of.f v1 = some (true, (n : Int), 0)) (hneg : v1 < 0) (hn : n < 18446744073709551616) (hp : n % 4294967296 = p) (hp0 : p = 0) :
    Calls Try.prog 67 #[.agg #[.int .i64 v, .bool f]] w fun e w' => e = .returned (.string ⟨(textN true n false).toArray⟩) ∧ Below w.heap.size w w' := by
  have HS : Hid (fixed_sound.f v f = some (v1, false)) := hs
  have HOF : Hid (fixed_of.f v1 = some (true, (n : Int), 0)) := hof
  have hidx := idx58_0
  have hfld := fld60_1
  have HP : Hid (n % 4294967296 = p) := hp
  have hp32 : p < 4294967296 := by omega
  have HD : Hid (∀ W, Calls Try.prog 104 #[.int .u64 ((n : Int) / 4294967296)] W fun e w' => ∃ g, e = .returned (.slice (some ⟨g, 0, none⟩) (decs (n / 4294967296)).length (decs (n / 4294967296)).length) ∧ W.heap.size ≤ g ∧ w'.heap[g]? = some (.cells (Lib.byteCells ((decs (n / 4294967296)).map dig)).toArray 5 (0, 0)) ∧ Below W.heap.size W w') := fun W => by
    have h := decimal_calls (n / 4294967296) (by omega) W
    rw [show ((n / 4294967296 : Nat) : Int) = (n : Int) / 4294967296 by omega, ch_bytes _ (decs_nine _)] at h
    exact h
  have hmask : bits .and .u64 (n : Int) 4294967295 = (p : Int) := by rw [and_mask n hn, hp]
  clear hs hof hp
  subst hp0
  generalize hT : textN true n false = T
  have HT : Hid (textN true n false = T) := hT
  clear hT
  go_enter Try.func67, Try.ntmps67
  go_wp2_with fail
  refine (fixed_sound.calls v f v1 false _ HS.out).mono ?_
  rintro e w1 ⟨rfl, hb⟩
  have hbox : w1.heap[w.heap.size]? = some (.cells #[.int .i64 v, .bool f] 23 (0, 0)) := zzj (blk_new w _) hb
  have hB : Hid (Below w.heap.size w w1) := zzl (zzf (Below.refl _ _) _) hb
  have q0 : w1.cell? ⟨w.heap.size, 0, none⟩ = some (.int .i64 v) := (zzi hbox 0).trans rfl
  have q1 : w1.cell? ⟨w.heap.size, 1, none⟩ = some (.bool f) := (zzi hbox 1).trans rfl
  have z0 := zzh hbox 0
  have z1 := zzh hbox 1
  have hlt : w.heap.size < w1.heap.size := zzr hbox
  have hst : Hid (StT w w.heap.size w1.heap.size v1 false [] _) := stT_new w w1 v v1 f false hbox hB.out
  have hne1 : w.heap.size ≠ w1.heap.size := Nat.ne_of_lt hlt
  have hne2 : w1.heap.size ≠ w.heap.size := Nat.ne_of_gt hlt
  clear hbox hb hB
  go_wp2_with fail
  clear q0 q1 z0 z1
  refine (writeB _ _ 45 _ rfl _ hst.out.isB (by simp)).mono ?_
  rintro e w2 ⟨rfl, hB, hb⟩
  replace hst := Lib_hid (hst.out.write hB hb)
  clear hB  hb
  have q0 := hst.out.q0
  have q1 := hst.out.q1
  go_wp2_with fail
  clear q0 q1
  refine (fixed_of.calls v1 true n 0 _ HOF.out).mono ?_
  rintro e w3 ⟨rfl, hb⟩
  replace hst := Lib_hid (hst.out.below hb)
  clear hb
  have q0 := hst.out.q0
  have q1 := hst.out.q1
  go_wp2_with fail
  clear q0 q1
  refine (HD.out _).mono ?_
  rintro e w4 ⟨g, rfl, hg, hgb, hb⟩
  have hgn : g ≠ w1.heap.size := by have := hst.out.isB.lt; omega
  have HGB := Lib_hid hgb
  replace hst := Lib_hid (hst.out.below hb)
  clear hb hgb hg
  have q0 := hst.out.q0
  have q1 := hst.out.q1
  go_wp2_with fail
  clear q0 q1
  have hlen := decs_len (n / 4294967296)
  refine (writeL _ _ _ g _ _ hst.out.isB (by simp) (by rw [List.length_map]) (by omega) HGB.out hgn).mono ?_
  clear HGB
  rintro e w5 ⟨rfl, hB, hb⟩
  replace hst := Lib_hid (hst.out.write hB hb)
  clear hB  hb
  have q0 := hst.out.q0
  have q1 := hst.out.q1
  go_wp2_with fail
  clear q0 q1
  refine (strB _ _ _ hst.out.isB).mono ?_
  rintro e w6 ⟨rfl, hb⟩
  have hfin := Lib_hid (hst.out.last hb)
  clear hb hst
  go_wp2
  go_ret
  exact ⟨retT (by rw [← HT.out]; simp [textN, HP.out]), hfin.out⟩
set_option maxHeartbeats 800000 in
set_option maxRecDepth 100000 in
theorem text_101 (v : Int) (f : Bool) (v1 : Int) (n p : Nat) (w : World) (hs : fixed_sound.f v f = some (v1, true)) (hof : fixed_of.f v1 = some (true, (n : Int), 0)) (hneg : v1 < 0) (hn : n < 18446744073709551616) (hp : n % 4294967296 = p) (hp0 : p = 0) :
    Calls Try.prog 67 #[.agg #[.int .i64 v, .bool f]] w fun e w' => e = .returned (.string ⟨(textN true n true).toArray⟩) ∧ Below w.heap.size w w' := by
  have HS : Hid (fixed_sound.f v f = some (v1, true)) := hs
  have HOF : Hid (fixed_of.f v1 = some (true, (n : Int), 0)) := hof
  have hidx := idx58_0
  have hfld := fld60_1
  have HP : Hid (n % 4294967296 = p) := hp
  have hp32 : p < 4294967296 := by omega
  have HD : Hid (∀ W, Calls Try.prog 104 #[.int .u64 ((n : Int) / 4294967296)] W fun e w' => ∃ g, e = .returned (.slice (some ⟨g, 0, none⟩) (decs (n / 4294967296)).length (decs (n / 4294967296)).length) ∧ W.heap.size ≤ g ∧ w'.heap[g]? = some (.cells (Lib.byteCells ((decs (n / 4294967296)).map dig)).toArray 5 (0, 0)) ∧ Below W.heap.size W w') := fun W => by
    have h := decimal_calls (n / 4294967296) (by omega) W
    rw [show ((n / 4294967296 : Nat) : Int) = (n : Int) / 4294967296 by omega, ch_bytes _ (decs_nine _)] at h
    exact h
  have hmask : bits .and .u64 (n : Int) 4294967295 = (p : Int) := by rw [and_mask n hn, hp]
  clear hs hof hp
  subst hp0
  generalize hT : textN true n true = T
  have HT : Hid (textN true n true = T) := hT
  clear hT
  go_enter Try.func67, Try.ntmps67
  go_wp2_with fail
  refine (fixed_sound.calls v f v1 true _ HS.out).mono ?_
  rintro e w1 ⟨rfl, hb⟩
  have hbox : w1.heap[w.heap.size]? = some (.cells #[.int .i64 v, .bool f] 23 (0, 0)) := zzj (blk_new w _) hb
  have hB : Hid (Below w.heap.size w w1) := zzl (zzf (Below.refl _ _) _) hb
  have q0 : w1.cell? ⟨w.heap.size, 0, none⟩ = some (.int .i64 v) := (zzi hbox 0).trans rfl
  have q1 : w1.cell? ⟨w.heap.size, 1, none⟩ = some (.bool f) := (zzi hbox 1).trans rfl
  have z0 := zzh hbox 0
  have z1 := zzh hbox 1
  have hlt : w.heap.size < w1.heap.size := zzr hbox
  have hst : Hid (StT w w.heap.size w1.heap.size v1 true [] _) := stT_new w w1 v v1 f true hbox hB.out
  have hne1 : w.heap.size ≠ w1.heap.size := Nat.ne_of_lt hlt
  have hne2 : w1.heap.size ≠ w.heap.size := Nat.ne_of_gt hlt
  clear hbox hb hB
  go_wp2_with fail
  clear q0 q1 z0 z1
  refine (writeB _ _ 45 _ rfl _ hst.out.isB (by simp)).mono ?_
  rintro e w2 ⟨rfl, hB, hb⟩
  replace hst := Lib_hid (hst.out.write hB hb)
  clear hB  hb
  have q0 := hst.out.q0
  have q1 := hst.out.q1
  go_wp2_with fail
  clear q0 q1
  refine (fixed_of.calls v1 true n 0 _ HOF.out).mono ?_
  rintro e w3 ⟨rfl, hb⟩
  replace hst := Lib_hid (hst.out.below hb)
  clear hb
  have q0 := hst.out.q0
  have q1 := hst.out.q1
  go_wp2_with fail
  clear q0 q1
  refine (HD.out _).mono ?_
  rintro e w4 ⟨g, rfl, hg, hgb, hb⟩
  have hgn : g ≠ w1.heap.size := by have := hst.out.isB.lt; omega
  have HGB := Lib_hid hgb
  replace hst := Lib_hid (hst.out.below hb)
  clear hb hgb hg
  have q0 := hst.out.q0
  have q1 := hst.out.q1
  go_wp2_with fail
  clear q0 q1
  have hlen := decs_len (n / 4294967296)
  refine (writeL _ _ _ g _ _ hst.out.isB (by simp) (by rw [List.length_map]) (by omega) HGB.out hgn).mono ?_
  clear HGB
  rintro e w5 ⟨rfl, hB, hb⟩
  replace hst := Lib_hid (hst.out.write hB hb)
  clear hB  hb
  have q0 := hst.out.q0
  have q1 := hst.out.q1
  go_wp2_with fail
  clear q0 q1
  refine (writeB _ _ 33 _ rfl _ hst.out.isB (by simp; omega)).mono ?_
  rintro e w6 ⟨rfl, hB, hb⟩
  replace hst := Lib_hid (hst.out.write hB hb)
  clear hB hb
  have q0 := hst.out.q0
  have q1 := hst.out.q1
  go_wp2_with fail
  clear q0 q1
  refine (strB _ _ _ hst.out.isB).mono ?_
  rintro e w7 ⟨rfl, hb⟩
  have hfin := Lib_hid (hst.out.last hb)
  clear hb hst
  go_wp2
  go_ret
  exact ⟨retT (by rw [← HT.out]; simp [textN, HP.out]), hfin.out⟩
set_option maxHeartbeats 800000 in
set_option maxRecDepth 100000 in
theorem text_110 (v : Int) (f : Bool) (v1 : Int) (n p : Nat) (w : World) (hs : fixed_sound.f v f = some (v1, false)) (hof : fixed_of.f v1 = some (true, (n : Int), 0)) (hneg : v1 < 0) (hn : n < 18446744073709551616) (hp : n % 4294967296 = p) (hp0 : ¬ p = 0) :
    Calls Try.prog 67 #[.agg #[.int .i64 v, .bool f]] w fun e w' => e = .returned (.string ⟨(textN true n false).toArray⟩) ∧ Below w.heap.size w w' := by
  have HS : Hid (fixed_sound.f v f = some (v1, false)) := hs
  have HOF : Hid (fixed_of.f v1 = some (true, (n : Int), 0)) := hof
  have hidx := idx58_0
  have hfld := fld60_1
  have HP : Hid (n % 4294967296 = p) := hp
  have hp32 : p < 4294967296 := by omega
  have HD : Hid (∀ W, Calls Try.prog 104 #[.int .u64 ((n : Int) / 4294967296)] W fun e w' => ∃ g, e = .returned (.slice (some ⟨g, 0, none⟩) (decs (n / 4294967296)).length (decs (n / 4294967296)).length) ∧ W.heap.size ≤ g ∧ w'.heap[g]? = some (.cells (Lib.byteCells ((decs (n / 4294967296)).map dig)).toArray 5 (0, 0)) ∧ Below W.heap.size W w') := fun W => by
    have h := decimal_calls (n / 4294967296) (by omega) W
    rw [show ((n / 4294967296 : Nat) : Int) = (n : Int) / 4294967296 by omega, ch_bytes _ (decs_nine _)] at h
    exact h
  have hmask : bits .and .u64 (n : Int) 4294967295 = (p : Int) := by rw [and_mask n hn, hp]
  clear hs hof hp
  have hpB : ((p : Int) != 0) = true := by simp; omega
  generalize hT : textN true n false = T
  have HT : Hid (textN true n false = T) := hT
  clear hT
  go_enter Try.func67, Try.ntmps67
  go_wp2_with fail
  refine (fixed_sound.calls v f v1 false _ HS.out).mono ?_
  rintro e w1 ⟨rfl, hb⟩
  have hbox : w1.heap[w.heap.size]? = some (.cells #[.int .i64 v, .bool f] 23 (0, 0)) := zzj (blk_new w _) hb
  have hB : Hid (Below w.heap.size w w1) := zzl (zzf (Below.refl _ _) _) hb
  have q0 : w1.cell? ⟨w.heap.size, 0, none⟩ = some (.int .i64 v) := (zzi hbox 0).trans rfl
  have q1 : w1.cell? ⟨w.heap.size, 1, none⟩ = some (.bool f) := (zzi hbox 1).trans rfl
  have z0 := zzh hbox 0
  have z1 := zzh hbox 1
  have hlt : w.heap.size < w1.heap.size := zzr hbox
  have hst : Hid (StT w w.heap.size w1.heap.size v1 false [] _) := stT_new w w1 v v1 f false hbox hB.out
  have hne1 : w.heap.size ≠ w1.heap.size := Nat.ne_of_lt hlt
  have hne2 : w1.heap.size ≠ w.heap.size := Nat.ne_of_gt hlt
  clear hbox hb hB
  go_wp2_with fail
  clear q0 q1 z0 z1
  refine (writeB _ _ 45 _ rfl _ hst.out.isB (by simp)).mono ?_
  rintro e w2 ⟨rfl, hB, hb⟩
  replace hst := Lib_hid (hst.out.write hB hb)
  clear hB  hb
  have q0 := hst.out.q0
  have q1 := hst.out.q1
  go_wp2_with fail
  clear q0 q1
  refine (fixed_of.calls v1 true n 0 _ HOF.out).mono ?_
  rintro e w3 ⟨rfl, hb⟩
  replace hst := Lib_hid (hst.out.below hb)
  clear hb
  have q0 := hst.out.q0
  have q1 := hst.out.q1
  go_wp2_with fail
  clear q0 q1
  refine (HD.out _).mono ?_
  rintro e w4 ⟨g, rfl, hg, hgb, hb⟩
  have hgn : g ≠ w1.heap.size := by have := hst.out.isB.lt; omega
  have HGB := Lib_hid hgb
  replace hst := Lib_hid (hst.out.below hb)
  clear hb hgb hg
  have q0 := hst.out.q0
  have q1 := hst.out.q1
  go_wp2_with fail
  clear q0 q1
  have hlen := decs_len (n / 4294967296)
  refine (writeL _ _ _ g _ _ hst.out.isB (by simp) (by rw [List.length_map]) (by omega) HGB.out hgn).mono ?_
  clear HGB
  rintro e w5 ⟨rfl, hB, hb⟩
  replace hst := Lib_hid (hst.out.write hB hb)
  clear hB  hb
  have q0 := hst.out.q0
  have q1 := hst.out.q1
  go_wp2_with fail
  clear q0 q1
  refine (writeB _ _ 46 _ rfl _ hst.out.isB (by simp; omega)).mono ?_
  rintro e w6 ⟨rfl, hB, hb⟩
  replace hst := Lib_hid (hst.out.write hB hb)
  clear hB hb
  have q0 := hst.out.q0
  have q1 := hst.out.q1
  go_wp2_with fail
  clear q0 q1
  obtain ⟨L, hL⟩ : ∃ L : List UInt8, L = ([] ++ [45]) ++ (decs (n / 4294967296)).map dig ++ [46] := ⟨_, rfl⟩
  have HL := Lib_hid hL
  have hst2 : Hid (StT w w.heap.size w1.heap.size v1 false (L ++ ([] : List Nat).map dig) w6) := by rw [hL]; simpa [Hid] using hst.out
  have hLl : L.length ≤ 30 := by rw [hL]; simp; omega
  clear hst hL
  go_loopw [5] (fun r wr => ∃ (q : Nat) (acc : List Nat), r = .int .u64 q ∧ q < 4294967296 ∧ Hid (acc ++ fd 32 q = fd 32 p) ∧ Hid (StT w w.heap.size w1.heap.size v1 false (L ++ acc.map dig) wr)) (fun r _ => (fd 32 (intOf r).toNat).length)
  case atStart => exact ⟨p, [], rfl, hp32, (rfl : [] ++ fd 32 p = fd 32 p), hst2⟩
  case round =>
    clear hst2
    obtain ⟨q, acc, rfl, hq, hacc, hst⟩ := hrel
    have hal : Hid (acc.length ≤ 32) := by have h1 := fd_len 32 p; rw [← hacc.out, List.length_append] at h1; show _ ≤ _; omega
    by_cases hq0 : q = 0
    · subst hq0
      have hacc2 : Hid (acc = fd 32 p) := by have := hacc.out; simpa [fd, Hid] using this
      clear hacc
      have q0 := hst.out.q0
      have q1 := hst.out.q1
      go_wp2_with fail
      clear q0 q1
      refine (strB _ _ _ hst.out.isB).mono ?_
      rintro e w7 ⟨rfl, hb⟩
      have hfin := Lib_hid (hst.out.last hb)
      clear hb hst
      go_wp2
      go_ret
      exact ⟨retT (by rw [← HT.out, hacc2.out, HL.out]; simp [textN, HP.out, hp0]), hfin.out⟩
    · have hqB : ((q : Int) != 0) = true := by simp; omega
      have hst' := fd_step q hq0 hq
      have hacc2 : Hid ((acc ++ [q * 10 / 4294967296]) ++ fd 32 (q * 10 % 4294967296) = fd 32 p) := by show _ = _; rw [← hacc.out, hst']; simp
      have hmeas : Hid ((fd 32 q).length = (fd 32 (q * 10 % 4294967296)).length + 1) := by show _ = _; rw [hst']; simp
      have hdig : Hid (48 + (q : Int) * 10 / 4294967296 = ((dig (q * 10 / 4294967296)).toNat : Int)) := by show _ = _; rw [dig_toNat _ (by omega)]; omega
      have hmask2 : bits .and .u64 ((q : Int) * 10) 4294967295 = ((q * 10 % 4294967296 : Nat) : Int) := by
        rw [show (q : Int) * 10 = ((q * 10 : Nat) : Int) by omega]; exact and_mask (q * 10) (by omega)
      have HMK := Lib_hid hmask2
      clear hst' hacc hmask hmask2
      have q0 := hst.out.q0
      have q1 := hst.out.q1
      go_wp2_with fail
      clear q0 q1
      refine (writeB _ _ (dig (q * 10 / 4294967296)) _ hdig.out _ hst.out.isB (by have h1 := hal.out; simp; omega)).mono ?_
      rintro e wz ⟨rfl, hB, hb⟩
      replace hst := Lib_hid (hst.out.write hB hb)
      clear hB hb
      have hmask2 := HMK.out
      clear HMK
      have q0 := hst.out.q0
      have q1 := hst.out.q1
      go_wp2
      go_roundw
      case rel => exact ⟨q * 10 % 4294967296, acc ++ [q * 10 / 4294967296], rfl, Nat.mod_lt _ (by decide), hacc2, (by have := hst.out; rw [List.append_assoc] at this; simpa [Hid] using this)⟩
      case measure =>
        have hmm := meas_dec q hmeas.out
        simp only [intOf]
        exact hmm
set_option maxHeartbeats 800000 in
set_option maxRecDepth 100000 in
theorem text_111 (v : Int) (f : Bool) (v1 : Int) (n p : Nat) (w : World) (hs : fixed_sound.f v f = some (v1, true)) (hof : fixed_of.f v1 = some (true, (n : Int), 0)) (hneg : v1 < 0) (hn : n < 18446744073709551616) (hp : n % 4294967296 = p) (hp0 : ¬ p = 0) :
    Calls Try.prog 67 #[.agg #[.int .i64 v, .bool f]] w fun e w' => e = .returned (.string ⟨(textN true n true).toArray⟩) ∧ Below w.heap.size w w' := by
  have HS : Hid (fixed_sound.f v f = some (v1, true)) := hs
  have HOF : Hid (fixed_of.f v1 = some (true, (n : Int), 0)) := hof
  have hidx := idx58_0
  have hfld := fld60_1
  have HP : Hid (n % 4294967296 = p) := hp
  have hp32 : p < 4294967296 := by omega
  have HD : Hid (∀ W, Calls Try.prog 104 #[.int .u64 ((n : Int) / 4294967296)] W fun e w' => ∃ g, e = .returned (.slice (some ⟨g, 0, none⟩) (decs (n / 4294967296)).length (decs (n / 4294967296)).length) ∧ W.heap.size ≤ g ∧ w'.heap[g]? = some (.cells (Lib.byteCells ((decs (n / 4294967296)).map dig)).toArray 5 (0, 0)) ∧ Below W.heap.size W w') := fun W => by
    have h := decimal_calls (n / 4294967296) (by omega) W
    rw [show ((n / 4294967296 : Nat) : Int) = (n : Int) / 4294967296 by omega, ch_bytes _ (decs_nine _)] at h
    exact h
  have hmask : bits .and .u64 (n : Int) 4294967295 = (p : Int) := by rw [and_mask n hn, hp]
  clear hs hof hp
  have hpB : ((p : Int) != 0) = true := by simp; omega
  generalize hT : textN true n true = T
  have HT : Hid (textN true n true = T) := hT
  clear hT
  go_enter Try.func67, Try.ntmps67
  go_wp2_with fail
  refine (fixed_sound.calls v f v1 true _ HS.out).mono ?_
  rintro e w1 ⟨rfl, hb⟩
  have hbox : w1.heap[w.heap.size]? = some (.cells #[.int .i64 v, .bool f] 23 (0, 0)) := zzj (blk_new w _) hb
  have hB : Hid (Below w.heap.size w w1) := zzl (zzf (Below.refl _ _) _) hb
  have q0 : w1.cell? ⟨w.heap.size, 0, none⟩ = some (.int .i64 v) := (zzi hbox 0).trans rfl
  have q1 : w1.cell? ⟨w.heap.size, 1, none⟩ = some (.bool f) := (zzi hbox 1).trans rfl
  have z0 := zzh hbox 0
  have z1 := zzh hbox 1
  have hlt : w.heap.size < w1.heap.size := zzr hbox
  have hst : Hid (StT w w.heap.size w1.heap.size v1 true [] _) := stT_new w w1 v v1 f true hbox hB.out
  have hne1 : w.heap.size ≠ w1.heap.size := Nat.ne_of_lt hlt
  have hne2 : w1.heap.size ≠ w.heap.size := Nat.ne_of_gt hlt
  clear hbox hb hB
  go_wp2_with fail
  clear q0 q1 z0 z1
  refine (writeB _ _ 45 _ rfl _ hst.out.isB (by simp)).mono ?_
  rintro e w2 ⟨rfl, hB, hb⟩
  replace hst := Lib_hid (hst.out.write hB hb)
  clear hB  hb
  have q0 := hst.out.q0
  have q1 := hst.out.q1
  go_wp2_with fail
  clear q0 q1
  refine (fixed_of.calls v1 true n 0 _ HOF.out).mono ?_
  rintro e w3 ⟨rfl, hb⟩
  replace hst := Lib_hid (hst.out.below hb)
  clear hb
  have q0 := hst.out.q0
  have q1 := hst.out.q1
  go_wp2_with fail
  clear q0 q1
  refine (HD.out _).mono ?_
  rintro e w4 ⟨g, rfl, hg, hgb, hb⟩
  have hgn : g ≠ w1.heap.size := by have := hst.out.isB.lt; omega
  have HGB := Lib_hid hgb
  replace hst := Lib_hid (hst.out.below hb)
  clear hb hgb hg
  have q0 := hst.out.q0
  have q1 := hst.out.q1
  go_wp2_with fail
  clear q0 q1
  have hlen := decs_len (n / 4294967296)
  refine (writeL _ _ _ g _ _ hst.out.isB (by simp) (by rw [List.length_map]) (by omega) HGB.out hgn).mono ?_
  clear HGB
  rintro e w5 ⟨rfl, hB, hb⟩
  replace hst := Lib_hid (hst.out.write hB hb)
  clear hB  hb
  have q0 := hst.out.q0
  have q1 := hst.out.q1
  go_wp2_with fail
  clear q0 q1
  refine (writeB _ _ 46 _ rfl _ hst.out.isB (by simp; omega)).mono ?_
  rintro e w6 ⟨rfl, hB, hb⟩
  replace hst := Lib_hid (hst.out.write hB hb)
  clear hB hb
  have q0 := hst.out.q0
  have q1 := hst.out.q1
  go_wp2_with fail
  clear q0 q1
  obtain ⟨L, hL⟩ : ∃ L : List UInt8, L = ([] ++ [45]) ++ (decs (n / 4294967296)).map dig ++ [46] := ⟨_, rfl⟩
  have HL := Lib_hid hL
  have hst2 : Hid (StT w w.heap.size w1.heap.size v1 true (L ++ ([] : List Nat).map dig) w6) := by rw [hL]; simpa [Hid] using hst.out
  have hLl : L.length ≤ 30 := by rw [hL]; simp; omega
  clear hst hL
  go_loopw [5] (fun r wr => ∃ (q : Nat) (acc : List Nat), r = .int .u64 q ∧ q < 4294967296 ∧ Hid (acc ++ fd 32 q = fd 32 p) ∧ Hid (StT w w.heap.size w1.heap.size v1 true (L ++ acc.map dig) wr)) (fun r _ => (fd 32 (intOf r).toNat).length)
  case atStart => exact ⟨p, [], rfl, hp32, (rfl : [] ++ fd 32 p = fd 32 p), hst2⟩
  case round =>
    clear hst2
    obtain ⟨q, acc, rfl, hq, hacc, hst⟩ := hrel
    have hal : Hid (acc.length ≤ 32) := by have h1 := fd_len 32 p; rw [← hacc.out, List.length_append] at h1; show _ ≤ _; omega
    by_cases hq0 : q = 0
    · subst hq0
      have hacc2 : Hid (acc = fd 32 p) := by have := hacc.out; simpa [fd, Hid] using this
      clear hacc
      have q0 := hst.out.q0
      have q1 := hst.out.q1
      go_wp2_with fail
      clear q0 q1
      refine (writeB _ _ 33 _ rfl _ hst.out.isB (by have h1 := hal.out; simp; omega)).mono ?_
      rintro e w7 ⟨rfl, hB, hb⟩
      replace hst := Lib_hid (hst.out.write hB hb)
      clear hB hb
      have q0 := hst.out.q0
      have q1 := hst.out.q1
      go_wp2_with fail
      clear q0 q1
      refine (strB _ _ _ hst.out.isB).mono ?_
      rintro e w8 ⟨rfl, hb⟩
      have hfin := Lib_hid (hst.out.last hb)
      clear hb hst
      go_wp2
      go_ret
      exact ⟨retT (by rw [← HT.out, hacc2.out, HL.out]; simp [textN, HP.out, hp0]), hfin.out⟩
    · have hqB : ((q : Int) != 0) = true := by simp; omega
      have hst' := fd_step q hq0 hq
      have hacc2 : Hid ((acc ++ [q * 10 / 4294967296]) ++ fd 32 (q * 10 % 4294967296) = fd 32 p) := by show _ = _; rw [← hacc.out, hst']; simp
      have hmeas : Hid ((fd 32 q).length = (fd 32 (q * 10 % 4294967296)).length + 1) := by show _ = _; rw [hst']; simp
      have hdig : Hid (48 + (q : Int) * 10 / 4294967296 = ((dig (q * 10 / 4294967296)).toNat : Int)) := by show _ = _; rw [dig_toNat _ (by omega)]; omega
      have hmask2 : bits .and .u64 ((q : Int) * 10) 4294967295 = ((q * 10 % 4294967296 : Nat) : Int) := by
        rw [show (q : Int) * 10 = ((q * 10 : Nat) : Int) by omega]; exact and_mask (q * 10) (by omega)
      have HMK := Lib_hid hmask2
      clear hst' hacc hmask hmask2
      have q0 := hst.out.q0
      have q1 := hst.out.q1
      go_wp2_with fail
      clear q0 q1
      refine (writeB _ _ (dig (q * 10 / 4294967296)) _ hdig.out _ hst.out.isB (by have h1 := hal.out; simp; omega)).mono ?_
      rintro e wz ⟨rfl, hB, hb⟩
      replace hst := Lib_hid (hst.out.write hB hb)
      clear hB hb
      have hmask2 := HMK.out
      clear HMK
      have q0 := hst.out.q0
      have q1 := hst.out.q1
      go_wp2
      go_roundw
      case rel => exact ⟨q * 10 % 4294967296, acc ++ [q * 10 / 4294967296], rfl, Nat.mod_lt _ (by decide), hacc2, (by have := hst.out; rw [List.append_assoc] at this; simpa [Hid] using this)⟩
      case measure =>
        have hmm := meas_dec q hmeas.out
        simp only [intOf]
        exact hmm
def textB (v : Int) (f : Bool) : List UInt8 := textN (decide (sv v < 0)) (sv v).natAbs (sf v f)
def fixed_Text.f (a0_0 : Int) (a0_1 : Bool) : Option ByteArray := if -9223372036854775808 ≤ a0_0 then (if a0_0 ≤ 9223372036854775807 then some ⟨(textB a0_0 a0_1).toArray⟩ else none) else none
theorem of_neg (v : Int) (h1 : v < 0) (h2 : -9223372036854775807 ≤ v) : fixed_of.f v = some (true, (v.natAbs : Int), 0) := by
  unfold fixed_of.f
  rw [if_pos h1]
  congr 2
  simp only [Prod.mk.injEq, and_true]
  rw [IntKind.wrap_u64, IntKind.wrap_u64]
  omega
theorem of_pos (v : Int) (h1 : ¬ v < 0) (h2 : v ≤ 9223372036854775807) : fixed_of.f v = some (false, (v.natAbs : Int), 0) := by
  unfold fixed_of.f
  rw [if_neg h1]
  congr 2
  simp only [Prod.mk.injEq, and_true]
  rw [IntKind.wrap_u64]
  omega
theorem fixed_Text.calls (a0_0 : Int) (a0_1 : Bool) (r : ByteArray) (w : World) (h : fixed_Text.f a0_0 a0_1 = some r) :
    Calls Try.prog 67 #[.agg #[.int .i64 a0_0, .bool a0_1]] w fun e w' => e = .returned (.string r) ∧ Below w.heap.size w w' := by
  unfold fixed_Text.f at h
  by_cases h1 : -9223372036854775808 ≤ a0_0
  · rw [if_pos h1] at h
    by_cases h2 : a0_0 ≤ 9223372036854775807
    · rw [if_pos h2] at h
      obtain rfl := Option.some.inj h
      have hs := sound_f a0_0 a0_1
      have hv1 : -9223372036854775807 ≤ sv a0_0 := by unfold sv; split <;> omega
      have hv2 : sv a0_0 ≤ 9223372036854775807 := by unfold sv; split <;> omega
      unfold textB
      generalize sv a0_0 = v1 at *
      generalize sf a0_0 a0_1 = f1 at *
      have hn : v1.natAbs < 18446744073709551616 := by omega
      by_cases hneg : v1 < 0
      · rw [decide_eq_true hneg]
        by_cases hp : v1.natAbs % 4294967296 = 0
        · cases f1
          · exact text_100 a0_0 a0_1 v1 _ 0 w hs (of_neg v1 hneg hv1) hneg hn hp rfl
          · exact text_101 a0_0 a0_1 v1 _ 0 w hs (of_neg v1 hneg hv1) hneg hn hp rfl
        · cases f1
          · exact text_110 a0_0 a0_1 v1 _ _ w hs (of_neg v1 hneg hv1) hneg hn rfl hp
          · exact text_111 a0_0 a0_1 v1 _ _ w hs (of_neg v1 hneg hv1) hneg hn rfl hp
      · rw [decide_eq_false hneg]
        by_cases hp : v1.natAbs % 4294967296 = 0
        · cases f1
          · exact text_000 a0_0 a0_1 v1 _ 0 w hs (of_pos v1 hneg hv2) hneg hn hp rfl
          · exact text_001 a0_0 a0_1 v1 _ 0 w hs (of_pos v1 hneg hv2) hneg hn hp rfl
        · cases f1
          · exact text_010 a0_0 a0_1 v1 _ _ w hs (of_pos v1 hneg hv2) hneg hn rfl hp
          · exact text_011 a0_0 a0_1 v1 _ _ w hs (of_pos v1 hneg hv2) hneg hn rfl hp
    · rw [if_neg h2] at h
      cases h
  · rw [if_neg h1] at h
    cases h
end Go.Proofs.Ytenpiaafkmfjfaa.B

end
section
namespace Go.Proofs.Ytenpiaafkmfjfaa.B
open Go.RowKit Go.Proofs.YtenpiaafkmfjfaaW.PrintWords Go.Proofs.YtenpiaafkmfjfaaW.PrintLast
set_option linter.unusedVariables false
set_option linter.unusedSimpArgs false
attribute [local go_sem high] eqA23
def l_awake.f (k : Nat)  : Option (Bool) := (fixed_Int.f k 3).bind fun bt201 => (if (bt201.1 == 12884901888 && (!bt201.2)) = true then ((fixed_Ratio.f k (-1) 2).bind fun bt203 => ((fixed_Text.f bt203.1 bt203.2).bind fun t205 => (if t205.toList = ([45, 48, 46, 53] : List UInt8) then ((fixed_Order.f k (-2) 3 1 1).bind fun t206 => (some (t206 == (-1)))) else (none)))) else (none))
set_option maxHeartbeats 8000000 in
set_option maxRecDepth 100000 in
theorem l_awake.calls (k : Nat)  (r : Bool) (w : World) (h : l_awake.f k  = some r) :
    Calls Try.prog 23 #[] w fun e w' => e = .returned (.bool r) ∧ Below w.heap.size w w' := by
  have hu23 := Try.underlying23
  have HB := Aside0.mk (Below.refl w.heap.size w)
  have H : ((fixed_Int.f k 3).bind fun bt201 => (if (bt201.1 == 12884901888 && (!bt201.2)) = true then ((fixed_Ratio.f k (-1) 2).bind fun bt203 => ((fixed_Text.f bt203.1 bt203.2).bind fun t205 => (if t205.toList = ([45, 48, 46, 53] : List UInt8) then ((fixed_Order.f k (-2) 3 1 1).bind fun t206 => (some (t206 == (-1)))) else (none)))) else (none))) = some r := h
  clear h
  replace H := Option.bind_eq_some_iff.mp H
  obtain ⟨⟨t201, t202⟩, A10, H⟩ := H
  replace H : (if (t201 == 12884901888 && (!t202)) = true then ((fixed_Ratio.f k (-1) 2).bind fun bt203 => ((fixed_Text.f bt203.1 bt203.2).bind fun t205 => (if t205.toList = ([45, 48, 46, 53] : List UInt8) then ((fixed_Order.f k (-2) 3 1 1).bind fun t206 => (some (t206 == (-1)))) else (none)))) else (none)) = some r := H
  have A1 := Aside0.mk A10
  clear A10
  by_cases c2 : (t201 == 12884901888 && (!t202)) = true
  · rw [if_pos c2] at H
    have c2b0 : (t201 == 12884901888 && (!t202)) = true := c2
    (try (have c2b1 : decide (t201 = 12884901888 && (!t202)) = true := by simpa using c2))
    (try (have c2b2 : (t201 == 12884901888 && (!t202)) = true := by simpa using c2))
    clear c2
    replace H := Option.bind_eq_some_iff.mp H
    obtain ⟨⟨t203, t204⟩, A30, H⟩ := H
    replace H : ((fixed_Text.f t203 t204).bind fun t205 => (if t205.toList = ([45, 48, 46, 53] : List UInt8) then ((fixed_Order.f k (-2) 3 1 1).bind fun t206 => (some (t206 == (-1)))) else (none))) = some r := H
    have A3 := Aside0.mk A30
    clear A30
    replace H := Option.bind_eq_some_iff.mp H
    obtain ⟨t205, A40, H⟩ := H
    replace H : (if t205.toList = ([45, 48, 46, 53] : List UInt8) then ((fixed_Order.f k (-2) 3 1 1).bind fun t206 => (some (t206 == (-1)))) else (none)) = some r := H
    have A4 := Aside0.mk A40
    clear A40
    by_cases c5 : t205.toList = ([45, 48, 46, 53] : List UInt8)
    · rw [if_pos c5] at H
      have c5b0 : (t205.toList == ([45, 48, 46, 53] : List UInt8)) = true := beq_iff_eq.mpr c5
      have c5b1 : (t205.toList != ([45, 48, 46, 53] : List UInt8)) = false := bne_eq_false_iff_eq.mpr c5
      clear c5
      replace H := Option.bind_eq_some_iff.mp H
      obtain ⟨t206, A60, H⟩ := H
      replace H : (some (t206 == (-1))) = some r := H
      have A6 := Aside0.mk A60
      clear A60
      obtain rfl := Option.some.inj H
      go_enter Try.func23, Try.ntmps23
      go_wp2_with (first | ((with_reducible refine zzq (f := 49) rfl ?_); refine goesL_ (some 1) rfl rfl Try.func49 (by kernel_rfl) rfl #[.int .i64 3] rfl (by (try simp only [List.map_toArray, List.map_cons, List.map_nil]); first | done | rfl | (simp only [List.length_drop, List.length_take]; rfl)) ?_; (with_reducible refine (fixed_Int.calls k 3 t201 t202 _ A1.out).mono ?_); rintro e w7 ⟨rfl, hb⟩; refine ⟨_, rfl, ?_⟩; have n0_ := Aside0.mk (zzl (by repeat (first | (with_reducible first | exact HB.out | apply zzf | apply zza | apply zzg) | exact HB.out)) hb); clear HB; have HB := n0_; clear n0_; (try clear hi)) | (go_at_call 50; (with_reducible refine (fixed_Ratio.calls k (-1) 2 t203 t204 _ A3.out).mono ?_); rintro e w8 ⟨rfl, hb⟩; have n0_ := Aside0.mk (zzl (by repeat (first | (with_reducible first | exact HB.out | apply zzf | apply zza | apply zzg) | exact HB.out)) hb); clear HB; have HB := n0_; clear n0_; (try clear hi)) | (go_at_call 67; (with_reducible refine (fixed_Text.calls t203 t204 t205 _ A4.out).mono ?_); rintro e w9 ⟨rfl, hb⟩; have n0_ := Aside0.mk (zzl (by repeat (first | (with_reducible first | exact HB.out | apply zzf | apply zza | apply zzg) | exact HB.out)) hb); clear HB; have HB := n0_; clear n0_; (try clear hi)) | (go_at_call 21; (with_reducible refine (fixed_Order.calls k (-2) 3 1 1 t206 _ A6.out).mono ?_); rintro e w10 ⟨rfl, hb⟩; have n0_ := Aside0.mk (zzl (by repeat (first | (with_reducible first | exact HB.out | apply zzf | apply zza | apply zzg) | exact HB.out)) hb); clear HB; have HB := n0_; clear n0_; (try clear hi)))
      go_ret
      exact ⟨by first | rfl | (simp [zzn, zzm] <;> rfl) | (simp [*, zzn, zzm] <;> rfl), by repeat (first | (with_reducible first | exact HB.out | apply zzf | apply zza | apply zzg) | exact HB.out)⟩
    · rw [if_neg c5] at H
      exact absurd H (by simp)
  · rw [if_neg c2] at H
    exact absurd H (by simp)
def fixed_Sum.l0 : Nat → Bool → List Int → Int → Int → Bool → Int → Int → Option (Int × Bool)
  | 0, _, _, _, _, _, _, _ => none
  | k + 1, x4, x13, x14, x15, x213000, x213001, x213002 => if x15 < x14 then (if 0 ≤ x15 then (if x15 < (x13.length : Int) then ((fixed_of.f (rd x13 x15)).bind fun bt214 => ((fixed_exact_plus.f k x213000 x213001 x213002 bt214.1 bt214.2.1 bt214.2.2).bind fun bt217 => (fixed_Sum.l0 k x4 x13 x14 (wrap64 (x15 + 1)) bt217.1 bt217.2.1 bt217.2.2))) else (none)) else (none)) else ((fixed_exact_fit.f k x213000 x213001 x213002 x4).bind fun bt220 => (some (bt220.1, bt220.2)))
def fixed_Sum.f (k : Nat) (l0 : List (S23)) : Option (Int × Bool) := (fixed_values.f l0).bind fun bt208 => (fixed_Sum.l0 k bt208.2 bt208.1 (bt208.1.length : Int) 0 false 0 0)
set_option maxHeartbeats 8000000 in
set_option maxRecDepth 100000 in
theorem fixed_Sum.calls (k : Nat) (A0 : Option Addr) (c0 : Nat) (l0 : List (S23)) (r1 : Int) (r2 : Bool) (w : World) (hr0 : Kd.C k23 w A0 l0.length l0) (hc0 : l0.length ≤ c0) (h : fixed_Sum.f k l0 = some (r1, r2)) :
    Calls Try.prog 32 #[.slice A0 l0.length c0] w fun e w' => e = .returned (.agg #[.int .i64 r1, .bool r2]) ∧ Below w.heap.size w w' := by
  have hu23 := Try.underlying23
  have hu60 := Try.underlying60
  have HR0 := Aside0.mk hr0
  have HC0 := Aside0.mk hc0
  clear hr0 hc0
  have HB := Aside0.mk (Below.refl w.heap.size w)
  have H : ((fixed_values.f l0).bind fun bt208 => (fixed_Sum.l0 k bt208.2 bt208.1 (bt208.1.length : Int) 0 false 0 0)) = some (r1, r2) := h
  clear h
  replace H := Option.bind_eq_some_iff.mp H
  obtain ⟨⟨t208, t209⟩, A20, H⟩ := H
  replace H : (fixed_Sum.l0 k t209 t208 (t208.length : Int) 0 false 0 0) = some (r1, r2) := H
  have A2 := Aside0.mk A20
  clear A20
  have H' := Aside0.mk H
  clear H
  go_enter Try.func32, Try.ntmps32
  go_wp2_with (first | ((with_reducible refine zzt (N := 2) rfl ?_); refine zzp ?hg (N := 2) ?hd (cs := #[.int .i64 0, .bool false]) (t := 23) ?hr ?_; (case hd => rfl); (case hg => rfl); (case hr => first | (go_simp; done) | (go_simp; rfl)); intro gb207 hg w3 hbox hb; have n0_ := Aside0.mk (zzl (by repeat (first | (with_reducible first | exact HB.out | apply zzf | apply zza | apply zzg) | exact HB.out)) hb); have n1_ := Aside0.mk (hbox); have n3_ := Aside0.mk ((by rw [hg]; exact (zzk (by repeat (first | (with_reducible first | exact HB.out | apply zzf | apply zza | apply zzg) | exact HB.out))) : w.heap.size ≤ gb207)); clear HB; have HB := n0_; have BK207 := n1_; have GE207 := n3_; clear n0_ n1_ n3_; clear hb hbox hg) | ((with_reducible refine zzq (f := 81) rfl ?_); refine goesL_ (some 10) rfl rfl Try.func81 (by kernel_rfl) rfl #[.slice A0 l0.length c0] rfl (by (try simp only [List.map_toArray, List.map_cons, List.map_nil]); first | done | rfl | (simp only [List.length_drop, List.length_take]; rfl)) ?_; (with_reducible refine (fixed_values.calls _ _ l0 t208 t209 _ ?side1 ?side2 A2.out).mono ?_); (case side1 => repeat (first | exact (Kd.C_below HR0.out HB.out) | (with_reducible refine Kd.C_alloc ?_ _) | (with_reducible refine Kd.C_drewN ?_ _) | (with_reducible refine Kd.C_drew ?_))); (case side2 => exact HC0.out); rintro e w4 ⟨v210, rfl, ho0, hb⟩; refine ⟨_, rfl, ?_⟩; have n0_ := Aside0.mk (Kd.R_lower ho0 (zzk (by repeat (first | (with_reducible first | exact HB.out | apply zzf | apply zza | apply zzg | refine zze ?_ GE207.out) | exact HB.out)))); have n1_ := Aside0.mk (zzj (g := gb207) (o := .cells #[.int .i64 0, .bool false] 23 (0, 0)) (by (with_reducible repeat first | apply zzc | apply zzd | apply zzb); exact BK207.out) hb); have n2_ := Aside0.mk (zzl (by repeat (first | (with_reducible first | exact HB.out | apply zzf | apply zza | apply zzg | refine zze ?_ GE207.out) | exact HB.out)) hb); clear BK207; clear HB; have HO211 := n0_; have BK207 := n1_; have HB := n2_; clear n0_ n1_ n2_; (try clear ho0)) | ((with_reducible refine zzt (N := 5) rfl ?_); refine zzp ?hg (N := 5) ?hd (cs := #[.bool false, .int .u64 0, .int .u64 0]) (t := 60) ?hr ?_; (case hd => rfl); (case hg => rfl); (case hr => first | (go_simp; done) | (go_simp; rfl)); intro gb212 hg w5 hbox hb; have n0_ := Aside0.mk (Kd.R_below (by (with_reducible repeat (first | apply Kd.R_alloc | apply Kd.R_drewN | apply Kd.R_drew)); exact HO211.out) hb); have n1_ := Aside0.mk (zzj (g := gb207) (o := .cells #[.int .i64 0, .bool false] 23 (0, 0)) (by (with_reducible repeat first | apply zzc | apply zzd | apply zzb); exact BK207.out) hb); have n2_ := Aside0.mk (zzl (by repeat (first | (with_reducible first | exact HB.out | apply zzf | apply zza | apply zzg | refine zze ?_ GE207.out) | exact HB.out)) hb); have n3_ := Aside0.mk (hbox); have n5_ := Aside0.mk ((by rw [hg]; exact (zzk (by repeat (first | (with_reducible first | exact HB.out | apply zzf | apply zza | apply zzg | refine zze ?_ GE207.out) | exact HB.out))) : w.heap.size ≤ gb212)); have n6_ := Aside0.mk ((by rw [hg]; exact Nat.ne_of_lt (zzr (g := gb207) (o := .cells #[.int .i64 0, .bool false] 23 (0, 0)) (by (with_reducible repeat first | apply zzc | apply zzd | apply zzb); exact BK207.out)) : gb207 ≠ gb212)); have n7_ := Aside0.mk ((by rw [hg]; exact Nat.ne_of_gt (zzr (g := gb207) (o := .cells #[.int .i64 0, .bool false] 23 (0, 0)) (by (with_reducible repeat first | apply zzc | apply zzd | apply zzb); exact BK207.out)) : gb212 ≠ gb207)); clear HO211; clear BK207; clear HB; have HO211 := n0_; have BK207 := n1_; have HB := n2_; have BK212 := n3_; have GE212 := n5_; have NB207_212 := n6_; have NB212_207 := n7_; clear n0_ n1_ n2_ n3_ n5_ n6_ n7_; clear hb hbox hg; obtain ⟨Ao6, co6, eo6⟩ := Kd.R_slice HO211.out; subst eo6))
  go_loopg [15] k (fun kq v15 w' => ∃ (x15_1 : Int) (x213000_1 : Bool) (x213001_1 : Int) (x213002_1 : Int), v15 = .int .i64 x15_1 ∧ Aside0 (fixed_Sum.l0 kq t209 t208 (t208.length : Int) x15_1 x213000_1 x213001_1 x213002_1 = some (r1, r2)) ∧ Aside0 (kq ≤ k) ∧ Aside0 (Kd.R (Kd.int .i64) 2 w' w.heap.size (fun _ => True) (.slice Ao6 t208.length co6) t208) ∧ Aside0 (w'.heap[gb207]? = some (.cells #[.int .i64 0, .bool false] 23 (0, 0))) ∧ Aside0 (w'.heap[gb212]? = some (.cells #[.bool x213000_1, .int .u64 x213001_1, .int .u64 x213002_1] 60 (0, 0))) ∧ Aside0 (Below w.heap.size w w'))
  case atStart => exact ⟨(0), (false), (0), (0), (by first | rfl | (simp; done) | (simp [*]; done)), H', ⟨Nat.le_refl _⟩, ⟨by (with_reducible repeat (first | apply Kd.R_alloc | apply Kd.R_drewN | apply Kd.R_drew)); exact HO211.out⟩, ⟨by (with_reducible repeat first | apply zzc | apply zzd | apply zzb); exact BK207.out⟩, ⟨by (with_reducible repeat first | apply zzc | apply zzd | apply zzb); exact BK212.out⟩, ⟨by repeat (first | (with_reducible first | exact HB.out | apply zzf | apply zza | apply zzg | refine zze ?_ GE207.out | refine zze ?_ GE212.out) | exact HB.out)⟩⟩
  case round =>
    clear H'
    obtain ⟨x15_1, x213000_1, x213001_1, x213002_1, rfl, HA, HK1, HO_13, BK207, BK212, HB⟩ := hrel
    cases gk with
    | zero => exact absurd HA.out (by simp [fixed_Sum.l0])
    | succ k1 =>
      have H := HA.out
      clear HA
      simp only [fixed_Sum.l0] at H
      by_cases c7 : x15_1 < (t208.length : Int)
      · rw [if_pos c7] at H
        have c7b0 : decide (x15_1 < (t208.length : Int)) = true := decide_eq_true c7
        clear c7
        by_cases c8 : 0 ≤ x15_1
        · rw [if_pos c8] at H
          have c8b0 : decide (0 ≤ x15_1) = true := decide_eq_true c8
          clear c8
          by_cases c9 : x15_1 < (t208.length : Int)
          · rw [if_pos c9] at H
            have c9b0 : decide (x15_1 < (t208.length : Int)) = true := decide_eq_true c9
            clear c9
            replace H := Option.bind_eq_some_iff.mp H
            obtain ⟨⟨t214, t215, t216⟩, A100, H⟩ := H
            replace H : ((fixed_exact_plus.f k1 x213000_1 x213001_1 x213002_1 t214 t215 t216).bind fun bt217 => (fixed_Sum.l0 k1 t209 t208 (t208.length : Int) (wrap64 (x15_1 + 1)) bt217.1 bt217.2.1 bt217.2.2)) = some (r1, r2) := H
            have A10 := Aside0.mk A100
            clear A100
            replace H := Option.bind_eq_some_iff.mp H
            obtain ⟨⟨t217, t218, t219⟩, A110, H⟩ := H
            replace H : (fixed_Sum.l0 k1 t209 t208 (t208.length : Int) (wrap64 (x15_1 + 1)) t217 t218 t219) = some (r1, r2) := H
            have A11 := Aside0.mk A110
            clear A110
            have H' := Aside0.mk H
            clear H
            have p213 : 0 ≤ (x15_1 : Int) := of_decide_eq_true (by first | (with_reducible assumption) | assumption)
            have q213 : x15_1 < (t208.length : Int) := of_decide_eq_true (by first | (with_reducible assumption) | assumption)
            obtain ⟨ad213, e213, hx213_0⟩ := Kd.at_int (Kd.R_reads' HO_13.out).2.2 x15_1 p213 q213
            cases e213
            replace p213 := eq_true p213
            replace q213 := eq_true q213
            try go_wp2
            have n0_ := Aside0.mk (Kd.R_drew HO_13.out)
            have n1_ := Aside0.mk (zzd BK207.out)
            have n2_ := Aside0.mk (zzd BK212.out)
            have n3_ := Aside0.mk (zzg HB.out)
            clear HO_13
            clear BK207
            clear BK212
            clear HB
            have HO_13 := n0_
            have BK207 := n1_
            have BK212 := n2_
            have HB := n3_
            clear n0_ n1_ n2_ n3_
            refine start_ (n := 5) (S := fun w' => w'.cell? ⟨gb212, 0, none⟩ = some (.bool x213000_1) ∧ w'.cell? ⟨gb212, 1, none⟩ = some (.int .u64 x213001_1) ∧ w'.cell? ⟨gb212, 2, none⟩ = some (.int .u64 x213002_1)) (ds := [4]) #[false, false, false, false, false] (by kernel_rfl) rfl rfl ⟨(zzi BK212.out 0).trans rfl, (zzi BK212.out 1).trans rfl, (zzi BK212.out 2).trans rfl⟩ (fun hHeld => ?_)
            generalize wr.drew = w12 at HO_13 BK207 BK212 HB hHeld ⊢
            refine pure_ (i := 1) (N := some 20) (v := ?_) (a' := ?_) #[false, true, false, false, false] rfl rfl (by kernel_rfl) (fun _ _ _ h => h) (Or.inl ⟨by rfl, ?_⟩) ?_ ?_
            rotate_left
            · intro w'
              go_simp
              with_reducible rfl
            rotate_left
            · simp only [Act.put, List.setIfInBounds_toArray, List.set_cons_zero, List.set_cons_succ, i64_w, i32_w]
              rfl
            refine take_ (i := 0) (N := some 19) (v := ?_) (a' := ?_) #[true, true, false, false, false] rfl rfl (by kernel_rfl) (fun _ _ _ h => h) (Or.inl ⟨by rfl, ?_⟩) hHeld ?_ ?_
            rotate_left
            · rintro w' ⟨s0, s1, s2⟩
              go_simp
              with_reducible rfl
            rotate_left
            · simp only [Act.put, List.setIfInBounds_toArray, List.set_cons_zero, List.set_cons_succ, i64_w, i32_w]
              rfl
            refine one_ (i := 2) (N := some 21) #[true, true, true, false, false] rfl rfl (by kernel_rfl) (by decide) (fun K hK => ?_)
            refine goes_ Try.func82 (by kernel_rfl) rfl #[.int .i64 (rd t208 x15_1)] (by rfl) rfl rfl (by (try simp only [List.map_toArray, List.map_cons, List.map_nil]); first | done | rfl | (simp only [List.length_drop, List.length_take]; rfl)) ?_
            with_reducible refine (fixed_of.calls (rd t208 x15_1) t214 t215 t216 _ A10.out).mono ?_
            rintro e w13 ⟨rfl, hb⟩
            refine ⟨_, rfl, ?_⟩
            have n0_ := Aside0.mk (Kd.R_below (by (with_reducible repeat (first | apply Kd.R_alloc | apply Kd.R_drewN | apply Kd.R_drew)); exact HO_13.out) hb)
            have n1_ := Aside0.mk (zzj (g := gb207) (o := .cells #[.int .i64 0, .bool false] 23 (0, 0)) (by (with_reducible repeat first | apply zzc | apply zzd | apply zzb); exact BK207.out) hb)
            have n2_ := Aside0.mk (zzj (g := gb212) (o := .cells #[.bool x213000_1, .int .u64 x213001_1, .int .u64 x213002_1] 60 (0, 0)) (by (with_reducible repeat first | apply zzc | apply zzd | apply zzb); exact BK212.out) hb)
            have n3_ := Aside0.mk (zzl (by repeat (first | (with_reducible first | exact HB.out | apply zzf | apply zza | apply zzg | refine zze ?_ GE207.out | refine zze ?_ GE212.out) | exact HB.out)) hb)
            clear HO_13
            clear BK207
            clear BK212
            clear HB
            have HO_13 := n0_
            have BK207 := n1_
            have BK212 := n2_
            have HB := n3_
            clear n0_ n1_ n2_ n3_
            (try clear hb)
            (try clear hb2)
            (try clear hk)
            (try clear hi)
            refine hK.out _ _ ⟨(zzi BK212.out 0).trans rfl, (zzi BK212.out 1).trans rfl, (zzi BK212.out 2).trans rfl⟩ (fun hHeld => ?_)
            clear hK K
            refine norm_ (a' := ?_) ?_ ?_
            rotate_left
            · show Act.put _ (some 21) _ = _
              simp only [Act.put, List.setIfInBounds_toArray, List.set_cons_zero, List.set_cons_succ, i64_w, i32_w]
              rfl
            refine one_ (i := 3) (N := some 22) #[true, true, true, true, false] rfl rfl (by kernel_rfl) (by decide) (fun K hK => ?_)
            refine goes_ Try.func75 (by kernel_rfl) rfl #[.agg #[.bool x213000_1, .int .u64 x213001_1, .int .u64 x213002_1], .agg #[.bool t214, .int .u64 t215, .int .u64 t216]] (by rfl) rfl rfl (by (try simp only [List.map_toArray, List.map_cons, List.map_nil]); first | done | rfl | (simp only [List.length_drop, List.length_take]; rfl)) ?_
            with_reducible refine (fixed_exact_plus.calls k1 x213000_1 x213001_1 x213002_1 t214 t215 t216 t217 t218 t219 _ A11.out).mono ?_
            rintro e w14 ⟨rfl, hb⟩
            refine ⟨_, rfl, ?_⟩
            have n0_ := Aside0.mk (Kd.R_below (by (with_reducible repeat (first | apply Kd.R_alloc | apply Kd.R_drewN | apply Kd.R_drew)); exact HO_13.out) hb)
            have n1_ := Aside0.mk (zzj (g := gb207) (o := .cells #[.int .i64 0, .bool false] 23 (0, 0)) (by (with_reducible repeat first | apply zzc | apply zzd | apply zzb); exact BK207.out) hb)
            have n2_ := Aside0.mk (zzj (g := gb212) (o := .cells #[.bool x213000_1, .int .u64 x213001_1, .int .u64 x213002_1] 60 (0, 0)) (by (with_reducible repeat first | apply zzc | apply zzd | apply zzb); exact BK212.out) hb)
            have n3_ := Aside0.mk (zzl (by repeat (first | (with_reducible first | exact HB.out | apply zzf | apply zza | apply zzg | refine zze ?_ GE207.out | refine zze ?_ GE212.out) | exact HB.out)) hb)
            clear HO_13
            clear BK207
            clear BK212
            clear HB
            have HO_13 := n0_
            have BK207 := n1_
            have BK212 := n2_
            have HB := n3_
            clear n0_ n1_ n2_ n3_
            (try clear hb)
            (try clear hb2)
            (try clear hk)
            (try clear hi)
            refine hK.out _ _ ⟨(zzi BK212.out 0).trans rfl, (zzi BK212.out 1).trans rfl, (zzi BK212.out 2).trans rfl⟩ (fun hHeld => ?_)
            clear hK K
            refine norm_ (a' := ?_) ?_ ?_
            rotate_left
            · show Act.put _ (some 22) _ = _
              simp only [Act.put, List.setIfInBounds_toArray, List.set_cons_zero, List.set_cons_succ, i64_w, i32_w]
              rfl
            refine last_ (i := 4) (N := none) #[true, true, true, true, true] rfl rfl (by kernel_rfl) (by decide) (fun K hK => ?_)
            have hs15 : w14.cell? ⟨gb212, 0, none⟩ = some (.bool x213000_1) := (zzi BK212.out 0).trans rfl
            have hfs15 := zzh BK212.out 0
            have hns15_0 := NB207_212.out
            have hms15_0 := NB212_207.out
            have hs16 : w14.cell? ⟨gb212, 1, none⟩ = some (.int .u64 x213001_1) := (zzi BK212.out 1).trans rfl
            have hfs16 := zzh BK212.out 1
            have hns16_0 := NB207_212.out
            have hms16_0 := NB212_207.out
            have hs17 : w14.cell? ⟨gb212, 2, none⟩ = some (.int .u64 x213002_1) := (zzi BK212.out 2).trans rfl
            have hfs17 := zzh BK212.out 2
            have hns17_0 := NB207_212.out
            have hms17_0 := NB212_207.out
            refine skip_ (w1 := ?_) (by rfl) rfl ?_ ?_
            rotate_left
            · go_simp
              rfl
            refine hK.out _ _ ?_
            clear hK K
            refine done_ (by kernel_rfl) ?_
            try go_wp2
            go_roundg k1
            case measure => have := HK1.out; omega
            case rel => exact ⟨(wrap64 (x15_1 + 1)), (t217), (t218), (t219), (by first | rfl | (simp; done) | (simp [*]; done)), H', ⟨by have := HK1.out; omega⟩, ⟨by (with_reducible repeat (first | apply Kd.R_alloc | apply Kd.R_drewN | apply Kd.R_drew)); exact Kd.R_mono (Kd.R_far (p := ⟨gb212, 2, none⟩) (Kd.R_far (p := ⟨gb212, 1, none⟩) (Kd.R_far (p := ⟨gb212, 0, none⟩) (Kd.R_types HO_13.out BK212.out (by decide)) (fun _ hk => hk.2) (.bool t217)) (fun _ hk => hk.2) (.int .u64 t218)) (fun _ hk => hk.2) (.int .u64 t219)) (fun _ hk => trivial)⟩, ⟨by (with_reducible repeat first | apply zzc | apply zzd | apply zzb); refine zzs ?_ NB207_212.out _; (with_reducible repeat first | apply zzc | apply zzd | apply zzb); refine zzs ?_ NB207_212.out _; (with_reducible repeat first | apply zzc | apply zzd | apply zzb); refine zzs ?_ NB207_212.out _; (with_reducible repeat first | apply zzc | apply zzd | apply zzb); exact BK207.out⟩, ⟨by (with_reducible repeat first | apply zzc | apply zzd | apply zzb); refine zzo (cs := #[.bool t217, .int .u64 t218, .int .u64 x213002_1]) ?_ 2 _ rfl; (with_reducible repeat first | apply zzc | apply zzd | apply zzb); refine zzo (cs := #[.bool t217, .int .u64 x213001_1, .int .u64 x213002_1]) ?_ 1 _ rfl; (with_reducible repeat first | apply zzc | apply zzd | apply zzb); refine zzo (cs := #[.bool x213000_1, .int .u64 x213001_1, .int .u64 x213002_1]) ?_ 0 _ rfl; (with_reducible repeat first | apply zzc | apply zzd | apply zzb); exact BK212.out⟩, ⟨by repeat (first | (with_reducible first | exact HB.out | apply zzf | apply zza | apply zzg | refine zze ?_ GE207.out | refine zze ?_ GE212.out) | exact HB.out)⟩⟩
          · rw [if_neg c9] at H
            exact absurd H (by simp)
        · rw [if_neg c8] at H
          exact absurd H (by simp)
      · rw [if_neg c7] at H
        have c7b0 : decide (x15_1 < (t208.length : Int)) = false := decide_eq_false c7
        clear c7
        replace H := Option.bind_eq_some_iff.mp H
        obtain ⟨⟨t220, t221⟩, A180, H⟩ := H
        replace H : (some (t220, t221)) = some (r1, r2) := H
        have A18 := Aside0.mk A180
        clear A180
        simp only [Option.some.injEq, Prod.mk.injEq] at H
        obtain ⟨rfl, rfl⟩ := H
        have hnb19 := NB212_207.out
        have hnc19 := NB207_212.out
        have hcz20_0 : wr.cell? ⟨gb212, 0, none⟩ = some (.bool x213000_1) := (zzi BK212.out 0).trans rfl
        have hcz20_1 : wr.cell? ⟨gb212, 1, none⟩ = some (.int .u64 x213001_1) := (zzi BK212.out 1).trans rfl
        have hcz20_2 : wr.cell? ⟨gb212, 2, none⟩ = some (.int .u64 x213002_1) := (zzi BK212.out 2).trans rfl
        have hfz20_0 := zzh BK212.out 0
        have hfz20_1 := zzh BK212.out 1
        have hfz20_2 := zzh BK212.out 2
        go_wp2_with (first | ((with_reducible refine zzq (f := 83) rfl ?_); refine goesL_ (some 26) rfl rfl Try.func83 (by kernel_rfl) rfl #[.agg #[.bool x213000_1, .int .u64 x213001_1, .int .u64 x213002_1], .bool t209] rfl (by (try simp only [List.map_toArray, List.map_cons, List.map_nil]); first | done | rfl | (simp only [List.length_drop, List.length_take]; rfl)) ?_; (with_reducible refine (fixed_exact_fit.calls k1 x213000_1 x213001_1 x213002_1 t209 t220 t221 _ A18.out).mono ?_); rintro e w21 ⟨rfl, hb⟩; refine ⟨_, rfl, ?_⟩; have n1_ := Aside0.mk (zzj (g := gb207) (o := .cells #[.int .i64 0, .bool false] 23 (0, 0)) (by (with_reducible repeat first | apply zzc | apply zzd | apply zzb); exact BK207.out) hb); have n3_ := Aside0.mk (zzl (by repeat (first | (with_reducible first | exact HB.out | apply zzf | apply zza | apply zzg | refine zze ?_ GE207.out | refine zze ?_ GE212.out) | exact HB.out)) hb); clear BK207; clear HB; have BK207 := n1_; have HB := n3_; clear n1_ n3_; have hcz22_0 : w21.cell? ⟨gb207, 0, none⟩ = some (.int .i64 0) := (zzi BK207.out 0).trans rfl; have hcz22_1 : w21.cell? ⟨gb207, 1, none⟩ = some (.bool false) := (zzi BK207.out 1).trans rfl; have hfz22_0 := zzh BK207.out 0; have hfz22_1 := zzh BK207.out 1))
        refine bodyPost_ret (results_cell_row rfl _ _ gb207 23 #[.int .i64 t220, .bool t221] (0, 0) _ rfl (by (with_reducible repeat first | apply zzc | apply zzd | apply zzb); refine zzo (cs := #[.int .i64 t220, .bool false]) ?_ 1 _ rfl; (with_reducible repeat first | apply zzc | apply zzd | apply zzb); refine zzo (cs := #[.int .i64 0, .bool false]) ?_ 0 _ rfl; (with_reducible repeat first | apply zzc | apply zzd | apply zzb); exact BK207.out) Try.underlying23 rfl (by kernel_rfl)) rfl ?_
        exact ⟨by first | rfl | (simp [zzn, zzm] <;> rfl) | (simp [*, zzn, zzm] <;> rfl), by repeat (first | (with_reducible first | exact HB.out | apply zzf | apply zza | apply zzg | refine zze ?_ GE207.out | refine zze ?_ GE212.out) | exact HB.out)⟩
def fixed_Add.f (k : Nat) (a0_0 : Int) (a0_1 : Bool) (a1_0 : Int) (a1_1 : Bool) : Option (Int × Bool) := (fixed_Sum.f k (([(⟨a0_0, a0_1⟩ : S23), (⟨a1_0, a1_1⟩ : S23)] : List (S23)))).bind fun bt228 => (some (bt228.1, bt228.2))
set_option maxHeartbeats 8000000 in
set_option maxRecDepth 100000 in
theorem fixed_Add.calls (k : Nat) (a0_0 : Int) (a0_1 : Bool) (a1_0 : Int) (a1_1 : Bool) (r1 : Int) (r2 : Bool) (w : World) (h : fixed_Add.f k a0_0 a0_1 a1_0 a1_1 = some (r1, r2)) :
    Calls Try.prog 25 #[.agg #[.int .i64 a0_0, .bool a0_1], .agg #[.int .i64 a1_0, .bool a1_1]] w fun e w' => e = .returned (.agg #[.int .i64 r1, .bool r2]) ∧ Below w.heap.size w w' := by
  have hu23 := Try.underlying23
  have HB := Aside0.mk (Below.refl w.heap.size w)
  have H : ((fixed_Sum.f k (([(⟨a0_0, a0_1⟩ : S23), (⟨a1_0, a1_1⟩ : S23)] : List (S23)))).bind fun bt228 => (some (bt228.1, bt228.2))) = some (r1, r2) := h
  clear h
  obtain ⟨y225, hy225⟩ : ∃ y_ : List (S23), y_ = (([(⟨a0_0, a0_1⟩ : S23), (⟨a1_0, a1_1⟩ : S23)] : List (S23))) := ⟨_, rfl⟩
  replace H : ((fixed_Sum.f k y225).bind fun bt228 => (some (bt228.1, bt228.2))) = some (r1, r2) := by first | (rw [hy225]; with_reducible exact H) | (have H2_ := (Option.bind_some _ _).symm.trans H; rw [hy225]; with_reducible exact H2_) | (have H2_ := (Option.bind_some _ _).symm.trans H; with_reducible exact H2_) | with_reducible exact H | (rw [hy225]; exact H) | exact H
  have Ny225 := Aside0.mk hy225
  clear hy225
  replace H := Option.bind_eq_some_iff.mp H
  obtain ⟨⟨t228, t229⟩, A30, H⟩ := H
  replace H : (some (t228, t229)) = some (r1, r2) := H
  have A3 := Aside0.mk A30
  clear A30
  simp only [Option.some.injEq, Prod.mk.injEq] at H
  obtain ⟨rfl, rfl⟩ := H
  go_enter Try.func25, Try.ntmps25
  go_wp2_with (first | ((with_reducible refine zzt (N := 2) rfl ?_); refine zzp ?hg (N := 2) ?hd (cs := #[.int .i64 a0_0, .bool a0_1]) (t := 23) ?hr ?_; (case hd => rfl); (case hg => rfl); (case hr => first | (go_simp; done) | (go_simp; rfl)); intro gb222 hg w4 hbox hb; have n0_ := Aside0.mk (zzl (by repeat (first | (with_reducible first | exact HB.out | apply zzf | apply zza | apply zzg) | exact HB.out)) hb); have n1_ := Aside0.mk (hbox); have n3_ := Aside0.mk ((by rw [hg]; exact (zzk (by repeat (first | (with_reducible first | exact HB.out | apply zzf | apply zza | apply zzg) | exact HB.out))) : w.heap.size ≤ gb222)); clear HB; have HB := n0_; have BK222 := n1_; have GE222 := n3_; clear n0_ n1_ n3_; clear hb hbox hg) | ((with_reducible refine zzt (N := 3) rfl ?_); refine zzp ?hg (N := 3) ?hd (cs := #[.int .i64 a1_0, .bool a1_1]) (t := 23) ?hr ?_; (case hd => rfl); (case hg => rfl); (case hr => first | (go_simp; done) | (go_simp; rfl)); intro gb223 hg w5 hbox hb; have n0_ := Aside0.mk (zzj (g := gb222) (o := .cells #[.int .i64 a0_0, .bool a0_1] 23 (0, 0)) (by (with_reducible repeat first | apply zzc | apply zzd | apply zzb); exact BK222.out) hb); have n1_ := Aside0.mk (zzl (by repeat (first | (with_reducible first | exact HB.out | apply zzf | apply zza | apply zzg | refine zze ?_ GE222.out) | exact HB.out)) hb); have n2_ := Aside0.mk (hbox); have n4_ := Aside0.mk ((by rw [hg]; exact (zzk (by repeat (first | (with_reducible first | exact HB.out | apply zzf | apply zza | apply zzg | refine zze ?_ GE222.out) | exact HB.out))) : w.heap.size ≤ gb223)); have n5_ := Aside0.mk ((by rw [hg]; exact Nat.ne_of_lt (zzr (g := gb222) (o := .cells #[.int .i64 a0_0, .bool a0_1] 23 (0, 0)) (by (with_reducible repeat first | apply zzc | apply zzd | apply zzb); exact BK222.out)) : gb222 ≠ gb223)); have n6_ := Aside0.mk ((by rw [hg]; exact Nat.ne_of_gt (zzr (g := gb222) (o := .cells #[.int .i64 a0_0, .bool a0_1] 23 (0, 0)) (by (with_reducible repeat first | apply zzc | apply zzd | apply zzb); exact BK222.out)) : gb223 ≠ gb222)); clear BK222; clear HB; have BK222 := n0_; have HB := n1_; have BK223 := n2_; have GE223 := n4_; have NB222_223 := n5_; have NB223_222 := n6_; clear n0_ n1_ n2_ n4_ n5_ n6_; clear hb hbox hg) | ((with_reducible refine zzt (N := 4) rfl ?_); refine zzp ?hg (N := 4) ?hd (cs := #[.int .i64 0, .bool false]) (t := 23) ?hr ?_; (case hd => rfl); (case hg => rfl); (case hr => first | (go_simp; done) | (go_simp; rfl)); intro gb224 hg w6 hbox hb; have n0_ := Aside0.mk (zzj (g := gb222) (o := .cells #[.int .i64 a0_0, .bool a0_1] 23 (0, 0)) (by (with_reducible repeat first | apply zzc | apply zzd | apply zzb); exact BK222.out) hb); have n1_ := Aside0.mk (zzj (g := gb223) (o := .cells #[.int .i64 a1_0, .bool a1_1] 23 (0, 0)) (by (with_reducible repeat first | apply zzc | apply zzd | apply zzb); exact BK223.out) hb); have n2_ := Aside0.mk (zzl (by repeat (first | (with_reducible first | exact HB.out | apply zzf | apply zza | apply zzg | refine zze ?_ GE222.out | refine zze ?_ GE223.out) | exact HB.out)) hb); have n3_ := Aside0.mk (hbox); have n5_ := Aside0.mk ((by rw [hg]; exact (zzk (by repeat (first | (with_reducible first | exact HB.out | apply zzf | apply zza | apply zzg | refine zze ?_ GE222.out | refine zze ?_ GE223.out) | exact HB.out))) : w.heap.size ≤ gb224)); have n6_ := Aside0.mk ((by rw [hg]; exact Nat.ne_of_lt (zzr (g := gb222) (o := .cells #[.int .i64 a0_0, .bool a0_1] 23 (0, 0)) (by (with_reducible repeat first | apply zzc | apply zzd | apply zzb); exact BK222.out)) : gb222 ≠ gb224)); have n7_ := Aside0.mk ((by rw [hg]; exact Nat.ne_of_gt (zzr (g := gb222) (o := .cells #[.int .i64 a0_0, .bool a0_1] 23 (0, 0)) (by (with_reducible repeat first | apply zzc | apply zzd | apply zzb); exact BK222.out)) : gb224 ≠ gb222)); have n8_ := Aside0.mk ((by rw [hg]; exact Nat.ne_of_lt (zzr (g := gb223) (o := .cells #[.int .i64 a1_0, .bool a1_1] 23 (0, 0)) (by (with_reducible repeat first | apply zzc | apply zzd | apply zzb); exact BK223.out)) : gb223 ≠ gb224)); have n9_ := Aside0.mk ((by rw [hg]; exact Nat.ne_of_gt (zzr (g := gb223) (o := .cells #[.int .i64 a1_0, .bool a1_1] 23 (0, 0)) (by (with_reducible repeat first | apply zzc | apply zzd | apply zzb); exact BK223.out)) : gb224 ≠ gb223)); clear BK222; clear BK223; clear HB; have BK222 := n0_; have BK223 := n1_; have HB := n2_; have BK224 := n3_; have GE224 := n5_; have NB222_224 := n6_; have NB224_222 := n7_; have NB223_224 := n8_; have NB224_223 := n9_; clear n0_ n1_ n2_ n3_ n5_ n6_ n7_ n8_ n9_; clear hb hbox hg; have hnb7 := NB222_223.out; have hnc7 := NB223_222.out; have hnb8 := NB222_224.out; have hnc8 := NB224_222.out; have hcz9_0 : w6.cell? ⟨gb222, 0, none⟩ = some (.int .i64 a0_0) := (zzi BK222.out 0).trans rfl; have hcz9_1 : w6.cell? ⟨gb222, 1, none⟩ = some (.bool a0_1) := (zzi BK222.out 1).trans rfl; have hfz9_0 := zzh BK222.out 0; have hfz9_1 := zzh BK222.out 1; have hnb10 := NB223_224.out; have hnc10 := NB224_223.out; have hcz11_0 : w6.cell? ⟨gb223, 0, none⟩ = some (.int .i64 a1_0) := (zzi BK223.out 0).trans rfl; have hcz11_1 : w6.cell? ⟨gb223, 1, none⟩ = some (.bool a1_1) := (zzi BK223.out 1).trans rfl; have hfz11_0 := zzh BK223.out 0; have hfz11_1 := zzh BK223.out 1) | ((with_reducible refine zzt (N := 7) rfl ?_); refine Kd.R_lit k23 _ 23 ?hg (N := 7) ?hd (xs := ([(⟨a0_0, a0_1⟩ : S23), (⟨a1_0, a1_1⟩ : S23)] : List (S23))) (inner := [.int .i64 a0_0, .bool a0_1, .int .i64 a1_0, .bool a1_1]) (ok := fun _ => True) (okp := fun _ => True) ?hr ?hp (fun _ hk => hk) trivial (Below.refl _ _) (Nat.le_refl _) (by simp) ?_; (case hd => rfl); (case hg => rfl); (case hr => first | (go_simp; done) | (go_simp; rfl)); (case hp => exact (Reps.c2 (show Kd.M k23 _ _ _ (⟨a0_0, a0_1⟩ : S23) [.int .i64 a0_0, .bool a0_1] from (k23_mkM _ _ _ (⟨a0_0, a0_1⟩ : S23) )) (Reps.c2 (show Kd.M k23 _ _ _ (⟨a1_0, a1_1⟩ : S23) [.int .i64 a1_0, .bool a1_1] from (k23_mkM _ _ _ (⟨a1_0, a1_1⟩ : S23) )) (Reps.none _ _)))); intro v226 w12 ho13 hb hg_ hnew_; clear hg_ hnew_; (first | rw [← Ny225.out] at ho13 | (simp only [Int.reduceToNat] at ho13; rw [← Ny225.out] at ho13)); have n0_ := Aside0.mk (Kd.R_lower (Kd.R_newB (Kd.R_newB (Kd.R_newB ho13 (g := gb222) (o := .cells #[.int .i64 a0_0, .bool a0_1] 23 (0, 0)) (by (with_reducible repeat first | apply zzc | apply zzd | apply zzb); exact BK222.out)) (g := gb223) (o := .cells #[.int .i64 a1_0, .bool a1_1] 23 (0, 0)) (by (with_reducible repeat first | apply zzc | apply zzd | apply zzb); exact BK223.out)) (g := gb224) (o := .cells #[.int .i64 0, .bool false] 23 (0, 0)) (by (with_reducible repeat first | apply zzc | apply zzd | apply zzb); exact BK224.out)) (zzk (by repeat (first | (with_reducible first | exact HB.out | apply zzf | apply zza | apply zzg | refine zze ?_ GE222.out | refine zze ?_ GE223.out | refine zze ?_ GE224.out) | exact HB.out)))); have n3_ := Aside0.mk (zzj (g := gb224) (o := .cells #[.int .i64 0, .bool false] 23 (0, 0)) (by (with_reducible repeat first | apply zzc | apply zzd | apply zzb); exact BK224.out) hb); have n4_ := Aside0.mk (zzl (by repeat (first | (with_reducible first | exact HB.out | apply zzf | apply zza | apply zzg | refine zze ?_ GE222.out | refine zze ?_ GE223.out | refine zze ?_ GE224.out) | exact HB.out)) hb); clear BK224; clear HB; have HO227 := n0_; have BK224 := n3_; have HB := n4_; clear n0_ n3_ n4_; clear hb ho13; obtain ⟨Ao14, co14, eo14⟩ := Kd.R_slice HO227.out; subst eo14) | ((with_reducible refine zzq (f := 32) rfl ?_); refine goesL_ (some 8) rfl rfl Try.func32 (by kernel_rfl) rfl #[.slice Ao14 y225.length co14] rfl (by (try simp only [List.map_toArray, List.map_cons, List.map_nil]); first | done | rfl | (simp only [List.length_drop, List.length_take]; rfl)) ?_; (with_reducible refine (fixed_Sum.calls k _ _ y225 t228 t229 _ ?side1 ?side2 A3.out).mono ?_); (case side1 => repeat (first | exact (Kd.R_reads' HO227.out).2.2 | (with_reducible refine Kd.C_alloc ?_ _) | (with_reducible refine Kd.C_drewN ?_ _) | (with_reducible refine Kd.C_drew ?_))); (case side2 => exact (Kd.R_reads' HO227.out).2.1); rintro e w15 ⟨rfl, hb⟩; refine ⟨_, rfl, ?_⟩; have n3_ := Aside0.mk (zzj (g := gb224) (o := .cells #[.int .i64 0, .bool false] 23 (0, 0)) (by (with_reducible repeat first | apply zzc | apply zzd | apply zzb); exact BK224.out) hb); have n4_ := Aside0.mk (zzl (by repeat (first | (with_reducible first | exact HB.out | apply zzf | apply zza | apply zzg | refine zze ?_ GE222.out | refine zze ?_ GE223.out | refine zze ?_ GE224.out) | exact HB.out)) hb); clear BK224; clear HB; have BK224 := n3_; have HB := n4_; clear n3_ n4_; have hcz16_0 : w15.cell? ⟨gb224, 0, none⟩ = some (.int .i64 0) := (zzi BK224.out 0).trans rfl; have hcz16_1 : w15.cell? ⟨gb224, 1, none⟩ = some (.bool false) := (zzi BK224.out 1).trans rfl; have hfz16_0 := zzh BK224.out 0; have hfz16_1 := zzh BK224.out 1))
  refine bodyPost_ret (results_cell_row rfl _ _ gb224 23 #[.int .i64 t228, .bool t229] (0, 0) _ rfl (by (with_reducible repeat first | apply zzc | apply zzd | apply zzb); refine zzo (cs := #[.int .i64 t228, .bool false]) ?_ 1 _ rfl; (with_reducible repeat first | apply zzc | apply zzd | apply zzb); refine zzo (cs := #[.int .i64 0, .bool false]) ?_ 0 _ rfl; (with_reducible repeat first | apply zzc | apply zzd | apply zzb); exact BK224.out) Try.underlying23 rfl (by kernel_rfl)) rfl ?_
  exact ⟨by first | rfl | (simp [zzn, zzm] <;> rfl) | (simp [*, zzn, zzm] <;> rfl), by repeat (first | (with_reducible first | exact HB.out | apply zzf | apply zza | apply zzg | refine zze ?_ GE222.out | refine zze ?_ GE223.out | refine zze ?_ GE224.out) | exact HB.out)⟩
def fixed_exact_down.f (a0_0 : Bool) (a0_1 : Int) (a0_2 : Int) : Option (Bool × Int × Int) := some (a0_0, Go.bits .or .u64 (IntKind.u64.wrap (a0_2 * 4294967296)) (a0_1 / 4294967296), a0_2 / 4294967296)
set_option maxHeartbeats 8000000 in
set_option maxRecDepth 100000 in
theorem fixed_exact_down.calls (a0_0 : Bool) (a0_1 : Int) (a0_2 : Int) (r1 : Bool) (r2 : Int) (r3 : Int) (w : World) (h : fixed_exact_down.f a0_0 a0_1 a0_2 = some (r1, r2, r3)) :
    Calls Try.prog 87 #[.agg #[.bool a0_0, .int .u64 a0_1, .int .u64 a0_2]] w fun e w' => e = .returned (.agg #[.bool r1, .int .u64 r2, .int .u64 r3]) ∧ Below w.heap.size w w' := by
  have hu60 := Try.underlying60
  have hu58 := Try.underlying58
  have HB := Aside0.mk (Below.refl w.heap.size w)
  have H : (some (a0_0, Go.bits .or .u64 (IntKind.u64.wrap (a0_2 * 4294967296)) (a0_1 / 4294967296), a0_2 / 4294967296)) = some (r1, r2, r3) := h
  clear h
  simp only [Option.some.injEq, Prod.mk.injEq] at H
  obtain ⟨rfl, rfl, rfl⟩ := H
  go_enter Try.func87, Try.ntmps87
  go_wp2_with (first | ((with_reducible refine zzt (N := 1) rfl ?_); refine zzp ?hg (N := 1) ?hd (cs := #[.bool a0_0, .int .u64 a0_1, .int .u64 a0_2]) (t := 60) ?hr ?_; (case hd => rfl); (case hg => rfl); (case hr => first | (go_simp; done) | (go_simp; rfl)); intro gb240 hg w2 hbox hb; have n0_ := Aside0.mk (zzl (by repeat (first | (with_reducible first | exact HB.out | apply zzf | apply zza | apply zzg) | exact HB.out)) hb); have n1_ := Aside0.mk (hbox); have n3_ := Aside0.mk ((by rw [hg]; exact (zzk (by repeat (first | (with_reducible first | exact HB.out | apply zzf | apply zza | apply zzg) | exact HB.out))) : w.heap.size ≤ gb240)); clear HB; have HB := n0_; have BK240 := n1_; have GE240 := n3_; clear n0_ n1_ n3_; clear hb hbox hg) | ((with_reducible refine zzt (N := 2) rfl ?_); refine zzp ?hg (N := 2) ?hd (cs := #[.bool false, .int .u64 0, .int .u64 0]) (t := 60) ?hr ?_; (case hd => rfl); (case hg => rfl); (case hr => first | (go_simp; done) | (go_simp; rfl)); intro gb241 hg w3 hbox hb; have n0_ := Aside0.mk (zzj (g := gb240) (o := .cells #[.bool a0_0, .int .u64 a0_1, .int .u64 a0_2] 60 (0, 0)) (by (with_reducible repeat first | apply zzc | apply zzd | apply zzb); exact BK240.out) hb); have n1_ := Aside0.mk (zzl (by repeat (first | (with_reducible first | exact HB.out | apply zzf | apply zza | apply zzg | refine zze ?_ GE240.out) | exact HB.out)) hb); have n2_ := Aside0.mk (hbox); have n4_ := Aside0.mk ((by rw [hg]; exact (zzk (by repeat (first | (with_reducible first | exact HB.out | apply zzf | apply zza | apply zzg | refine zze ?_ GE240.out) | exact HB.out))) : w.heap.size ≤ gb241)); have n5_ := Aside0.mk ((by rw [hg]; exact Nat.ne_of_lt (zzr (g := gb240) (o := .cells #[.bool a0_0, .int .u64 a0_1, .int .u64 a0_2] 60 (0, 0)) (by (with_reducible repeat first | apply zzc | apply zzd | apply zzb); exact BK240.out)) : gb240 ≠ gb241)); have n6_ := Aside0.mk ((by rw [hg]; exact Nat.ne_of_gt (zzr (g := gb240) (o := .cells #[.bool a0_0, .int .u64 a0_1, .int .u64 a0_2] 60 (0, 0)) (by (with_reducible repeat first | apply zzc | apply zzd | apply zzb); exact BK240.out)) : gb241 ≠ gb240)); clear BK240; clear HB; have BK240 := n0_; have HB := n1_; have BK241 := n2_; have GE241 := n4_; have NB240_241 := n5_; have NB241_240 := n6_; clear n0_ n1_ n2_ n4_ n5_ n6_; clear hb hbox hg; have hnb4 := NB240_241.out; have hnc4 := NB241_240.out; have hcz5_0 : w3.cell? ⟨gb240, 0, none⟩ = some (.bool a0_0) := (zzi BK240.out 0).trans rfl; have hcz5_1 : w3.cell? ⟨gb240, 1, none⟩ = some (.int .u64 a0_1) := (zzi BK240.out 1).trans rfl; have hcz5_2 : w3.cell? ⟨gb240, 2, none⟩ = some (.int .u64 a0_2) := (zzi BK240.out 2).trans rfl; have hfz5_0 := zzh BK240.out 0; have hfz5_1 := zzh BK240.out 1; have hfz5_2 := zzh BK240.out 2; have hcz6_0 : w3.cell? ⟨gb241, 0, none⟩ = some (.bool false) := (zzi BK241.out 0).trans rfl; have hcz6_1 : w3.cell? ⟨gb241, 1, none⟩ = some (.int .u64 0) := (zzi BK241.out 1).trans rfl; have hcz6_2 : w3.cell? ⟨gb241, 2, none⟩ = some (.int .u64 0) := (zzi BK241.out 2).trans rfl; have hfz6_0 := zzh BK241.out 0; have hfz6_1 := zzh BK241.out 1; have hfz6_2 := zzh BK241.out 2))
  refine bodyPost_ret (results_cell_row rfl _ _ gb241 60 #[.bool a0_0, .int .u64 (Go.bits .or .u64 (IntKind.u64.wrap (a0_2 * 4294967296)) (a0_1 / 4294967296)), .int .u64 (a0_2 / 4294967296)] (0, 0) _ rfl (by (with_reducible repeat first | apply zzc | apply zzd | apply zzb); refine zzo (cs := #[.bool a0_0, .int .u64 (Go.bits .or .u64 (IntKind.u64.wrap (a0_2 * 4294967296)) (a0_1 / 4294967296)), .int .u64 0]) ?_ 2 _ rfl; (with_reducible repeat first | apply zzc | apply zzd | apply zzb); refine zzo (cs := #[.bool a0_0, .int .u64 0, .int .u64 0]) ?_ 1 _ rfl; (with_reducible repeat first | apply zzc | apply zzd | apply zzb); refine zzo (cs := #[.bool false, .int .u64 0, .int .u64 0]) ?_ 0 _ rfl; (with_reducible repeat first | apply zzc | apply zzd | apply zzb); refine zzs ?_ NB241_240.out _; (with_reducible repeat first | apply zzc | apply zzd | apply zzb); refine zzs ?_ NB241_240.out _; (with_reducible repeat first | apply zzc | apply zzd | apply zzb); exact BK241.out) Try.underlying60 rfl (by kernel_rfl)) rfl ?_
  exact ⟨by first | rfl | (simp [zzn, zzm] <;> rfl) | (simp [*, zzn, zzm] <;> rfl), by repeat (first | (with_reducible first | exact HB.out | apply zzf | apply zza | apply zzg | refine zze ?_ GE240.out | refine zze ?_ GE241.out) | exact HB.out)⟩
end Go.Proofs.Ytenpiaafkmfjfaa.B

end
section
namespace Go.Proofs.Ytenpiaafkmfjfaa.B
open Go.RowKit Go.Proofs.YtenpiaafkmfjfaaW.PrintWords Go.Proofs.YtenpiaafkmfjfaaW.PrintLast
theorem sv_snd {v : Int} (h1 : -9223372036854775808 ≤ v) (h2 : v ≤ 9223372036854775807) : Snd (sv v) := by
  unfold sv Snd; split <;> omega
theorem of_ex {v : Int} (h : Snd v) : ∃ n lo, fixed_of.f v = some (n, lo, 0) ∧ Ex n lo 0 v := by
  unfold Snd at h
  unfold fixed_of.f
  by_cases hv : v < 0
  · rw [if_pos hv]
    refine ⟨_, _, rfl, ?_⟩
    have e : IntKind.u64.wrap (-(IntKind.u64.wrap v)) = -v := by rw [IntKind.wrap_u64, IntKind.wrap_u64]; omega
    rw [e]
    exact ⟨by omega, by omega, by omega, by omega, fun h => absurd h (by decide), fun _ => by omega⟩
  · rw [if_neg hv]
    refine ⟨_, _, rfl, ?_⟩
    rw [u64_id (by omega) (by omega)]
    exact ⟨by omega, by omega, by omega, by omega, fun _ => by omega, fun h => absurd h (by decide)⟩
theorem fit_ex {n : Bool} {lo hi x : Int} (h : Ex n lo hi x) (f : Bool) (k : Nat) (hk : 1 ≤ k) : fixed_exact_fit.f k n lo hi f = some (fitV x, fitF x f) := by
  obtain ⟨k, rfl⟩ : ∃ m, k = m + 1 := ⟨k - 1, by omega⟩
  obtain ⟨h1, h2, h3, h4, hp, hm⟩ := h
  unfold fixed_exact_fit.f
  by_cases h0 : hi = 0
  · subst h0
    rw [if_pos rfl]
    simp only [fixed_exact_fit.j0]
    by_cases hl : lo ≤ 9223372036854775807
    · have ew : wrap64 lo = lo := wrap64_id (by omega) (by omega)
      rw [if_pos (decide_eq_true hl), ew]
      have hs : Snd x := by
        unfold Snd
        cases n
        · have := hp rfl; omega
        · have := hm rfl; omega
      rw [fitV_id hs, fitF_id hs]
      cases n
      · have := hp rfl
        simp only [Bool.false_eq_true, if_false]
        rw [show lo = x by omega]
      · have := hm rfl
        simp only [if_true]
        rw [wrap64_id (by omega) (by omega), show -lo = x by omega]
    · rw [if_neg (by simpa using hl)]
      cases n
      · have := hp rfl
        simp only [Bool.false_eq_true, if_false]
        unfold fitV fitF
        rw [if_pos (by omega), if_pos (by omega)]
      · have := hm rfl
        simp only [if_true]
        unfold fitV fitF
        rw [if_neg (by omega), if_pos (by omega), if_neg (by omega), if_pos (by omega), wrap64_id (by omega) (by omega)]
  · rw [if_neg h0]
    simp only [fixed_exact_fit.j0]
    rw [if_neg (by decide)]
    cases n
    · have := hp rfl
      simp only [Bool.false_eq_true, if_false]
      unfold fitV fitF
      rw [if_pos (by omega), if_pos (by omega)]
    · have := hm rfl
      simp only [if_true]
      unfold fitV fitF
      rw [if_neg (by omega), if_pos (by omega), if_neg (by omega), if_pos (by omega), wrap64_id (by omega) (by omega)]
theorem down_ex {n : Bool} {lo hi x : Int} (h : Ex n lo hi x) : ∃ lo' hi', fixed_exact_down.f n lo hi = some (n, lo', hi') ∧ Ex n lo' hi' (x.tdiv 4294967296) := by
  obtain ⟨h1, h2, h3, h4, hp, hm⟩ := h
  unfold fixed_exact_down.f
  refine ⟨_, _, rfl, ?_⟩
  have e : IntKind.u64.wrap (hi * 4294967296) = (hi % 4294967296) * 4294967296 := by rw [IntKind.wrap_u64]; omega
  rw [e, or32 _ _ (by omega) (by omega) (by omega) (by omega)]
  refine ⟨by omega, by omega, by omega, by omega, fun e => ?_, fun e => ?_⟩
  · have := hp e
    rw [Int.tdiv_eq_ediv_of_nonneg (by omega)]; omega
  · have := hm e
    rw [this, Int.neg_tdiv, Int.tdiv_eq_ediv_of_nonneg (by omega)]; omega
theorem mul64_f (x y : Nat) (hx : x < 18446744073709551616) (hy : y < 18446744073709551616) : bits_Mul64.f x y = some (((x * y / 18446744073709551616 : Nat) : Int), ((x * y % 18446744073709551616 : Nat) : Int)) := by
  obtain ⟨bd, bt, bw, hhi⟩ := Lib.mul64_hi x y hx hy
  have ba := Lib.half_mul_le (a := x / 4294967296) (b := y / 4294967296) (by omega) (by omega)
  have bb := Lib.half_mul_le (a := x / 4294967296) (b := y % 4294967296) (by omega) (by omega)
  have bc := Lib.half_mul_le (a := x % 4294967296) (b := y / 4294967296) (by omega) (by omega)
  have ba' : x / 4294967296 * (y / 4294967296) < 18446744073709551616 := by omega
  have bb' : x / 4294967296 * (y % 4294967296) < 18446744073709551616 := by omega
  have bc' : x % 4294967296 * (y / 4294967296) < 18446744073709551616 := by omega
  have bh1 : x / 4294967296 * (y / 4294967296) + (x / 4294967296 * (y % 4294967296) + x % 4294967296 * (y % 4294967296) / 4294967296) / 4294967296 < 18446744073709551616 := by omega
  have bh : x / 4294967296 * (y / 4294967296) + (x / 4294967296 * (y % 4294967296) + x % 4294967296 * (y % 4294967296) / 4294967296) / 4294967296 + ((x / 4294967296 * (y % 4294967296) + x % 4294967296 * (y % 4294967296) / 4294967296) % 4294967296 + x % 4294967296 * (y / 4294967296)) / 4294967296 < 18446744073709551616 := by omega
  unfold bits_Mul64.f
  simp only [Mul64.maskN x hx, Mul64.maskN y hy, Mul64.divN, Mul64.mulN, Mul64.addN, Mul64.wrapN _ bd, Mul64.wrapN _ bb', Mul64.wrapN _ bt, Mul64.maskN _ bt, Mul64.wrapN _ bc', Mul64.wrapN _ bw, Mul64.wrapN _ ba', Mul64.wrapN _ bh1, Mul64.wrapN _ bh, Mul64.wrapM (x * y)]
  rw [hhi]
end Go.Proofs.Ytenpiaafkmfjfaa.B

end
section
namespace Go.Proofs.Ytenpiaafkmfjfaa.B
open Go.RowKit Go.Proofs.YtenpiaafkmfjfaaW.PrintWords Go.Proofs.YtenpiaafkmfjfaaW.PrintLast
set_option linter.unusedVariables false
set_option linter.unusedSimpArgs false
def r_whole.f (a0_0 : Int) (a0_1 : Bool) : Option (Int × Bool) := if a0_0 = (-9223372036854775808) then (some ((-9223372036854775807), true)) else (some (a0_0, a0_1))
set_option maxHeartbeats 8000000 in
set_option maxRecDepth 100000 in
theorem r_whole.calls (a0_0 : Int) (a0_1 : Bool) (r1 : Int) (r2 : Bool) (w : World) (h : r_whole.f a0_0 a0_1 = some (r1, r2)) :
    Calls Try.prog 73 #[.agg #[.int .i64 a0_0, .bool a0_1]] w fun e w' => e = .returned (.tuple #[.int .i64 r1, .bool r2]) ∧ Below w.heap.size w w' := by
  have hu23 := Try.underlying23
  have HB := Aside0.mk (Below.refl w.heap.size w)
  have H : (if a0_0 = (-9223372036854775808) then (some ((-9223372036854775807), true)) else (some (a0_0, a0_1))) = some (r1, r2) := h
  clear h
  by_cases c2 : a0_0 = (-9223372036854775808)
  · rw [if_pos c2] at H
    have c2b0 : (a0_0 == (-9223372036854775808)) = true := beq_iff_eq.mpr c2
    have c2b1 : (a0_0 != (-9223372036854775808)) = false := bne_eq_false_iff_eq.mpr c2
    clear c2
    simp only [Option.some.injEq, Prod.mk.injEq] at H
    obtain ⟨rfl, rfl⟩ := H
    go_enter Try.func73, Try.ntmps73
    go_wp2_with (first | ((with_reducible refine zzt (N := 1) rfl ?_); refine zzp ?hg (N := 1) ?hd (cs := #[.int .i64 a0_0, .bool a0_1]) (t := 23) ?hr ?_; (case hd => rfl); (case hg => rfl); (case hr => first | (go_simp; done) | (go_simp; rfl)); intro gb443 hg w3 hbox hb; have n0_ := Aside0.mk (zzl (by repeat (first | (with_reducible first | exact HB.out | apply zzf | apply zza | apply zzg) | exact HB.out)) hb); have n1_ := Aside0.mk (hbox); have n3_ := Aside0.mk ((by rw [hg]; exact (zzk (by repeat (first | (with_reducible first | exact HB.out | apply zzf | apply zza | apply zzg) | exact HB.out))) : w.heap.size ≤ gb443)); clear HB; have HB := n0_; have BK443 := n1_; have GE443 := n3_; clear n0_ n1_ n3_; clear hb hbox hg; have hcz4_0 : w3.cell? ⟨gb443, 0, none⟩ = some (.int .i64 a0_0) := (zzi BK443.out 0).trans rfl; have hcz4_1 : w3.cell? ⟨gb443, 1, none⟩ = some (.bool a0_1) := (zzi BK443.out 1).trans rfl; have hfz4_0 := zzh BK443.out 0; have hfz4_1 := zzh BK443.out 1))
    repeat (go_quiet (first | ((with_reducible refine zzt (N := 1) rfl ?_); refine zzp ?hg (N := 1) ?hd (cs := #[.int .i64 a0_0, .bool a0_1]) (t := 23) ?hr ?_; (case hd => rfl); (case hg => rfl); (case hr => first | (go_simp; done) | (go_simp; rfl)); intro gb443 hg w3 hbox hb; have n0_ := Aside0.mk (zzl (by repeat (first | (with_reducible first | exact HB.out | apply zzf | apply zza | apply zzg) | exact HB.out)) hb); have n1_ := Aside0.mk (hbox); have n3_ := Aside0.mk ((by rw [hg]; exact (zzk (by repeat (first | (with_reducible first | exact HB.out | apply zzf | apply zza | apply zzg) | exact HB.out))) : w.heap.size ≤ gb443)); clear HB; have HB := n0_; have BK443 := n1_; have GE443 := n3_; clear n0_ n1_ n3_; clear hb hbox hg; have hcz4_0 : w3.cell? ⟨gb443, 0, none⟩ = some (.int .i64 a0_0) := (zzi BK443.out 0).trans rfl; have hcz4_1 : w3.cell? ⟨gb443, 1, none⟩ = some (.bool a0_1) := (zzi BK443.out 1).trans rfl; have hfz4_0 := zzh BK443.out 0; have hfz4_1 := zzh BK443.out 1)); try go_wp2_with (first | ((with_reducible refine zzt (N := 1) rfl ?_); refine zzp ?hg (N := 1) ?hd (cs := #[.int .i64 a0_0, .bool a0_1]) (t := 23) ?hr ?_; (case hd => rfl); (case hg => rfl); (case hr => first | (go_simp; done) | (go_simp; rfl)); intro gb443 hg w3 hbox hb; have n0_ := Aside0.mk (zzl (by repeat (first | (with_reducible first | exact HB.out | apply zzf | apply zza | apply zzg) | exact HB.out)) hb); have n1_ := Aside0.mk (hbox); have n3_ := Aside0.mk ((by rw [hg]; exact (zzk (by repeat (first | (with_reducible first | exact HB.out | apply zzf | apply zza | apply zzg) | exact HB.out))) : w.heap.size ≤ gb443)); clear HB; have HB := n0_; have BK443 := n1_; have GE443 := n3_; clear n0_ n1_ n3_; clear hb hbox hg; have hcz4_0 : w3.cell? ⟨gb443, 0, none⟩ = some (.int .i64 a0_0) := (zzi BK443.out 0).trans rfl; have hcz4_1 : w3.cell? ⟨gb443, 1, none⟩ = some (.bool a0_1) := (zzi BK443.out 1).trans rfl; have hfz4_0 := zzh BK443.out 0; have hfz4_1 := zzh BK443.out 1)))
    go_ret2
    exact ⟨by first | rfl | (simp [zzn, zzm] <;> rfl) | (simp [*, zzn, zzm] <;> rfl), by repeat (first | (with_reducible first | exact HB.out | apply zzf | apply zza | apply zzg | refine zze ?_ GE443.out) | exact HB.out)⟩
  · rw [if_neg c2] at H
    have c2b0 : (a0_0 == (-9223372036854775808)) = false := beq_eq_false_iff_ne.mpr c2
    have c2b1 : (a0_0 != (-9223372036854775808)) = true := bne_iff_ne.mpr c2
    simp only [Option.some.injEq, Prod.mk.injEq] at H
    obtain ⟨rfl, rfl⟩ := H
    go_enter Try.func73, Try.ntmps73
    go_wp2_with (first | ((with_reducible refine zzt (N := 1) rfl ?_); refine zzp ?hg (N := 1) ?hd (cs := #[.int .i64 a0_0, .bool a0_1]) (t := 23) ?hr ?_; (case hd => rfl); (case hg => rfl); (case hr => first | (go_simp; done) | (go_simp; rfl)); intro gb443 hg w5 hbox hb; have n0_ := Aside0.mk (zzl (by repeat (first | (with_reducible first | exact HB.out | apply zzf | apply zza | apply zzg) | exact HB.out)) hb); have n1_ := Aside0.mk (hbox); have n3_ := Aside0.mk ((by rw [hg]; exact (zzk (by repeat (first | (with_reducible first | exact HB.out | apply zzf | apply zza | apply zzg) | exact HB.out))) : w.heap.size ≤ gb443)); clear HB; have HB := n0_; have BK443 := n1_; have GE443 := n3_; clear n0_ n1_ n3_; clear hb hbox hg; have hcz6_0 : w5.cell? ⟨gb443, 0, none⟩ = some (.int .i64 a0_0) := (zzi BK443.out 0).trans rfl; have hcz6_1 : w5.cell? ⟨gb443, 1, none⟩ = some (.bool a0_1) := (zzi BK443.out 1).trans rfl; have hfz6_0 := zzh BK443.out 0; have hfz6_1 := zzh BK443.out 1))
    repeat (go_quiet (first | ((with_reducible refine zzt (N := 1) rfl ?_); refine zzp ?hg (N := 1) ?hd (cs := #[.int .i64 a0_0, .bool a0_1]) (t := 23) ?hr ?_; (case hd => rfl); (case hg => rfl); (case hr => first | (go_simp; done) | (go_simp; rfl)); intro gb443 hg w5 hbox hb; have n0_ := Aside0.mk (zzl (by repeat (first | (with_reducible first | exact HB.out | apply zzf | apply zza | apply zzg) | exact HB.out)) hb); have n1_ := Aside0.mk (hbox); have n3_ := Aside0.mk ((by rw [hg]; exact (zzk (by repeat (first | (with_reducible first | exact HB.out | apply zzf | apply zza | apply zzg) | exact HB.out))) : w.heap.size ≤ gb443)); clear HB; have HB := n0_; have BK443 := n1_; have GE443 := n3_; clear n0_ n1_ n3_; clear hb hbox hg; have hcz6_0 : w5.cell? ⟨gb443, 0, none⟩ = some (.int .i64 a0_0) := (zzi BK443.out 0).trans rfl; have hcz6_1 : w5.cell? ⟨gb443, 1, none⟩ = some (.bool a0_1) := (zzi BK443.out 1).trans rfl; have hfz6_0 := zzh BK443.out 0; have hfz6_1 := zzh BK443.out 1)); try go_wp2_with (first | ((with_reducible refine zzt (N := 1) rfl ?_); refine zzp ?hg (N := 1) ?hd (cs := #[.int .i64 a0_0, .bool a0_1]) (t := 23) ?hr ?_; (case hd => rfl); (case hg => rfl); (case hr => first | (go_simp; done) | (go_simp; rfl)); intro gb443 hg w5 hbox hb; have n0_ := Aside0.mk (zzl (by repeat (first | (with_reducible first | exact HB.out | apply zzf | apply zza | apply zzg) | exact HB.out)) hb); have n1_ := Aside0.mk (hbox); have n3_ := Aside0.mk ((by rw [hg]; exact (zzk (by repeat (first | (with_reducible first | exact HB.out | apply zzf | apply zza | apply zzg) | exact HB.out))) : w.heap.size ≤ gb443)); clear HB; have HB := n0_; have BK443 := n1_; have GE443 := n3_; clear n0_ n1_ n3_; clear hb hbox hg; have hcz6_0 : w5.cell? ⟨gb443, 0, none⟩ = some (.int .i64 a0_0) := (zzi BK443.out 0).trans rfl; have hcz6_1 : w5.cell? ⟨gb443, 1, none⟩ = some (.bool a0_1) := (zzi BK443.out 1).trans rfl; have hfz6_0 := zzh BK443.out 0; have hfz6_1 := zzh BK443.out 1)))
    go_ret2
    exact ⟨by first | rfl | (simp [zzn, zzm] <;> rfl) | (simp [*, zzn, zzm] <;> rfl), by repeat (first | (with_reducible first | exact HB.out | apply zzf | apply zza | apply zzg | refine zze ?_ GE443.out) | exact HB.out)⟩
def r_size.f (a0 : Int) : Option (Int) := if a0 < 0 then (some (IntKind.u64.wrap (wrap64 (-a0)))) else (some (IntKind.u64.wrap (a0)))
set_option maxHeartbeats 8000000 in
set_option maxRecDepth 100000 in
theorem r_size.calls (a0 : Int) (r : Int) (w : World) (h : r_size.f a0 = some r) :
    Calls Try.prog 98 #[.int .i64 a0] w fun e w' => e = .returned (.int .u64 r) ∧ Drawn0 w w' := by
  have H : (if a0 < 0 then (some (IntKind.u64.wrap (wrap64 (-a0)))) else (some (IntKind.u64.wrap (a0)))) = some r := h
  clear h
  by_cases c2 : a0 < 0
  · rw [if_pos c2] at H
    have c2b0 : decide (a0 < 0) = true := decide_eq_true c2
    clear c2
    obtain rfl := Option.some.inj H
    go_enter Try.func98, Try.ntmps98
    go_wp2
    go_ret
    exact ⟨by first | rfl | (simp; done) | (simp [*]; done), by repeat (first | exact Drawn0.refl _ | apply Drawn0.step)⟩
  · rw [if_neg c2] at H
    have c2b0 : decide (a0 < 0) = false := decide_eq_false c2
    clear c2
    obtain rfl := Option.some.inj H
    go_enter Try.func98, Try.ntmps98
    go_wp2
    go_ret
    exact ⟨by first | rfl | (simp; done) | (simp [*]; done), by repeat (first | exact Drawn0.refl _ | apply Drawn0.step)⟩
def r_times.f (a0 : Int) (a1 : Int) : Option (Bool × Int × Int) := (r_size.f a0).bind fun t451 => ((r_size.f a1).bind fun t452 => ((bits_Mul64.f t451 t452).bind fun bt453 => (if ((decide (a0 < 0)) != (decide (a1 < 0))) = true then (if a0 = 0 then (some (false, bt453.1, bt453.2)) else (some ((a1 != 0), bt453.1, bt453.2))) else (some (false, bt453.1, bt453.2)))))
set_option maxHeartbeats 8000000 in
set_option maxRecDepth 100000 in
theorem r_times.calls (a0 : Int) (a1 : Int) (r1 : Bool) (r2 : Int) (r3 : Int) (w : World) (h : r_times.f a0 a1 = some (r1, r2, r3)) :
    Calls Try.prog 76 #[.int .i64 a0, .int .i64 a1] w fun e w' => e = .returned (.agg #[.bool r1, .int .u64 r2, .int .u64 r3]) ∧ Below w.heap.size w w' := by
  have hu64 := Try.underlying64
  have HB := Aside0.mk (Below.refl w.heap.size w)
  have H : ((r_size.f a0).bind fun t451 => ((r_size.f a1).bind fun t452 => ((bits_Mul64.f t451 t452).bind fun bt453 => (if ((decide (a0 < 0)) != (decide (a1 < 0))) = true then (if a0 = 0 then (some (false, bt453.1, bt453.2)) else (some ((a1 != 0), bt453.1, bt453.2))) else (some (false, bt453.1, bt453.2)))))) = some (r1, r2, r3) := h
  clear h
  replace H := Option.bind_eq_some_iff.mp H
  obtain ⟨t451, A30, H⟩ := H
  replace H : ((r_size.f a1).bind fun t452 => ((bits_Mul64.f t451 t452).bind fun bt453 => (if ((decide (a0 < 0)) != (decide (a1 < 0))) = true then (if a0 = 0 then (some (false, bt453.1, bt453.2)) else (some ((a1 != 0), bt453.1, bt453.2))) else (some (false, bt453.1, bt453.2))))) = some (r1, r2, r3) := H
  have A3 := Aside0.mk A30
  clear A30
  replace H := Option.bind_eq_some_iff.mp H
  obtain ⟨t452, A40, H⟩ := H
  replace H : ((bits_Mul64.f t451 t452).bind fun bt453 => (if ((decide (a0 < 0)) != (decide (a1 < 0))) = true then (if a0 = 0 then (some (false, bt453.1, bt453.2)) else (some ((a1 != 0), bt453.1, bt453.2))) else (some (false, bt453.1, bt453.2)))) = some (r1, r2, r3) := H
  have A4 := Aside0.mk A40
  clear A40
  replace H := Option.bind_eq_some_iff.mp H
  obtain ⟨⟨t453, t454⟩, A50, H⟩ := H
  replace H : (if ((decide (a0 < 0)) != (decide (a1 < 0))) = true then (if a0 = 0 then (some (false, t453, t454)) else (some ((a1 != 0), t453, t454))) else (some (false, t453, t454))) = some (r1, r2, r3) := H
  have A5 := Aside0.mk A50
  clear A50
  by_cases c6 : ((decide (a0 < 0)) != (decide (a1 < 0))) = true
  · rw [if_pos c6] at H
    have c6b0 : ((decide (a0 < 0)) != (decide (a1 < 0))) = true := c6
    (try (have c6b1 : decide ((decide (a0 < 0)) = (decide (a1 < 0))) = false := by simpa using c6))
    (try (have c6b2 : ((decide (a0 < 0)) == (decide (a1 < 0))) = false := by simpa using c6))
    (try (have c6b3 : ¬ ((decide (a0 < 0)) = (decide (a1 < 0))) := by simpa using c6))
    clear c6
    by_cases c7 : a0 = 0
    · rw [if_pos c7] at H
      have c7b0 : (a0 == 0) = true := beq_iff_eq.mpr c7
      have c7b1 : (a0 != 0) = false := bne_eq_false_iff_eq.mpr c7
      clear c7
      simp only [Option.some.injEq, Prod.mk.injEq] at H
      obtain ⟨rfl, rfl, rfl⟩ := H
      go_enter Try.func76, Try.ntmps76
      go_wp2_with (first | ((with_reducible refine zzt (N := 4) rfl ?_); refine zzp ?hg (N := 4) ?hd (cs := #[.bool false, .int .u64 0, .int .u64 0]) (t := 64) ?hr ?_; (case hd => rfl); (case hg => rfl); (case hr => first | (go_simp; done) | (go_simp; rfl)); intro gb450 hg w8 hbox hb; have n0_ := Aside0.mk (zzl (by repeat (first | (with_reducible first | exact HB.out | apply zzf | apply zza | apply zzg) | exact HB.out)) hb); have n1_ := Aside0.mk (hbox); have n3_ := Aside0.mk ((by rw [hg]; exact (zzk (by repeat (first | (with_reducible first | exact HB.out | apply zzf | apply zza | apply zzg) | exact HB.out))) : w.heap.size ≤ gb450)); clear HB; have HB := n0_; have BK450 := n1_; have GE450 := n3_; clear n0_ n1_ n3_; clear hb hbox hg) | ((with_reducible refine zzq (f := 98) rfl ?_); refine goesL_ (some 9) rfl rfl Try.func98 (by kernel_rfl) rfl #[.int .i64 a0] rfl (by (try simp only [List.map_toArray, List.map_cons, List.map_nil]); first | done | rfl | (simp only [List.length_drop, List.length_take]; rfl)) ?_; (with_reducible refine (r_size.calls a0 t451 _ A3.out).mono ?_); rintro e w' ⟨rfl, ⟨nd, rfl⟩⟩; refine ⟨_, rfl, ?_⟩; (try (rw [drewN_self w8]; generalize hq_ : World.drewN w8 _ = w8; have n0_ : Aside0 (w8.heap[gb450]? = some (.cells #[.bool false, .int .u64 0, .int .u64 0] 64 (0, 0))) := ⟨by rw [← hq_]; exact (by (with_reducible repeat first | apply zzc | apply zzd | apply zzb); exact BK450.out)⟩; have n1_ : Aside0 (Below w.heap.size w w8) := ⟨by rw [← hq_]; exact (by repeat (first | (with_reducible first | exact HB.out | apply zzf | apply zza | apply zzg | refine zze ?_ GE450.out) | exact HB.out))⟩; clear BK450 HB hq_; have BK450 := n0_; have HB := n1_; clear n0_ n1_))) | ((with_reducible refine zzq (f := 98) rfl ?_); refine goesL_ (some 11) rfl rfl Try.func98 (by kernel_rfl) rfl #[.int .i64 a1] rfl (by (try simp only [List.map_toArray, List.map_cons, List.map_nil]); first | done | rfl | (simp only [List.length_drop, List.length_take]; rfl)) ?_; (with_reducible refine (r_size.calls a1 t452 _ A4.out).mono ?_); rintro e w' ⟨rfl, ⟨nd, rfl⟩⟩; refine ⟨_, rfl, ?_⟩; (try (rw [drewN_self w8]; generalize hq_ : World.drewN w8 _ = w8; have n0_ : Aside0 (w8.heap[gb450]? = some (.cells #[.bool false, .int .u64 0, .int .u64 0] 64 (0, 0))) := ⟨by rw [← hq_]; exact (by (with_reducible repeat first | apply zzc | apply zzd | apply zzb); exact BK450.out)⟩; have n1_ : Aside0 (Below w.heap.size w w8) := ⟨by rw [← hq_]; exact (by repeat (first | (with_reducible first | exact HB.out | apply zzf | apply zza | apply zzg | refine zze ?_ GE450.out) | exact HB.out))⟩; clear BK450 HB hq_; have BK450 := n0_; have HB := n1_; clear n0_ n1_))) | ((with_reducible refine zzq (f := 107) rfl ?_); refine goesL_ (some 12) rfl rfl Try.func107 (by kernel_rfl) rfl #[.int .u64 t451, .int .u64 t452] rfl (by (try simp only [List.map_toArray, List.map_cons, List.map_nil]); first | done | rfl | (simp only [List.length_drop, List.length_take]; rfl)) ?_; (with_reducible refine (bits_Mul64.calls t451 t452 t453 t454 _ A5.out).mono ?_); rintro e w' ⟨rfl, ⟨nd, rfl⟩⟩; refine ⟨_, rfl, ?_⟩; (try (rw [drewN_self w8]; generalize hq_ : World.drewN w8 _ = w8; have n0_ : Aside0 (w8.heap[gb450]? = some (.cells #[.bool false, .int .u64 0, .int .u64 0] 64 (0, 0))) := ⟨by rw [← hq_]; exact (by (with_reducible repeat first | apply zzc | apply zzd | apply zzb); exact BK450.out)⟩; have n1_ : Aside0 (Below w.heap.size w w8) := ⟨by rw [← hq_]; exact (by repeat (first | (with_reducible first | exact HB.out | apply zzf | apply zza | apply zzg | refine zze ?_ GE450.out) | exact HB.out))⟩; clear BK450 HB hq_; have BK450 := n0_; have HB := n1_; clear n0_ n1_)); have hcz9_0 : w8.cell? ⟨gb450, 0, none⟩ = some (.bool false) := (zzi BK450.out 0).trans rfl; have hcz9_1 : w8.cell? ⟨gb450, 1, none⟩ = some (.int .u64 0) := (zzi BK450.out 1).trans rfl; have hcz9_2 : w8.cell? ⟨gb450, 2, none⟩ = some (.int .u64 0) := (zzi BK450.out 2).trans rfl; have hfz9_0 := zzh BK450.out 0; have hfz9_1 := zzh BK450.out 1; have hfz9_2 := zzh BK450.out 2))
      refine bodyPost_ret (results_cell_row rfl _ _ gb450 64 #[.bool false, .int .u64 t453, .int .u64 t454] (0, 0) _ rfl (by (with_reducible repeat first | apply zzc | apply zzd | apply zzb); refine zzo (cs := #[.bool false, .int .u64 t453, .int .u64 0]) ?_ 2 _ rfl; (with_reducible repeat first | apply zzc | apply zzd | apply zzb); refine zzo (cs := #[.bool false, .int .u64 0, .int .u64 0]) ?_ 1 _ rfl; (with_reducible repeat first | apply zzc | apply zzd | apply zzb); refine zzo (cs := #[.bool false, .int .u64 0, .int .u64 0]) ?_ 0 _ rfl; (with_reducible repeat first | apply zzc | apply zzd | apply zzb); exact BK450.out) Try.underlying64 rfl (by kernel_rfl)) rfl ?_
      exact ⟨by first | rfl | (simp [zzn, zzm] <;> rfl) | (simp [*, zzn, zzm] <;> rfl), by repeat (first | (with_reducible first | exact HB.out | apply zzf | apply zza | apply zzg | refine zze ?_ GE450.out) | exact HB.out)⟩
    · rw [if_neg c7] at H
      have c7b0 : (a0 == 0) = false := beq_eq_false_iff_ne.mpr c7
      have c7b1 : (a0 != 0) = true := bne_iff_ne.mpr c7
      simp only [Option.some.injEq, Prod.mk.injEq] at H
      obtain ⟨rfl, rfl, rfl⟩ := H
      go_enter Try.func76, Try.ntmps76
      go_wp2_with (first | ((with_reducible refine zzt (N := 4) rfl ?_); refine zzp ?hg (N := 4) ?hd (cs := #[.bool false, .int .u64 0, .int .u64 0]) (t := 64) ?hr ?_; (case hd => rfl); (case hg => rfl); (case hr => first | (go_simp; done) | (go_simp; rfl)); intro gb450 hg w10 hbox hb; have n0_ := Aside0.mk (zzl (by repeat (first | (with_reducible first | exact HB.out | apply zzf | apply zza | apply zzg) | exact HB.out)) hb); have n1_ := Aside0.mk (hbox); have n3_ := Aside0.mk ((by rw [hg]; exact (zzk (by repeat (first | (with_reducible first | exact HB.out | apply zzf | apply zza | apply zzg) | exact HB.out))) : w.heap.size ≤ gb450)); clear HB; have HB := n0_; have BK450 := n1_; have GE450 := n3_; clear n0_ n1_ n3_; clear hb hbox hg) | ((with_reducible refine zzq (f := 98) rfl ?_); refine goesL_ (some 9) rfl rfl Try.func98 (by kernel_rfl) rfl #[.int .i64 a0] rfl (by (try simp only [List.map_toArray, List.map_cons, List.map_nil]); first | done | rfl | (simp only [List.length_drop, List.length_take]; rfl)) ?_; (with_reducible refine (r_size.calls a0 t451 _ A3.out).mono ?_); rintro e w' ⟨rfl, ⟨nd, rfl⟩⟩; refine ⟨_, rfl, ?_⟩; (try (rw [drewN_self w10]; generalize hq_ : World.drewN w10 _ = w10; have n0_ : Aside0 (w10.heap[gb450]? = some (.cells #[.bool false, .int .u64 0, .int .u64 0] 64 (0, 0))) := ⟨by rw [← hq_]; exact (by (with_reducible repeat first | apply zzc | apply zzd | apply zzb); exact BK450.out)⟩; have n1_ : Aside0 (Below w.heap.size w w10) := ⟨by rw [← hq_]; exact (by repeat (first | (with_reducible first | exact HB.out | apply zzf | apply zza | apply zzg | refine zze ?_ GE450.out) | exact HB.out))⟩; clear BK450 HB hq_; have BK450 := n0_; have HB := n1_; clear n0_ n1_))) | ((with_reducible refine zzq (f := 98) rfl ?_); refine goesL_ (some 11) rfl rfl Try.func98 (by kernel_rfl) rfl #[.int .i64 a1] rfl (by (try simp only [List.map_toArray, List.map_cons, List.map_nil]); first | done | rfl | (simp only [List.length_drop, List.length_take]; rfl)) ?_; (with_reducible refine (r_size.calls a1 t452 _ A4.out).mono ?_); rintro e w' ⟨rfl, ⟨nd, rfl⟩⟩; refine ⟨_, rfl, ?_⟩; (try (rw [drewN_self w10]; generalize hq_ : World.drewN w10 _ = w10; have n0_ : Aside0 (w10.heap[gb450]? = some (.cells #[.bool false, .int .u64 0, .int .u64 0] 64 (0, 0))) := ⟨by rw [← hq_]; exact (by (with_reducible repeat first | apply zzc | apply zzd | apply zzb); exact BK450.out)⟩; have n1_ : Aside0 (Below w.heap.size w w10) := ⟨by rw [← hq_]; exact (by repeat (first | (with_reducible first | exact HB.out | apply zzf | apply zza | apply zzg | refine zze ?_ GE450.out) | exact HB.out))⟩; clear BK450 HB hq_; have BK450 := n0_; have HB := n1_; clear n0_ n1_))) | ((with_reducible refine zzq (f := 107) rfl ?_); refine goesL_ (some 12) rfl rfl Try.func107 (by kernel_rfl) rfl #[.int .u64 t451, .int .u64 t452] rfl (by (try simp only [List.map_toArray, List.map_cons, List.map_nil]); first | done | rfl | (simp only [List.length_drop, List.length_take]; rfl)) ?_; (with_reducible refine (bits_Mul64.calls t451 t452 t453 t454 _ A5.out).mono ?_); rintro e w' ⟨rfl, ⟨nd, rfl⟩⟩; refine ⟨_, rfl, ?_⟩; (try (rw [drewN_self w10]; generalize hq_ : World.drewN w10 _ = w10; have n0_ : Aside0 (w10.heap[gb450]? = some (.cells #[.bool false, .int .u64 0, .int .u64 0] 64 (0, 0))) := ⟨by rw [← hq_]; exact (by (with_reducible repeat first | apply zzc | apply zzd | apply zzb); exact BK450.out)⟩; have n1_ : Aside0 (Below w.heap.size w w10) := ⟨by rw [← hq_]; exact (by repeat (first | (with_reducible first | exact HB.out | apply zzf | apply zza | apply zzg | refine zze ?_ GE450.out) | exact HB.out))⟩; clear BK450 HB hq_; have BK450 := n0_; have HB := n1_; clear n0_ n1_)); have hcz11_0 : w10.cell? ⟨gb450, 0, none⟩ = some (.bool false) := (zzi BK450.out 0).trans rfl; have hcz11_1 : w10.cell? ⟨gb450, 1, none⟩ = some (.int .u64 0) := (zzi BK450.out 1).trans rfl; have hcz11_2 : w10.cell? ⟨gb450, 2, none⟩ = some (.int .u64 0) := (zzi BK450.out 2).trans rfl; have hfz11_0 := zzh BK450.out 0; have hfz11_1 := zzh BK450.out 1; have hfz11_2 := zzh BK450.out 2))
      refine bodyPost_ret (results_cell_row rfl _ _ gb450 64 #[.bool (a1 != 0), .int .u64 t453, .int .u64 t454] (0, 0) _ rfl (by (with_reducible repeat first | apply zzc | apply zzd | apply zzb); refine zzo (cs := #[.bool (a1 != 0), .int .u64 t453, .int .u64 0]) ?_ 2 _ rfl; (with_reducible repeat first | apply zzc | apply zzd | apply zzb); refine zzo (cs := #[.bool (a1 != 0), .int .u64 0, .int .u64 0]) ?_ 1 _ rfl; (with_reducible repeat first | apply zzc | apply zzd | apply zzb); refine zzo (cs := #[.bool false, .int .u64 0, .int .u64 0]) ?_ 0 _ rfl; (with_reducible repeat first | apply zzc | apply zzd | apply zzb); exact BK450.out) Try.underlying64 rfl (by kernel_rfl)) rfl ?_
      exact ⟨by first | rfl | (simp [zzn, zzm] <;> rfl) | (simp [*, zzn, zzm] <;> rfl), by repeat (first | (with_reducible first | exact HB.out | apply zzf | apply zza | apply zzg | refine zze ?_ GE450.out) | exact HB.out)⟩
  · rw [if_neg c6] at H
    have c6b0 : ((decide (a0 < 0)) != (decide (a1 < 0))) = false := by simpa using c6
    (try (have c6b1 : decide ((decide (a0 < 0)) = (decide (a1 < 0))) = true := by simpa using c6))
    (try (have c6b2 : ((decide (a0 < 0)) == (decide (a1 < 0))) = true := by simpa using c6))
    clear c6
    simp only [Option.some.injEq, Prod.mk.injEq] at H
    obtain ⟨rfl, rfl, rfl⟩ := H
    go_enter Try.func76, Try.ntmps76
    go_wp2_with (first | ((with_reducible refine zzt (N := 4) rfl ?_); refine zzp ?hg (N := 4) ?hd (cs := #[.bool false, .int .u64 0, .int .u64 0]) (t := 64) ?hr ?_; (case hd => rfl); (case hg => rfl); (case hr => first | (go_simp; done) | (go_simp; rfl)); intro gb450 hg w12 hbox hb; have n0_ := Aside0.mk (zzl (by repeat (first | (with_reducible first | exact HB.out | apply zzf | apply zza | apply zzg) | exact HB.out)) hb); have n1_ := Aside0.mk (hbox); have n3_ := Aside0.mk ((by rw [hg]; exact (zzk (by repeat (first | (with_reducible first | exact HB.out | apply zzf | apply zza | apply zzg) | exact HB.out))) : w.heap.size ≤ gb450)); clear HB; have HB := n0_; have BK450 := n1_; have GE450 := n3_; clear n0_ n1_ n3_; clear hb hbox hg) | ((with_reducible refine zzq (f := 98) rfl ?_); refine goesL_ (some 9) rfl rfl Try.func98 (by kernel_rfl) rfl #[.int .i64 a0] rfl (by (try simp only [List.map_toArray, List.map_cons, List.map_nil]); first | done | rfl | (simp only [List.length_drop, List.length_take]; rfl)) ?_; (with_reducible refine (r_size.calls a0 t451 _ A3.out).mono ?_); rintro e w' ⟨rfl, ⟨nd, rfl⟩⟩; refine ⟨_, rfl, ?_⟩; (try (rw [drewN_self w12]; generalize hq_ : World.drewN w12 _ = w12; have n0_ : Aside0 (w12.heap[gb450]? = some (.cells #[.bool false, .int .u64 0, .int .u64 0] 64 (0, 0))) := ⟨by rw [← hq_]; exact (by (with_reducible repeat first | apply zzc | apply zzd | apply zzb); exact BK450.out)⟩; have n1_ : Aside0 (Below w.heap.size w w12) := ⟨by rw [← hq_]; exact (by repeat (first | (with_reducible first | exact HB.out | apply zzf | apply zza | apply zzg | refine zze ?_ GE450.out) | exact HB.out))⟩; clear BK450 HB hq_; have BK450 := n0_; have HB := n1_; clear n0_ n1_))) | ((with_reducible refine zzq (f := 98) rfl ?_); refine goesL_ (some 11) rfl rfl Try.func98 (by kernel_rfl) rfl #[.int .i64 a1] rfl (by (try simp only [List.map_toArray, List.map_cons, List.map_nil]); first | done | rfl | (simp only [List.length_drop, List.length_take]; rfl)) ?_; (with_reducible refine (r_size.calls a1 t452 _ A4.out).mono ?_); rintro e w' ⟨rfl, ⟨nd, rfl⟩⟩; refine ⟨_, rfl, ?_⟩; (try (rw [drewN_self w12]; generalize hq_ : World.drewN w12 _ = w12; have n0_ : Aside0 (w12.heap[gb450]? = some (.cells #[.bool false, .int .u64 0, .int .u64 0] 64 (0, 0))) := ⟨by rw [← hq_]; exact (by (with_reducible repeat first | apply zzc | apply zzd | apply zzb); exact BK450.out)⟩; have n1_ : Aside0 (Below w.heap.size w w12) := ⟨by rw [← hq_]; exact (by repeat (first | (with_reducible first | exact HB.out | apply zzf | apply zza | apply zzg | refine zze ?_ GE450.out) | exact HB.out))⟩; clear BK450 HB hq_; have BK450 := n0_; have HB := n1_; clear n0_ n1_))) | ((with_reducible refine zzq (f := 107) rfl ?_); refine goesL_ (some 12) rfl rfl Try.func107 (by kernel_rfl) rfl #[.int .u64 t451, .int .u64 t452] rfl (by (try simp only [List.map_toArray, List.map_cons, List.map_nil]); first | done | rfl | (simp only [List.length_drop, List.length_take]; rfl)) ?_; (with_reducible refine (bits_Mul64.calls t451 t452 t453 t454 _ A5.out).mono ?_); rintro e w' ⟨rfl, ⟨nd, rfl⟩⟩; refine ⟨_, rfl, ?_⟩; (try (rw [drewN_self w12]; generalize hq_ : World.drewN w12 _ = w12; have n0_ : Aside0 (w12.heap[gb450]? = some (.cells #[.bool false, .int .u64 0, .int .u64 0] 64 (0, 0))) := ⟨by rw [← hq_]; exact (by (with_reducible repeat first | apply zzc | apply zzd | apply zzb); exact BK450.out)⟩; have n1_ : Aside0 (Below w.heap.size w w12) := ⟨by rw [← hq_]; exact (by repeat (first | (with_reducible first | exact HB.out | apply zzf | apply zza | apply zzg | refine zze ?_ GE450.out) | exact HB.out))⟩; clear BK450 HB hq_; have BK450 := n0_; have HB := n1_; clear n0_ n1_)); have hcz13_0 : w12.cell? ⟨gb450, 0, none⟩ = some (.bool false) := (zzi BK450.out 0).trans rfl; have hcz13_1 : w12.cell? ⟨gb450, 1, none⟩ = some (.int .u64 0) := (zzi BK450.out 1).trans rfl; have hcz13_2 : w12.cell? ⟨gb450, 2, none⟩ = some (.int .u64 0) := (zzi BK450.out 2).trans rfl; have hfz13_0 := zzh BK450.out 0; have hfz13_1 := zzh BK450.out 1; have hfz13_2 := zzh BK450.out 2))
    refine bodyPost_ret (results_cell_row rfl _ _ gb450 64 #[.bool false, .int .u64 t453, .int .u64 t454] (0, 0) _ rfl (by (with_reducible repeat first | apply zzc | apply zzd | apply zzb); refine zzo (cs := #[.bool false, .int .u64 t453, .int .u64 0]) ?_ 2 _ rfl; (with_reducible repeat first | apply zzc | apply zzd | apply zzb); refine zzo (cs := #[.bool false, .int .u64 0, .int .u64 0]) ?_ 1 _ rfl; (with_reducible repeat first | apply zzc | apply zzd | apply zzb); refine zzo (cs := #[.bool false, .int .u64 0, .int .u64 0]) ?_ 0 _ rfl; (with_reducible repeat first | apply zzc | apply zzd | apply zzb); exact BK450.out) Try.underlying64 rfl (by kernel_rfl)) rfl ?_
    exact ⟨by first | rfl | (simp [zzn, zzm] <;> rfl) | (simp [*, zzn, zzm] <;> rfl), by repeat (first | (with_reducible first | exact HB.out | apply zzf | apply zza | apply zzg | refine zze ?_ GE450.out) | exact HB.out)⟩
def r_less.f (a0_0 : Bool) (a0_1 : Int) (a0_2 : Int) (a1_0 : Bool) (a1_1 : Int) (a1_2 : Int) : Option (Bool) := if a0_1 < a1_1 then (some true) else (if a0_1 = a1_1 then (some (decide (a0_2 < a1_2))) else (some false))
set_option maxHeartbeats 8000000 in
set_option maxRecDepth 100000 in
theorem r_less.calls (a0_0 : Bool) (a0_1 : Int) (a0_2 : Int) (a1_0 : Bool) (a1_1 : Int) (a1_2 : Int) (r : Bool) (w : World) (h : r_less.f a0_0 a0_1 a0_2 a1_0 a1_1 a1_2 = some r) :
    Calls Try.prog 77 #[.agg #[.bool a0_0, .int .u64 a0_1, .int .u64 a0_2], .agg #[.bool a1_0, .int .u64 a1_1, .int .u64 a1_2]] w fun e w' => e = .returned (.bool r) ∧ Below w.heap.size w w' := by
  have hu64 := Try.underlying64
  have HB := Aside0.mk (Below.refl w.heap.size w)
  have H : (if a0_1 < a1_1 then (some true) else (if a0_1 = a1_1 then (some (decide (a0_2 < a1_2))) else (some false))) = some r := h
  clear h
  by_cases c3 : a0_1 < a1_1
  · rw [if_pos c3] at H
    have c3b0 : decide (a0_1 < a1_1) = true := decide_eq_true c3
    clear c3
    obtain rfl := Option.some.inj H
    go_enter Try.func77, Try.ntmps77
    go_wp2_with (first | ((with_reducible refine zzt (N := 2) rfl ?_); refine zzp ?hg (N := 2) ?hd (cs := #[.bool a0_0, .int .u64 a0_1, .int .u64 a0_2]) (t := 64) ?hr ?_; (case hd => rfl); (case hg => rfl); (case hr => first | (go_simp; done) | (go_simp; rfl)); intro gb455 hg w4 hbox hb; have n0_ := Aside0.mk (zzl (by repeat (first | (with_reducible first | exact HB.out | apply zzf | apply zza | apply zzg) | exact HB.out)) hb); have n1_ := Aside0.mk (hbox); have n3_ := Aside0.mk ((by rw [hg]; exact (zzk (by repeat (first | (with_reducible first | exact HB.out | apply zzf | apply zza | apply zzg) | exact HB.out))) : w.heap.size ≤ gb455)); clear HB; have HB := n0_; have BK455 := n1_; have GE455 := n3_; clear n0_ n1_ n3_; clear hb hbox hg) | ((with_reducible refine zzt (N := 3) rfl ?_); refine zzp ?hg (N := 3) ?hd (cs := #[.bool a1_0, .int .u64 a1_1, .int .u64 a1_2]) (t := 64) ?hr ?_; (case hd => rfl); (case hg => rfl); (case hr => first | (go_simp; done) | (go_simp; rfl)); intro gb456 hg w5 hbox hb; have n0_ := Aside0.mk (zzj (g := gb455) (o := .cells #[.bool a0_0, .int .u64 a0_1, .int .u64 a0_2] 64 (0, 0)) (by (with_reducible repeat first | apply zzc | apply zzd | apply zzb); exact BK455.out) hb); have n1_ := Aside0.mk (zzl (by repeat (first | (with_reducible first | exact HB.out | apply zzf | apply zza | apply zzg | refine zze ?_ GE455.out) | exact HB.out)) hb); have n2_ := Aside0.mk (hbox); have n4_ := Aside0.mk ((by rw [hg]; exact (zzk (by repeat (first | (with_reducible first | exact HB.out | apply zzf | apply zza | apply zzg | refine zze ?_ GE455.out) | exact HB.out))) : w.heap.size ≤ gb456)); have n5_ := Aside0.mk ((by rw [hg]; exact Nat.ne_of_lt (zzr (g := gb455) (o := .cells #[.bool a0_0, .int .u64 a0_1, .int .u64 a0_2] 64 (0, 0)) (by (with_reducible repeat first | apply zzc | apply zzd | apply zzb); exact BK455.out)) : gb455 ≠ gb456)); have n6_ := Aside0.mk ((by rw [hg]; exact Nat.ne_of_gt (zzr (g := gb455) (o := .cells #[.bool a0_0, .int .u64 a0_1, .int .u64 a0_2] 64 (0, 0)) (by (with_reducible repeat first | apply zzc | apply zzd | apply zzb); exact BK455.out)) : gb456 ≠ gb455)); clear BK455; clear HB; have BK455 := n0_; have HB := n1_; have BK456 := n2_; have GE456 := n4_; have NB455_456 := n5_; have NB456_455 := n6_; clear n0_ n1_ n2_ n4_ n5_ n6_; clear hb hbox hg; have hnb6 := NB455_456.out; have hnc6 := NB456_455.out; have hcz7_0 : w5.cell? ⟨gb455, 0, none⟩ = some (.bool a0_0) := (zzi BK455.out 0).trans rfl; have hcz7_1 : w5.cell? ⟨gb455, 1, none⟩ = some (.int .u64 a0_1) := (zzi BK455.out 1).trans rfl; have hcz7_2 : w5.cell? ⟨gb455, 2, none⟩ = some (.int .u64 a0_2) := (zzi BK455.out 2).trans rfl; have hfz7_0 := zzh BK455.out 0; have hfz7_1 := zzh BK455.out 1; have hfz7_2 := zzh BK455.out 2; have hcz8_0 : w5.cell? ⟨gb456, 0, none⟩ = some (.bool a1_0) := (zzi BK456.out 0).trans rfl; have hcz8_1 : w5.cell? ⟨gb456, 1, none⟩ = some (.int .u64 a1_1) := (zzi BK456.out 1).trans rfl; have hcz8_2 : w5.cell? ⟨gb456, 2, none⟩ = some (.int .u64 a1_2) := (zzi BK456.out 2).trans rfl; have hfz8_0 := zzh BK456.out 0; have hfz8_1 := zzh BK456.out 1; have hfz8_2 := zzh BK456.out 2))
    go_ret
    exact ⟨by first | rfl | (simp [zzn, zzm] <;> rfl) | (simp [*, zzn, zzm] <;> rfl), by repeat (first | (with_reducible first | exact HB.out | apply zzf | apply zza | apply zzg | refine zze ?_ GE455.out | refine zze ?_ GE456.out) | exact HB.out)⟩
  · rw [if_neg c3] at H
    have c3b0 : decide (a0_1 < a1_1) = false := decide_eq_false c3
    clear c3
    by_cases c9 : a0_1 = a1_1
    · rw [if_pos c9] at H
      have c9b0 : (a0_1 == a1_1) = true := beq_iff_eq.mpr c9
      have c9b1 : (a0_1 != a1_1) = false := bne_eq_false_iff_eq.mpr c9
      clear c9
      obtain rfl := Option.some.inj H
      go_enter Try.func77, Try.ntmps77
      go_wp2_with (first | ((with_reducible refine zzt (N := 2) rfl ?_); refine zzp ?hg (N := 2) ?hd (cs := #[.bool a0_0, .int .u64 a0_1, .int .u64 a0_2]) (t := 64) ?hr ?_; (case hd => rfl); (case hg => rfl); (case hr => first | (go_simp; done) | (go_simp; rfl)); intro gb455 hg w10 hbox hb; have n0_ := Aside0.mk (zzl (by repeat (first | (with_reducible first | exact HB.out | apply zzf | apply zza | apply zzg) | exact HB.out)) hb); have n1_ := Aside0.mk (hbox); have n3_ := Aside0.mk ((by rw [hg]; exact (zzk (by repeat (first | (with_reducible first | exact HB.out | apply zzf | apply zza | apply zzg) | exact HB.out))) : w.heap.size ≤ gb455)); clear HB; have HB := n0_; have BK455 := n1_; have GE455 := n3_; clear n0_ n1_ n3_; clear hb hbox hg) | ((with_reducible refine zzt (N := 3) rfl ?_); refine zzp ?hg (N := 3) ?hd (cs := #[.bool a1_0, .int .u64 a1_1, .int .u64 a1_2]) (t := 64) ?hr ?_; (case hd => rfl); (case hg => rfl); (case hr => first | (go_simp; done) | (go_simp; rfl)); intro gb456 hg w11 hbox hb; have n0_ := Aside0.mk (zzj (g := gb455) (o := .cells #[.bool a0_0, .int .u64 a0_1, .int .u64 a0_2] 64 (0, 0)) (by (with_reducible repeat first | apply zzc | apply zzd | apply zzb); exact BK455.out) hb); have n1_ := Aside0.mk (zzl (by repeat (first | (with_reducible first | exact HB.out | apply zzf | apply zza | apply zzg | refine zze ?_ GE455.out) | exact HB.out)) hb); have n2_ := Aside0.mk (hbox); have n4_ := Aside0.mk ((by rw [hg]; exact (zzk (by repeat (first | (with_reducible first | exact HB.out | apply zzf | apply zza | apply zzg | refine zze ?_ GE455.out) | exact HB.out))) : w.heap.size ≤ gb456)); have n5_ := Aside0.mk ((by rw [hg]; exact Nat.ne_of_lt (zzr (g := gb455) (o := .cells #[.bool a0_0, .int .u64 a0_1, .int .u64 a0_2] 64 (0, 0)) (by (with_reducible repeat first | apply zzc | apply zzd | apply zzb); exact BK455.out)) : gb455 ≠ gb456)); have n6_ := Aside0.mk ((by rw [hg]; exact Nat.ne_of_gt (zzr (g := gb455) (o := .cells #[.bool a0_0, .int .u64 a0_1, .int .u64 a0_2] 64 (0, 0)) (by (with_reducible repeat first | apply zzc | apply zzd | apply zzb); exact BK455.out)) : gb456 ≠ gb455)); clear BK455; clear HB; have BK455 := n0_; have HB := n1_; have BK456 := n2_; have GE456 := n4_; have NB455_456 := n5_; have NB456_455 := n6_; clear n0_ n1_ n2_ n4_ n5_ n6_; clear hb hbox hg; have hnb12 := NB455_456.out; have hnc12 := NB456_455.out; have hcz13_0 : w11.cell? ⟨gb455, 0, none⟩ = some (.bool a0_0) := (zzi BK455.out 0).trans rfl; have hcz13_1 : w11.cell? ⟨gb455, 1, none⟩ = some (.int .u64 a0_1) := (zzi BK455.out 1).trans rfl; have hcz13_2 : w11.cell? ⟨gb455, 2, none⟩ = some (.int .u64 a0_2) := (zzi BK455.out 2).trans rfl; have hfz13_0 := zzh BK455.out 0; have hfz13_1 := zzh BK455.out 1; have hfz13_2 := zzh BK455.out 2; have hcz14_0 : w11.cell? ⟨gb456, 0, none⟩ = some (.bool a1_0) := (zzi BK456.out 0).trans rfl; have hcz14_1 : w11.cell? ⟨gb456, 1, none⟩ = some (.int .u64 a1_1) := (zzi BK456.out 1).trans rfl; have hcz14_2 : w11.cell? ⟨gb456, 2, none⟩ = some (.int .u64 a1_2) := (zzi BK456.out 2).trans rfl; have hfz14_0 := zzh BK456.out 0; have hfz14_1 := zzh BK456.out 1; have hfz14_2 := zzh BK456.out 2))
      go_ret
      exact ⟨by first | rfl | (simp [zzn, zzm] <;> rfl) | (simp [*, zzn, zzm] <;> rfl), by repeat (first | (with_reducible first | exact HB.out | apply zzf | apply zza | apply zzg | refine zze ?_ GE455.out | refine zze ?_ GE456.out) | exact HB.out)⟩
    · rw [if_neg c9] at H
      have c9b0 : (a0_1 == a1_1) = false := beq_eq_false_iff_ne.mpr c9
      have c9b1 : (a0_1 != a1_1) = true := bne_iff_ne.mpr c9
      obtain rfl := Option.some.inj H
      go_enter Try.func77, Try.ntmps77
      go_wp2_with (first | ((with_reducible refine zzt (N := 2) rfl ?_); refine zzp ?hg (N := 2) ?hd (cs := #[.bool a0_0, .int .u64 a0_1, .int .u64 a0_2]) (t := 64) ?hr ?_; (case hd => rfl); (case hg => rfl); (case hr => first | (go_simp; done) | (go_simp; rfl)); intro gb455 hg w15 hbox hb; have n0_ := Aside0.mk (zzl (by repeat (first | (with_reducible first | exact HB.out | apply zzf | apply zza | apply zzg) | exact HB.out)) hb); have n1_ := Aside0.mk (hbox); have n3_ := Aside0.mk ((by rw [hg]; exact (zzk (by repeat (first | (with_reducible first | exact HB.out | apply zzf | apply zza | apply zzg) | exact HB.out))) : w.heap.size ≤ gb455)); clear HB; have HB := n0_; have BK455 := n1_; have GE455 := n3_; clear n0_ n1_ n3_; clear hb hbox hg) | ((with_reducible refine zzt (N := 3) rfl ?_); refine zzp ?hg (N := 3) ?hd (cs := #[.bool a1_0, .int .u64 a1_1, .int .u64 a1_2]) (t := 64) ?hr ?_; (case hd => rfl); (case hg => rfl); (case hr => first | (go_simp; done) | (go_simp; rfl)); intro gb456 hg w16 hbox hb; have n0_ := Aside0.mk (zzj (g := gb455) (o := .cells #[.bool a0_0, .int .u64 a0_1, .int .u64 a0_2] 64 (0, 0)) (by (with_reducible repeat first | apply zzc | apply zzd | apply zzb); exact BK455.out) hb); have n1_ := Aside0.mk (zzl (by repeat (first | (with_reducible first | exact HB.out | apply zzf | apply zza | apply zzg | refine zze ?_ GE455.out) | exact HB.out)) hb); have n2_ := Aside0.mk (hbox); have n4_ := Aside0.mk ((by rw [hg]; exact (zzk (by repeat (first | (with_reducible first | exact HB.out | apply zzf | apply zza | apply zzg | refine zze ?_ GE455.out) | exact HB.out))) : w.heap.size ≤ gb456)); have n5_ := Aside0.mk ((by rw [hg]; exact Nat.ne_of_lt (zzr (g := gb455) (o := .cells #[.bool a0_0, .int .u64 a0_1, .int .u64 a0_2] 64 (0, 0)) (by (with_reducible repeat first | apply zzc | apply zzd | apply zzb); exact BK455.out)) : gb455 ≠ gb456)); have n6_ := Aside0.mk ((by rw [hg]; exact Nat.ne_of_gt (zzr (g := gb455) (o := .cells #[.bool a0_0, .int .u64 a0_1, .int .u64 a0_2] 64 (0, 0)) (by (with_reducible repeat first | apply zzc | apply zzd | apply zzb); exact BK455.out)) : gb456 ≠ gb455)); clear BK455; clear HB; have BK455 := n0_; have HB := n1_; have BK456 := n2_; have GE456 := n4_; have NB455_456 := n5_; have NB456_455 := n6_; clear n0_ n1_ n2_ n4_ n5_ n6_; clear hb hbox hg; have hnb17 := NB455_456.out; have hnc17 := NB456_455.out; have hcz18_0 : w16.cell? ⟨gb455, 0, none⟩ = some (.bool a0_0) := (zzi BK455.out 0).trans rfl; have hcz18_1 : w16.cell? ⟨gb455, 1, none⟩ = some (.int .u64 a0_1) := (zzi BK455.out 1).trans rfl; have hcz18_2 : w16.cell? ⟨gb455, 2, none⟩ = some (.int .u64 a0_2) := (zzi BK455.out 2).trans rfl; have hfz18_0 := zzh BK455.out 0; have hfz18_1 := zzh BK455.out 1; have hfz18_2 := zzh BK455.out 2; have hcz19_0 : w16.cell? ⟨gb456, 0, none⟩ = some (.bool a1_0) := (zzi BK456.out 0).trans rfl; have hcz19_1 : w16.cell? ⟨gb456, 1, none⟩ = some (.int .u64 a1_1) := (zzi BK456.out 1).trans rfl; have hcz19_2 : w16.cell? ⟨gb456, 2, none⟩ = some (.int .u64 a1_2) := (zzi BK456.out 2).trans rfl; have hfz19_0 := zzh BK456.out 0; have hfz19_1 := zzh BK456.out 1; have hfz19_2 := zzh BK456.out 2))
      go_ret
      exact ⟨by first | rfl | (simp [zzn, zzm] <;> rfl) | (simp [*, zzn, zzm] <;> rfl), by repeat (first | (with_reducible first | exact HB.out | apply zzf | apply zza | apply zzg | refine zze ?_ GE455.out | refine zze ?_ GE456.out) | exact HB.out)⟩
def r_exact.f (a0 : Int) : Option (Bool × Int × Int) := (r_size.f a0).bind fun t476 => (some (decide (a0 < 0), 0, t476))
set_option maxHeartbeats 8000000 in
set_option maxRecDepth 100000 in
theorem r_exact.calls (a0 : Int) (r1 : Bool) (r2 : Int) (r3 : Int) (w : World) (h : r_exact.f a0 = some (r1, r2, r3)) :
    Calls Try.prog 85 #[.int .i64 a0] w fun e w' => e = .returned (.agg #[.bool r1, .int .u64 r2, .int .u64 r3]) ∧ Below w.heap.size w w' := by
  have hu64 := Try.underlying64
  have HB := Aside0.mk (Below.refl w.heap.size w)
  have H : ((r_size.f a0).bind fun t476 => (some (decide (a0 < 0), 0, t476))) = some (r1, r2, r3) := h
  clear h
  replace H := Option.bind_eq_some_iff.mp H
  obtain ⟨t476, A20, H⟩ := H
  replace H : (some (decide (a0 < 0), 0, t476)) = some (r1, r2, r3) := H
  have A2 := Aside0.mk A20
  clear A20
  simp only [Option.some.injEq, Prod.mk.injEq] at H
  obtain ⟨rfl, rfl, rfl⟩ := H
  go_enter Try.func85, Try.ntmps85
  go_wp2_with (first | ((with_reducible refine zzt (N := 2) rfl ?_); refine zzp ?hg (N := 2) ?hd (cs := #[.bool false, .int .u64 0, .int .u64 0]) (t := 64) ?hr ?_; (case hd => rfl); (case hg => rfl); (case hr => first | (go_simp; done) | (go_simp; rfl)); intro gb475 hg w3 hbox hb; have n0_ := Aside0.mk (zzl (by repeat (first | (with_reducible first | exact HB.out | apply zzf | apply zza | apply zzg) | exact HB.out)) hb); have n1_ := Aside0.mk (hbox); have n3_ := Aside0.mk ((by rw [hg]; exact (zzk (by repeat (first | (with_reducible first | exact HB.out | apply zzf | apply zza | apply zzg) | exact HB.out))) : w.heap.size ≤ gb475)); clear HB; have HB := n0_; have BK475 := n1_; have GE475 := n3_; clear n0_ n1_ n3_; clear hb hbox hg) | ((with_reducible refine zzq (f := 98) rfl ?_); refine goesL_ (some 6) rfl rfl Try.func98 (by kernel_rfl) rfl #[.int .i64 a0] rfl (by (try simp only [List.map_toArray, List.map_cons, List.map_nil]); first | done | rfl | (simp only [List.length_drop, List.length_take]; rfl)) ?_; (with_reducible refine (r_size.calls a0 t476 _ A2.out).mono ?_); rintro e w' ⟨rfl, ⟨nd, rfl⟩⟩; refine ⟨_, rfl, ?_⟩; (try (rw [drewN_self w3]; generalize hq_ : World.drewN w3 _ = w3; have n0_ : Aside0 (w3.heap[gb475]? = some (.cells #[.bool false, .int .u64 0, .int .u64 0] 64 (0, 0))) := ⟨by rw [← hq_]; exact (by (with_reducible repeat first | apply zzc | apply zzd | apply zzb); exact BK475.out)⟩; have n1_ : Aside0 (Below w.heap.size w w3) := ⟨by rw [← hq_]; exact (by repeat (first | (with_reducible first | exact HB.out | apply zzf | apply zza | apply zzg | refine zze ?_ GE475.out) | exact HB.out))⟩; clear BK475 HB hq_; have BK475 := n0_; have HB := n1_; clear n0_ n1_)); have hcz4_0 : w3.cell? ⟨gb475, 0, none⟩ = some (.bool false) := (zzi BK475.out 0).trans rfl; have hcz4_1 : w3.cell? ⟨gb475, 1, none⟩ = some (.int .u64 0) := (zzi BK475.out 1).trans rfl; have hcz4_2 : w3.cell? ⟨gb475, 2, none⟩ = some (.int .u64 0) := (zzi BK475.out 2).trans rfl; have hfz4_0 := zzh BK475.out 0; have hfz4_1 := zzh BK475.out 1; have hfz4_2 := zzh BK475.out 2))
  refine bodyPost_ret (results_cell_row rfl _ _ gb475 64 #[.bool (decide (a0 < 0)), .int .u64 0, .int .u64 t476] (0, 0) _ rfl (by (with_reducible repeat first | apply zzc | apply zzd | apply zzb); refine zzo (cs := #[.bool (decide (a0 < 0)), .int .u64 0, .int .u64 0]) ?_ 2 _ rfl; (with_reducible repeat first | apply zzc | apply zzd | apply zzb); refine zzo (cs := #[.bool (decide (a0 < 0)), .int .u64 0, .int .u64 0]) ?_ 1 _ rfl; (with_reducible repeat first | apply zzc | apply zzd | apply zzb); refine zzo (cs := #[.bool false, .int .u64 0, .int .u64 0]) ?_ 0 _ rfl; (with_reducible repeat first | apply zzc | apply zzd | apply zzb); exact BK475.out) Try.underlying64 rfl (by kernel_rfl)) rfl ?_
  exact ⟨by first | rfl | (simp [zzn, zzm] <;> rfl) | (simp [*, zzn, zzm] <;> rfl), by repeat (first | (with_reducible first | exact HB.out | apply zzf | apply zza | apply zzg | refine zze ?_ GE475.out) | exact HB.out)⟩
def r_fit.j0 : Nat → Bool → Int → Bool → Bool → Int → Int → Option (Int × Bool)
  | 0, _, _, _, _, _, _ => none
  | k + 1, x1, x5, x13, x478000, x478001, x478002 => if x13 = true then (if x478000 = true then (some (wrap64 (-x5), true)) else (some (x5, true))) else (if x478000 = true then (some (wrap64 (-(wrap64 (x478002))), x1)) else (some (wrap64 (x478002), x1)))
def r_fit.f (k : Nat) (a0_0 : Bool) (a0_1 : Int) (a0_2 : Int) (a1 : Bool) : Option (Int × Bool) := if a0_1 = 0 then (r_fit.j0 k a1 9223372036854775807 (decide (a0_2 > 9223372036854775807)) a0_0 a0_1 a0_2) else (r_fit.j0 k a1 9223372036854775807 true a0_0 a0_1 a0_2)
set_option maxHeartbeats 8000000 in
set_option maxRecDepth 100000 in
theorem r_fit.calls (k : Nat) (a0_0 : Bool) (a0_1 : Int) (a0_2 : Int) (a1 : Bool) (r1 : Int) (r2 : Bool) (w : World) (h : r_fit.f k a0_0 a0_1 a0_2 a1 = some (r1, r2)) :
    Calls Try.prog 86 #[.agg #[.bool a0_0, .int .u64 a0_1, .int .u64 a0_2], .bool a1] w fun e w' => e = .returned (.agg #[.int .i64 r1, .bool r2]) ∧ Below w.heap.size w w' := by
  have hu64 := Try.underlying64
  have hu23 := Try.underlying23
  have HB := Aside0.mk (Below.refl w.heap.size w)
  have H : (if a0_1 = 0 then (r_fit.j0 k a1 9223372036854775807 (decide (a0_2 > 9223372036854775807)) a0_0 a0_1 a0_2) else (r_fit.j0 k a1 9223372036854775807 true a0_0 a0_1 a0_2)) = some (r1, r2) := h
  clear h
  have HC3 := Aside0.mk H
  clear H
  go_enter Try.func86, Try.ntmps86
  go_upto_region 2 with (first | ((with_reducible refine zzt (N := 2) rfl ?_); refine zzp ?hg (N := 2) ?hd (cs := #[.bool a0_0, .int .u64 a0_1, .int .u64 a0_2]) (t := 64) ?hr ?_; (case hd => rfl); (case hg => rfl); (case hr => first | (go_simp; done) | (go_simp; rfl)); intro gb477 hg w4 hbox hb; have n0_ := Aside0.mk (zzl (by repeat (first | (with_reducible first | exact HB.out | apply zzf | apply zza | apply zzg) | exact HB.out)) hb); have n1_ := Aside0.mk (hbox); have n3_ := Aside0.mk ((by rw [hg]; exact (zzk (by repeat (first | (with_reducible first | exact HB.out | apply zzf | apply zza | apply zzg) | exact HB.out))) : w.heap.size ≤ gb477)); clear HB; have HB := n0_; have BK477 := n1_; have GE477 := n3_; clear n0_ n1_ n3_; clear hb hbox hg) | ((with_reducible refine zzt (N := 4) rfl ?_); refine zzp ?hg (N := 4) ?hd (cs := #[.int .i64 0, .bool false]) (t := 23) ?hr ?_; (case hd => rfl); (case hg => rfl); (case hr => first | (go_simp; done) | (go_simp; rfl)); intro gb478 hg w5 hbox hb; have n0_ := Aside0.mk (zzj (g := gb477) (o := .cells #[.bool a0_0, .int .u64 a0_1, .int .u64 a0_2] 64 (0, 0)) (by (with_reducible repeat first | apply zzc | apply zzd | apply zzb); exact BK477.out) hb); have n1_ := Aside0.mk (zzl (by repeat (first | (with_reducible first | exact HB.out | apply zzf | apply zza | apply zzg | refine zze ?_ GE477.out) | exact HB.out)) hb); have n2_ := Aside0.mk (hbox); have n4_ := Aside0.mk ((by rw [hg]; exact (zzk (by repeat (first | (with_reducible first | exact HB.out | apply zzf | apply zza | apply zzg | refine zze ?_ GE477.out) | exact HB.out))) : w.heap.size ≤ gb478)); have n5_ := Aside0.mk ((by rw [hg]; exact Nat.ne_of_lt (zzr (g := gb477) (o := .cells #[.bool a0_0, .int .u64 a0_1, .int .u64 a0_2] 64 (0, 0)) (by (with_reducible repeat first | apply zzc | apply zzd | apply zzb); exact BK477.out)) : gb477 ≠ gb478)); have n6_ := Aside0.mk ((by rw [hg]; exact Nat.ne_of_gt (zzr (g := gb477) (o := .cells #[.bool a0_0, .int .u64 a0_1, .int .u64 a0_2] 64 (0, 0)) (by (with_reducible repeat first | apply zzc | apply zzd | apply zzb); exact BK477.out)) : gb478 ≠ gb477)); clear BK477; clear HB; have BK477 := n0_; have HB := n1_; have BK478 := n2_; have GE478 := n4_; have NB477_478 := n5_; have NB478_477 := n6_; clear n0_ n1_ n2_ n4_ n5_ n6_; clear hb hbox hg))
  (try simp only [Act.put, List.setIfInBounds_toArray, List.set_cons_zero, List.set_cons_succ])
  go_cut [13] (fun v13 wc => ∃ (kq : Nat) (x13_2 : Bool), v13 = .bool x13_2 ∧ Aside0 (r_fit.j0 kq a1 9223372036854775807 x13_2 a0_0 a0_1 a0_2 = some (r1, r2)) ∧ Aside0 (kq ≤ k) ∧ Aside0 (wc.heap[gb477]? = some (.cells #[.bool a0_0, .int .u64 a0_1, .int .u64 a0_2] 64 (0, 0))) ∧ Aside0 (wc.heap[gb478]? = some (.cells #[.int .i64 0, .bool false] 23 (0, 0))) ∧ Aside0 (Below w.heap.size w wc))
  case first =>
    have H := HC3.out
    clear HC3
    by_cases c6 : a0_1 = 0
    · rw [if_pos c6] at H
      have c6b0 : (a0_1 == 0) = true := beq_iff_eq.mpr c6
      have c6b1 : (a0_1 != 0) = false := bne_eq_false_iff_eq.mpr c6
      clear c6
      (first | rw [c6b0] | (simp only [i64_w, i32_w]; rw [c6b0]) | skip)
      have H' := Aside0.mk H
      clear H
      have hnb7 := NB477_478.out
      have hnc7 := NB478_477.out
      have hcz8_0 : w5.cell? ⟨gb477, 0, none⟩ = some (.bool a0_0) := (zzi BK477.out 0).trans rfl
      have hcz8_1 : w5.cell? ⟨gb477, 1, none⟩ = some (.int .u64 a0_1) := (zzi BK477.out 1).trans rfl
      have hcz8_2 : w5.cell? ⟨gb477, 2, none⟩ = some (.int .u64 a0_2) := (zzi BK477.out 2).trans rfl
      have hfz8_0 := zzh BK477.out 0
      have hfz8_1 := zzh BK477.out 1
      have hfz8_2 := zzh BK477.out 2
      go_wp2
      go_meet
      case rel => exact ⟨_, (decide (a0_2 > 9223372036854775807)), (by first | rfl | (simp; done) | (simp [*]; done)), H', ⟨by first | omega | exact Nat.le_refl _⟩, ⟨by (with_reducible repeat first | apply zzc | apply zzd | apply zzb); exact BK477.out⟩, ⟨by (with_reducible repeat first | apply zzc | apply zzd | apply zzb); exact BK478.out⟩, ⟨by repeat (first | (with_reducible first | exact HB.out | apply zzf | apply zza | apply zzg | refine zze ?_ GE477.out | refine zze ?_ GE478.out) | exact HB.out)⟩⟩
    · rw [if_neg c6] at H
      have c6b0 : (a0_1 == 0) = false := beq_eq_false_iff_ne.mpr c6
      have c6b1 : (a0_1 != 0) = true := bne_iff_ne.mpr c6
      (first | rw [c6b0] | (simp only [i64_w, i32_w]; rw [c6b0]) | skip)
      have H' := Aside0.mk H
      clear H
      have hnb9 := NB477_478.out
      have hnc9 := NB478_477.out
      have hcz10_0 : w5.cell? ⟨gb477, 0, none⟩ = some (.bool a0_0) := (zzi BK477.out 0).trans rfl
      have hcz10_1 : w5.cell? ⟨gb477, 1, none⟩ = some (.int .u64 a0_1) := (zzi BK477.out 1).trans rfl
      have hcz10_2 : w5.cell? ⟨gb477, 2, none⟩ = some (.int .u64 a0_2) := (zzi BK477.out 2).trans rfl
      have hfz10_0 := zzh BK477.out 0
      have hfz10_1 := zzh BK477.out 1
      have hfz10_2 := zzh BK477.out 2
      go_wp2
      go_meet
      case rel => exact ⟨_, (true), (by first | rfl | (simp; done) | (simp [*]; done)), H', ⟨by first | omega | exact Nat.le_refl _⟩, ⟨by (with_reducible repeat first | apply zzc | apply zzd | apply zzb); exact BK477.out⟩, ⟨by (with_reducible repeat first | apply zzc | apply zzd | apply zzb); exact BK478.out⟩, ⟨by repeat (first | (with_reducible first | exact HB.out | apply zzf | apply zza | apply zzg | refine zze ?_ GE477.out | refine zze ?_ GE478.out) | exact HB.out)⟩⟩
  case rest =>
    clear HC3
    obtain ⟨kq, x13_2, rfl, HA, HJ2, BK477, BK478, HB⟩ := hcut
    cases kq with
    | zero => exact absurd HA.out (by simp [r_fit.j0])
    | succ kj2 =>
      have H := HA.out
      clear HA
      simp only [r_fit.j0] at H
      by_cases c11 : x13_2 = true
      · subst c11
        have H1 : (if a0_0 = true then (some (wrap64 (-9223372036854775807), true)) else (some (9223372036854775807, true))) = some (r1, r2) := by rw [if_pos rfl] at H; exact H
        clear H
        have H := H1
        clear H1
        by_cases c12 : a0_0 = true
        · subst c12
          have H1 : (some ((-9223372036854775807), true)) = some (r1, r2) := by rw [if_pos rfl, show wrap64 (-9223372036854775807) = (-9223372036854775807) from by unfold wrap64; omega] at H; exact H
          clear H
          have H := H1
          clear H1
          simp only [Option.some.injEq, Prod.mk.injEq] at H
          obtain ⟨rfl, rfl⟩ := H
          have hnb13 := NB477_478.out
          have hnc13 := NB478_477.out
          have hcz14_0 : wc.cell? ⟨gb477, 0, none⟩ = some (.bool true) := (zzi BK477.out 0).trans rfl
          have hcz14_1 : wc.cell? ⟨gb477, 1, none⟩ = some (.int .u64 a0_1) := (zzi BK477.out 1).trans rfl
          have hcz14_2 : wc.cell? ⟨gb477, 2, none⟩ = some (.int .u64 a0_2) := (zzi BK477.out 2).trans rfl
          have hfz14_0 := zzh BK477.out 0
          have hfz14_1 := zzh BK477.out 1
          have hfz14_2 := zzh BK477.out 2
          have hcz15_0 : wc.cell? ⟨gb478, 0, none⟩ = some (.int .i64 0) := (zzi BK478.out 0).trans rfl
          have hcz15_1 : wc.cell? ⟨gb478, 1, none⟩ = some (.bool false) := (zzi BK478.out 1).trans rfl
          have hfz15_0 := zzh BK478.out 0
          have hfz15_1 := zzh BK478.out 1
          go_wp2
          refine bodyPost_ret (results_cell_row rfl _ _ gb478 23 #[.int .i64 (-9223372036854775807), .bool true] (0, 0) _ rfl (by (with_reducible repeat first | apply zzc | apply zzd | apply zzb); refine zzo (cs := #[.int .i64 (-9223372036854775807), .bool false]) ?_ 1 _ rfl; (with_reducible repeat first | apply zzc | apply zzd | apply zzb); refine zzo (cs := #[.int .i64 0, .bool false]) ?_ 0 _ rfl; (with_reducible repeat first | apply zzc | apply zzd | apply zzb); exact BK478.out) Try.underlying23 rfl (by kernel_rfl)) rfl ?_
          exact ⟨by first | rfl | (simp [zzn, zzm] <;> rfl) | (simp [*, zzn, zzm] <;> rfl), by repeat (first | (with_reducible first | exact HB.out | apply zzf | apply zza | apply zzg | refine zze ?_ GE477.out | refine zze ?_ GE478.out) | exact HB.out)⟩
        · replace c12 := Bool.eq_false_iff.mpr c12
          subst c12
          have H1 : (some (9223372036854775807, true)) = some (r1, r2) := by rw [if_neg (show ¬ (false = true) by decide)] at H; exact H
          clear H
          have H := H1
          clear H1
          simp only [Option.some.injEq, Prod.mk.injEq] at H
          obtain ⟨rfl, rfl⟩ := H
          have hnb16 := NB477_478.out
          have hnc16 := NB478_477.out
          have hcz17_0 : wc.cell? ⟨gb477, 0, none⟩ = some (.bool false) := (zzi BK477.out 0).trans rfl
          have hcz17_1 : wc.cell? ⟨gb477, 1, none⟩ = some (.int .u64 a0_1) := (zzi BK477.out 1).trans rfl
          have hcz17_2 : wc.cell? ⟨gb477, 2, none⟩ = some (.int .u64 a0_2) := (zzi BK477.out 2).trans rfl
          have hfz17_0 := zzh BK477.out 0
          have hfz17_1 := zzh BK477.out 1
          have hfz17_2 := zzh BK477.out 2
          have hcz18_0 : wc.cell? ⟨gb478, 0, none⟩ = some (.int .i64 0) := (zzi BK478.out 0).trans rfl
          have hcz18_1 : wc.cell? ⟨gb478, 1, none⟩ = some (.bool false) := (zzi BK478.out 1).trans rfl
          have hfz18_0 := zzh BK478.out 0
          have hfz18_1 := zzh BK478.out 1
          go_wp2
          refine bodyPost_ret (results_cell_row rfl _ _ gb478 23 #[.int .i64 9223372036854775807, .bool true] (0, 0) _ rfl (by (with_reducible repeat first | apply zzc | apply zzd | apply zzb); refine zzo (cs := #[.int .i64 9223372036854775807, .bool false]) ?_ 1 _ rfl; (with_reducible repeat first | apply zzc | apply zzd | apply zzb); refine zzo (cs := #[.int .i64 0, .bool false]) ?_ 0 _ rfl; (with_reducible repeat first | apply zzc | apply zzd | apply zzb); exact BK478.out) Try.underlying23 rfl (by kernel_rfl)) rfl ?_
          exact ⟨by first | rfl | (simp [zzn, zzm] <;> rfl) | (simp [*, zzn, zzm] <;> rfl), by repeat (first | (with_reducible first | exact HB.out | apply zzf | apply zza | apply zzg | refine zze ?_ GE477.out | refine zze ?_ GE478.out) | exact HB.out)⟩
      · replace c11 := Bool.eq_false_iff.mpr c11
        subst c11
        have H1 : (if a0_0 = true then (some (wrap64 (-(wrap64 (a0_2))), a1)) else (some (wrap64 (a0_2), a1))) = some (r1, r2) := by rw [if_neg (show ¬ (false = true) by decide)] at H; exact H
        clear H
        have H := H1
        clear H1
        by_cases c19 : a0_0 = true
        · subst c19
          have H1 : (some (wrap64 (-(wrap64 (a0_2))), a1)) = some (r1, r2) := by rw [if_pos rfl] at H; exact H
          clear H
          have H := H1
          clear H1
          simp only [Option.some.injEq, Prod.mk.injEq] at H
          obtain ⟨rfl, rfl⟩ := H
          have hnb20 := NB477_478.out
          have hnc20 := NB478_477.out
          have hcz21_0 : wc.cell? ⟨gb477, 0, none⟩ = some (.bool true) := (zzi BK477.out 0).trans rfl
          have hcz21_1 : wc.cell? ⟨gb477, 1, none⟩ = some (.int .u64 a0_1) := (zzi BK477.out 1).trans rfl
          have hcz21_2 : wc.cell? ⟨gb477, 2, none⟩ = some (.int .u64 a0_2) := (zzi BK477.out 2).trans rfl
          have hfz21_0 := zzh BK477.out 0
          have hfz21_1 := zzh BK477.out 1
          have hfz21_2 := zzh BK477.out 2
          have hcz22_0 : wc.cell? ⟨gb478, 0, none⟩ = some (.int .i64 0) := (zzi BK478.out 0).trans rfl
          have hcz22_1 : wc.cell? ⟨gb478, 1, none⟩ = some (.bool false) := (zzi BK478.out 1).trans rfl
          have hfz22_0 := zzh BK478.out 0
          have hfz22_1 := zzh BK478.out 1
          go_wp2
          refine bodyPost_ret (results_cell_row rfl _ _ gb478 23 #[.int .i64 (wrap64 (-(wrap64 (a0_2)))), .bool a1] (0, 0) _ rfl (by (with_reducible repeat first | apply zzc | apply zzd | apply zzb); refine zzo (cs := #[.int .i64 (wrap64 (-(wrap64 (a0_2)))), .bool false]) ?_ 1 _ rfl; (with_reducible repeat first | apply zzc | apply zzd | apply zzb); refine zzo (cs := #[.int .i64 0, .bool false]) ?_ 0 _ rfl; (with_reducible repeat first | apply zzc | apply zzd | apply zzb); exact BK478.out) Try.underlying23 rfl (by kernel_rfl)) rfl ?_
          exact ⟨by first | rfl | (simp [zzn, zzm] <;> rfl) | (simp [*, zzn, zzm] <;> rfl), by repeat (first | (with_reducible first | exact HB.out | apply zzf | apply zza | apply zzg | refine zze ?_ GE477.out | refine zze ?_ GE478.out) | exact HB.out)⟩
        · replace c19 := Bool.eq_false_iff.mpr c19
          subst c19
          have H1 : (some (wrap64 (a0_2), a1)) = some (r1, r2) := by rw [if_neg (show ¬ (false = true) by decide)] at H; exact H
          clear H
          have H := H1
          clear H1
          simp only [Option.some.injEq, Prod.mk.injEq] at H
          obtain ⟨rfl, rfl⟩ := H
          have hnb23 := NB477_478.out
          have hnc23 := NB478_477.out
          have hcz24_0 : wc.cell? ⟨gb477, 0, none⟩ = some (.bool false) := (zzi BK477.out 0).trans rfl
          have hcz24_1 : wc.cell? ⟨gb477, 1, none⟩ = some (.int .u64 a0_1) := (zzi BK477.out 1).trans rfl
          have hcz24_2 : wc.cell? ⟨gb477, 2, none⟩ = some (.int .u64 a0_2) := (zzi BK477.out 2).trans rfl
          have hfz24_0 := zzh BK477.out 0
          have hfz24_1 := zzh BK477.out 1
          have hfz24_2 := zzh BK477.out 2
          have hcz25_0 : wc.cell? ⟨gb478, 0, none⟩ = some (.int .i64 0) := (zzi BK478.out 0).trans rfl
          have hcz25_1 : wc.cell? ⟨gb478, 1, none⟩ = some (.bool false) := (zzi BK478.out 1).trans rfl
          have hfz25_0 := zzh BK478.out 0
          have hfz25_1 := zzh BK478.out 1
          go_wp2
          refine bodyPost_ret (results_cell_row rfl _ _ gb478 23 #[.int .i64 (wrap64 (a0_2)), .bool a1] (0, 0) _ rfl (by (with_reducible repeat first | apply zzc | apply zzd | apply zzb); refine zzo (cs := #[.int .i64 (wrap64 (a0_2)), .bool false]) ?_ 1 _ rfl; (with_reducible repeat first | apply zzc | apply zzd | apply zzb); refine zzo (cs := #[.int .i64 0, .bool false]) ?_ 0 _ rfl; (with_reducible repeat first | apply zzc | apply zzd | apply zzb); exact BK478.out) Try.underlying23 rfl (by kernel_rfl)) rfl ?_
          exact ⟨by first | rfl | (simp [zzn, zzm] <;> rfl) | (simp [*, zzn, zzm] <;> rfl), by repeat (first | (with_reducible first | exact HB.out | apply zzf | apply zza | apply zzg | refine zze ?_ GE477.out | refine zze ?_ GE478.out) | exact HB.out)⟩
def r_up.f (a0_0 : Bool) (a0_1 : Int) (a0_2 : Int) : Option (Bool × Int × Int) := some (a0_0, Go.bits .or .u64 (IntKind.u64.wrap (a0_1 * 4294967296)) (a0_2 / 4294967296), IntKind.u64.wrap (a0_2 * 4294967296))
set_option maxHeartbeats 8000000 in
set_option maxRecDepth 100000 in
theorem r_up.calls (a0_0 : Bool) (a0_1 : Int) (a0_2 : Int) (r1 : Bool) (r2 : Int) (r3 : Int) (w : World) (h : r_up.f a0_0 a0_1 a0_2 = some (r1, r2, r3)) :
    Calls Try.prog 95 #[.agg #[.bool a0_0, .int .u64 a0_1, .int .u64 a0_2]] w fun e w' => e = .returned (.agg #[.bool r1, .int .u64 r2, .int .u64 r3]) ∧ Below w.heap.size w w' := by
  have hu64 := Try.underlying64
  have HB := Aside0.mk (Below.refl w.heap.size w)
  have H : (some (a0_0, Go.bits .or .u64 (IntKind.u64.wrap (a0_1 * 4294967296)) (a0_2 / 4294967296), IntKind.u64.wrap (a0_2 * 4294967296))) = some (r1, r2, r3) := h
  clear h
  simp only [Option.some.injEq, Prod.mk.injEq] at H
  obtain ⟨rfl, rfl, rfl⟩ := H
  go_enter Try.func95, Try.ntmps95
  go_wp2_with (first | ((with_reducible refine zzt (N := 1) rfl ?_); refine zzp ?hg (N := 1) ?hd (cs := #[.bool a0_0, .int .u64 a0_1, .int .u64 a0_2]) (t := 64) ?hr ?_; (case hd => rfl); (case hg => rfl); (case hr => first | (go_simp; done) | (go_simp; rfl)); intro gb479 hg w2 hbox hb; have n0_ := Aside0.mk (zzl (by repeat (first | (with_reducible first | exact HB.out | apply zzf | apply zza | apply zzg) | exact HB.out)) hb); have n1_ := Aside0.mk (hbox); have n3_ := Aside0.mk ((by rw [hg]; exact (zzk (by repeat (first | (with_reducible first | exact HB.out | apply zzf | apply zza | apply zzg) | exact HB.out))) : w.heap.size ≤ gb479)); clear HB; have HB := n0_; have BK479 := n1_; have GE479 := n3_; clear n0_ n1_ n3_; clear hb hbox hg) | ((with_reducible refine zzt (N := 2) rfl ?_); refine zzp ?hg (N := 2) ?hd (cs := #[.bool false, .int .u64 0, .int .u64 0]) (t := 64) ?hr ?_; (case hd => rfl); (case hg => rfl); (case hr => first | (go_simp; done) | (go_simp; rfl)); intro gb480 hg w3 hbox hb; have n0_ := Aside0.mk (zzj (g := gb479) (o := .cells #[.bool a0_0, .int .u64 a0_1, .int .u64 a0_2] 64 (0, 0)) (by (with_reducible repeat first | apply zzc | apply zzd | apply zzb); exact BK479.out) hb); have n1_ := Aside0.mk (zzl (by repeat (first | (with_reducible first | exact HB.out | apply zzf | apply zza | apply zzg | refine zze ?_ GE479.out) | exact HB.out)) hb); have n2_ := Aside0.mk (hbox); have n4_ := Aside0.mk ((by rw [hg]; exact (zzk (by repeat (first | (with_reducible first | exact HB.out | apply zzf | apply zza | apply zzg | refine zze ?_ GE479.out) | exact HB.out))) : w.heap.size ≤ gb480)); have n5_ := Aside0.mk ((by rw [hg]; exact Nat.ne_of_lt (zzr (g := gb479) (o := .cells #[.bool a0_0, .int .u64 a0_1, .int .u64 a0_2] 64 (0, 0)) (by (with_reducible repeat first | apply zzc | apply zzd | apply zzb); exact BK479.out)) : gb479 ≠ gb480)); have n6_ := Aside0.mk ((by rw [hg]; exact Nat.ne_of_gt (zzr (g := gb479) (o := .cells #[.bool a0_0, .int .u64 a0_1, .int .u64 a0_2] 64 (0, 0)) (by (with_reducible repeat first | apply zzc | apply zzd | apply zzb); exact BK479.out)) : gb480 ≠ gb479)); clear BK479; clear HB; have BK479 := n0_; have HB := n1_; have BK480 := n2_; have GE480 := n4_; have NB479_480 := n5_; have NB480_479 := n6_; clear n0_ n1_ n2_ n4_ n5_ n6_; clear hb hbox hg; have hnb4 := NB479_480.out; have hnc4 := NB480_479.out; have hcz5_0 : w3.cell? ⟨gb479, 0, none⟩ = some (.bool a0_0) := (zzi BK479.out 0).trans rfl; have hcz5_1 : w3.cell? ⟨gb479, 1, none⟩ = some (.int .u64 a0_1) := (zzi BK479.out 1).trans rfl; have hcz5_2 : w3.cell? ⟨gb479, 2, none⟩ = some (.int .u64 a0_2) := (zzi BK479.out 2).trans rfl; have hfz5_0 := zzh BK479.out 0; have hfz5_1 := zzh BK479.out 1; have hfz5_2 := zzh BK479.out 2; have hcz6_0 : w3.cell? ⟨gb480, 0, none⟩ = some (.bool false) := (zzi BK480.out 0).trans rfl; have hcz6_1 : w3.cell? ⟨gb480, 1, none⟩ = some (.int .u64 0) := (zzi BK480.out 1).trans rfl; have hcz6_2 : w3.cell? ⟨gb480, 2, none⟩ = some (.int .u64 0) := (zzi BK480.out 2).trans rfl; have hfz6_0 := zzh BK480.out 0; have hfz6_1 := zzh BK480.out 1; have hfz6_2 := zzh BK480.out 2))
  refine bodyPost_ret (results_cell_row rfl _ _ gb480 64 #[.bool a0_0, .int .u64 (Go.bits .or .u64 (IntKind.u64.wrap (a0_1 * 4294967296)) (a0_2 / 4294967296)), .int .u64 (IntKind.u64.wrap (a0_2 * 4294967296))] (0, 0) _ rfl (by (with_reducible repeat first | apply zzc | apply zzd | apply zzb); refine zzo (cs := #[.bool a0_0, .int .u64 (Go.bits .or .u64 (IntKind.u64.wrap (a0_1 * 4294967296)) (a0_2 / 4294967296)), .int .u64 0]) ?_ 2 _ rfl; (with_reducible repeat first | apply zzc | apply zzd | apply zzb); refine zzo (cs := #[.bool a0_0, .int .u64 0, .int .u64 0]) ?_ 1 _ rfl; (with_reducible repeat first | apply zzc | apply zzd | apply zzb); refine zzo (cs := #[.bool false, .int .u64 0, .int .u64 0]) ?_ 0 _ rfl; (with_reducible repeat first | apply zzc | apply zzd | apply zzb); exact BK480.out) Try.underlying64 rfl (by kernel_rfl)) rfl ?_
  exact ⟨by first | rfl | (simp [zzn, zzm] <;> rfl) | (simp [*, zzn, zzm] <;> rfl), by repeat (first | (with_reducible first | exact HB.out | apply zzf | apply zza | apply zzg | refine zze ?_ GE479.out | refine zze ?_ GE480.out) | exact HB.out)⟩
def r_Int.f (k : Nat) (a0 : Int) : Option (Int × Bool) := (r_exact.f a0).bind fun bt482 => ((r_up.f bt482.1 bt482.2.1 bt482.2.2).bind fun bt485 => ((r_fit.f k bt485.1 bt485.2.1 bt485.2.2 false).bind fun bt488 => (some (bt488.1, bt488.2))))
set_option maxHeartbeats 8000000 in
set_option maxRecDepth 100000 in
theorem r_Int.calls (k : Nat) (a0 : Int) (r1 : Int) (r2 : Bool) (w : World) (h : r_Int.f k a0 = some (r1, r2)) :
    Calls Try.prog 55 #[.int .i64 a0] w fun e w' => e = .returned (.agg #[.int .i64 r1, .bool r2]) ∧ Below w.heap.size w w' := by
  have hu23 := Try.underlying23
  have HB := Aside0.mk (Below.refl w.heap.size w)
  have H : ((r_exact.f a0).bind fun bt482 => ((r_up.f bt482.1 bt482.2.1 bt482.2.2).bind fun bt485 => ((r_fit.f k bt485.1 bt485.2.1 bt485.2.2 false).bind fun bt488 => (some (bt488.1, bt488.2))))) = some (r1, r2) := h
  clear h
  replace H := Option.bind_eq_some_iff.mp H
  obtain ⟨⟨t482, t483, t484⟩, A20, H⟩ := H
  replace H : ((r_up.f t482 t483 t484).bind fun bt485 => ((r_fit.f k bt485.1 bt485.2.1 bt485.2.2 false).bind fun bt488 => (some (bt488.1, bt488.2)))) = some (r1, r2) := H
  have A2 := Aside0.mk A20
  clear A20
  replace H := Option.bind_eq_some_iff.mp H
  obtain ⟨⟨t485, t486, t487⟩, A30, H⟩ := H
  replace H : ((r_fit.f k t485 t486 t487 false).bind fun bt488 => (some (bt488.1, bt488.2))) = some (r1, r2) := H
  have A3 := Aside0.mk A30
  clear A30
  replace H := Option.bind_eq_some_iff.mp H
  obtain ⟨⟨t488, t489⟩, A40, H⟩ := H
  replace H : (some (t488, t489)) = some (r1, r2) := H
  have A4 := Aside0.mk A40
  clear A40
  simp only [Option.some.injEq, Prod.mk.injEq] at H
  obtain ⟨rfl, rfl⟩ := H
  go_enter Try.func55, Try.ntmps55
  go_wp2_with (first | ((with_reducible refine zzt (N := 2) rfl ?_); refine zzp ?hg (N := 2) ?hd (cs := #[.int .i64 0, .bool false]) (t := 23) ?hr ?_; (case hd => rfl); (case hg => rfl); (case hr => first | (go_simp; done) | (go_simp; rfl)); intro gb481 hg w5 hbox hb; have n0_ := Aside0.mk (zzl (by repeat (first | (with_reducible first | exact HB.out | apply zzf | apply zza | apply zzg) | exact HB.out)) hb); have n1_ := Aside0.mk (hbox); have n3_ := Aside0.mk ((by rw [hg]; exact (zzk (by repeat (first | (with_reducible first | exact HB.out | apply zzf | apply zza | apply zzg) | exact HB.out))) : w.heap.size ≤ gb481)); clear HB; have HB := n0_; have BK481 := n1_; have GE481 := n3_; clear n0_ n1_ n3_; clear hb hbox hg) | ((with_reducible refine zzq (f := 85) rfl ?_); refine goesL_ (some 4) rfl rfl Try.func85 (by kernel_rfl) rfl #[.int .i64 a0] rfl (by (try simp only [List.map_toArray, List.map_cons, List.map_nil]); first | done | rfl | (simp only [List.length_drop, List.length_take]; rfl)) ?_; (with_reducible refine (r_exact.calls a0 t482 t483 t484 _ A2.out).mono ?_); rintro e w6 ⟨rfl, hb⟩; refine ⟨_, rfl, ?_⟩; have n0_ := Aside0.mk (zzj (g := gb481) (o := .cells #[.int .i64 0, .bool false] 23 (0, 0)) (by (with_reducible repeat first | apply zzc | apply zzd | apply zzb); exact BK481.out) hb); have n1_ := Aside0.mk (zzl (by repeat (first | (with_reducible first | exact HB.out | apply zzf | apply zza | apply zzg | refine zze ?_ GE481.out) | exact HB.out)) hb); clear BK481; clear HB; have BK481 := n0_; have HB := n1_; clear n0_ n1_; (try clear hi)) | ((with_reducible refine zzq (f := 95) rfl ?_); refine goesL_ (some 5) rfl rfl Try.func95 (by kernel_rfl) rfl #[.agg #[.bool t482, .int .u64 t483, .int .u64 t484]] rfl (by (try simp only [List.map_toArray, List.map_cons, List.map_nil]); first | done | rfl | (simp only [List.length_drop, List.length_take]; rfl)) ?_; (with_reducible refine (r_up.calls t482 t483 t484 t485 t486 t487 _ A3.out).mono ?_); rintro e w7 ⟨rfl, hb⟩; refine ⟨_, rfl, ?_⟩; have n0_ := Aside0.mk (zzj (g := gb481) (o := .cells #[.int .i64 0, .bool false] 23 (0, 0)) (by (with_reducible repeat first | apply zzc | apply zzd | apply zzb); exact BK481.out) hb); have n1_ := Aside0.mk (zzl (by repeat (first | (with_reducible first | exact HB.out | apply zzf | apply zza | apply zzg | refine zze ?_ GE481.out) | exact HB.out)) hb); clear BK481; clear HB; have BK481 := n0_; have HB := n1_; clear n0_ n1_; (try clear hi)) | ((with_reducible refine zzq (f := 86) rfl ?_); refine goesL_ (some 6) rfl rfl Try.func86 (by kernel_rfl) rfl #[.agg #[.bool t485, .int .u64 t486, .int .u64 t487], .bool false] rfl (by (try simp only [List.map_toArray, List.map_cons, List.map_nil]); first | done | rfl | (simp only [List.length_drop, List.length_take]; rfl)) ?_; (with_reducible refine (r_fit.calls k t485 t486 t487 false t488 t489 _ A4.out).mono ?_); rintro e w8 ⟨rfl, hb⟩; refine ⟨_, rfl, ?_⟩; have n0_ := Aside0.mk (zzj (g := gb481) (o := .cells #[.int .i64 0, .bool false] 23 (0, 0)) (by (with_reducible repeat first | apply zzc | apply zzd | apply zzb); exact BK481.out) hb); have n1_ := Aside0.mk (zzl (by repeat (first | (with_reducible first | exact HB.out | apply zzf | apply zza | apply zzg | refine zze ?_ GE481.out) | exact HB.out)) hb); clear BK481; clear HB; have BK481 := n0_; have HB := n1_; clear n0_ n1_; have hcz9_0 : w8.cell? ⟨gb481, 0, none⟩ = some (.int .i64 0) := (zzi BK481.out 0).trans rfl; have hcz9_1 : w8.cell? ⟨gb481, 1, none⟩ = some (.bool false) := (zzi BK481.out 1).trans rfl; have hfz9_0 := zzh BK481.out 0; have hfz9_1 := zzh BK481.out 1))
  refine bodyPost_ret (results_cell_row rfl _ _ gb481 23 #[.int .i64 t488, .bool t489] (0, 0) _ rfl (by (with_reducible repeat first | apply zzc | apply zzd | apply zzb); refine zzo (cs := #[.int .i64 t488, .bool false]) ?_ 1 _ rfl; (with_reducible repeat first | apply zzc | apply zzd | apply zzb); refine zzo (cs := #[.int .i64 0, .bool false]) ?_ 0 _ rfl; (with_reducible repeat first | apply zzc | apply zzd | apply zzb); exact BK481.out) Try.underlying23 rfl (by kernel_rfl)) rfl ?_
  exact ⟨by first | rfl | (simp [zzn, zzm] <;> rfl) | (simp [*, zzn, zzm] <;> rfl), by repeat (first | (with_reducible first | exact HB.out | apply zzf | apply zza | apply zzg | refine zze ?_ GE481.out) | exact HB.out)⟩
def r_none.f (a0 : Int) : Option (Int × Bool) := if a0 > 0 then (some (9223372036854775807, true)) else (if a0 < 0 then (some ((-9223372036854775807), true)) else (some (0, true)))
set_option maxHeartbeats 8000000 in
set_option maxRecDepth 100000 in
theorem r_none.calls (a0 : Int) (r1 : Int) (r2 : Bool) (w : World) (h : r_none.f a0 = some (r1, r2)) :
    Calls Try.prog 96 #[.int .i64 a0] w fun e w' => e = .returned (.agg #[.int .i64 r1, .bool r2]) ∧ Below w.heap.size w w' := by
  have hu23 := Try.underlying23
  have HB := Aside0.mk (Below.refl w.heap.size w)
  have H : (if a0 > 0 then (some (9223372036854775807, true)) else (if a0 < 0 then (some ((-9223372036854775807), true)) else (some (0, true)))) = some (r1, r2) := h
  clear h
  by_cases c2 : a0 > 0
  · rw [if_pos c2] at H
    have c2b0 : decide (0 < a0) = true := decide_eq_true c2
    clear c2
    simp only [Option.some.injEq, Prod.mk.injEq] at H
    obtain ⟨rfl, rfl⟩ := H
    go_enter Try.func96, Try.ntmps96
    go_wp2_with (first | ((with_reducible refine zzt (N := 2) rfl ?_); refine zzp ?hg (N := 2) ?hd (cs := #[.int .i64 0, .bool false]) (t := 23) ?hr ?_; (case hd => rfl); (case hg => rfl); (case hr => first | (go_simp; done) | (go_simp; rfl)); intro gb490 hg w3 hbox hb; have n0_ := Aside0.mk (zzl (by repeat (first | (with_reducible first | exact HB.out | apply zzf | apply zza | apply zzg) | exact HB.out)) hb); have n1_ := Aside0.mk (hbox); have n3_ := Aside0.mk ((by rw [hg]; exact (zzk (by repeat (first | (with_reducible first | exact HB.out | apply zzf | apply zza | apply zzg) | exact HB.out))) : w.heap.size ≤ gb490)); clear HB; have HB := n0_; have BK490 := n1_; have GE490 := n3_; clear n0_ n1_ n3_; clear hb hbox hg; have hcz4_0 : w3.cell? ⟨gb490, 0, none⟩ = some (.int .i64 0) := (zzi BK490.out 0).trans rfl; have hcz4_1 : w3.cell? ⟨gb490, 1, none⟩ = some (.bool false) := (zzi BK490.out 1).trans rfl; have hfz4_0 := zzh BK490.out 0; have hfz4_1 := zzh BK490.out 1))
    refine bodyPost_ret (results_cell_row rfl _ _ gb490 23 #[.int .i64 9223372036854775807, .bool true] (0, 0) _ rfl (by (with_reducible repeat first | apply zzc | apply zzd | apply zzb); refine zzo (cs := #[.int .i64 9223372036854775807, .bool false]) ?_ 1 _ rfl; (with_reducible repeat first | apply zzc | apply zzd | apply zzb); refine zzo (cs := #[.int .i64 0, .bool false]) ?_ 0 _ rfl; (with_reducible repeat first | apply zzc | apply zzd | apply zzb); exact BK490.out) Try.underlying23 rfl (by kernel_rfl)) rfl ?_
    exact ⟨by first | rfl | (simp [zzn, zzm] <;> rfl) | (simp [*, zzn, zzm] <;> rfl), by repeat (first | (with_reducible first | exact HB.out | apply zzf | apply zza | apply zzg | refine zze ?_ GE490.out) | exact HB.out)⟩
  · rw [if_neg c2] at H
    have c2b0 : decide (0 < a0) = false := decide_eq_false c2
    clear c2
    by_cases c5 : a0 < 0
    · rw [if_pos c5] at H
      have c5b0 : decide (a0 < 0) = true := decide_eq_true c5
      clear c5
      simp only [Option.some.injEq, Prod.mk.injEq] at H
      obtain ⟨rfl, rfl⟩ := H
      go_enter Try.func96, Try.ntmps96
      go_wp2_with (first | ((with_reducible refine zzt (N := 2) rfl ?_); refine zzp ?hg (N := 2) ?hd (cs := #[.int .i64 0, .bool false]) (t := 23) ?hr ?_; (case hd => rfl); (case hg => rfl); (case hr => first | (go_simp; done) | (go_simp; rfl)); intro gb490 hg w6 hbox hb; have n0_ := Aside0.mk (zzl (by repeat (first | (with_reducible first | exact HB.out | apply zzf | apply zza | apply zzg) | exact HB.out)) hb); have n1_ := Aside0.mk (hbox); have n3_ := Aside0.mk ((by rw [hg]; exact (zzk (by repeat (first | (with_reducible first | exact HB.out | apply zzf | apply zza | apply zzg) | exact HB.out))) : w.heap.size ≤ gb490)); clear HB; have HB := n0_; have BK490 := n1_; have GE490 := n3_; clear n0_ n1_ n3_; clear hb hbox hg; have hcz7_0 : w6.cell? ⟨gb490, 0, none⟩ = some (.int .i64 0) := (zzi BK490.out 0).trans rfl; have hcz7_1 : w6.cell? ⟨gb490, 1, none⟩ = some (.bool false) := (zzi BK490.out 1).trans rfl; have hfz7_0 := zzh BK490.out 0; have hfz7_1 := zzh BK490.out 1))
      refine bodyPost_ret (results_cell_row rfl _ _ gb490 23 #[.int .i64 (-9223372036854775807), .bool true] (0, 0) _ rfl (by (with_reducible repeat first | apply zzc | apply zzd | apply zzb); refine zzo (cs := #[.int .i64 (-9223372036854775807), .bool false]) ?_ 1 _ rfl; (with_reducible repeat first | apply zzc | apply zzd | apply zzb); refine zzo (cs := #[.int .i64 0, .bool false]) ?_ 0 _ rfl; (with_reducible repeat first | apply zzc | apply zzd | apply zzb); exact BK490.out) Try.underlying23 rfl (by kernel_rfl)) rfl ?_
      exact ⟨by first | rfl | (simp [zzn, zzm] <;> rfl) | (simp [*, zzn, zzm] <;> rfl), by repeat (first | (with_reducible first | exact HB.out | apply zzf | apply zza | apply zzg | refine zze ?_ GE490.out) | exact HB.out)⟩
    · rw [if_neg c5] at H
      have c5b0 : decide (a0 < 0) = false := decide_eq_false c5
      clear c5
      simp only [Option.some.injEq, Prod.mk.injEq] at H
      obtain ⟨rfl, rfl⟩ := H
      go_enter Try.func96, Try.ntmps96
      go_wp2_with (first | ((with_reducible refine zzt (N := 2) rfl ?_); refine zzp ?hg (N := 2) ?hd (cs := #[.int .i64 0, .bool false]) (t := 23) ?hr ?_; (case hd => rfl); (case hg => rfl); (case hr => first | (go_simp; done) | (go_simp; rfl)); intro gb490 hg w8 hbox hb; have n0_ := Aside0.mk (zzl (by repeat (first | (with_reducible first | exact HB.out | apply zzf | apply zza | apply zzg) | exact HB.out)) hb); have n1_ := Aside0.mk (hbox); have n3_ := Aside0.mk ((by rw [hg]; exact (zzk (by repeat (first | (with_reducible first | exact HB.out | apply zzf | apply zza | apply zzg) | exact HB.out))) : w.heap.size ≤ gb490)); clear HB; have HB := n0_; have BK490 := n1_; have GE490 := n3_; clear n0_ n1_ n3_; clear hb hbox hg; have hcz9_0 : w8.cell? ⟨gb490, 0, none⟩ = some (.int .i64 0) := (zzi BK490.out 0).trans rfl; have hcz9_1 : w8.cell? ⟨gb490, 1, none⟩ = some (.bool false) := (zzi BK490.out 1).trans rfl; have hfz9_0 := zzh BK490.out 0; have hfz9_1 := zzh BK490.out 1))
      refine bodyPost_ret (results_cell_row rfl _ _ gb490 23 #[.int .i64 0, .bool true] (0, 0) _ rfl (by (with_reducible repeat first | apply zzc | apply zzd | apply zzb); refine zzo (cs := #[.int .i64 0, .bool false]) ?_ 1 _ rfl; (with_reducible repeat first | apply zzc | apply zzd | apply zzb); refine zzo (cs := #[.int .i64 0, .bool false]) ?_ 0 _ rfl; (with_reducible repeat first | apply zzc | apply zzd | apply zzb); exact BK490.out) Try.underlying23 rfl (by kernel_rfl)) rfl ?_
      exact ⟨by first | rfl | (simp [zzn, zzm] <;> rfl) | (simp [*, zzn, zzm] <;> rfl), by repeat (first | (with_reducible first | exact HB.out | apply zzf | apply zza | apply zzg | refine zze ?_ GE490.out) | exact HB.out)⟩
end Go.Proofs.Ytenpiaafkmfjfaa.B

end
section
namespace Go.Proofs.Ytenpiaafkmfjfaa.B
open Go.RowKit Go.Proofs.YtenpiaafkmfjfaaW.PrintWords Go.Proofs.YtenpiaafkmfjfaaW.PrintLast
def I64 (v : Int) : Prop := -9223372036854775808 ≤ v ∧ v ≤ 9223372036854775807
theorem Snd.i64 {v : Int} (h : Snd v) : I64 v := by unfold Snd at h; unfold I64; omega
def sgn3 (x y : Int) : Int := if x < y then -1 else if x = y then 0 else 1
theorem of_f {v : Int} (h : I64 v) : fixed_of.f v = some (decide (v < 0), (v.natAbs : Int), 0) := by
  unfold I64 at h
  unfold fixed_of.f
  by_cases hv : v < 0
  · rw [if_pos hv, decide_eq_true hv]
    have e : IntKind.u64.wrap (-(IntKind.u64.wrap v)) = (v.natAbs : Int) := by rw [IntKind.wrap_u64, IntKind.wrap_u64]; omega
    rw [e]
  · rw [if_neg hv, decide_eq_false hv, u64_id (by omega) (by omega)]
    rw [show (v.natAbs : Int) = v by omega]
theorem size_f {v : Int} (h : I64 v) : r_size.f v = some (v.natAbs : Int) := by
  unfold I64 at h
  unfold r_size.f
  by_cases hv : v < 0
  · rw [if_pos hv]
    have e : IntKind.u64.wrap (wrap64 (-v)) = (v.natAbs : Int) := by rw [IntKind.wrap_u64]; unfold wrap64; omega
    rw [e]
  · rw [if_neg hv, u64_id (by omega) (by omega), show (v.natAbs : Int) = v by omega]
theorem whole_f (v : Int) (f : Bool) : r_whole.f v f = some (sv v, sf v f) := by
  unfold r_whole.f sv sf; split <;> rfl
theorem abs_mul_le {a b : Int} (ha : I64 a) (hb : I64 b) : a.natAbs * b.natAbs ≤ 85070591730234615865843651857942052864 := by
  unfold I64 at ha hb
  have := Nat.mul_le_mul (show a.natAbs ≤ 9223372036854775808 by omega) (show b.natAbs ≤ 9223372036854775808 by omega)
  omega
theorem mul_sign (a b : Int) : (decide (a < 0) != decide (b < 0)) = true → a * b = -((a.natAbs * b.natAbs : Nat) : Int) := by
  intro h
  rw [Int.natCast_mul]
  by_cases ha : a < 0
  · by_cases hb : b < 0
    · simp [ha, hb] at h
    · rw [show (a.natAbs : Int) = -a by omega, show (b.natAbs : Int) = b by omega, Int.neg_mul, Int.neg_neg]
  · by_cases hb : b < 0
    · rw [show (a.natAbs : Int) = a by omega, show (b.natAbs : Int) = -b by omega, Int.mul_neg, Int.neg_neg]
    · simp [ha, hb] at h
theorem mul_sign' (a b : Int) : (decide (a < 0) != decide (b < 0)) = false → a * b = ((a.natAbs * b.natAbs : Nat) : Int) := by
  intro h
  rw [Int.natCast_mul]
  by_cases ha : a < 0
  · by_cases hb : b < 0
    · rw [show (a.natAbs : Int) = -a by omega, show (b.natAbs : Int) = -b by omega, Int.neg_mul_neg]
    · simp [ha, hb] at h
  · by_cases hb : b < 0
    · simp [ha, hb] at h
    · rw [show (a.natAbs : Int) = a by omega, show (b.natAbs : Int) = b by omega]
theorem ex_nat (n : Bool) (p : Nat) (x : Int) (hp : p ≤ 85070591730234615865843651857942052864) (h1 : n = false → x = (p : Int)) (h2 : n = true → x = -(p : Int)) : Ex n ((p % 18446744073709551616 : Nat) : Int) ((p / 18446744073709551616 : Nat) : Int) x :=
  ⟨by omega, by omega, by omega, by omega, fun e => by have := h1 e; omega, fun e => by have := h2 e; omega⟩
theorem product_ex {a b : Int} (ha : I64 a) (hb : I64 b) : ∃ n lo hi, fixed_product.f a b = some (n, lo, hi) ∧ Ex n lo hi (a * b) := by
  have hp := abs_mul_le ha hb
  unfold fixed_product.f
  rw [of_f ha, of_f hb]
  unfold I64 at ha hb
  simp only [Option.bind_some, mul64_f a.natAbs b.natAbs (by omega) (by omega)]
  exact ⟨_, _, _, rfl, ex_nat _ _ _ hp (mul_sign' a b) (mul_sign a b)⟩
structure Rx (n : Bool) (hi lo x : Int) : Prop where
  ex : Ex n lo hi x
  s : n = decide (x < 0)
theorem times_ex {a b : Int} (ha : I64 a) (hb : I64 b) : ∃ n hi lo, r_times.f a b = some (n, hi, lo) ∧ Rx n hi lo (a * b) := by
  have hp := abs_mul_le ha hb
  unfold r_times.f
  rw [size_f ha, size_f hb]
  unfold I64 at ha hb
  simp only [Option.bind_some, mul64_f a.natAbs b.natAbs (by omega) (by omega)]
  by_cases hs : (decide (a < 0) != decide (b < 0)) = true
  · have e := mul_sign a b hs
    rw [if_pos hs]
    by_cases h0 : a = 0
    · rw [if_pos h0]
      subst h0
      simp only [Int.zero_mul, Int.natAbs_zero, Nat.zero_mul] at *
      exact ⟨_, _, _, rfl, ex_nat _ _ _ (by omega) (fun _ => by omega) (fun h => absurd h (by decide)), by decide⟩
    · rw [if_neg h0]
      by_cases h1 : b = 0
      · subst h1
        simp only [Int.mul_zero, Int.natAbs_zero, Nat.mul_zero, bne_self_eq_false] at *
        exact ⟨_, _, _, rfl, ex_nat _ _ _ (by omega) (fun _ => by omega) (fun h => absurd h (by decide)), by decide⟩
      · have hpos : 0 < a.natAbs * b.natAbs := Nat.mul_pos (by omega) (by omega)
        rw [show (b != 0) = true by simpa using h1]
        exact ⟨_, _, _, rfl, ex_nat _ _ _ hp (fun h => absurd h (by decide)) (fun _ => e), by rw [decide_eq_true]; omega⟩
  · have hs : (decide (a < 0) != decide (b < 0)) = false := by simpa using hs
    have e := mul_sign' a b hs
    rw [if_neg (by rw [hs]; decide)]
    exact ⟨_, _, _, rfl, ex_nat _ _ _ hp (fun _ => e) (fun h => absurd h (by decide)), by rw [decide_eq_false]; omega⟩
theorem add64s_i {x y c : Int} (hx : 0 ≤ x) (hy : 0 ≤ y) (hc : 0 ≤ c) : add64s x y c = (x + y + c) % 18446744073709551616 := by unfold add64s; omega
theorem add64c_i {x y c : Int} (hx : 0 ≤ x) (hy : 0 ≤ y) (hc : 0 ≤ c) : add64c x y c = (x + y + c) / 18446744073709551616 := by unfold add64c; omega
theorem sub64s_i {x y c : Int} (hx : 0 ≤ x) (hy : 0 ≤ y) (hy' : y < 18446744073709551616) (hc : c = 0 ∨ c = 1) : sub64s x y c = (x - y - c) % 18446744073709551616 := by unfold sub64s; omega
theorem sub64c_i {x y c : Int} (hx : 0 ≤ x) (hy : 0 ≤ y) (hc : c = 0 ∨ c = 1) : sub64c x y c = if x < y + c then 1 else 0 := by
  unfold sub64c
  by_cases h : x < y + c
  · rw [if_pos h, if_pos (by omega)]; rfl
  · rw [if_neg h, if_neg (by omega)]; rfl
theorem compare_u (a b : Int) : cmp_Compare_uint64.f a b = some (sgn3 a b) := by
  unfold cmp_Compare_uint64.f cmp_isNaN_uint64.f sgn3
  simp only [bne_self_eq_false, Option.bind_some, Bool.false_eq_true, if_false]
  by_cases h : a < b
  · rw [if_pos h, if_pos h]
  · rw [if_neg h, if_neg h]
    by_cases h2 : a = b
    · rw [if_pos h2, if_neg (by omega)]
    · rw [if_neg h2, if_pos (by omega)]
theorem compare_i (a b : Int) : cmp_Compare_int64.f a b = some (sgn3 a b) := by
  unfold cmp_Compare_int64.f cmp_isNaN_int64.f sgn3
  simp only [bne_self_eq_false, Option.bind_some, Bool.false_eq_true, if_false]
  by_cases h : a < b
  · rw [if_pos h, if_pos h]
  · rw [if_neg h, if_neg h]
    by_cases h2 : a = b
    · rw [if_pos h2, if_neg (by omega)]
    · rw [if_neg h2, if_pos (by omega)]
theorem or_two (k : Nat) (hk : 3 ≤ k) (a b : Int) : cmp_Or_int.f k [a, b] = some (if a = 0 then b else a) := by
  obtain ⟨k, rfl⟩ : ∃ m, k = m + 3 := ⟨k - 3, by omega⟩
  unfold cmp_Or_int.f
  rw [cmp_Or_int.l0]
  simp only [show (([a, b] : List Int).length : Int) = 2 by rfl, show rd [a, b] 0 = a by rfl, show ((0 : Int) < 2) by decide, show ((0 : Int) ≤ 0) by decide, if_true]
  by_cases ha : a = 0
  · subst ha
    rw [if_pos rfl, if_pos rfl, show wrap64 (0 + 1) = 1 from wrap64_id (by decide) (by decide), cmp_Or_int.l0]
    simp only [show (([0, b] : List Int).length : Int) = 2 by rfl, show rd [0, b] 1 = b by rfl, show ((1 : Int) < 2) by decide, show ((0 : Int) ≤ 1) by decide, if_true]
    by_cases hb : b = 0
    · subst hb
      rw [if_pos rfl, show wrap64 (1 + 1) = 2 from wrap64_id (by decide) (by decide), cmp_Or_int.l0]
      simp
    · rw [if_neg hb]
  · rw [if_neg ha, if_neg ha]
theorem words_cmp (k : Nat) (hk : 3 ≤ k) {lo1 hi1 lo2 hi2 : Int} (h1 : 0 ≤ lo1) (h2 : lo1 < 18446744073709551616) (h3 : 0 ≤ lo2) (h4 : lo2 < 18446744073709551616) :
    fixed_words_compare.f k lo1 hi1 lo2 hi2 = some (sgn3 (hi1 * 18446744073709551616 + lo1) (hi2 * 18446744073709551616 + lo2)) := by
  unfold fixed_words_compare.f
  simp only [compare_u, Option.bind_some, or_two k hk]
  unfold sgn3
  by_cases a : hi1 < hi2
  · simp only [if_pos a]
    rw [if_neg (by decide), if_pos (by omega)]
  · by_cases b : hi1 = hi2
    · subst b
      simp only [if_neg a, if_true]
      by_cases c : lo1 < lo2
      · rw [if_pos c, if_pos (by omega)]
      · by_cases d : lo1 = lo2
        · rw [if_neg c, if_pos d, if_neg (by omega), if_pos (by omega)]
        · rw [if_neg c, if_neg d, if_neg (by omega), if_neg (by omega)]
    · simp only [if_neg a, if_neg b]
      rw [if_neg (by decide), if_neg (by omega), if_neg (by omega)]
theorem plus_ex (k : Nat) (hk : 3 ≤ k) {n1 n2 : Bool} {lo1 hi1 lo2 hi2 x y : Int} (h : Ex n1 lo1 hi1 x) (g : Ex n2 lo2 hi2 y) (hb : (x + y).natAbs < 170141183460469231731687303715884105728) :
    ∃ n lo hi, fixed_exact_plus.f k n1 lo1 hi1 n2 lo2 hi2 = some (n, lo, hi) ∧ Ex n lo hi (x + y) := by
  have ah := h.abs
  have ag := g.abs
  obtain ⟨a1, a2, a3, a4, ap, am⟩ := h
  obtain ⟨b1, b2, b3, b4, bp, bm⟩ := g
  unfold fixed_exact_plus.f
  by_cases hn : n1 = n2
  · subst hn
    rw [if_pos (by simp)]
    have hs : hi1 * 18446744073709551616 + lo1 + (hi2 * 18446744073709551616 + lo2) < 170141183460469231731687303715884105728 := by
      cases n1
      · have := ap rfl; have := bp rfl; omega
      · have := am rfl; have := bm rfl; omega
    rw [add64c_i a1 b1 (by omega), add64s_i a1 b1 (by omega), add64s_i a3 b3 (by omega), if_pos (by omega)]
    refine ⟨_, _, _, rfl, by omega, by omega, by omega, by omega, fun e => ?_, fun e => ?_⟩
    · have := ap e; have := bp e; omega
    · have := am e; have := bm e; omega
  · rw [if_neg (by simpa using hn), words_cmp k hk a1 a2 b1 b2]
    simp only [Option.bind_some]
    by_cases c : hi1 * 18446744073709551616 + lo1 < hi2 * 18446744073709551616 + lo2
    · rw [show sgn3 (hi1 * 18446744073709551616 + lo1) (hi2 * 18446744073709551616 + lo2) = -1 by unfold sgn3; rw [if_pos c]]
      rw [if_pos (by decide), sub64c_i b1 a1 (Or.inl rfl), sub64s_i b1 a1 a2 (Or.inl rfl)]
      refine ⟨_, _, _, rfl, ?_⟩
      by_cases d : lo2 < lo1 + 0
      · rw [if_pos d, sub64s_i b3 a3 (by omega) (Or.inr rfl)]
        refine ⟨by omega, by omega, by omega, by omega, fun e => ?_, fun e => ?_⟩
        · have := bp e; cases n1
          · exact absurd e.symm hn
          · have := am rfl; omega
        · have := bm e; cases n1
          · have := ap rfl; omega
          · exact absurd e.symm hn
      · rw [if_neg d, sub64s_i b3 a3 (by omega) (Or.inl rfl)]
        refine ⟨by omega, by omega, by omega, by omega, fun e => ?_, fun e => ?_⟩
        · have := bp e; cases n1
          · exact absurd e.symm hn
          · have := am rfl; omega
        · have := bm e; cases n1
          · have := ap rfl; omega
          · exact absurd e.symm hn
    · rw [if_neg (by unfold sgn3; rw [if_neg c]; split <;> decide), sub64c_i a1 b1 (Or.inl rfl), sub64s_i a1 b1 b2 (Or.inl rfl)]
      refine ⟨_, _, _, rfl, ?_⟩
      by_cases d : lo1 < lo2 + 0
      · rw [if_pos d, sub64s_i a3 b3 (by omega) (Or.inr rfl)]
        refine ⟨by omega, by omega, by omega, by omega, fun e => ?_, fun e => ?_⟩
        · have := ap e; cases n2
          · exact absurd e hn
          · have := bm rfl; omega
        · have := am e; cases n2
          · have := bp rfl; omega
          · exact absurd e hn
      · rw [if_neg d, sub64s_i a3 b3 (by omega) (Or.inl rfl)]
        refine ⟨by omega, by omega, by omega, by omega, fun e => ?_, fun e => ?_⟩
        · have := ap e; cases n2
          · exact absurd e hn
          · have := bm rfl; omega
        · have := am e; cases n2
          · have := bp rfl; omega
          · exact absurd e hn
theorem Ex.neg {n : Bool} {lo hi x : Int} (h : Ex n lo hi x) : Ex (!n) lo hi (-x) := by
  obtain ⟨a1, a2, a3, a4, ap, am⟩ := h
  refine ⟨a1, a2, a3, a4, fun e => ?_, fun e => ?_⟩
  · have := am (by simpa using e); omega
  · have := ap (by simpa using e); omega
theorem mul_lo {a b : Int} (ha : I64 a) (hb : I64 b) : -85070591730234615856620279821087277056 ≤ a * b ∧ a * b ≤ 85070591730234615865843651857942052864 := by
  have hp := abs_mul_le ha hb
  refine ⟨?_, ?_⟩
  · by_cases hs : (decide (a < 0) != decide (b < 0)) = true
    · rw [mul_sign a b hs]
      unfold I64 at ha hb
      by_cases h : a < 0
      · have hb0 : ¬ b < 0 := by intro h2; simp [h, h2] at hs
        have := Nat.mul_le_mul (show a.natAbs ≤ 9223372036854775808 by omega) (show b.natAbs ≤ 9223372036854775807 by omega)
        omega
      · have := Nat.mul_le_mul (show a.natAbs ≤ 9223372036854775807 by omega) (show b.natAbs ≤ 9223372036854775808 by omega)
        omega
    · rw [mul_sign' a b (by simpa using hs)]; omega
  · by_cases hs : (decide (a < 0) != decide (b < 0)) = true
    · rw [mul_sign a b hs]; omega
    · rw [mul_sign' a b (by simpa using hs)]; omega
theorem order_f (k : Nat) (hk : 3 ≤ k) {a b c d : Int} (ha : I64 a) (hb : I64 b) (hc : I64 c) (hd : I64 d) : fixed_Order.f k a b c d = some (sgn3 (a * b) (c * d)) := by
  obtain ⟨n1, lo1, hi1, e1, x1⟩ := product_ex ha hb
  obtain ⟨n2, lo2, hi2, e2, x2⟩ := product_ex hc hd
  have m1 := mul_lo ha hb
  have m2 := mul_lo hc hd
  have m : (a * b + -(c * d)).natAbs < 170141183460469231731687303715884105728 := by omega
  obtain ⟨n, lo, hi, e, x⟩ := plus_ex k hk x1 x2.neg m
  unfold fixed_Order.f
  rw [e1, e2]
  simp only [Option.bind_some, e]
  have ax := x.abs
  obtain ⟨p1, p2, p3, p4, pp, pm⟩ := x
  generalize a * b = u at *
  generalize c * d = v at *
  unfold sgn3
  by_cases h0 : u = v
  · rw [if_pos (by rw [show lo = 0 by omega, show hi = 0 by omega]; decide), if_neg (by omega), if_pos h0]
  · rw [if_neg (by intro h; simp at h; omega)]
    cases n
    · have := pp rfl
      rw [if_neg (by decide), if_neg (by omega), if_neg h0]
    · have := pm rfl
      rw [if_pos rfl, if_pos (by omega)]
theorem less_f (n1 n2 : Bool) {hi1 lo1 hi2 lo2 : Int} (h1 : 0 ≤ lo1) (h2 : lo1 < 18446744073709551616) (h3 : 0 ≤ lo2) (h4 : lo2 < 18446744073709551616) :
    r_less.f n1 hi1 lo1 n2 hi2 lo2 = some (decide (hi1 * 18446744073709551616 + lo1 < hi2 * 18446744073709551616 + lo2)) := by
  unfold r_less.f
  by_cases a : hi1 < hi2
  · rw [if_pos a, decide_eq_true (by omega)]
  · rw [if_neg a]
    by_cases b : hi1 = hi2
    · rw [if_pos b]
      congr 1
      rw [decide_eq_decide]; omega
    · rw [if_neg b, decide_eq_false (by omega)]
theorem sv_i64 {v : Int} (h : I64 v) : Snd (sv v) := by unfold I64 at h; exact sv_snd h.1 h.2
theorem up_f {n : Bool} {lo : Int} (h0 : 0 ≤ lo) (h1 : lo < 18446744073709551616) : fixed_exact_up.f n lo 0 = some (n, lo % 4294967296 * 4294967296, lo / 4294967296) := by
  unfold fixed_exact_up.f
  rw [u64_id (x := 0 * 4294967296) (by omega) (by omega), or32 0 _ (by omega) (by omega) (by omega) (by omega), IntKind.wrap_u64]
  congr 3 <;> omega
theorem int_f (k : Nat) (hk : 1 ≤ k) {v : Int} (h : I64 v) : fixed_Int.f k v = some (fitV (v * 4294967296), fitF (v * 4294967296) false) := by
  unfold fixed_Int.f
  rw [of_f h]
  unfold I64 at h
  simp only [Option.bind_some]
  rw [up_f (by omega) (by omega)]
  simp only [Option.bind_some]
  rw [fit_ex (x := v * 4294967296) _ false k hk]
  · rfl
  · refine ⟨by omega, by omega, by omega, by omega, fun e => ?_, fun e => ?_⟩
    · have := of_decide_eq_false e; omega
    · have := of_decide_eq_true e; omega
theorem div_two (hi lo d : Nat) (hd : 0 < d) : (hi * 18446744073709551616 + lo) / d = hi / d * 18446744073709551616 + (hi % d * 18446744073709551616 + lo) / d := by
  have e : hi * 18446744073709551616 + lo = d * (hi / d * 18446744073709551616) + (hi % d * 18446744073709551616 + lo) := by
    have := Nat.div_add_mod hi d
    have e2 : d * (hi / d * 18446744073709551616) = d * (hi / d) * 18446744073709551616 := by rw [Nat.mul_assoc]
    rw [e2]
    omega
  rw [e, Nat.mul_add_div hd]
theorem tdiv_abs (x y : Int) : x.tdiv y = if (decide (x < 0) != decide (y < 0)) = true then -((x.natAbs / y.natAbs : Nat) : Int) else ((x.natAbs / y.natAbs : Nat) : Int) := by
  by_cases hx : x < 0
  · have ex : x = -(x.natAbs : Int) := by omega
    by_cases hy : y < 0
    · have ey : y = -(y.natAbs : Int) := by omega
      rw [if_neg (by simp [hx, hy])]
      generalize x.natAbs = m at ex
      generalize y.natAbs = n at ey
      subst ex; subst ey
      rw [Int.neg_tdiv, Int.tdiv_neg, Int.neg_neg, Int.ofNat_tdiv]
    · have ey : y = (y.natAbs : Int) := by omega
      rw [if_pos (by simp [hx, hy])]
      generalize x.natAbs = m at ex
      generalize y.natAbs = n at ey
      subst ex; subst ey
      rw [Int.neg_tdiv, Int.ofNat_tdiv]
  · have ex : x = (x.natAbs : Int) := by omega
    by_cases hy : y < 0
    · have ey : y = -(y.natAbs : Int) := by omega
      rw [if_pos (by simp [hx, hy])]
      generalize x.natAbs = m at ex
      generalize y.natAbs = n at ey
      subst ex; subst ey
      rw [Int.tdiv_neg, Int.ofNat_tdiv]
    · have ey : y = (y.natAbs : Int) := by omega
      rw [if_neg (by simp [hx, hy])]
      generalize x.natAbs = m at ex
      generalize y.natAbs = n at ey
      subst ex; subst ey
      rw [Int.ofNat_tdiv]
theorem two_lt (r d lo : Nat) (h : r < d) (h2 : lo < 18446744073709551616) : (r * 18446744073709551616 + lo) / d < 18446744073709551616 := by
  apply Nat.div_lt_of_lt_mul
  have := Nat.mul_le_mul_right 18446744073709551616 (show r + 1 ≤ d from h)
  omega
theorem ratio_of (k : Nat) (hk : 1 ≤ k) {a b : Int} (ha : I64 a) (hb : I64 b) (h0 : b ≠ 0) (r : Int)
    (hd : bits_Div64.f k ((a.natAbs / 4294967296 % b.natAbs : Nat) : Int) ((a.natAbs % 4294967296 * 4294967296 : Nat) : Int) (b.natAbs : Int) = some (((((a.natAbs / 4294967296 % b.natAbs) * 18446744073709551616 + a.natAbs % 4294967296 * 4294967296) / b.natAbs : Nat) : Int), r)) :
    fixed_Ratio.f k a b = some (fitV ((a * 4294967296).tdiv b), fitF ((a * 4294967296).tdiv b) false) := by
  have hp : 0 < b.natAbs := by omega
  have hlt := two_lt (a.natAbs / 4294967296 % b.natAbs) b.natAbs (a.natAbs % 4294967296 * 4294967296) (Nat.mod_lt _ hp) (by omega)
  have hle := Nat.div_le_self (a.natAbs / 4294967296) b.natAbs
  have hdv := div_two (a.natAbs / 4294967296) (a.natAbs % 4294967296 * 4294967296) b.natAbs hp
  have ht := tdiv_abs (a * 4294967296) b
  rw [show (a * 4294967296).natAbs = a.natAbs / 4294967296 * 18446744073709551616 + a.natAbs % 4294967296 * 4294967296 by omega, hdv, show decide (a * 4294967296 < 0) = decide (a < 0) by rw [decide_eq_decide]; omega] at ht
  unfold fixed_Ratio.f
  rw [if_neg h0, of_f ha, of_f hb]
  simp only [Option.bind_some]
  unfold I64 at ha hb
  rw [up_f (by omega) (by omega)]
  simp only [Option.bind_some]
  have d1 : (a.natAbs : Int) / 4294967296 = ((a.natAbs / 4294967296 : Nat) : Int) := by omega
  have d2 : (a.natAbs : Int) % 4294967296 * 4294967296 = ((a.natAbs % 4294967296 * 4294967296 : Nat) : Int) := by omega
  rw [if_neg (by omega), d1, d2, ← Int.ofNat_tmod, ← Int.ofNat_tdiv, hd, u64_id (by omega) (by omega)]
  simp only [Option.bind_some]
  rw [fit_ex (x := (a * 4294967296).tdiv b) _ false k hk]
  · simp only [Option.bind_some]
  · rw [ht]
    clear hd hdv ht
    generalize (a.natAbs / 4294967296 % b.natAbs * 18446744073709551616 + a.natAbs % 4294967296 * 4294967296) / b.natAbs = q at hlt ⊢
    generalize a.natAbs / 4294967296 / b.natAbs = p at hle ⊢
    refine ⟨by omega, by omega, by omega, by omega, fun e => ?_, fun e => ?_⟩
    · rw [if_neg (by rw [e]; decide)]; omega
    · rw [if_pos e]; omega
theorem awake_f (k : Nat) (hk : 5 ≤ k) : l_awake.f k = some true := by
  have e1 : fixed_Int.f k 3 = some (12884901888, false) := int_f k (by omega) (by unfold I64; omega)
  have w1 : IntKind.u64.wrap (Int.tdiv 4294967296 2) = 2147483648 := by decide +kernel
  have w2 : Int.tmod 4294967296 2 = 0 := by decide +kernel
  have ed : bits_Div64.f k 0 4294967296 2 = some (2147483648, 0) := by
    unfold bits_Div64.f
    rw [if_neg (by decide), if_neg (by decide), if_pos rfl, w1, w2]
  have v1 : Snd ((-1 * 4294967296 : Int).tdiv 2) := by unfold Snd; decide +kernel
  have v2 : (-1 * 4294967296 : Int).tdiv 2 = -2147483648 := by decide +kernel
  have e2 : fixed_Ratio.f k (-1) 2 = some (-2147483648, false) := by
    rw [ratio_of (a := -1) (b := 2) k (by omega) (by unfold I64; omega) (by unfold I64; omega) (by decide) 0 (by simpa using ed), fitV_id v1, fitF_id v1, v2]
  have e3 : fixed_Order.f k (-2) 3 1 1 = some (-1) := order_f k (by omega) (by unfold I64; omega) (by unfold I64; omega) (by unfold I64; omega) (by unfold I64; omega)
  have e4 : fixed_Text.f (-2147483648) false = some ⟨#[45, 48, 46, 53]⟩ := by decide +kernel
  unfold l_awake.f
  rw [e1, e2, e3]
  simp only [Option.bind_some, e4]
  decide +kernel
end Go.Proofs.Ytenpiaafkmfjfaa.B

end
section
namespace Go.Proofs.Ytenpiaafkmfjfaa.B
open Go.RowKit Go.Proofs.YtenpiaafkmfjfaaW.PrintWords Go.Proofs.YtenpiaafkmfjfaaW.PrintLast
theorem sv_id {v : Int} (h : Snd v) : sv v = v := by unfold Snd at h; unfold sv; rw [if_neg (by omega)]
theorem sf_id {v : Int} (h : Snd v) (f : Bool) : sf v f = f := by unfold Snd at h; unfold sf; rw [if_neg (by omega)]
theorem Snd.neg {v : Int} (h : Snd v) : Snd (-v) := by unfold Snd at *; omega
theorem neg_f {v : Int} (f : Bool) (h : I64 v) : fixed_Neg.f v f = some (-(sv v), sf v f) := by
  have hs := sv_i64 h
  unfold Snd at hs
  unfold fixed_Neg.f
  rw [sound_f]
  simp only [Option.bind_some]
  rw [wrap64_id (by omega) (by omega)]
theorem sum_loop (vs : List Int) (hs : ∀ v ∈ vs, Snd v) (hl : vs.length ≤ 1000000) (f : Bool) : ∀ (m i k : Nat) (n : Bool) (lo hi x : Int), m + i = vs.length → m + 4 ≤ k → Ex n lo hi x → x.natAbs ≤ i * 9223372036854775808 →
    fixed_Sum.l0 k f vs vs.length i n lo hi = some (fitV (x + (vs.drop i).sum), fitF (x + (vs.drop i).sum) f)
  | 0, i, k, n, lo, hi, x, hm, hk, hx, hb => by
    obtain ⟨k, rfl⟩ : ∃ m, k = m + 4 := ⟨k - 4, by omega⟩
    rw [fixed_Sum.l0, if_neg (by omega), fit_ex hx f _ (by omega)]
    simp only [Option.bind_some]
    rw [List.drop_of_length_le (by omega)]
    simp
  | m + 1, i, k, n, lo, hi, x, hm, hk, hx, hb => by
    obtain ⟨k, rfl⟩ : ∃ m, k = m + 1 := ⟨k - 1, by omega⟩
    have hi' : i < vs.length := by omega
    have hv : Snd vs[i] := hs _ (List.getElem_mem hi')
    have hr : rd vs (i : Int) = vs[i] := by unfold rd; rw [Int.toNat_natCast, List.getD_eq_getElem?_getD, List.getElem?_eq_getElem hi']; rfl
    have hv2 := hv
    unfold Snd at hv2
    rw [fixed_Sum.l0, if_pos (by omega), if_pos (by omega), if_pos (by omega), hr]
    obtain ⟨n1, lo1, e1, x1⟩ := of_ex hv
    rw [e1]
    simp only [Option.bind_some]
    obtain ⟨n2, lo2, hi2, e2, x2⟩ := plus_ex k (by omega) hx x1 (by omega)
    rw [e2]
    simp only [Option.bind_some]
    rw [wrap64_id (by omega) (by omega)]
    have h := sum_loop vs hs hl f m (i + 1) k n2 lo2 hi2 (x + vs[i]) (by omega) (by omega) x2 (by omega)
    rw [show (i : Int) + 1 = ((i + 1 : Nat) : Int) by omega, h]
    rw [List.drop_eq_getElem_cons hi', List.sum_cons]
    rw [Int.add_assoc]
theorem vals_snd {l : List S23} (h : ∀ x ∈ l, I64 x.f0) : ∀ v ∈ vals l, Snd v := by
  intro v hv
  unfold vals at hv
  obtain ⟨x, hx, rfl⟩ := List.mem_map.mp hv
  exact sv_i64 (h x hx)
theorem sum_f (k : Nat) (l : List S23) (h : ∀ x ∈ l, I64 x.f0) (hl : l.length ≤ 1000000) (hk : l.length + 5 ≤ k) : fixed_Sum.f k l = some (fitV (vals l).sum, fitF (vals l).sum (anyF l)) := by
  unfold fixed_Sum.f fixed_values.f
  rw [if_pos hl]
  simp only [Option.bind_some]
  have hlen : (vals l).length = l.length := by unfold vals; simp
  have := sum_loop (vals l) (vals_snd h) (by omega) (anyF l) l.length 0 k false 0 0 0 (by omega) (by omega) ⟨by omega, by omega, by omega, by omega, fun _ => by omega, fun h => absurd h (by decide)⟩ (by omega)
  rw [show ((0 : Nat) : Int) = 0 from rfl] at this
  rw [this]
  simp
theorem add_f (k : Nat) (hk : 7 ≤ k) {a b : Int} (fa fb : Bool) (ha : I64 a) (hb : I64 b) : fixed_Add.f k a fa b fb = some (fitV (sv a + sv b), fitF (sv a + sv b) (sf a fa || sf b fb)) := by
  unfold fixed_Add.f
  rw [sum_f k _ (by intro x hx; simp at hx; rcases hx with rfl | rfl <;> assumption) (by simp) (by simpa using hk)]
  simp [vals, anyF]
end Go.Proofs.Ytenpiaafkmfjfaa.B

end
section
namespace Go.Proofs.Ytenpiaafkmfjfaa.B
open Go.RowKit Go.Proofs.YtenpiaafkmfjfaaW.PrintWords Go.Proofs.YtenpiaafkmfjfaaW.PrintLast
theorem div_cond {u y y1 y0 qh rh : Int} (hy : y = y1 * 4294967296 + y0) (e : qh * y1 + rh = u) : qh * y = u * 4294967296 - rh * 4294967296 + qh * y0 := by
  subst hy
  rw [Int.mul_add, ← Int.mul_assoc]
  generalize qh * y1 = A at *
  generalize qh * y0 = B at *
  omega
theorem mul_bound {a b A B : Int} (ha : 0 ≤ a) (hb : 0 ≤ b) (hA : a ≤ A) (hB : b ≤ B) : a * b ≤ A * B := Int.le_trans (Int.mul_le_mul_of_nonneg_right hA hb) (Int.mul_le_mul_of_nonneg_left hB (by omega))
theorem quo_eq {N y q : Int} (hy : 0 < y) (h1 : q * y ≤ N) (h2 : N / y ≤ q) : N / y = q := by
  have := Int.le_ediv_of_mul_le hy h1
  omega
theorem div_l0 {x2 x8 x9 x10 x11 x13 x14 : Int} {R : Int} (hy : x2 = x9 * 4294967296 + x10) (h9 : 2147483648 ≤ x9) (h9' : x9 < 4294967296) (h10 : 0 ≤ x10) (h10' : x10 < 4294967296) (h11 : 0 ≤ x11) (h11' : x11 < x2) (h13 : 0 ≤ x13) (h13' : x13 < 4294967296)
    (hj : ∀ k, 9 ≤ k → ∃ r, bits_Div64.j2 k x2 x8 x9 x10 x11 x13 x14 ((x11 * 4294967296 + x13) / x2) = some (R, r)) :
    ∀ (m k : Nat) (qh rh : Int), 9 + 2 * m ≤ k → qh * x9 + rh = x11 → 0 ≤ rh → rh < 4294967296 → 4294967296 - rh ≤ m * 2147483648 → (x11 * 4294967296 + x13) / x2 ≤ qh → qh ≤ 4294967297 →
      ∃ r, bits_Div64.l0 k x2 x8 x9 x10 x11 x13 x14 qh rh = some (R, r) := by
  intro m
  induction m with
  | zero => intro k qh rh hk e hr0 hr1 hm hq hq1; exfalso; omega
  | succ m ih =>
    intro k qh rh hk e hr0 hr1 hm hq hq1
    obtain ⟨k, rfl⟩ : ∃ z, k = z + 2 := ⟨k - 2, by omega⟩
    have hy0 : 0 < x2 := by omega
    have hQ0 : 0 ≤ (x11 * 4294967296 + x13) / x2 := Int.ediv_nonneg (by omega) (by omega)
    have hc := div_cond (y := x2) hy e
    have key : ∀ b : Bool, (b = true → qh * x2 > x11 * 4294967296 + x13) → (b = false → qh * x2 ≤ x11 * 4294967296 + x13) → ∃ r, bits_Div64.j1 (k + 1) x2 x8 x9 x10 x11 x13 x14 qh rh b = some (R, r) := by
      intro b ht hf
      rw [bits_Div64.j1]
      cases b
      · rw [if_neg (by decide), ← quo_eq hy0 (hf rfl) hq]
        exact hj k (by omega)
      · have hgt := Int.ediv_lt_of_lt_mul hy0 (ht rfl)
        rw [if_pos rfl, u64_id (x := rh + x9) (by omega) (by omega), u64_id (x := qh - 1) (by omega) (by omega)]
        have e2 : (qh - 1) * x9 + (rh + x9) = x11 := by rw [Int.sub_mul]; omega
        by_cases hb : rh + x9 ≥ 4294967296
        · rw [if_pos hb]
          have hc2 := div_cond (y := x2) hy e2
          have hb2 := mul_bound (a := qh - 1) (b := x10) (A := 4294967296) (B := 4294967295) (by omega) h10 (by omega) (by omega)
          rw [← quo_eq (N := x11 * 4294967296 + x13) (q := qh - 1) hy0 (by generalize (qh - 1) * x10 = B at *; omega) (by omega)]
          exact hj k (by omega)
        · rw [if_neg hb]
          exact ih k (qh - 1) (rh + x9) (by omega) e2 (by omega) (by omega) (by omega) (by omega) (by omega)
    rw [bits_Div64.l0]
    by_cases hbig : qh ≥ 4294967296
    · rw [if_pos hbig]
      refine key true (fun _ => ?_) (fun h => absurd h (by decide))
      have := Int.mul_le_mul_of_nonneg_right hbig (show 0 ≤ x2 by omega)
      generalize qh * x2 = C at *; omega
    · rw [if_neg hbig]
      have hb := mul_bound (a := qh) (b := x10) (A := 4294967295) (B := 4294967295) (by omega) h10 (by omega) (by omega)
      have hb0 := Int.mul_nonneg (show 0 ≤ qh by omega) h10
      rw [u64_id (x := qh * x10) (by omega) (by omega), u64_id (x := 4294967296 * rh) (by omega) (by omega), u64_id (x := 4294967296 * rh + x13) (by omega) (by omega)]
      refine key _ (fun h => ?_) (fun h => ?_)
      · have := of_decide_eq_true h
        generalize qh * x10 = B at *; omega
      · have := of_decide_eq_false h
        generalize qh * x10 = B at *; omega
theorem div_l1 {x2 x8 x9 x10 x14 x15 x17 : Int} (h8 : 0 ≤ x8) (hy : x2 = x9 * 4294967296 + x10) (h9 : 2147483648 ≤ x9) (h9' : x9 < 4294967296) (h10 : 0 ≤ x10) (h10' : x10 < 4294967296) (h17 : 0 ≤ x17) (h17' : x17 < x2) (h14 : 0 ≤ x14) (h14' : x14 < 4294967296) :
    ∀ (m k : Nat) (qh rh : Int), 1 + 2 * m ≤ k → qh * x9 + rh = x17 → 0 ≤ rh → rh < 4294967296 → 4294967296 - rh ≤ m * 2147483648 → (x17 * 4294967296 + x14) / x2 ≤ qh → qh ≤ 4294967297 →
      ∃ r, bits_Div64.l1 k x2 x8 x9 x10 x14 x15 rh x17 qh = some (IntKind.u64.wrap (IntKind.u64.wrap (x15 * 4294967296) + (x17 * 4294967296 + x14) / x2), r) := by
  intro m
  induction m with
  | zero => intro k qh rh hk e hr0 hr1 hm hq hq1; exfalso; omega
  | succ m ih =>
    intro k qh rh hk e hr0 hr1 hm hq hq1
    obtain ⟨k, rfl⟩ : ∃ z, k = z + 2 := ⟨k - 2, by omega⟩
    have hy0 : 0 < x2 := by omega
    have hQ0 : 0 ≤ (x17 * 4294967296 + x14) / x2 := Int.ediv_nonneg (by omega) (by omega)
    have hc := div_cond (y := x2) hy e
    have key : ∀ b : Bool, (b = true → qh * x2 > x17 * 4294967296 + x14) → (b = false → qh * x2 ≤ x17 * 4294967296 + x14) → ∃ r, bits_Div64.j4 (k + 1) x2 x8 x9 x10 x14 x15 rh x17 qh b = some (IntKind.u64.wrap (IntKind.u64.wrap (x15 * 4294967296) + (x17 * 4294967296 + x14) / x2), r) := by
      intro b ht hf
      rw [bits_Div64.j4]
      cases b
      · rw [if_neg (by decide), if_pos h8, quo_eq hy0 (hf rfl) hq]
        exact ⟨_, rfl⟩
      · have hgt := Int.ediv_lt_of_lt_mul hy0 (ht rfl)
        rw [if_pos rfl, u64_id (x := rh + x9) (by omega) (by omega), u64_id (x := qh - 1) (by omega) (by omega)]
        have e2 : (qh - 1) * x9 + (rh + x9) = x17 := by rw [Int.sub_mul]; omega
        by_cases hb : rh + x9 ≥ 4294967296
        · have hc2 := div_cond (y := x2) hy e2
          have hb2 := mul_bound (a := qh - 1) (b := x10) (A := 4294967296) (B := 4294967295) (by omega) h10 (by omega) (by omega)
          rw [if_pos hb, if_pos h8, quo_eq (q := qh - 1) hy0 (by generalize (qh - 1) * x10 = B at *; omega) (by omega)]
          exact ⟨_, rfl⟩
        · rw [if_neg hb]
          exact ih k (qh - 1) (rh + x9) (by omega) e2 (by omega) (by omega) (by omega) (by omega) (by omega)
    rw [bits_Div64.l1]
    by_cases hbig : qh ≥ 4294967296
    · rw [if_pos hbig]
      refine key true (fun _ => ?_) (fun h => absurd h (by decide))
      have := Int.mul_le_mul_of_nonneg_right hbig (show 0 ≤ x2 by omega)
      generalize qh * x2 = C at *; omega
    · rw [if_neg hbig]
      have hb := mul_bound (a := qh) (b := x10) (A := 4294967295) (B := 4294967295) (by omega) h10 (by omega) (by omega)
      have hb0 := Int.mul_nonneg (show 0 ≤ qh by omega) h10
      rw [u64_id (x := qh * x10) (by omega) (by omega), u64_id (x := 4294967296 * rh) (by omega) (by omega), u64_id (x := 4294967296 * rh + x14) (by omega) (by omega)]
      refine key _ (fun h => ?_) (fun h => ?_)
      · have := of_decide_eq_true h
        generalize qh * x10 = B at *; omega
      · have := of_decide_eq_false h
        generalize qh * x10 = B at *; omega
theorem guess {u d y y1 y0 : Int} (hy : y = y1 * 4294967296 + y0) (h9 : 2147483648 ≤ y1) (h10 : 0 ≤ y0) (h10' : y0 < 4294967296) (hu : 0 ≤ u) (hu' : u < y) (hd : 0 ≤ d) (hd' : d < 4294967296) :
    u / y1 * y1 + u % y1 = u ∧ 0 ≤ u % y1 ∧ u % y1 < y1 ∧ (u * 4294967296 + d) / y ≤ u / y1 ∧ u / y1 ≤ 4294967297 ∧ 0 ≤ u / y1 := by
  have e : u / y1 * y1 + u % y1 = u := by rw [Int.mul_comm]; exact Int.mul_ediv_add_emod u y1
  have h1 := Int.emod_nonneg u (show y1 ≠ 0 by omega)
  have h2 := Int.emod_lt_of_pos u (show 0 < y1 by omega)
  have h3 : 0 ≤ u / y1 := Int.ediv_nonneg hu (by omega)
  refine ⟨e, h1, h2, ?_, ?_, h3⟩
  · have hc := div_cond (qh := u / y1 + 1) (rh := u % y1 - y1) (u := u) (y := y) hy (by rw [Int.add_mul]; omega)
    have hb := Int.mul_nonneg (show 0 ≤ u / y1 + 1 by omega) h10
    have : (u * 4294967296 + d) / y < u / y1 + 1 := Int.ediv_lt_of_lt_mul (by omega) (by generalize (u / y1 + 1) * y0 = B at *; omega)
    omega
  · have : u / y1 < 4294967298 := Int.ediv_lt_of_lt_mul (by omega) (by omega)
    omega
theorem un21 {u d C : Int} (h0 : 0 ≤ u * 4294967296 + d - C) (h1 : u * 4294967296 + d - C < 18446744073709551616) : IntKind.u64.wrap (IntKind.u64.wrap (IntKind.u64.wrap (u * 4294967296) + d) - IntKind.u64.wrap C) = u * 4294967296 + d - C := by
  simp only [IntKind.wrap_u64]
  omega
theorem dig_rem {u d y : Int} (hu : 0 ≤ u) (hu' : u < y) (hd : 0 ≤ d) (hd' : d < 4294967296) (hy : 0 < y) : 0 ≤ (u * 4294967296 + d) / y ∧ (u * 4294967296 + d) / y < 4294967296 ∧ u * 4294967296 + d - (u * 4294967296 + d) / y * y = (u * 4294967296 + d) % y ∧ 0 ≤ (u * 4294967296 + d) % y ∧ (u * 4294967296 + d) % y < y := by
  refine ⟨Int.ediv_nonneg (by omega) (by omega), Int.ediv_lt_of_lt_mul hy (by omega), ?_, Int.emod_nonneg _ (by omega), Int.emod_lt_of_pos _ hy⟩
  have := Int.mul_ediv_add_emod (u * 4294967296 + d) y
  rw [Int.mul_comm] at this
  omega
theorem div_two_i {h l d : Int} (hd : 0 < d) : h / d * 4294967296 + (h % d * 4294967296 + l) / d = (h * 4294967296 + l) / d := by
  have e : h * 4294967296 + l = h % d * 4294967296 + l + h / d * 4294967296 * d := by
    have := Int.mul_ediv_add_emod h d
    rw [Int.mul_comm] at this
    rw [Int.mul_right_comm]
    omega
  rw [e, Int.add_mul_ediv_right _ _ (by omega)]
  omega
theorem div_j2 {x2 x8 x9 x10 x11 x13 x14 : Int} (h8 : 0 ≤ x8) (hy : x2 = x9 * 4294967296 + x10) (h9 : 2147483648 ≤ x9) (h9' : x9 < 4294967296) (h10 : 0 ≤ x10) (h10' : x10 < 4294967296) (h11 : 0 ≤ x11) (h11' : x11 < x2) (h13 : 0 ≤ x13) (h13' : x13 < 4294967296) (h14 : 0 ≤ x14) (h14' : x14 < 4294967296) (k : Nat) (hk : 9 ≤ k) :
    ∃ r, bits_Div64.j2 k x2 x8 x9 x10 x11 x13 x14 ((x11 * 4294967296 + x13) / x2) = some (((x11 * 4294967296 + x13) * 4294967296 + x14) / x2, r) := by
  obtain ⟨k, rfl⟩ : ∃ z, k = z + 1 := ⟨k - 1, by omega⟩
  obtain ⟨q0, q1, qe, r0, r1⟩ := dig_rem h11 h11' h13 h13' (show 0 < x2 by omega)
  have e3 := (div_two_i (h := x11 * 4294967296 + x13) (l := x14) (d := x2) (by omega)).symm
  rw [bits_Div64.j2, if_neg (by omega), un21 (by omega) (by omega), qe, e3]
  clear e3
  generalize (x11 * 4294967296 + x13) / x2 = q at *
  generalize (x11 * 4294967296 + x13) % x2 = U at *
  obtain ⟨g1, g2, g3, g4, g5, g6⟩ := guess hy h9 h10 h10' r0 r1 h14 h14'
  obtain ⟨p0, p1, _, _, _⟩ := dig_rem r0 r1 h14 h14' (show 0 < x2 by omega)
  have g7 := Int.mul_nonneg g6 (show 0 ≤ x9 by omega)
  rw [Int.tdiv_eq_ediv_of_nonneg r0, u64_id (x := U / x9) (by omega) (by omega), u64_id (x := U / x9 * x9) (by omega) (by omega), u64_id (x := U - U / x9 * x9) (by omega) (by omega), show U - U / x9 * x9 = U % x9 by omega]
  obtain ⟨r, hr⟩ := div_l1 (x15 := q) h8 hy h9 h9' h10 h10' r0 r1 h14 h14' 2 k (U / x9) (U % x9) (by omega) g1 g2 (by omega) (by omega) g4 g5
  rw [u64_id (x := q * 4294967296) (by omega) (by omega), u64_id (x := q * 4294967296 + (U * 4294967296 + x14) / x2) (by omega) (by omega)] at hr
  exact ⟨r, hr⟩
theorem shl_nat (a s : Nat) (hs : s ≤ 64) (h : a * 2 ^ s < 18446744073709551616) : shl .u64 (a : Int) (s : Int) = ((a * 2 ^ s : Nat) : Int) := by
  unfold shl
  rw [show min (Int.toNat (s : Int)) (IntKind.bits .u64) = s by rw [Int.toNat_natCast]; exact Nat.min_eq_left hs]
  rw [show (a : Int) * 2 ^ s = ((a * 2 ^ s : Nat) : Int) by simp, u64_id (by omega) (by omega)]
theorem shl_nat' (a s : Nat) (hs : s ≤ 64) : shl .u64 (a : Int) (s : Int) = ((a * 2 ^ s % 18446744073709551616 : Nat) : Int) := by
  unfold shl
  rw [show min (Int.toNat (s : Int)) (IntKind.bits .u64) = s by rw [Int.toNat_natCast]; exact Nat.min_eq_left hs]
  rw [show (a : Int) * 2 ^ s = ((a * 2 ^ s : Nat) : Int) by simp, IntKind.wrap_u64]
  omega
theorem shr_nat (a s : Nat) (hs : s ≤ 64) : shr .u64 (a : Int) (s : Int) = ((a / 2 ^ s : Nat) : Int) := by
  unfold shr
  rw [show min (Int.toNat (s : Int)) (IntKind.bits .u64) = s by rw [Int.toNat_natCast]; exact Nat.min_eq_left hs]
  simp
theorem blen (x : Nat) (h : x < 2 ^ 64) : x < 2 ^ Lib.bitLen x ∧ (x ≠ 0 → 1 ≤ Lib.bitLen x ∧ 2 ^ (Lib.bitLen x - 1) ≤ x) := by
  induction x using Nat.strongRecOn with
  | _ x ih =>
    by_cases h0 : x = 0
    · subst h0; exact ⟨by decide, fun h => absurd rfl h⟩
    · rw [Lib.bitLen_half x h0 h]
      obtain ⟨i1, i2⟩ := ih (x / 2) (by omega) (by omega)
      refine ⟨?_, fun _ => ⟨by omega, ?_⟩⟩
      · rw [Nat.pow_add]; omega
      · by_cases h2 : x / 2 = 0
        · rw [show Lib.bitLen (x / 2) = 0 by rw [h2]; decide]; simp; omega
        · obtain ⟨i3, i4⟩ := i2 h2
          rw [show 1 + Lib.bitLen (x / 2) - 1 = 1 + (Lib.bitLen (x / 2) - 1) by omega, Nat.pow_add]; omega
theorem div64_f (k : Nat) (hk : 14 ≤ k) (hi lo y : Nat) (h : hi < y) (hl : lo < 18446744073709551616) (hy : y < 18446744073709551616) : ∃ r, bits_Div64.f k hi lo y = some ((((hi * 18446744073709551616 + lo) / y : Nat) : Int), r) := by
  unfold bits_Div64.f
  rw [if_neg (by omega), if_neg (by omega)]
  by_cases h0 : hi = 0
  · subst h0
    have hq : lo / y < 18446744073709551616 := Nat.lt_of_le_of_lt (Nat.div_le_self lo y) hl
    rw [if_pos (by omega), ← Int.ofNat_tdiv, u64_id (Int.natCast_nonneg _) (by generalize lo / y = z at *; omega)]
    exact ⟨_, by rw [show 0 * 18446744073709551616 + lo = lo by omega]⟩
  · rw [if_neg (by omega)]
    have hy0 : y ≠ 0 := by omega
    obtain ⟨b1, b2⟩ := blen y hy
    obtain ⟨hL0, b2⟩ := b2 hy0
    have hL1 : Lib.bitLen y ≤ 64 := by
      rcases Nat.lt_or_ge 64 (Lib.bitLen y) with hgt | hle
      · exfalso
        have : 2 ^ 64 ≤ 2 ^ (Lib.bitLen y - 1) := Nat.pow_le_pow_right (by decide) (by omega)
        omega
      · exact hle
    have hlz : bits_LeadingZeros64.f (y : Int) = some (((64 - Lib.bitLen y : Nat)) : Int) := by
      unfold bits_LeadingZeros64.f bits_Len64.f
      rw [if_pos (by omega), if_pos (by omega)]
      simp only [Option.bind_some, Int.toNat_natCast]
      rw [wrap64_id (by omega) (by omega)]
      congr 1; omega
    rw [hlz]
    simp only [Option.bind_some]
    generalize hs : 64 - Lib.bitLen y = s at *
    have hs63 : s ≤ 63 := by omega
    have p1 : y * 2 ^ s < 18446744073709551616 := by
      have : y * 2 ^ s < 2 ^ Lib.bitLen y * 2 ^ s := Nat.mul_lt_mul_of_pos_right b1 (Nat.two_pow_pos s)
      rw [← Nat.pow_add, show Lib.bitLen y + s = 64 by omega] at this
      exact this
    have p0 : 9223372036854775808 ≤ y * 2 ^ s := by
      have : 2 ^ (Lib.bitLen y - 1) * 2 ^ s ≤ y * 2 ^ s := Nat.mul_le_mul_right _ b2
      rw [← Nat.pow_add, show Lib.bitLen y - 1 + s = 63 by omega] at this
      exact this
    have phi : (hi + 1) * 2 ^ s ≤ y * 2 ^ s := Nat.mul_le_mul_right _ h
    rw [Nat.add_mul] at phi
    have hp2 : 0 < 2 ^ s := Nat.two_pow_pos s
    have e64 : 18446744073709551616 = 2 ^ (64 - s) * 2 ^ s := by rw [← Nat.pow_add, show 64 - s + s = 64 by omega]
    have hlo : lo / 2 ^ (64 - s) < 2 ^ s := by
      apply Nat.div_lt_of_lt_mul
      rw [← e64]; exact hl
    have hlo2 : lo * 2 ^ s / 18446744073709551616 = lo / 2 ^ (64 - s) := by
      rw [e64, Nat.mul_div_mul_right _ _ hp2]
    rw [u64_id (x := (s : Int)) (by omega) (by omega), u64_id (x := 64 - (s : Int)) (by omega) (by omega), if_pos (by omega), if_pos (by omega)]
    rw [show (64 - (s : Int)) = ((64 - s : Nat) : Int) by omega, shl_nat y s (by omega) p1, shl_nat hi s (by omega) (by omega), shr_nat lo (64 - s) (by omega), shl_nat' lo s (by omega), and_mask _ p1]
    have hor := or_add s hi (lo / 2 ^ (64 - s)) hlo (by rw [Nat.mul_comm]; omega)
    rw [Nat.mul_comm (2 ^ s) hi] at hor
    rw [hor, and_mask _ (Nat.mod_lt _ (by decide))]
    have key : (hi * 2 ^ s + lo / 2 ^ (64 - s)) * 18446744073709551616 + lo * 2 ^ s % 18446744073709551616 = (hi * 18446744073709551616 + lo) * 2 ^ s := by
      rw [← hlo2]
      have := Nat.div_add_mod (lo * 2 ^ s) 18446744073709551616
      rw [Nat.add_mul (hi * 18446744073709551616) lo, Nat.mul_right_comm hi 18446744073709551616]
      omega
    have key2 : (hi * 18446744073709551616 + lo) * 2 ^ s / (y * 2 ^ s) = (hi * 18446744073709551616 + lo) / y := Nat.mul_div_mul_right _ _ hp2
    rw [← key] at key2
    have hu : hi * 2 ^ s + lo / 2 ^ (64 - s) < y * 2 ^ s := by omega
    rw [← key2]
    generalize hi * 2 ^ s + lo / 2 ^ (64 - s) = u at hu ⊢
    have hl2 : lo * 2 ^ s % 18446744073709551616 < 18446744073709551616 := Nat.mod_lt _ (by decide)
    generalize lo * 2 ^ s % 18446744073709551616 = l at hl2 ⊢
    generalize y * 2 ^ s = Y at hu p0 p1 ⊢
    clear key key2 hor hlo hlo2 e64 phi hlz b1 b2
    have d1 : ((Y : Nat) : Int) / 4294967296 = ((Y / 4294967296 : Nat) : Int) := by omega
    have d2 : ((l : Nat) : Int) / 4294967296 = ((l / 4294967296 : Nat) : Int) := by omega
    rw [d1, d2, if_neg (by omega)]
    have hj : ∀ k, 9 ≤ k → ∃ r, bits_Div64.j2 k (Y : Int) (s : Int) ((Y / 4294967296 : Nat) : Int) ((Y % 4294967296 : Nat) : Int) (u : Int) ((l / 4294967296 : Nat) : Int) ((l % 4294967296 : Nat) : Int) (((u : Int) * 4294967296 + ((l / 4294967296 : Nat) : Int)) / (Y : Int)) = some ((((u * 18446744073709551616 + l) / Y : Nat) : Int), r) := by
      intro k hk
      obtain ⟨r, hr⟩ := div_j2 (x2 := (Y : Int)) (x8 := (s : Int)) (x9 := ((Y / 4294967296 : Nat) : Int)) (x10 := ((Y % 4294967296 : Nat) : Int)) (x11 := (u : Int)) (x13 := ((l / 4294967296 : Nat) : Int)) (x14 := ((l % 4294967296 : Nat) : Int)) (by omega) (by omega) (by omega) (by omega) (by omega) (by omega) (by omega) (by omega) (by omega) (by omega) (by omega) (by omega) k hk
      refine ⟨r, ?_⟩
      rw [hr, show ((u : Int) * 4294967296 + ((l / 4294967296 : Nat) : Int)) * 4294967296 + ((l % 4294967296 : Nat) : Int) = ((u * 18446744073709551616 + l : Nat) : Int) by omega, ← Int.natCast_ediv]
    obtain ⟨g1, g2, g3, g4, g5, g6⟩ := guess (u := (u : Int)) (d := ((l / 4294967296 : Nat) : Int)) (y := (Y : Int)) (y1 := ((Y / 4294967296 : Nat) : Int)) (y0 := ((Y % 4294967296 : Nat) : Int)) (by omega) (by omega) (by omega) (by omega) (by omega) (by omega) (by omega) (by omega)
    have g7 := Int.mul_nonneg g6 (show 0 ≤ ((Y / 4294967296 : Nat) : Int) by omega)
    rw [Int.tdiv_eq_ediv_of_nonneg (by omega), u64_id (x := (u : Int) / ((Y / 4294967296 : Nat) : Int)) (by omega) (by omega), u64_id (x := (u : Int) / ((Y / 4294967296 : Nat) : Int) * ((Y / 4294967296 : Nat) : Int)) (by omega) (by omega)]
    rw [show (u : Int) - (u : Int) / ((Y / 4294967296 : Nat) : Int) * ((Y / 4294967296 : Nat) : Int) = (u : Int) % ((Y / 4294967296 : Nat) : Int) by omega, u64_id (x := (u : Int) % ((Y / 4294967296 : Nat) : Int)) (by omega) (by omega)]
    exact div_l0 (x2 := (Y : Int)) (x8 := (s : Int)) (x9 := ((Y / 4294967296 : Nat) : Int)) (x10 := ((Y % 4294967296 : Nat) : Int)) (x11 := (u : Int)) (x13 := ((l / 4294967296 : Nat) : Int)) (x14 := ((l % 4294967296 : Nat) : Int)) (by omega) (by omega) (by omega) (by omega) (by omega) (by omega) (by omega) (by omega) (by omega) hj 2 k _ _ (by omega) g1 g2 (by omega) (by omega) g4 g5
end Go.Proofs.Ytenpiaafkmfjfaa.B

end
