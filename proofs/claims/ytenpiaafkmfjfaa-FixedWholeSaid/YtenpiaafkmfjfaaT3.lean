/- fixed.decimal answers the decimal digits of a number, as bytes in a row of its own. -/
import Derived.Test.YtenpiaafkmfjfaaB0
import Derived.Test.YtenpiaafkmfjfaaS2
import Derived.Deep.OwnRows
import Derived.Laws.CopyOwn
namespace Go.Proofs.Ytenpiaafkmfjfaa.B
open Go.RowKit Go.Proofs.YtenpiaafkmfjfaaW.PrintWords Go.Proofs.YtenpiaafkmfjfaaW.PrintLast Go.Proofs.YtenpiaafkmfjfaaW.PrintMore

def ch (d : Nat) : Value := .int .u8 ((48 + d : Nat) : Int)
def rowT (k : Nat) (acc : List Nat) : Array Value := (List.replicate (20 - k) (Value.int .u8 0) ++ acc.map ch).toArray
theorem rowT_put (k : Nat) (acc : List Nat) (d : Nat) (hk : k < 20) : (rowT k acc).setIfInBounds (19 - k) (.int .u8 ((48 + d : Nat) : Int)) = rowT (k + 1) (d :: acc) := by
  unfold rowT
  apply Array.ext'
  rw [Array.toList_setIfInBounds]
  simp only
  rw [List.set_append_left _ _ (by simp; omega), show 20 - k = (19 - k) + 1 by omega, List.replicate_succ', List.set_append_right _ _ (by simp)]
  simp [ch, show 20 - (k + 1) = 19 - k by omega]
theorem decA_go (k : Nat) (hk : k < 20) (n : Nat) (acc : List Nat) (h : ¬ n / 10 = 0) : decA (20 - k) n acc = decA (20 - (k + 1)) (n / 10) (n % 10 :: acc) := by
  rw [show 20 - k = (20 - (k + 1)) + 1 by omega, decA, if_neg h]
theorem decA_end (k : Nat) (hk : k < 20) (n : Nat) (acc : List Nat) (h : n / 10 = 0) : decA (20 - k) n acc = n % 10 :: acc := by
  rw [show 20 - k = (20 - (k + 1)) + 1 by omega, decA, if_pos h]

set_option maxRecDepth 10000 in
theorem slice110 (b y : Nat) (hy : y < 20) (W : World) : (Instr.sliceAt 110 (.pointer (some ⟨b, 0, none⟩)) (some (.int .i64 (y : Int))) none none).run Try.prog W = .ok (.slice (some ⟨b, y, none⟩) (20 - y) (20 - y)) W := by
  have h := run_sliceAt_array_l (P := Try.prog) W 110 ⟨b, 0, none⟩ (by kernel_rfl) .i64 (y : Int) (by omega) (by show (y : Int) ≤ ((20 : Nat) : Int); omega)
  rw [h]
  have e1 : (sizeOf (Try.prog.elem 110)).run Try.prog W = .ok 1 W := by kernel_rfl
  have e2 : Try.prog.arrayLen 110 = 20 := by kernel_rfl
  rw [e1, e2]
  have e3 : ¬ 20 = y := by omega
  simp [slicedAt, Addr.add, e3]
  omega
theorem rowT_drop (y : Nat) (acc : List Nat) (h : y + acc.length = 20) (j : Nat) (u : Value) (hu : (acc.map ch)[j]? = some u) : (rowT acc.length acc)[y + j]? = some u := by
  unfold rowT
  rw [List.getElem?_toArray, List.getElem?_append_right (by simp; omega), List.length_replicate, show y + j - (20 - acc.length) = j by omega]
  exact hu
theorem add_off (b o j : Nat) : (⟨b, o, none⟩ : Addr).add j = ⟨b, o + j, none⟩ := by simp [Addr.add]
theorem retS {a : Option Addr} {m n : Nat} (h : n = m) : Ending.returned (Value.slice a m m) = .returned (Value.slice a n n) := by rw [h]
theorem splice_all (k : Nat) (cs : List Value) (h : cs.length = k) : splice (madeCells #[.int .u8 0] k).toList 0 cs = cs := by
  subst h
  simp [splice, madeCells]

set_option maxHeartbeats 2000000 in
set_option maxRecDepth 100000 in
theorem decimal_calls (n : Nat) (hn : n < 18446744073709551616) (w : World) :
    Calls Try.prog 104 #[.int .u64 n] w fun e w' => ∃ g, e = .returned (.slice (some ⟨g, 0, none⟩) (decs n).length (decs n).length) ∧ w.heap.size ≤ g ∧ w'.heap[g]? = some (.cells ((decs n).map ch).toArray 5 (0, 0)) ∧ Below w.heap.size w w' := by
  generalize hD : decs n = D
  have HD : Hid (decs n = D) := hD
  clear hD
  go_enter Try.func104, Try.ntmps104
  go_wp2
  have hA : Hid (_ = some (Obj.cells (rowT 0 []) 110 (0, 0))) := blk_new w (.cells (rowT 0 []) 110 (0, 0))
  have hB : Hid (Below w.heap.size w (w.alloc (.cells (rowT 0 []) 110 (0, 0)))) := below_alloc (Below.refl _ _) _
  go_loopw [0, 4, 6] (fun m at_ i wr => ∃ (k y m' : Nat) (acc : List Nat), k ≤ 20 ∧ i = .int .i64 k ∧ at_ = .int .i64 y ∧ Hid (y + k = 20) ∧ m = .int .u64 m' ∧ m' < 18446744073709551616 ∧ Hid (acc.length = k) ∧ Hid (decA (20 - k) m' acc = D) ∧ Hid (wr.heap[w.heap.size]? = some (.cells (rowT k acc) 110 (0, 0))) ∧ Hid (Below w.heap.size w wr)) (fun _ _ i _ => 20 - (intOf i).toNat)
  case atStart => exact ⟨0, 20, n, [], by omega, rfl, rfl, (rfl : 20 + 0 = 20), rfl, hn, (rfl : [].length = 0), HD, hA, hB⟩
  case round =>
    clear hA hB hn HD
    obtain ⟨k, y, m, acc, hk, rfl, rfl, hy, rfl, hm, hl, hD, hA, hB⟩ := hrel
    by_cases hlt : k < 20
    · have hltB : decide ((k : Int) < 20) = true := by simp; omega
      have hyy := hy.out
      cases y with
      | zero => omega
      | succ y =>
        have hz0 := blk_frozen hA.out y
        have hsz : y < (rowT k acc).size := by have := hl.out; simp [rowT]; omega
        have hc0 := (blk_cell hA.out y).trans (Array.getElem?_eq_getElem hsz)
        generalize (rowT k acc)[y]'hsz = old at hc0
        have e48 : ((48 + m % 10 : Nat) : Int) = 48 + (m : Int) % 10 := by omega
        have hA2 : Hid ((wr.setCell ⟨w.heap.size, y, none⟩ (.int .u8 (48 + (m : Int) % 10))).heap[w.heap.size]? = some (.cells (rowT (k + 1) (m % 10 :: acc)) 110 (0, 0))) := by
          obtain rfl : y = 19 - k := by omega
          rw [← e48]
          exact blk_put hA.out (19 - k) _ (rowT_put k acc (m % 10) hlt)
        have hB2 : Hid (Below w.heap.size w (wr.setCell ⟨w.heap.size, y, none⟩ (.int .u8 (48 + (m : Int) % 10)))) := below_set hB.out (Nat.le_refl _)
        clear e48
        have hy20 : y < 20 := by omega
        have hBs : w.heap.size ≤ wr.heap.size := hB.out.size
        clear hA hB hyy hsz
        by_cases h10 : m / 10 = 0
        · have hD2 : Hid (m % 10 :: acc = D) := by rw [← hD.out]; exact (decA_end k hlt m acc h10).symm
          have hl2 : Hid ((m % 10 :: acc).length = k + 1) := by have := hl.out; simp [Hid, this]
          have h10' : (((m : Int) / 10) == 0) = true := by simp; omega
          clear h10 hD hl
          have hmk : ∀ W, (Instr.makeSlice 94 (.int .i64 (20 - (y : Int))) (.int .i64 (20 - (y : Int)))).run Try.prog W = .ok (.slice (some ⟨W.heap.size, 0, none⟩) (k + 1) (k + 1)) (W.alloc (.cells (madeCells #[.int .u8 0] (k + 1)) 5)) := fun W => by
            have := hy.out
            rw [show (20 - (y : Int)) = ((k + 1 : Nat) : Int) by omega]
            exact run_make_row' (P := Try.prog) 94 5 (.int .u8 0) 1 Try.underlying94 info5 rfl .i64 .i64 (k + 1) (by omega) (by omega) W
          have hsl := fun W => slice110 w.heap.size y hy20 W
          obtain ⟨cs, hcs⟩ : ∃ cs, cs = (m % 10 :: acc).map ch := ⟨_, rfl⟩
          have HCS : Hid (cs = (m % 10 :: acc).map ch) := hcs
          have HDL : Hid (D.length = k + 1) := by show _ = _; rw [← hD2.out]; exact hl2.out
          have HDC : Hid (cs = D.map ch) := by show _ = _; rw [← hD2.out]; exact hcs
          have Hlen : Hid (cs.length = k + 1) := by show _ = _; rw [hcs, List.length_map]; exact hl2.out
          have Hone : Hid (∀ v ∈ cs, v.oneCell' = true) := by rw [hcs]; intro v hv; obtain ⟨d, _, rfl⟩ := List.mem_map.1 hv; rfl
          have Hsrc : Hid (∀ j v, cs[j]? = some v → (rowT (k + 1) (m % 10 :: acc))[y + j]? = some v) := by
            intro j v hj
            have h1 := hl2.out
            have h2 := hy.out
            have := rowT_drop y (m % 10 :: acc) (by omega) j v (by rw [← hcs]; exact hj)
            rwa [h1] at this
          clear hcs
          go_wp2_with (refine wpList_copy_splice rfl (.tmp 24) (.tmp 26) 94 94 rfl 5 Try.underlying94 (by kernel_rfl) (some ⟨wr.heap.size, 0, none⟩) (some ⟨w.heap.size, y, none⟩) (k + 1) (k + 1) (20 - y) (20 - y) rfl rfl wr.heap.size 0 (madeCells #[.int .u8 0] (k + 1)).toList 5 (by have := blk_new (wr.setCell ⟨w.heap.size, y, none⟩ (.int .u8 (48 + (m : Int) % 10))) (.cells (madeCells #[.int .u8 0] (k + 1)) 5); simpa using this) cs (by have h1 := Hlen.out; have h2 := hy.out; rw [h1]; show _ = min _ _; omega) (fun _ => ⟨rfl, ⟨w.heap.size, y, none⟩, rfl, fun j v hj => by rw [add_off]; exact (blk_cell (blk_alloc hA2.out _) (y + j)).trans (Hsrc.out j v hj)⟩) (by rw [Hlen.out]; simp [madeCells]) Hone.out w.heap.size w (below_alloc hB2.out _) hBs ?_)
          intro w' hg' hb'
          have hg2 : Hid (w'.heap[wr.heap.size]? = some (.cells (D.map ch).toArray 5 (0, 0))) := by
            have := hg'.out
            rw [splice_all (k + 1) _ Hlen.out, HDC.out] at this
            exact this
          clear hg'
          go_wp2
          go_ret
          exact ⟨wr.heap.size, retS HDL.out, hBs, hg2.out, hb'⟩
        · have hD2 : Hid (decA (20 - (k + 1)) (m / 10) (m % 10 :: acc) = D) := by rw [← hD.out]; exact (decA_go k hlt m acc h10).symm
          have h10' : (((m : Int) / 10) == 0) = false := by simp; omega
          have hl2 : Hid ((m % 10 :: acc).length = k + 1) := by have := hl.out; simp [Hid, this]
          clear h10 hD hl
          go_wp2
          go_roundw
          case rel =>
            refine ⟨k + 1, y, m / 10, m % 10 :: acc, by omega, by go_num, rfl, ?_, by go_num, by omega, hl2, hD2, ?_, ?_⟩
            · have := hy.out; show _ = _; omega
            · exact hA2.out
            · exact hB2.out
          case measure => first | (simp [intOf]; done) | (simp [intOf]; omega)
    · obtain rfl : k = 20 := by omega
      obtain rfl : y = 0 := by have := hy.out; omega
      have hlt2 : decide ((20 : Int) < 20) = false := by decide
      have hBs : w.heap.size ≤ wr.heap.size := hB.out.size
      have hD2 : Hid (acc = D) := hD.out
      clear hD
      have hmk : ∀ W, (Instr.makeSlice 94 (.int .i64 20) (.int .i64 20)).run Try.prog W = .ok (.slice (some ⟨W.heap.size, 0, none⟩) 20 20) (W.alloc (.cells (madeCells #[.int .u8 0] 20) 5)) := fun W => run_make_row' (P := Try.prog) 94 5 (.int .u8 0) 1 Try.underlying94 info5 rfl .i64 .i64 20 (by omega) (by omega) W
      have hsl : ∀ W, (Instr.sliceAt 110 (.pointer (some ⟨w.heap.size, 0, none⟩)) (some (.int .i64 0)) none none).run Try.prog W = .ok (.slice (some ⟨w.heap.size, 0, none⟩) 20 20) W := fun W => slice110 w.heap.size 0 (by omega) W
      obtain ⟨cs, hcs⟩ : ∃ cs, cs = acc.map ch := ⟨_, rfl⟩
      have HDL : Hid (D.length = 20) := by show _ = _; rw [← hD2.out]; exact hl.out
      have HDC : Hid (cs = D.map ch) := by show _ = _; rw [← hD2.out]; exact hcs
      have Hlen : Hid (cs.length = 20) := by show _ = _; rw [hcs, List.length_map]; exact hl.out
      have Hone : Hid (∀ v ∈ cs, v.oneCell' = true) := by rw [hcs]; intro v hv; obtain ⟨d, _, rfl⟩ := List.mem_map.1 hv; rfl
      have Hsrc : Hid (∀ j v, cs[j]? = some v → (rowT 20 acc)[0 + j]? = some v) := by
        intro j v hj
        have h1 := hl.out
        have := rowT_drop 0 acc (by omega) j v (by rw [← hcs]; exact hj)
        rwa [h1] at this
      clear hcs
      go_wp2_with (refine wpList_copy_splice rfl (.tmp 24) (.tmp 26) 94 94 rfl 5 Try.underlying94 (by kernel_rfl) (some ⟨wr.heap.size, 0, none⟩) (some ⟨w.heap.size, 0, none⟩) 20 20 20 20 rfl rfl wr.heap.size 0 (madeCells #[.int .u8 0] 20).toList 5 (by have := blk_new wr (.cells (madeCells #[.int .u8 0] 20) 5); simpa using this) cs (by have h1 := Hlen.out; rw [h1]; rfl) (fun _ => ⟨rfl, ⟨w.heap.size, 0, none⟩, rfl, fun j v hj => by rw [add_off]; exact (blk_cell (blk_alloc hA.out _) (0 + j)).trans (Hsrc.out j v hj)⟩) (by rw [Hlen.out]; simp [madeCells]) Hone.out w.heap.size w (below_alloc hB.out _) hBs ?_)
      intro w' hg' hb'
      have hg2 : Hid (w'.heap[wr.heap.size]? = some (.cells (D.map ch).toArray 5 (0, 0))) := by
        have := hg'.out
        rw [splice_all 20 _ Hlen.out, HDC.out] at this
        exact this
      clear hg'
      go_wp2
      go_ret
      exact ⟨wr.heap.size, retS HDL.out, hBs, hg2.out, hb'⟩
end Go.Proofs.Ytenpiaafkmfjfaa.B
