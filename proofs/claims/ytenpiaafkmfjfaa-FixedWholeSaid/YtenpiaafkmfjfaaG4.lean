/- fixed.values answers the values of sound numbers, and whether one of them is flagged. -/
import Derived.Test.YtenpiaafkmfjfaaG8
import Derived.Deep.OwnRows
import Derived.RegionTactic
namespace Go.Proofs.Ytenpiaafkmfjfaa.B
set_option linter.unusedVariables false
open Go.RowKit Go.Proofs.YtenpiaafkmfjfaaW.PrintWords Go.Proofs.YtenpiaafkmfjfaaW.PrintLast Go.Proofs.YtenpiaafkmfjfaaW.PrintMore

def vals (l : List S23) : List Int := l.map fun x => sv x.f0
def anyF (l : List S23) : Bool := l.any fun x => sf x.f0 x.f1
def fixed_values.f (l0 : List S23) : Option (List Int × Bool) := if l0.length ≤ 1000000 then some (vals l0, anyF l0) else none
def rowA (l : List S23) (k : Nat) : Array Value := (((vals (l.take k)).map (Value.int .i64)) ++ List.replicate (l.length - k) (Value.int .i64 0)).toArray

theorem rowA_zero (l : List S23) : madeCells #[.int .i64 0] l.length = rowA l 0 := by
  unfold madeCells rowA vals
  apply Array.ext'
  simp
  apply List.ext_getElem
  · simp
  · intro i h1 h2
    simp [Nat.mod_one]
theorem take_get (l : List S23) (k : Nat) (h : k < l.length) : l.take (k + 1) = l.take k ++ [rd_T23 l (k : Int)] := by
  rw [List.take_succ_eq_append_getElem h]
  unfold rd_T23
  simp [List.getD_eq_getElem?_getD, h]
theorem rowA_put (l : List S23) (k : Nat) (h : k < l.length) : (rowA l k).setIfInBounds k (.int .i64 (sv (rd_T23 l (k : Int)).f0)) = rowA l (k + 1) := by
  have e := take_get l k h
  have h2 : l.length - k = (l.length - (k + 1)) + 1 := by omega
  have hl : ((vals (l.take k)).map (Value.int .i64)).length = k := by simp [vals]; omega
  unfold rowA
  rw [e, h2, List.replicate_succ]
  apply Array.ext'
  simp only [Array.toList_setIfInBounds, vals, List.map_append, List.map_map, List.map_cons, List.map_nil]
  simp only [vals, List.map_map] at hl
  rw [List.set_append_right _ _ (by omega), hl, Nat.sub_self]
  simp
theorem anyF_succ (l : List S23) (k : Nat) (h : k < l.length) : anyF (l.take (k + 1)) = (anyF (l.take k) || sf (rd_T23 l (k : Int)).f0 (rd_T23 l (k : Int)).f1) := by
  rw [take_get l k h]; simp [anyF]
theorem own_row (base g : Nat) (l : List S23) (w : World) (hn : l.length ≤ 1000000) (hb : w.heap[g]? = some (.cells (rowA l l.length) 2 (0, 0))) (hg : base ≤ g) :
    Kd.R (Kd.int .i64) 2 w base (fun _ => True) (.slice (some ⟨g, 0, none⟩) l.length l.length) (vals l) := by
  have hv : (vals l).length = l.length := by simp [vals]
  refine ⟨fun _ _ => trivial, (vals l).map (Value.int .i64), ⟨by simp [Kd.int, Kd.scalar], .inr ⟨g, l.length, _, ?_, hg, hb, ?_, ?_, ?_, ?_⟩⟩, ?_⟩
  · rw [hv]
  · omega
  · unfold maxLen; omega
  · simp [rowA, vals, Kd.int, Kd.scalar]
  · simp [rowA, vals, Kd.int, Kd.scalar]
    rw [List.take_of_length_le (by simp)]
  · refine ⟨by simp [Kd.int, Kd.scalar], fun j p hj => ?_⟩
    simp only [Kd.int, Kd.scalar, Nat.mul_one]
    have : j < (vals l).length := (List.getElem?_eq_some_iff.1 hj).1
    apply List.ext_getElem?
    intro i
    cases i with
    | zero => simp [hj]
    | succ i => simp [List.getElem?_take]

set_option maxHeartbeats 2000000 in
set_option maxRecDepth 100000 in
theorem fixed_values.calls (A0 : Option Addr) (c0 : Nat) (l0 : List S23) (r1 : List Int) (r2 : Bool) (w : World) (hr0 : Kd.C k23 w A0 l0.length l0) (hc0 : l0.length ≤ c0) (h : fixed_values.f l0 = some (r1, r2)) :
    Calls Try.prog 81 #[.slice A0 l0.length c0] w fun e w' => ∃ v0_ : Value, e = .returned (.tuple #[v0_, .bool r2]) ∧ Kd.R (Kd.int .i64) 2 w' w.heap.size (fun _ => True) v0_ r1 ∧ Below w.heap.size w w' := by
  unfold fixed_values.f at h
  by_cases hn : l0.length ≤ 1000000
  · rw [if_pos hn] at h
    simp only [Option.some.injEq, Prod.mk.injEq] at h
    obtain ⟨rfl, rfl⟩ := h
    have hu23 := Try.underlying23
    have hmk := run_make_row' (P := Try.prog) 70 2 (.int .i64 0) 8 Try.underlying70 info2 rfl .i64 .i64 l0.length (by omega) (by omega) w
    rw [rowA_zero] at hmk
    have HR : Hid (Kd.C k23 w A0 l0.length l0) := hr0
    clear hr0
    go_enter Try.func81, Try.ntmps81
    go_wp2
    have hG : (w.alloc (.cells (rowA l0 0) 2)).heap[w.heap.size]? = some (.cells (rowA l0 0) 2 (0, 0)) := blk_new w _
    have hB : Below w.heap.size w (w.alloc (.cells (rowA l0 0) 2)) := below_alloc (Below.refl _ _) _
    clear hmk
    go_loopw [5, 13] (fun f i wr => ∃ k : Nat, k ≤ l0.length ∧ i = .int .i64 k ∧ f = .bool (anyF (l0.take k)) ∧ Hid (wr.heap[w.heap.size]? = some (.cells (rowA l0 k) 2 (0, 0))) ∧ Hid (Below w.heap.size w wr)) (fun _ i _ => l0.length - (intOf i).toNat)
    case atStart => exact ⟨0, by omega, rfl, rfl, hG, hB⟩
    case round =>
      clear hG hB
      obtain ⟨k, hk, rfl, rfl, hG, hB⟩ := hrel
      by_cases hlt : k < l0.length
      · obtain ⟨ad, he, hc0', hc1'⟩ := at_T23 (Kd.C_below HR.out hB.out) (k : Int) (by omega) (by omega)
        subst he
        generalize hx : rd_T23 l0 (k : Int) = x at hc0' hc1'
        have HX : Hid (rd_T23 l0 (k : Int) = x) := hx
        clear hx
        simp only [Int.toNat_natCast] at hc0' hc1'
        go_wp2_with fail
        refine (fixed_sound.calls x.f0 x.f1 _ _ _ (sound_f _ _)).mono ?_
        rintro e w1 ⟨rfl, hb⟩
        have hltG : w.heap.size < wr.heap.size := blk_lt hG.out
        have hbox : w1.heap[wr.heap.size]? = some (.cells #[.int .i64 x.f0, .bool x.f1] 23 (0, 0)) := blk_below (blk_new wr _) hb
        have hG1 : Hid (w1.heap[w.heap.size]? = some (.cells (rowA l0 k) 2 (0, 0))) := blk_below (blk_alloc hG.out _) hb
        have hB1 : Hid (Below w.heap.size w w1) := below_step (below_alloc hB.out _) hb
        have q0 : w1.cell? ⟨wr.heap.size, 0, none⟩ = some (.int .i64 x.f0) := (blk_cell hbox 0).trans rfl
        have q1 : w1.cell? ⟨wr.heap.size, 1, none⟩ = some (.bool x.f1) := (blk_cell hbox 1).trans rfl
        have z0 := blk_frozen hbox 0
        have z1 := blk_frozen hbox 1
        have HBX : Hid (w1.heap[wr.heap.size]? = some (.cells #[.int .i64 x.f0, .bool x.f1] 23 (0, 0))) := hbox
        clear hbox hb hc0' hc1'
        go_wp2_with fail
        have hneG : w.heap.size ≠ wr.heap.size := Nat.ne_of_lt hltG
        have hneG' : wr.heap.size ≠ w.heap.size := Nat.ne_of_gt hltG
        have hbox2 : Hid (((w1.setCell ⟨wr.heap.size, 0, none⟩ (.int .i64 (sv x.f0))).setCell ⟨wr.heap.size, 1, none⟩ (.bool (sf x.f0 x.f1))).heap[wr.heap.size]? = some (.cells #[.int .i64 (sv x.f0), .bool (sf x.f0 x.f1)] 23 (0, 0))) := blk_put (cs := #[.int .i64 (sv x.f0), .bool x.f1]) (blk_put (cs := #[.int .i64 x.f0, .bool x.f1]) HBX.out 0 _ rfl) 1 _ rfl
        have hG2 : Hid (((w1.setCell ⟨wr.heap.size, 0, none⟩ (.int .i64 (sv x.f0))).setCell ⟨wr.heap.size, 1, none⟩ (.bool (sf x.f0 x.f1))).heap[w.heap.size]? = some (.cells (rowA l0 k) 2 (0, 0))) := blk_far (blk_far hG1.out hneG _) hneG _
        have hB2 : Hid (Below w.heap.size w ((w1.setCell ⟨wr.heap.size, 0, none⟩ (.int .i64 (sv x.f0))).setCell ⟨wr.heap.size, 1, none⟩ (.bool (sf x.f0 x.f1)))) := below_set (below_set hB1.out (by omega)) (by omega)
        clear hG1 hB1 q0 q1 z0 z1 HBX
        generalize (w1.setCell ⟨wr.heap.size, 0, none⟩ (.int .i64 (sv x.f0))).setCell ⟨wr.heap.size, 1, none⟩ (.bool (sf x.f0 x.f1)) = W at hbox2 hG2 hB2 ⊢
        have q0 : W.cell? ⟨wr.heap.size, 0, none⟩ = some (.int .i64 (sv x.f0)) := (blk_cell hbox2.out 0).trans rfl
        have q1 : W.cell? ⟨wr.heap.size, 1, none⟩ = some (.bool (sf x.f0 x.f1)) := (blk_cell hbox2.out 1).trans rfl
        have hsz : k < (rowA l0 k).size := by simp [rowA, vals]; omega
        have q2 : W.cell? ⟨w.heap.size, k, none⟩ = some ((rowA l0 k)[k]'hsz) := (blk_cell hG2.out k).trans (Array.getElem?_eq_getElem hsz)
        have z2 := blk_frozen hG2.out k
        generalize (rowA l0 k)[k]'hsz = old at q2
        have q3 : (W.setCell ⟨w.heap.size, k, none⟩ (.int .i64 (sv x.f0))).cell? ⟨wr.heap.size, 1, none⟩ = some (.bool (sf x.f0 x.f1)) := by rw [World.cell?_setCell_other _ _ _ _ (fun e => hneG (congrArg Addr.block e))]; exact q1
        have hG3 : Hid ((W.setCell ⟨w.heap.size, k, none⟩ (.int .i64 (sv x.f0))).heap[w.heap.size]? = some (.cells (rowA l0 (k + 1)) 2 (0, 0))) := blk_put hG2.out k _ (by rw [← HX.out]; exact rowA_put l0 k hlt)
        have hB3 : Hid (Below w.heap.size w (W.setCell ⟨w.heap.size, k, none⟩ (.int .i64 (sv x.f0)))) := below_set hB2.out (Nat.le_refl _)
        have hfl : Hid (anyF (l0.take (k + 1)) = (anyF (l0.take k) || sf x.f0 x.f1)) := by rw [← HX.out]; exact anyF_succ l0 k hlt
        clear hbox2 hG2 hB2 hsz
        generalize anyF (l0.take k) = fl at hfl
        cases fl
        all_goals
          go_region
          go_wp2
          go_roundw
          case rel => exact ⟨k + 1, by omega, by go_num, by rw [hfl.out]; rfl, hG3.out, below_drew1 hB3.out⟩
          case measure => simp [intOf]; omega
      · obtain rfl : k = l0.length := by omega
        go_wp2
        refine bodyPost_ret (v := .tuple #[.slice (some ⟨w.heap.size, 0, none⟩) l0.length l0.length, .bool (anyF (l0.take l0.length))]) (by simp [results, Try.results81, go_sem]) rfl ?_
        exact ⟨_, by rw [List.take_length], own_row _ _ l0 _ hn hG.out (Nat.le_refl _), hB.out⟩
  · rw [if_neg hn] at h
    cases h
end Go.Proofs.Ytenpiaafkmfjfaa.B
