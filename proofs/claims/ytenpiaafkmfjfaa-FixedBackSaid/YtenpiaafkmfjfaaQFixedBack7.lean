/- FixedBack: part 7 of the proof. -/
import Derived.Test.YtenpiaafkmfjfaaQFixedBack6
section
namespace Go.Proofs.Ytenpiaafkmfjfaa.B
open Go.RowKit
theorem back_neg {a : Int} (fa : Bool) (ha : I64 a) : fixed_Neg.f (-(sv a)) (sf a fa) = some (sv a, sf a fa) := by
  have s := sv_i64 ha
  rw [neg_f _ s.neg.i64, sv_id s.neg, sf_id s.neg, Int.neg_neg]
theorem back_size {v : Int} (f : Bool) (hv : Snd v) : (⟨(textB v f).toArray⟩ : ByteArray).size ≤ 1000 := by
  rw [size_l]
  have := text_len f hv
  show (textB v f).length ≤ 1000
  omega
theorem back_parse (k : Nat) (hk : 1100 ≤ k) {v : Int} (f : Bool) (hv : Snd v) : fixed_Parse.f k ⟨(textB v f).toArray⟩ = some (v, f, 0) := by
  rw [parse_f k hk _ (back_size f hv)]
  exact congrArg some (parseF_text f hv)
theorem back_inj {v w : Int} {f g : Bool} (hv : Snd v) (hw : Snd w) : ((⟨(textB v f).toArray⟩ : ByteArray).toList == (⟨(textB w g).toArray⟩ : ByteArray).toList) = (v == w && (f == g)) := by
  rw [bl, bl]
  show (textB v f == textB w g) = _
  by_cases h : v = w ∧ f = g
  · obtain ⟨rfl, rfl⟩ := h; simp
  · have hne : ¬ textB v f = textB w g := by
      intro e
      have h1 := parseF_text f hv
      rw [e, parseF_text g hw] at h1
      injection h1 with e1 e2
      injection e2 with e3 _
      exact h ⟨e1.symm, e3.symm⟩
    rw [beq_eq_false_iff_ne.mpr hne]
    symm
    by_cases h1 : v = w
    · have h2 : ¬ f = g := fun e => h ⟨h1, e⟩
      rw [beq_eq_false_iff_ne.mpr h2, Bool.and_false]
    · rw [beq_eq_false_iff_ne.mpr h1, Bool.false_and]
theorem back_w0 (k : Nat) (hk : 1100 ≤ k) (a : Int) (fa : Bool) (b : Int) (fb : Bool) (s : ByteArray) (h : (s.size : Int) > 200) : bagatellelaw01_FixedBackw0.f k a fa b fb s = some true := by
  unfold bagatellelaw01_FixedBackw0.f
  rw [if_pos h, awake_f k (by omega)]; rfl
theorem back_w1 (k : Nat) (hk : 1100 ≤ k) {a b : Int} (fa fb : Bool) (s : ByteArray) (ha : I64 a) (hb : I64 b) (h : ¬ (s.size : Int) > 200) (v : Int) (g : Bool) (hp : parseF s.data.toList = (v, g, 0)) (hv : Snd v) (ht : textB v g = s.data.toList) :
    bagatellelaw01_FixedBackw1.f k a fa b fb s = some true := by
  have sa := sv_i64 ha
  have sb := sv_i64 hb
  unfold bagatellelaw01_FixedBackw1.f
  rw [if_neg h, neg_f fa ha, Option.bind_some]; dsimp only
  rw [back_neg fa ha, Option.bind_some, neg_f fb hb, Option.bind_some]; dsimp only
  rw [back_neg fb hb, Option.bind_some]; dsimp only
  rw [text_f _ sa.i64, Option.bind_some, back_parse k hk _ sa, Option.bind_some, parse_f k hk s (by omega), hp, Option.bind_some]; dsimp only
  rw [if_pos (by simp), if_pos rfl, text_f _ sb.i64, Option.bind_some, if_pos (by rw [back_inj sa sb]; simp), if_pos rfl, text_f _ hv.i64, Option.bind_some, if_pos (by rw [bl, bl, ← ht]), awake_f k (by omega)]
  rfl
theorem back_w2 (k : Nat) (hk : 1100 ≤ k) {a b : Int} (fa fb : Bool) (s : ByteArray) (ha : I64 a) (hb : I64 b) (h : ¬ (s.size : Int) > 200) (hp : parseF s.data.toList = (0, false, 4)) :
    bagatellelaw01_FixedBackw2.f k a fa b fb s = some true := by
  have sa := sv_i64 ha
  have sb := sv_i64 hb
  unfold bagatellelaw01_FixedBackw2.f
  rw [if_neg h, neg_f fa ha, Option.bind_some]; dsimp only
  rw [back_neg fa ha, Option.bind_some, neg_f fb hb, Option.bind_some]; dsimp only
  rw [back_neg fb hb, Option.bind_some]; dsimp only
  rw [text_f _ sa.i64, Option.bind_some, back_parse k hk _ sa, Option.bind_some, parse_f k hk s (by omega), hp, Option.bind_some]; dsimp only
  rw [if_pos (by simp), if_pos rfl, text_f _ sb.i64, Option.bind_some, if_pos (by rw [back_inj sa sb]; simp), if_neg (by decide), awake_f k (by omega)]
  rfl
theorem fixedBack_walk (a : Int) (fa : Bool) (b : Int) (fb : Bool) (s : ByteArray) (w : World) (ha : I64 a) (hb : I64 b) :
    Calls Try.prog 13 #[.agg #[.int .i64 a, .bool fa], .agg #[.int .i64 b, .bool fb], .string s] w fun e w' => e = .returned (.bool true) ∧ Below w.heap.size w w' := by
  by_cases h : (s.size : Int) > 200
  · exact bagatellelaw01_FixedBackw0.calls 1100 a fa b fb s true w (back_w0 1100 (Nat.le_refl _) a fa b fb s h)
  · rcases parseF_one s.data.toList with hp | ⟨v, g, hp, hv, ht⟩
    · exact bagatellelaw01_FixedBackw2.calls 1100 a fa b fb s true w (back_w2 1100 (Nat.le_refl _) fa fb s ha hb h hp)
    · exact bagatellelaw01_FixedBackw1.calls 1100 a fa b fb s true w (back_w1 1100 (Nat.le_refl _) fa fb s ha hb h v g hp hv ht)
end Go.Proofs.Ytenpiaafkmfjfaa.B

end
section
namespace Go.Proofs.Ytenpiaafkmfjfaa.B
open Go.ChangeShapes Go.WideShapes Go.ChangeAt Go.RowKit Go.Joins
open Go.ChangeMaps (open_string shut_string)
set_option linter.unusedVariables false
set_option maxRecDepth 100000 in
theorem fixedBack_lifted (os : Os) (started : os.Started) (H : Type) (enc : TypeId × Value → H) :
    ReturnsInHanded {} Try.checked os 13 .any (Rows.fixedBackSpec.pre6 enc Try.prog Try.f13 Rows.fixedBackRow.domain false) (Rows.fixedBackSpec.post enc Try.prog Try.f13 false true false false) := by
  refine returnsInHanded_of_change_sized (C := Try.checked) own started (by kernel_rfl) Try.func13
    (ChangeSpec.witness6 (enc := enc) (C := Try.checked) false ⟨#[], #[.agg #[.int .i64 0, .bool false], .agg #[.int .i64 0, .bool false], .string ByteArray.empty], []⟩ 8 (by kernel_rfl) (by kernel_rfl) (by kernel_rfl) (by kernel_rfl)) ?_
  intro W base args ds gs before hval0 hW hcnd hsz0 _
  have hsz : (DataW.weightsEach Try.prog (Try.f13.params.toList ++ Rows.fixedBackSpec.plain.varTypes Try.prog) (ds ++ gs)).all (· ≤ reachBytes) = true := hsz0
  have hval : ∀ (j : Nat) t v, Try.f13.params[j]? = some t → args[j]? = some v → Value.okWide Try.prog W .any base t v := hval0
  have hW' := hW
  obtain ⟨p, q, hA0, hV, rfl, hfz, hnd⟩ := hW
  have hA : DataW.TrodAll enc Try.prog W 0 (fun _ => true) true Try.f13.params.toList args.toList ds p := hA0
  rw [Try.params13] at hA hval hsz
  obtain ⟨v0, vs0, d0, ds0, p0, q0, hargs, rfl, rfl, h0, r0⟩ := trodAll_cons hA
  obtain ⟨v1, vs1, d1, ds1, p1, q1, rfl, rfl, rfl, h1, r1⟩ := trodAll_cons r0
  obtain ⟨v2, vs2, d2, ds2, p2, q2, rfl, rfl, rfl, h2, r2⟩ := trodAll_cons r1
  obtain ⟨rfl, rfl, rfl⟩ := trodAll_nil r2
  obtain rfl : args = #[v0, v1, v2] := by cases args; simp_all
  obtain ⟨rfl, rfl⟩ := trodVars_none hV
  obtain ⟨a0, f0, rfl, rfl, rfl, w0⟩ := open_num (hval 0 23 v0 rfl rfl) h0
  obtain ⟨a1, f1, rfl, rfl, rfl, w1⟩ := open_num (hval 1 23 v1 rfl rfl) h1
  obtain ⟨a2, rfl, rfl, rfl, y2⟩ := open_string Try.underlying9 (hval 2 9 v2 rfl rfl) h2
  clear hA0 hval0 hsz0 hsz
  refine (fixedBack_walk a0 f0 a1 f1 a2 W (wf_i64 w0) (wf_i64 w1)).mono fun e W' ⟨he, bel⟩ => ?_
  subst he
  exact ⟨_, rfl, _, _, _, [], _, [], hW', trodAll_mk1 (shut_bool Try.underlying4 _), (trodAll_cons_mk (shut_num a0 f0 w0) (trodAll_cons_mk (shut_num a1 f1 w1) (trodAll_cons_mk (shut_string Try.underlying9 y2) trodAll_mk0))), rfl, bel.frame _, fun h => by cases h⟩
theorem fixedBack_over : Rows.fixedBackRow.holds Try.pinned (OpenSpec.ofChange Rows.fixedBackSpec) :=
  OpenClaim.holds_of_wide 13 Try.f13 rfl rfl rfl rfl rfl rfl rfl ⟨rfl, rfl, rfl, rfl, rfl⟩ rfl rfl rfl rfl rfl (by kernel_rfl) Try.func13 (by kernel_rfl)
    (of_decide_eq_true (by kernel_rfl)) (by unfold Func.isWrapper; first | (rw [if_pos (by decide +kernel)]; kernel_rfl) | (rw [if_neg (by decide +kernel)]; exact ⟨rfl, rfl⟩))
    (fun os started H enc _ => fixedBack_lifted os started H enc)
end Go.Proofs.Ytenpiaafkmfjfaa.B
namespace Go.Proofs.Ytenpiaafkmfjfaa
theorem fixedBack_holds : Rows.FixedBackSaid := B.fixedBack_over
end Go.Proofs.Ytenpiaafkmfjfaa

end
#print axioms Go.Proofs.Ytenpiaafkmfjfaa.fixedBack_holds
