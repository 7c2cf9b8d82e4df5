import Derived.Test.YtpblghjegbfjeaaMeetOfMasks
import Derived.Test.YtpblghjegbfjeaaOpen
/- For every two masks the law on MeetOfMasks returns true: the program's MeetOfMasks returns what the reference's MeetOfMasks returns, and leaves its arguments as they were. No conditions. -/
set_option linter.unusedSimpArgs false
set_option linter.unusedVariables false
namespace Go.Proofs.Ytpblghjegbfjeaa
open Go.RowKit Go.ChangeShapes Go.WideShapes Go.ChangeAt
set_option maxRecDepth 100000 in
theorem FnExactMeetOfMasks_lifted (os : Os) (started : os.Started) (H : Type) (enc : TypeId × Value → H) :
    ReturnsInHanded {} Try.checked os 7 .any (Rows.fnExactMeetOfMasksSpec.pre6 enc Try.prog Try.f7 Rows.fnExactMeetOfMasksRow.domain false) (Rows.fnExactMeetOfMasksSpec.post enc Try.prog Try.f7 false true false false) := by
  refine returnsInHanded_of_change (C := Try.checked) own started (by kernel_rfl) Try.func7
    (ChangeSpec.witness6 (enc := enc) (C := Try.checked) false ⟨#[], #[.agg #[.int .i64 0, .int .i64 0, .int .i64 0, .int .i64 0, .slice none 0 0], .agg #[.int .i64 0, .int .i64 0, .int .i64 0, .int .i64 0, .slice none 0 0]], []⟩ 8 (by kernel_rfl) (by kernel_rfl) (by kernel_rfl) (by kernel_rfl)) ?_
  intro W base args ds gs before hval0 hW hcnd _
  have hval : ∀ (j : Nat) t v, Try.f7.params[j]? = some t → args[j]? = some v → Value.okWide Try.prog W .any base t v := hval0
  have hW' := hW
  obtain ⟨p, q, hA0, hV, rfl, hfz, hnd⟩ := hW
  have hA : DataW.TrodAll enc Try.prog W 0 (fun _ => true) true Try.f7.params.toList args.toList ds p := hA0
  rw [Try.params7] at hA hval
  obtain ⟨v0, vs0, d0, ds0, p0, q0, hargs, rfl, rfl, h0, r0⟩ := trodAll_cons hA
  obtain ⟨v1, vs1, d1, ds1, p1, q1, rfl, rfl, rfl, h1, r1⟩ := trodAll_cons r0
  obtain ⟨rfl, rfl, rfl⟩ := trodAll_nil r1
  obtain rfl : args = #[v0, v1] := by cases args; simp_all
  obtain ⟨rfl, rfl⟩ := trodVars_none hV
  have k0 := h0
  have lt0 : ∀ x ∈ p0, x.block < W.heap.size := by obtain ⟨m, hm⟩ := k0; exact DataW.trod_lt m _ _ _ hm
  have g0 := good_of_Trod (ty := maskTy) (by kernel_rfl) h0
  have o0 := hval 0 26 v0 rfl rfl
  obtain ⟨x, y, mW, mH, a, n, c, l, e0, hm, hn, hr, _⟩ := g0.mask
  obtain rfl := agg_of_good Try.underlying26 o0 e0
  have k1 := h1
  have lt1 : ∀ x ∈ p1, x.block < W.heap.size := by obtain ⟨m, hm⟩ := k1; exact DataW.trod_lt m _ _ _ hm
  have g1 := good_of_Trod (ty := maskTy) (by kernel_rfl) h1
  have o1 := hval 1 26 v1 rfl rfl
  obtain ⟨x', y', mW', mH', a', n', c', l', e1, hm', hn', hr', _⟩ := g1.mask
  obtain rfl := agg_of_good Try.underlying26 o1 e1
  clear hA0 hval0
  refine (lawMeetOfMasks_any x y mW mH x' y' mW' mH' l l' a a' n n' c c' W hn hn' hm hm' hr hr').mono fun e W' ⟨he, y, hy⟩ => ?_
  subst he hy
  exact ⟨_, rfl, _, _, _, [], _, [], hW', trodAll_mk1 (shut_bool Try.underlying4 _), (trodAll_cons_mk (Below.trod laidOut (by kernel_rfl) (of_decide_eq_true (by kernel_rfl)) k0 y.bel lt0) (trodAll_cons_mk (Below.trod laidOut (by kernel_rfl) (of_decide_eq_true (by kernel_rfl)) k1 y.bel lt1) trodAll_mk0)), rfl, y.bel.frame _, fun h => by cases h⟩
theorem FnExactMeetOfMasks_holds : Rows.FnExactMeetOfMasksSaid :=
  OpenClaim.holds_of_wide 7 Try.f7 rfl rfl rfl rfl rfl rfl rfl ⟨rfl, rfl, rfl, rfl, rfl⟩ rfl rfl rfl rfl rfl (by kernel_rfl) Try.func7 (by kernel_rfl)
    (of_decide_eq_true (by kernel_rfl)) (by unfold Func.isWrapper; first | (rw [if_pos (by decide +kernel)]; kernel_rfl) | (rw [if_neg (by decide +kernel)]; exact ⟨rfl, rfl⟩))
    (fun os started H enc _ => FnExactMeetOfMasks_lifted os started H enc)
#print axioms FnExactMeetOfMasks_holds
end Go.Proofs.Ytpblghjegbfjeaa
