import Derived.Test.YtpblghjegbfjeaaLawRing
import Derived.Test.YtpblghjegbfjeaaOpen
/- For every list of points and every mask the law on MaskOfRing returns true: the program's MaskOfRing returns what the reference's MaskOfRing returns, leaves its arguments as they were, and keeps no hold of what it was given or gave back. No conditions. -/
set_option linter.unusedSimpArgs false
set_option linter.unusedVariables false
namespace Go.Proofs.Ytpblghjegbfjeaa
open Go.RowKit Go.ChangeShapes Go.WideShapes Go.ChangeAt
theorem Good.points {w : World} {cs : List Value} (h : Good w (.slice pointTy) cs) : ∃ (a : Option Addr) (n c : Nat) (L : List Pt), cs = [.slice a n c] ∧ n ≤ maxLen ∧ L.length = n ∧ Row w a (ptsCells L) := by
  obtain ⟨a, n, c, xs, rfl, hn, hc, hl, hr, hx⟩ := h
  have : ∀ xs : List (List Value), (∀ x ∈ xs, x.length = pointTy.cells ∧ Good w pointTy x) → ∃ L : List Pt, L.length = xs.length ∧ xs.flatten = ptsCells L := by
    intro xs
    induction xs with
    | nil => intro _; exact ⟨[], rfl, rfl⟩
    | cons x xs ih =>
      intro hh
      obtain ⟨L, h1, h2⟩ := ih fun y hy => hh y (by simp [hy])
      obtain ⟨px, py, rfl, _, _⟩ := (hh x (by simp)).2.point
      exact ⟨⟨px, py⟩ :: L, by simp [h1], by rw [List.flatten_cons, h2]; rfl⟩
  obtain ⟨L, h1, h2⟩ := this xs hx
  exact ⟨a, n, c, L, rfl, by omega, by omega, h2 ▸ hr⟩
theorem slice_of_good {P : Program} {w : World} {r : Go.Reach} {b t : Nat} {e : TypeId} {v : Value} (ht : P.underlying t = some (.slice e)) (hv : Value.okWide P w r b t v) {a : Option Addr} {n c : Nat} (h : v.cells.toList = [.slice a n c]) : v = .slice a n c := by
  obtain ⟨a', n', c', rfl⟩ := okWide_slice ht hv
  simpa [Value.cells] using h
set_option maxRecDepth 100000 in
theorem FnExactMaskOfRing_lifted (os : Os) (started : os.Started) (H : Type) (enc : TypeId × Value → H) :
    ReturnsInHanded {} Try.checked os 11 .any (Rows.fnExactMaskOfRingSpec.pre6 enc Try.prog Try.f11 Rows.fnExactMaskOfRingRow.domain false) (Rows.fnExactMaskOfRingSpec.post enc Try.prog Try.f11 false true false false) := by
  refine returnsInHanded_of_change (C := Try.checked) own started (by kernel_rfl) Try.func11
    (ChangeSpec.witness6 (enc := enc) (C := Try.checked) false ⟨#[], #[.slice none 0 0, .agg #[.int .i64 0, .int .i64 0, .int .i64 0, .int .i64 0, .slice none 0 0]], []⟩ 8 (by kernel_rfl) (by kernel_rfl) (by kernel_rfl) (by kernel_rfl)) ?_
  intro W base args ds gs before hval0 hW hcnd _
  have hval : ∀ (j : Nat) t v, Try.f11.params[j]? = some t → args[j]? = some v → Value.okWide Try.prog W .any base t v := hval0
  have hW' := hW
  obtain ⟨p, q, hA0, hV, rfl, hfz, hnd⟩ := hW
  have hA : DataW.TrodAll enc Try.prog W 0 (fun _ => true) true Try.f11.params.toList args.toList ds p := hA0
  rw [Try.params11] at hA hval
  obtain ⟨v0, vs0, d0, ds0, p0, q0, hargs, rfl, rfl, h0, r0⟩ := trodAll_cons hA
  obtain ⟨v1, vs1, d1, ds1, p1, q1, rfl, rfl, rfl, h1, r1⟩ := trodAll_cons r0
  obtain ⟨rfl, rfl, rfl⟩ := trodAll_nil r1
  obtain rfl : args = #[v0, v1] := by cases args; simp_all
  obtain ⟨rfl, rfl⟩ := trodVars_none hV
  have k0 := h0
  have lt0 : ∀ x ∈ p0, x.block < W.heap.size := by obtain ⟨m, hm⟩ := k0; exact DataW.trod_lt m _ _ _ hm
  have g0 := good_of_Trod (ty := .slice pointTy) (by kernel_rfl) h0
  have o0 := hval 0 55 v0 rfl rfl
  obtain ⟨a, n, c, P, e0, hm, hn, hr⟩ := g0.points
  obtain rfl := slice_of_good Try.underlying55 o0 e0
  have k1 := h1
  have lt1 : ∀ x ∈ p1, x.block < W.heap.size := by obtain ⟨m, hm⟩ := k1; exact DataW.trod_lt m _ _ _ hm
  have g1 := good_of_Trod (ty := maskTy) (by kernel_rfl) h1
  have o1 := hval 1 26 v1 rfl rfl
  obtain ⟨x, y, mW, mH, a', n', c', l, e1, hm', hn', hr', _⟩ := g1.mask
  obtain rfl := agg_of_good Try.underlying26 o1 e1
  clear hA0 hval0
  refine (lawRing_any P x y mW mH l a a' n c n' c' W hn hn' hm hm' hr hr').mono fun e W' ⟨he, y, hy⟩ => ?_
  subst he hy
  exact ⟨_, rfl, _, _, _, [], _, [], hW', trodAll_mk1 (shut_bool Try.underlying4 _), (trodAll_cons_mk (Below.trod laidOut (by kernel_rfl) (of_decide_eq_true (by kernel_rfl)) k0 y.bel lt0) (trodAll_cons_mk (Below.trod laidOut (by kernel_rfl) (of_decide_eq_true (by kernel_rfl)) k1 y.bel lt1) trodAll_mk0)), rfl, y.bel.frame _, fun h => by cases h⟩
theorem FnExactMaskOfRing_holds : Rows.FnExactMaskOfRingSaid :=
  OpenClaim.holds_of_wide 11 Try.f11 rfl rfl rfl rfl rfl rfl rfl ⟨rfl, rfl, rfl, rfl, rfl⟩ rfl rfl rfl rfl rfl (by kernel_rfl) Try.func11 (by kernel_rfl)
    (of_decide_eq_true (by kernel_rfl)) (by unfold Func.isWrapper; first | (rw [if_pos (by decide +kernel)]; kernel_rfl) | (rw [if_neg (by decide +kernel)]; exact ⟨rfl, rfl⟩))
    (fun os started H enc _ => FnExactMaskOfRing_lifted os started H enc)
#print axioms FnExactMaskOfRing_holds
end Go.Proofs.Ytpblghjegbfjeaa
