import Derived.Test.YtokbolgaokbdcaaDoorLawRec
import Derived.Test.YtokbolgaokbdcaaDoorOpenR
import Derived.Test.YtokbolgaokbdcaaDoorCards
import Derived.Test.YtokbolgaokbdcaaDoorTie
import Derived.LaidMore
import Derived.Lay
import Derived.SevenTiedAt
import Derived.Stop.Joined
/- For every table of rules and all signs the program's IsRecovered returns what the reference's returns. The package variables that the row lists are as the program's text lays them. -/
set_option linter.unusedSimpArgs false
set_option linter.unusedVariables false
namespace Go.Proofs.YtokbolgaokbdcaaDoor
open Go.RowKit Go.ChangeShapes Go.WideShapes Go.ChangeAt
set_option maxRecDepth 100000 in
theorem FnExactIsRecovered_lifted (os : Os) (started : os.Started) (H : Type) (enc : TypeId × Value → H) :
    ReturnsInHanded {} Tryd.checked os 5 .any (fun w args => (Rows.fnExactIsRecoveredSpec.pre enc Tryd.prog Tryd.f5 Rows.fnExactIsRecoveredRow.domain false w args ∧ laidMetH Tryd.prog Rows.fnExactIsRecoveredRow.laid w) ∧ sizedMet enc Tryd.prog Tryd.f5 (OpenSpec.ofChange Rows.fnExactIsRecoveredSpec) false w args)
      (Rows.fnExactIsRecoveredSpec.post enc Tryd.prog Tryd.f5 false true false false) := by
  refine returns_shaped_and (C := Tryd.checked) (X := fun w _ => laidMetH Tryd.prog Rows.fnExactIsRecoveredRow.laid w) (fun _ _ _ hh h => h.of_heap hh) own started (by kernel_rfl) Tryd.func5
    (ChangeSpec.witness_shaped (enc := enc) (C := Tryd.checked) (os := os) (X := fun w _ => laidMetH Tryd.prog Rows.fnExactIsRecoveredRow.laid w) false (World.laidAll Tryd.prog os Rows.fnExactIsRecoveredRow.laid) #[.slice none 0 0, .slice none 0 0] 8 (World.laidAll_os _ _ _)
      (World.shaped_of_ZipB (by kernel_rfl) (by kernel_rfl)) (by kernel_rfl) (by kernel_rfl) (by kernel_rfl)
      (by rw [MakeChecks.laidMetH_plain _ _ _ (by kernel_rfl)]; exact laidMet_laidAll _ (by kernel_rfl) (by kernel_rfl))) ?_
  intro W base args ds gs before hval0 hW hrch hL hsh
  have hval : ∀ (j : Nat) t v, Tryd.f5.params[j]? = some t → args[j]? = some v → Value.okWide Tryd.prog W .any base t v := hval0
  have hW' := hW
  obtain ⟨p, q, hA0, hV, rfl, hfz, hnd⟩ := hW
  have hA : DataW.TrodAll enc Tryd.prog W 0 (fun _ => true) true Tryd.f5.params.toList args.toList ds p := hA0
  rw [Tryd.params5] at hA hval
  obtain ⟨v0, vs0, d0, ds0, p0, q0, hargs, rfl, rfl, h0, r0⟩ := trodAll_cons hA
  obtain ⟨v1, vs1, d1, ds1, p1, q1, rfl, rfl, rfl, h1, r1⟩ := trodAll_cons r0
  obtain ⟨rfl, rfl, rfl⟩ := trodAll_nil r1
  obtain rfl : args = #[v0, v1] := by cases args; simp_all
  obtain ⟨rfl, rfl⟩ := trodVars_none hV
  have k0 := h0
  have lt0 : ∀ x ∈ p0, x.block < W.heap.size := by obtain ⟨m, hm⟩ := k0; exact DataW.trod_lt m _ _ _ hm
  have g0 := good_of_Trod (ty := .slice ruleTy) (by kernel_rfl) h0
  have o0 := hval 0 22 v0 rfl rfl
  obtain ⟨a, n, c, T, e0, hnc, hcm, hl, hr, hmx⟩ := g0.rules
  obtain rfl := slice_of_good Tryd.underlying22 o0 e0
  have k1 := h1
  have lt1 : ∀ x ∈ p1, x.block < W.heap.size := by obtain ⟨m, hm⟩ := k1; exact DataW.trod_lt m _ _ _ hm
  have g1 := good_of_Trod (ty := .slice (.int .i64)) (by kernel_rfl) h1
  have o1 := hval 1 30 v1 rfl rfl
  obtain ⟨b, m, d, l, e1, hmd, hdm, hll, hrl, _⟩ := g1.intsC
  obtain rfl := slice_of_good Tryd.underlying30 o1 e1
  clear hA0 hval0
  refine (lawIsRecovered_any T l a n c b m d W hl hnc hcm hr hmx hll hmd hdm hrl).mono fun e W' ⟨he, y, hy⟩ => ?_
  subst he hy
  exact ⟨_, rfl, _, _, _, [], _, [], hW', trodAll_mk1 (shut_bool Tryd.underlying4 _), (trodAll_cons_mk (Below.trod laidOut (by kernel_rfl) (of_decide_eq_true (by kernel_rfl)) k0 y.bel lt0) (trodAll_cons_mk (Below.trod laidOut (by kernel_rfl) (of_decide_eq_true (by kernel_rfl)) k1 y.bel lt1) trodAll_mk0)), rfl, y.bel.frame _, fun h => by cases h⟩
theorem FnExactIsRecovered_band {a b : Bool} (h1 : a = true) (h2 : b = true) : (a && b) = true := by rw [h1, h2]; rfl
set_option maxRecDepth 100000 in
set_option maxHeartbeats 4000000 in
theorem FnExactIsRecovered_joined : joinedFacts Tryd.prog 5 Tryd.f5 Rows.fnExactIsRecoveredSpec Rows.fnExactIsRecoveredRow = true := by
  unfold joinedFacts
  repeat (any_goals (with_reducible refine FnExactIsRecovered_band ?_ ?_))
  all_goals (as_aux_lemma => kernel_rfl)
set_option maxHeartbeats 4000000 in
theorem FnExactIsRecovered_row : Rows.FnExactIsRecoveredSaid :=
  OpenClaim.holds_of_wide 5 Tryd.f5 rfl rfl rfl rfl rfl rfl rfl ⟨rfl, rfl, rfl, rfl, rfl⟩ rfl rfl rfl rfl rfl (by as_aux_lemma => kernel_rfl) Tryd.func5 FnExactIsRecovered_joined
    (of_decide_eq_true (by as_aux_lemma => kernel_rfl)) (by unfold Func.isWrapper; first | (rw [if_pos (by decide +kernel)]; kernel_rfl) | (rw [if_neg (by decide +kernel)]; exact ⟨rfl, rfl⟩))
    (fun os started H enc _ => FnExactIsRecovered_lifted os started H enc)
set_option maxHeartbeats 4000000 in
theorem FnExactIsRecovered_holds : Rows.FnExactIsRecoveredCardSaid :=
  Claim7.holds_tied_plain_at .later [] [.data, .pinned] true (true, "56469cbd38c5ec8bf213a75d5add6e4f3bf7308d6ba256611bccc5614cc1bd89") false FnExactIsRecovered_row (fun _ h => by cases h) (by as_aux_lemma => kernel_rfl) (fun _ h => by cases h) fnExactIsRecovered_row_tie rfl ⟨rfl, rfl⟩ (by as_aux_lemma => kernel_rfl) rfl
    (fun f fn hf hfn => by
      obtain rfl : f = 5 := Option.some.inj ((show Tryd.prog.funcNamed Rows.fnExactIsRecoveredRow.func = some 5 by kernel_rfl).symm.trans hf) |>.symm
      obtain rfl : fn = Tryd.f5 := (Option.some.inj (Tryd.func5.symm.trans hfn)).symm
      exact ⟨by kernel_rfl, fun j t ht => by
        rw [Tryd.params5] at ht
        have hm : t ∈ [22, 30] := by simpa using Array.mem_of_getElem? ht
        have hall : ([22, 30].all fun u => !Tryd.prog.wantsStandIn u) = true := by kernel_rfl
        exact (show Tryd.prog.wantsStandIn t = false by simpa using List.all_eq_true.1 hall t hm)⟩)
    (by as_aux_lemma => kernel_rfl)
#print axioms FnExactIsRecovered_holds
end Go.Proofs.YtokbolgaokbdcaaDoor
