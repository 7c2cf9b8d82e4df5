import Derived.Test.YtcpddgkloeklaaaGreatDoorLawSms
import Derived.Test.YtcpddgkloeklaaaGreatDoorPackAb
import Derived.Test.YtcpddgkloeklaaaGreatDoorCards
import Derived.Test.YtcpddgkloeklaaaGreatDoorTie
import Derived.LaidMore
import Derived.Lay
import Derived.SevenTiedAt
import Derived.Stop.Joined
/- For every list of claims the law on SmallestSources returns true: the program's SmallestSources returns what the reference's SmallestSources returns, and leaves its arguments as they were. The package variables that the row lists are as the program's text lays them. -/
set_option linter.unusedSimpArgs false
set_option linter.unusedVariables false
namespace Go.Proofs.YtcpddgkloeklaaaGreatDoor
open Go.RowKit Go.ChangeShapes Go.WideShapes Go.ChangeAt
theorem clmMax_of {c : Clm} (h : ClmIn c) : ClmMax c := ⟨h.s1, h.s2, h.s3⟩
set_option maxRecDepth 100000 in
theorem FnExactSmallestSources_lifted (os : Os) (started : os.Started) (H : Type) (enc : TypeId × Value → H) :
    ReturnsInHanded {} Tryz.checked os 13 .any (fun w args => (Rows.fnExactSmallestSourcesSpec.pre enc Tryz.prog Tryz.f13 Rows.fnExactSmallestSourcesRow.domain false w args ∧ laidMetH Tryz.prog Rows.fnExactSmallestSourcesRow.laid w) ∧ sizedMet enc Tryz.prog Tryz.f13 (OpenSpec.ofChange Rows.fnExactSmallestSourcesSpec) false w args)
      (Rows.fnExactSmallestSourcesSpec.post enc Tryz.prog Tryz.f13 false true false false) := by
  refine returns_shaped_and (C := Tryz.checked) (X := fun w _ => laidMetH Tryz.prog Rows.fnExactSmallestSourcesRow.laid w) (fun _ _ _ hh h => h.of_heap hh) own started (by kernel_rfl) Tryz.func13
    (ChangeSpec.witness_shaped (enc := enc) (C := Tryz.checked) (os := os) (X := fun w _ => laidMetH Tryz.prog Rows.fnExactSmallestSourcesRow.laid w) false (World.laidAll Tryz.prog os Rows.fnExactSmallestSourcesRow.laid) #[.slice none 0 0] 8 (World.laidAll_os _ _ _)
      (World.shaped_of_ZipB (by kernel_rfl) (by kernel_rfl)) (by kernel_rfl) (by kernel_rfl) (by kernel_rfl)
      (by rw [MakeChecks.laidMetH_plain _ _ _ (by kernel_rfl)]; exact laidMet_laidAll _ (by kernel_rfl) (by kernel_rfl))) ?_
  intro W base args ds gs before hval0 hW hrch hL hsh
  have hval : ∀ (j : Nat) t v, Tryz.f13.params[j]? = some t → args[j]? = some v → Value.okWide Tryz.prog W .any base t v := hval0
  have hW' := hW
  obtain ⟨p, q, hA0, hV, rfl, hfz, hnd⟩ := hW
  have hA : DataW.TrodAll enc Tryz.prog W 0 (fun _ => true) true Tryz.f13.params.toList args.toList ds p := hA0
  rw [Tryz.params13] at hA hval
  obtain ⟨v0, vs0, d0, ds0, p0, q0, hargs, rfl, rfl, h0, r0⟩ := trodAll_cons hA
  obtain ⟨rfl, rfl, rfl⟩ := trodAll_nil r0
  obtain rfl : args = #[v0] := by cases args; simp_all
  obtain ⟨rfl, rfl⟩ := trodVars_none hV
  have k0 := h0
  have lt0 : ∀ x ∈ p0, x.block < W.heap.size := by obtain ⟨m, hm⟩ := k0; exact DataW.trod_lt m _ _ _ hm
  have g0 := good_of_Trod (ty := .slice claimTy) (by kernel_rfl) h0
  have o0 := hval 0 22 v0 rfl rfl
  obtain ⟨a0, n0, c0, L0, e0, hm0, hn0, hr0, hmx0⟩ := g0.claims
  obtain rfl := slice_of_good Tryz.underlying22 o0 e0
  clear hA0 hval0
  refine (lawSmallestSources_any L0 a0 n0 c0 W hn0 hm0 hr0 (fun c hc => clmMax_of (hmx0 c hc)) (Max.of hsh)).mono fun e W' ⟨he, y, hy⟩ => ?_
  subst he hy
  exact ⟨_, rfl, _, _, _, [], _, [], hW', trodAll_mk1 (shut_bool Tryz.underlying4 _), (trodAll_cons_mk (Below.trod laidOut (by kernel_rfl) (of_decide_eq_true (by kernel_rfl)) k0 y.bel lt0) trodAll_mk0), rfl, y.bel.frame _, fun h => by cases h⟩
theorem FnExactSmallestSources_band {a b : Bool} (h1 : a = true) (h2 : b = true) : (a && b) = true := by rw [h1, h2]; rfl
set_option maxRecDepth 100000 in
set_option maxHeartbeats 4000000 in
theorem FnExactSmallestSources_joined : joinedFacts Tryz.prog 13 Tryz.f13 Rows.fnExactSmallestSourcesSpec Rows.fnExactSmallestSourcesRow = true := by
  unfold joinedFacts
  repeat (any_goals (with_reducible refine FnExactSmallestSources_band ?_ ?_))
  all_goals (as_aux_lemma => kernel_rfl)
set_option maxHeartbeats 4000000 in
theorem FnExactSmallestSources_row : Rows.FnExactSmallestSourcesSaid :=
  OpenClaim.holds_of_wide 13 Tryz.f13 rfl rfl rfl rfl rfl rfl rfl ⟨rfl, rfl, rfl, rfl, rfl⟩ rfl rfl rfl rfl rfl (by as_aux_lemma => kernel_rfl) Tryz.func13 FnExactSmallestSources_joined
    (of_decide_eq_true (by as_aux_lemma => kernel_rfl)) (by unfold Func.isWrapper; first | (rw [if_pos (by decide +kernel)]; kernel_rfl) | (rw [if_neg (by decide +kernel)]; exact ⟨rfl, rfl⟩))
    (fun os started H enc _ => FnExactSmallestSources_lifted os started H enc)
set_option maxHeartbeats 4000000 in
theorem FnExactSmallestSources_holds : Rows.FnExactSmallestSourcesCardSaid :=
  Claim7.holds_tied_plain_at .later [] [.data, .pinned] true (true, "2e5a982b1d25a66df28b991e7ab48c79e6d639cfd68fdf1839cd5190620f02c0") false FnExactSmallestSources_row (fun _ h => by cases h) (by as_aux_lemma => kernel_rfl) (fun _ h => by cases h) fnExactSmallestSources_row_tie rfl ⟨rfl, rfl⟩ (by as_aux_lemma => kernel_rfl) rfl
    (fun f fn hf hfn => by
      obtain rfl : f = 13 := Option.some.inj ((show Tryz.prog.funcNamed Rows.fnExactSmallestSourcesRow.func = some 13 by kernel_rfl).symm.trans hf) |>.symm
      obtain rfl : fn = Tryz.f13 := (Option.some.inj (Tryz.func13.symm.trans hfn)).symm
      exact ⟨by kernel_rfl, fun j t ht => by
        rw [Tryz.params13] at ht
        have hm : t ∈ [22] := by simpa using Array.mem_of_getElem? ht
        have hall : ([22].all fun u => !Tryz.prog.wantsStandIn u) = true := by kernel_rfl
        exact (show Tryz.prog.wantsStandIn t = false by simpa using List.all_eq_true.1 hall t hm)⟩)
    (by as_aux_lemma => kernel_rfl)
#print axioms FnExactSmallestSources_holds
end Go.Proofs.YtcpddgkloeklaaaGreatDoor
