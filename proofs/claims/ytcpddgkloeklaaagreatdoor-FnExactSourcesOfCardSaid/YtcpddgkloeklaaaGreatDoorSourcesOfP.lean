import Derived.Test.YtcpddgkloeklaaaGreatDoorLawSrc
import Derived.Test.YtcpddgkloeklaaaGreatDoorPackAb
import Derived.Test.YtcpddgkloeklaaaGreatDoorCards
import Derived.Test.YtcpddgkloeklaaaGreatDoorTie
import Derived.LaidMore
import Derived.Lay
import Derived.SevenTiedAt
import Derived.Stop.Joined
/- For every list of claims and every list of numbers the law on SourcesOf returns true: the program's SourcesOf returns what the reference's SourcesOf returns, and leaves its arguments as they were. The package variables that the row lists are as the program's text lays them. -/
set_option linter.unusedSimpArgs false
set_option linter.unusedVariables false
namespace Go.Proofs.YtcpddgkloeklaaaGreatDoor
open Go.RowKit Go.ChangeShapes Go.WideShapes Go.ChangeAt
theorem clmMax_of {c : Clm} (h : ClmIn c) : ClmMax c := ⟨h.s1, h.s2, h.s3⟩
set_option maxRecDepth 100000 in
theorem FnExactSourcesOf_lifted (os : Os) (started : os.Started) (H : Type) (enc : TypeId × Value → H) :
    ReturnsInHanded {} Tryz.checked os 6 .any (fun w args => (Rows.fnExactSourcesOfSpec.pre enc Tryz.prog Tryz.f6 Rows.fnExactSourcesOfRow.domain false w args ∧ laidMetH Tryz.prog Rows.fnExactSourcesOfRow.laid w) ∧ sizedMet enc Tryz.prog Tryz.f6 (OpenSpec.ofChange Rows.fnExactSourcesOfSpec) false w args)
      (Rows.fnExactSourcesOfSpec.post enc Tryz.prog Tryz.f6 false true false false) := by
  refine returns_shaped_and (C := Tryz.checked) (X := fun w _ => laidMetH Tryz.prog Rows.fnExactSourcesOfRow.laid w) (fun _ _ _ hh h => h.of_heap hh) own started (by kernel_rfl) Tryz.func6
    (ChangeSpec.witness_shaped (enc := enc) (C := Tryz.checked) (os := os) (X := fun w _ => laidMetH Tryz.prog Rows.fnExactSourcesOfRow.laid w) false (World.laidAll Tryz.prog os Rows.fnExactSourcesOfRow.laid) #[.slice none 0 0, .slice none 0 0] 8 (World.laidAll_os _ _ _)
      (World.shaped_of_ZipB (by kernel_rfl) (by kernel_rfl)) (by kernel_rfl) (by kernel_rfl) (by kernel_rfl)
      (by rw [MakeChecks.laidMetH_plain _ _ _ (by kernel_rfl)]; exact laidMet_laidAll _ (by kernel_rfl) (by kernel_rfl))) ?_
  intro W base args ds gs before hval0 hW hrch hL hsh
  have hval : ∀ (j : Nat) t v, Tryz.f6.params[j]? = some t → args[j]? = some v → Value.okWide Tryz.prog W .any base t v := hval0
  have hW' := hW
  obtain ⟨p, q, hA0, hV, rfl, hfz, hnd⟩ := hW
  have hA : DataW.TrodAll enc Tryz.prog W 0 (fun _ => true) true Tryz.f6.params.toList args.toList ds p := hA0
  rw [Tryz.params6] at hA hval
  obtain ⟨v0, vs0, d0, ds0, p0, q0, hargs, rfl, rfl, h0, r0⟩ := trodAll_cons hA
  obtain ⟨v1, vs1, d1, ds1, p1, q1, rfl, rfl, rfl, h1, r1⟩ := trodAll_cons r0
  obtain ⟨rfl, rfl, rfl⟩ := trodAll_nil r1
  obtain rfl : args = #[v0, v1] := by cases args; simp_all
  obtain ⟨rfl, rfl⟩ := trodVars_none hV
  have k0 := h0
  have lt0 : ∀ x ∈ p0, x.block < W.heap.size := by obtain ⟨m, hm⟩ := k0; exact DataW.trod_lt m _ _ _ hm
  have g0 := good_of_Trod (ty := .slice claimTy) (by kernel_rfl) h0
  have o0 := hval 0 22 v0 rfl rfl
  obtain ⟨a0, n0, c0, L0, e0, hm0, hn0, hr0, hmx0⟩ := g0.claims
  obtain rfl := slice_of_good Tryz.underlying22 o0 e0
  have k1 := h1
  have lt1 : ∀ x ∈ p1, x.block < W.heap.size := by obtain ⟨m, hm⟩ := k1; exact DataW.trod_lt m _ _ _ hm
  have g1 := good_of_Trod (ty := .slice (.int .i64)) (by kernel_rfl) h1
  have o1 := hval 1 23 v1 rfl rfl
  obtain ⟨a1, n1, c1, L1, e1, hm1, hn1, hr1, _⟩ := g1.ints
  obtain rfl := slice_of_good Tryz.underlying23 o1 e1
  clear hA0 hval0
  refine (lawSourcesOf_any L0 a0 n0 c0 L1 a1 n1 c1 W hn0 hm0 hr0 (fun c hc => clmMax_of (hmx0 c hc)) hn1 hm1 hr1 (Max.of hsh)).mono fun e W' ⟨he, y, hy⟩ => ?_
  subst he hy
  exact ⟨_, rfl, _, _, _, [], _, [], hW', trodAll_mk1 (shut_bool Tryz.underlying4 _), (trodAll_cons_mk (Below.trod laidOut (by kernel_rfl) (of_decide_eq_true (by kernel_rfl)) k0 y.bel lt0) (trodAll_cons_mk (Below.trod laidOut (by kernel_rfl) (of_decide_eq_true (by kernel_rfl)) k1 y.bel lt1) trodAll_mk0)), rfl, y.bel.frame _, fun h => by cases h⟩
theorem FnExactSourcesOf_band {a b : Bool} (h1 : a = true) (h2 : b = true) : (a && b) = true := by rw [h1, h2]; rfl
set_option maxRecDepth 100000 in
set_option maxHeartbeats 4000000 in
theorem FnExactSourcesOf_joined : joinedFacts Tryz.prog 6 Tryz.f6 Rows.fnExactSourcesOfSpec Rows.fnExactSourcesOfRow = true := by
  unfold joinedFacts
  repeat (any_goals (with_reducible refine FnExactSourcesOf_band ?_ ?_))
  all_goals (as_aux_lemma => kernel_rfl)
set_option maxHeartbeats 4000000 in
theorem FnExactSourcesOf_row : Rows.FnExactSourcesOfSaid :=
  OpenClaim.holds_of_wide 6 Tryz.f6 rfl rfl rfl rfl rfl rfl rfl ⟨rfl, rfl, rfl, rfl, rfl⟩ rfl rfl rfl rfl rfl (by as_aux_lemma => kernel_rfl) Tryz.func6 FnExactSourcesOf_joined
    (of_decide_eq_true (by as_aux_lemma => kernel_rfl)) (by unfold Func.isWrapper; first | (rw [if_pos (by decide +kernel)]; kernel_rfl) | (rw [if_neg (by decide +kernel)]; exact ⟨rfl, rfl⟩))
    (fun os started H enc _ => FnExactSourcesOf_lifted os started H enc)
set_option maxHeartbeats 4000000 in
theorem FnExactSourcesOf_holds : Rows.FnExactSourcesOfCardSaid :=
  Claim7.holds_tied_plain_at .later [] [.data, .pinned] true (true, "2e5a982b1d25a66df28b991e7ab48c79e6d639cfd68fdf1839cd5190620f02c0") false FnExactSourcesOf_row (fun _ h => by cases h) (by as_aux_lemma => kernel_rfl) (fun _ h => by cases h) fnExactSourcesOf_row_tie rfl ⟨rfl, rfl⟩ (by as_aux_lemma => kernel_rfl) rfl
    (fun f fn hf hfn => by
      obtain rfl : f = 6 := Option.some.inj ((show Tryz.prog.funcNamed Rows.fnExactSourcesOfRow.func = some 6 by kernel_rfl).symm.trans hf) |>.symm
      obtain rfl : fn = Tryz.f6 := (Option.some.inj (Tryz.func6.symm.trans hfn)).symm
      exact ⟨by kernel_rfl, fun j t ht => by
        rw [Tryz.params6] at ht
        have hm : t ∈ [22, 23] := by simpa using Array.mem_of_getElem? ht
        have hall : ([22, 23].all fun u => !Tryz.prog.wantsStandIn u) = true := by kernel_rfl
        exact (show Tryz.prog.wantsStandIn t = false by simpa using List.all_eq_true.1 hall t hm)⟩)
    (by as_aux_lemma => kernel_rfl)
#print axioms FnExactSourcesOf_holds
end Go.Proofs.YtcpddgkloeklaaaGreatDoor
