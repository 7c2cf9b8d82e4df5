import Derived.Test.YtiiekgmdbadalaaDoorLawFits
import Derived.Test.YtiiekgmdbadalaaDoorOpenC
import Derived.Test.YtiiekgmdbadalaaDoorCards
import Derived.Test.YtiiekgmdbadalaaDoorTie
import Derived.LaidMore
import Derived.Lay
import Derived.SevenTiedAt
import Derived.Stop.Joined
/- For every list of claims and every claim the law on FitsTo returns true: the program's FitsTo returns what the reference's FitsTo returns, and leaves its arguments as they were. The package variables that the row lists are as the program's text lays them. -/
set_option linter.unusedSimpArgs false
set_option linter.unusedVariables false
namespace Go.Proofs.YtiiekgmdbadalaaDoor
open Go.RowKit Go.ChangeShapes Go.WideShapes Go.ChangeAt
theorem clmMax_of {c : Clm} (h : ClmIn c) : ClmMax c := ⟨h.s1, h.s2, h.s3⟩
set_option maxRecDepth 100000 in
theorem FnExactFitsTo_lifted (os : Os) (started : os.Started) (H : Type) (enc : TypeId × Value → H) :
    ReturnsInHanded {} Tryd.checked os 13 .any (fun w args => (Rows.fnExactFitsToSpec.pre enc Tryd.prog Tryd.f13 Rows.fnExactFitsToRow.domain false w args ∧ laidMetH Tryd.prog Rows.fnExactFitsToRow.laid w) ∧ sizedMet enc Tryd.prog Tryd.f13 (OpenSpec.ofChange Rows.fnExactFitsToSpec) false w args)
      (Rows.fnExactFitsToSpec.post enc Tryd.prog Tryd.f13 false true false false) := by
  refine returns_shaped_and (C := Tryd.checked) (X := fun w _ => laidMetH Tryd.prog Rows.fnExactFitsToRow.laid w) (fun _ _ _ hh h => h.of_heap hh) own started (by kernel_rfl) Tryd.func13
    (ChangeSpec.witness_shaped (enc := enc) (C := Tryd.checked) (os := os) (X := fun w _ => laidMetH Tryd.prog Rows.fnExactFitsToRow.laid w) false (World.laidAll Tryd.prog os Rows.fnExactFitsToRow.laid) #[.slice none 0 0, .agg #[.string ByteArray.empty, .int .i64 0, .string ByteArray.empty, .string ByteArray.empty, .int .i64 0, .int .i64 0, .int .i64 0]] 8 (World.laidAll_os _ _ _)
      (World.shaped_of_ZipB (by kernel_rfl) (by kernel_rfl)) (by kernel_rfl) (by kernel_rfl) (by kernel_rfl)
      (by rw [MakeChecks.laidMetH_plain _ _ _ (by kernel_rfl)]; exact laidMet_laidAll _ (by kernel_rfl) (by kernel_rfl))) ?_
  intro W base args ds gs before hval0 hW hrch hL hsh
  have hval : ∀ (j : Nat) t v, Tryd.f13.params[j]? = some t → args[j]? = some v → Value.okWide Tryd.prog W .any base t v := hval0
  have hW' := hW
  obtain ⟨p, q, hA0, hV, rfl, hfz, hnd⟩ := hW
  have hA : DataW.TrodAll enc Tryd.prog W 0 (fun _ => true) true Tryd.f13.params.toList args.toList ds p := hA0
  rw [Tryd.params13] at hA hval
  obtain ⟨v0, vs0, d0, ds0, p0, q0, hargs, rfl, rfl, h0, r0⟩ := trodAll_cons hA
  obtain ⟨v1, vs1, d1, ds1, p1, q1, rfl, rfl, rfl, h1, r1⟩ := trodAll_cons r0
  obtain ⟨rfl, rfl, rfl⟩ := trodAll_nil r1
  obtain rfl : args = #[v0, v1] := by cases args; simp_all
  obtain ⟨rfl, rfl⟩ := trodVars_none hV
  have k0 := h0
  have lt0 : ∀ x ∈ p0, x.block < W.heap.size := by obtain ⟨m, hm⟩ := k0; exact DataW.trod_lt m _ _ _ hm
  have g0 := good_of_Trod (ty := .slice claimTy) (by kernel_rfl) h0
  have o0 := hval 0 43 v0 rfl rfl
  obtain ⟨a0, n0, c0, L0, e0, hm0, hn0, hr0, hmx0⟩ := g0.claims
  obtain rfl := slice_of_good Tryd.underlying43 o0 e0
  have k1 := h1
  have lt1 : ∀ x ∈ p1, x.block < W.heap.size := by obtain ⟨m, hm⟩ := k1; exact DataW.trod_lt m _ _ _ hm
  have g1 := good_of_Trod (ty := claimTy) (by kernel_rfl) h1
  have o1 := hval 1 32 v1 rfl rfl
  obtain ⟨d1, e1, hc1⟩ := g1.claim
  obtain rfl := agg_of_good Tryd.underlying32 o1 e1
  clear hA0 hval0
  refine (lawFitsTo_any L0 a0 n0 c0 d1 W hn0 hm0 hr0 (fun c hc => clmMax_of (hmx0 c hc)) (clmMax_of hc1) (Max.of hsh)).mono fun e W' ⟨he, y, hy⟩ => ?_
  subst he hy
  exact ⟨_, rfl, _, _, _, [], _, [], hW', trodAll_mk1 (shut_bool Tryd.underlying4 _), (trodAll_cons_mk (Below.trod laidOut (by kernel_rfl) (of_decide_eq_true (by kernel_rfl)) k0 y.bel lt0) (trodAll_cons_mk (Below.trod laidOut (by kernel_rfl) (of_decide_eq_true (by kernel_rfl)) k1 y.bel lt1) trodAll_mk0)), rfl, y.bel.frame _, fun h => by cases h⟩
theorem FnExactFitsTo_row : Rows.FnExactFitsToSaid :=
  OpenClaim.holds_of_wide 13 Tryd.f13 rfl rfl rfl rfl rfl rfl rfl ⟨rfl, rfl, rfl, rfl, rfl⟩ rfl rfl rfl rfl rfl (by kernel_rfl) Tryd.func13 (by kernel_rfl)
    (of_decide_eq_true (by kernel_rfl)) (by unfold Func.isWrapper; first | (rw [if_pos (by decide +kernel)]; kernel_rfl) | (rw [if_neg (by decide +kernel)]; exact ⟨rfl, rfl⟩))
    (fun os started H enc _ => FnExactFitsTo_lifted os started H enc)
theorem FnExactFitsTo_holds : Rows.FnExactFitsToCardSaid :=
  Claim7.holds_tied_plain_at .later [] [.data, .pinned] true (true, "380573dc67c67e2015868783f821e84919ef25b2323737331e6e663d118444e4") false FnExactFitsTo_row (fun _ h => by cases h) (by kernel_rfl) (fun _ h => by cases h) fnExactFitsTo_row_tie rfl ⟨rfl, rfl⟩ (by kernel_rfl) rfl
    (fun f fn hf hfn => by
      obtain rfl : f = 13 := Option.some.inj ((show Tryd.prog.funcNamed Rows.fnExactFitsToRow.func = some 13 by kernel_rfl).symm.trans hf) |>.symm
      obtain rfl : fn = Tryd.f13 := (Option.some.inj (Tryd.func13.symm.trans hfn)).symm
      exact ⟨by kernel_rfl, fun j t ht => by
        rw [Tryd.params13] at ht
        have hm : t ∈ [43, 32] := by simpa using Array.mem_of_getElem? ht
        have hall : ([43, 32].all fun u => !Tryd.prog.wantsStandIn u) = true := by kernel_rfl
        exact (show Tryd.prog.wantsStandIn t = false by simpa using List.all_eq_true.1 hall t hm)⟩)
    (by kernel_rfl)
#print axioms FnExactFitsTo_holds
end Go.Proofs.YtiiekgmdbadalaaDoor
