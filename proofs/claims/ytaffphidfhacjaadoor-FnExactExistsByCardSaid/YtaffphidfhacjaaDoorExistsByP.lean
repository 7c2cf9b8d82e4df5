import Derived.Test.YtaffphidfhacjaaDoorLawEx
import Derived.Test.YtaffphidfhacjaaDoorOpenC
import Derived.Test.YtaffphidfhacjaaDoorCards
import Derived.Test.YtaffphidfhacjaaDoorTie
import Derived.LaidMore
import Derived.Lay
import Derived.SevenTiedAt
import Derived.Stop.Joined
/- For every list of claims and every text and every number the law on ExistsBy returns true: the program's ExistsBy returns what the reference's ExistsBy returns, and leaves its arguments as they were. The package variables that the row lists are as the program's text lays them. -/
set_option linter.unusedSimpArgs false
set_option linter.unusedVariables false
namespace Go.Proofs.YtaffphidfhacjaaDoor
open Go.RowKit Go.ChangeShapes Go.WideShapes Go.ChangeAt
theorem clmMax_of {c : Clm} (h : ClmIn c) : ClmMax c := ⟨h.s1, h.s2, h.s3⟩
set_option maxRecDepth 100000 in
theorem FnExactExistsBy_lifted (os : Os) (started : os.Started) (H : Type) (enc : TypeId × Value → H) :
    ReturnsInHanded {} Tryd.checked os 4 .any (fun w args => (Rows.fnExactExistsBySpec.pre enc Tryd.prog Tryd.f4 Rows.fnExactExistsByRow.domain false w args ∧ laidMetH Tryd.prog Rows.fnExactExistsByRow.laid w) ∧ sizedMet enc Tryd.prog Tryd.f4 (OpenSpec.ofChange Rows.fnExactExistsBySpec) false w args)
      (Rows.fnExactExistsBySpec.post enc Tryd.prog Tryd.f4 false true false false) := by
  refine returns_shaped_and (C := Tryd.checked) (X := fun w _ => laidMetH Tryd.prog Rows.fnExactExistsByRow.laid w) (fun _ _ _ hh h => h.of_heap hh) own started (by kernel_rfl) Tryd.func4
    (ChangeSpec.witness_shaped (enc := enc) (C := Tryd.checked) (os := os) (X := fun w _ => laidMetH Tryd.prog Rows.fnExactExistsByRow.laid w) false (World.laidAll Tryd.prog os Rows.fnExactExistsByRow.laid) #[.slice none 0 0, .string ByteArray.empty, .int .i64 0] 8 (World.laidAll_os _ _ _)
      (World.shaped_of_ZipB (by kernel_rfl) (by kernel_rfl)) (by kernel_rfl) (by kernel_rfl) (by kernel_rfl)
      (by rw [MakeChecks.laidMetH_plain _ _ _ (by kernel_rfl)]; exact laidMet_laidAll _ (by kernel_rfl) (by kernel_rfl))) ?_
  intro W base args ds gs before hval0 hW hrch hL hsh
  have hval : ∀ (j : Nat) t v, Tryd.f4.params[j]? = some t → args[j]? = some v → Value.okWide Tryd.prog W .any base t v := hval0
  have hW' := hW
  obtain ⟨p, q, hA0, hV, rfl, hfz, hnd⟩ := hW
  have hA : DataW.TrodAll enc Tryd.prog W 0 (fun _ => true) true Tryd.f4.params.toList args.toList ds p := hA0
  rw [Tryd.params4] at hA hval
  obtain ⟨v0, vs0, d0, ds0, p0, q0, hargs, rfl, rfl, h0, r0⟩ := trodAll_cons hA
  obtain ⟨v1, vs1, d1, ds1, p1, q1, rfl, rfl, rfl, h1, r1⟩ := trodAll_cons r0
  obtain ⟨v2, vs2, d2, ds2, p2, q2, rfl, rfl, rfl, h2, r2⟩ := trodAll_cons r1
  obtain ⟨rfl, rfl, rfl⟩ := trodAll_nil r2
  obtain rfl : args = #[v0, v1, v2] := by cases args; simp_all
  obtain ⟨rfl, rfl⟩ := trodVars_none hV
  have k0 := h0
  have lt0 : ∀ x ∈ p0, x.block < W.heap.size := by obtain ⟨m, hm⟩ := k0; exact DataW.trod_lt m _ _ _ hm
  have g0 := good_of_Trod (ty := .slice claimTy) (by kernel_rfl) h0
  have o0 := hval 0 22 v0 rfl rfl
  obtain ⟨a0, n0, c0, L0, e0, hm0, hn0, hr0, hmx0⟩ := g0.claims
  obtain rfl := slice_of_good Tryd.underlying22 o0 e0
  have k1 := h1
  have lt1 : ∀ x ∈ p1, x.block < W.heap.size := by obtain ⟨m, hm⟩ := k1; exact DataW.trod_lt m _ _ _ hm
  have g1 := good_of_Trod (ty := .string) (by kernel_rfl) h1
  have o1 := hval 1 9 v1 rfl rfl
  obtain ⟨s1, e1, hm1⟩ := g1
  obtain rfl := string_of_good Tryd.underlying9 o1 e1
  have k2 := h2
  have lt2 : ∀ x ∈ p2, x.block < W.heap.size := by obtain ⟨m, hm⟩ := k2; exact DataW.trod_lt m _ _ _ hm
  have g2 := good_of_Trod (ty := .int .i64) (by kernel_rfl) h2
  have o2 := hval 2 2 v2 rfl rfl
  obtain ⟨x2, e2, _⟩ := g2
  obtain rfl := int_of_good Tryd.underlying2 o2 e2
  clear hA0 hval0
  refine (lawExistsBy_any L0 a0 n0 c0 s1 x2 W hn0 hm0 hr0 (fun c hc => clmMax_of (hmx0 c hc)) hm1 (Max.of hsh)).mono fun e W' ⟨he, y, hy⟩ => ?_
  subst he hy
  exact ⟨_, rfl, _, _, _, [], _, [], hW', trodAll_mk1 (shut_bool Tryd.underlying4 _), (trodAll_cons_mk (Below.trod laidOut (by kernel_rfl) (of_decide_eq_true (by kernel_rfl)) k0 y.bel lt0) (trodAll_cons_mk (Below.trod laidOut (by kernel_rfl) (of_decide_eq_true (by kernel_rfl)) k1 y.bel lt1) (trodAll_cons_mk (Below.trod laidOut (by kernel_rfl) (of_decide_eq_true (by kernel_rfl)) k2 y.bel lt2) trodAll_mk0))), rfl, y.bel.frame _, fun h => by cases h⟩
theorem FnExactExistsBy_row : Rows.FnExactExistsBySaid :=
  OpenClaim.holds_of_wide 4 Tryd.f4 rfl rfl rfl rfl rfl rfl rfl ⟨rfl, rfl, rfl, rfl, rfl⟩ rfl rfl rfl rfl rfl (by kernel_rfl) Tryd.func4 (by kernel_rfl)
    (of_decide_eq_true (by kernel_rfl)) (by unfold Func.isWrapper; first | (rw [if_pos (by decide +kernel)]; kernel_rfl) | (rw [if_neg (by decide +kernel)]; exact ⟨rfl, rfl⟩))
    (fun os started H enc _ => FnExactExistsBy_lifted os started H enc)
theorem FnExactExistsBy_holds : Rows.FnExactExistsByCardSaid :=
  Claim7.holds_tied_plain_at .later [] [.data, .pinned] true (true, "920631bbcb5273ce949bc7182e84058b5eb4890571db054206b6a7dc6306c202") false FnExactExistsBy_row (fun _ h => by cases h) (by kernel_rfl) (fun _ h => by cases h) fnExactExistsBy_row_tie rfl ⟨rfl, rfl⟩ (by kernel_rfl) rfl
    (fun f fn hf hfn => by
      obtain rfl : f = 4 := Option.some.inj ((show Tryd.prog.funcNamed Rows.fnExactExistsByRow.func = some 4 by kernel_rfl).symm.trans hf) |>.symm
      obtain rfl : fn = Tryd.f4 := (Option.some.inj (Tryd.func4.symm.trans hfn)).symm
      exact ⟨by kernel_rfl, fun j t ht => by
        rw [Tryd.params4] at ht
        have hm : t ∈ [22, 9, 2] := by simpa using Array.mem_of_getElem? ht
        have hall : ([22, 9, 2].all fun u => !Tryd.prog.wantsStandIn u) = true := by kernel_rfl
        exact (show Tryd.prog.wantsStandIn t = false by simpa using List.all_eq_true.1 hall t hm)⟩)
    (by kernel_rfl)
#print axioms FnExactExistsBy_holds
end Go.Proofs.YtaffphidfhacjaaDoor
