import Derived.Test.YtflcfdiochohgaaGreatDoorReadF
import Derived.Test.YtflcfdiochohgaaGreatDoorPackAb
import Derived.Test.YtflcfdiochohgaaGreatDoorCards
import Derived.Test.YtflcfdiochohgaaGreatDoorTie
import Derived.LaidMore
import Derived.Lay
import Derived.SevenTiedAt
import Derived.Stop.Joined
import Derived.Lib.LaidTab
import Derived.Stop.LaidErr
/- For every text the law on ReadClaim returns true: the program's ReadClaim returns what the reference's ReadClaim returns. The package variables that the row lists are as the program's text lays them. -/
set_option linter.unusedSimpArgs false
set_option linter.unusedVariables false
namespace Go.Proofs.YtflcfdiochohgaaGreatDoor
open Go.RowKit Go.ChangeShapes Go.WideShapes Go.ChangeAt
theorem starS : "*" ++ "errors.errorString" = "*errors.errorString" := by decide
theorem rowErr (u : TypeId) (h : Tryz.prog.typeName? 3 u = some "*errors.errorString") : u = 246 :=
  typeName_ptr_named (nm := "errors.errorString") (by rw [starS]; kernel_rfl) (by kernel_rfl) (by decide) u (by rw [starS]; exact h)
theorem env_of {W : World} (h : laidMetH Tryz.prog Rows.fnExactReadClaimRow.laid W) (hsh : W.ShapedOpen Tryz.prog) : Env W := by
  rw [MakeChecks.laidMetH_plain _ _ _ (by kernel_rfl)] at h
  refine ⟨Max.of hsh, ?_, ?_, ?_⟩
  · exact Lib.tabIs_of_head (g := 5) (t := 250) (e := 187) (n := 20) (by kernel_rfl) (by kernel_rfl) Tryz.underlying250 Tryz.underlying187 (by kernel_rfl) (by kernel_rfl) h.tail.tail
  · obtain ⟨a, _, hv, _⟩ := laid_sentinel (g := 1) (ti := 147) h.tail.tail.tail.tail.tail (by kernel_rfl) (by kernel_rfl) Tryz.underlying147 rowErr Tryz.underlying246 Tryz.underlying248 rfl rfl Tryz.underlying9 (by kernel_rfl) (by kernel_rfl)
    exact ⟨_, _, hv⟩
  · obtain ⟨a, _, hv, _⟩ := laid_sentinel (g := 2) (ti := 147) h.tail.tail.tail.tail (by kernel_rfl) (by kernel_rfl) Tryz.underlying147 rowErr Tryz.underlying246 Tryz.underlying248 rfl rfl Tryz.underlying9 (by kernel_rfl) (by kernel_rfl)
    exact ⟨_, _, hv⟩
set_option maxRecDepth 100000 in
theorem FnExactReadClaim_lifted (os : Os) (started : os.Started) (H : Type) (enc : TypeId × Value → H) :
    ReturnsInHanded {} Tryz.checked os 7 .any (fun w args => (Rows.fnExactReadClaimSpec.pre enc Tryz.prog Tryz.f7 Rows.fnExactReadClaimRow.domain false w args ∧ laidMetH Tryz.prog Rows.fnExactReadClaimRow.laid w) ∧ sizedMet enc Tryz.prog Tryz.f7 (OpenSpec.ofChange Rows.fnExactReadClaimSpec) false w args)
      (Rows.fnExactReadClaimSpec.post enc Tryz.prog Tryz.f7 false true false false) := by
  refine returns_shaped_and (C := Tryz.checked) (X := fun w _ => laidMetH Tryz.prog Rows.fnExactReadClaimRow.laid w) (fun _ _ _ hh h => h.of_heap hh) own started (by kernel_rfl) Tryz.func7
    (ChangeSpec.witness_shaped (enc := enc) (C := Tryz.checked) (os := os) (X := fun w _ => laidMetH Tryz.prog Rows.fnExactReadClaimRow.laid w) false (World.laidAll Tryz.prog os Rows.fnExactReadClaimRow.laid) #[.string ByteArray.empty] 8 (World.laidAll_os _ _ _)
      (World.shaped_of_ZipB (by kernel_rfl) (by kernel_rfl)) (by kernel_rfl) (by kernel_rfl) (by kernel_rfl)
      (by rw [MakeChecks.laidMetH_plain _ _ _ (by kernel_rfl)]; exact laidMet_laidAll _ (by kernel_rfl) (by kernel_rfl))) ?_
  intro W base args ds gs before hval0 hW hrch hL hsh
  have hval : ∀ (j : Nat) t v, Tryz.f7.params[j]? = some t → args[j]? = some v → Value.okWide Tryz.prog W .any base t v := hval0
  have hW' := hW
  obtain ⟨p, q, hA0, hV, rfl, hfz, hnd⟩ := hW
  have hA : DataW.TrodAll enc Tryz.prog W 0 (fun _ => true) true Tryz.f7.params.toList args.toList ds p := hA0
  rw [Tryz.params7] at hA hval
  obtain ⟨v0, vs0, d0, ds0, p0, q0, hargs, rfl, rfl, h0, r0⟩ := trodAll_cons hA
  obtain ⟨rfl, rfl, rfl⟩ := trodAll_nil r0
  obtain rfl : args = #[v0] := by cases args; simp_all
  obtain ⟨rfl, rfl⟩ := trodVars_none hV
  have k0 := h0
  have lt0 : ∀ x ∈ p0, x.block < W.heap.size := by obtain ⟨m, hm⟩ := k0; exact DataW.trod_lt m _ _ _ hm
  have g0 := good_of_Trod (ty := .string) (by kernel_rfl) h0
  have o0 := hval 0 9 v0 rfl rfl
  obtain ⟨s0, e0, hm0⟩ := g0
  obtain rfl := string_of_good Tryz.underlying9 o0 e0
  clear hA0 hval0
  refine (lawRead_any s0 W hm0 (env_of hL hsh)).mono fun e W' ⟨he, y, hy⟩ => ?_
  subst he hy
  exact ⟨_, rfl, _, _, _, [], _, [], hW', trodAll_mk1 (shut_bool Tryz.underlying4 _), (trodAll_cons_mk (Below.trod laidOut (by kernel_rfl) (of_decide_eq_true (by kernel_rfl)) k0 y.bel lt0) trodAll_mk0), rfl, y.bel.frame _, fun h => by cases h⟩
theorem FnExactReadClaim_band {a b : Bool} (h1 : a = true) (h2 : b = true) : (a && b) = true := by rw [h1, h2]; rfl
set_option maxRecDepth 100000 in
set_option maxHeartbeats 4000000 in
theorem FnExactReadClaim_joined : joinedFacts Tryz.prog 7 Tryz.f7 Rows.fnExactReadClaimSpec Rows.fnExactReadClaimRow = true := by
  unfold joinedFacts
  repeat (any_goals (with_reducible refine FnExactReadClaim_band ?_ ?_))
  all_goals (as_aux_lemma => kernel_rfl)
set_option maxHeartbeats 4000000 in
theorem FnExactReadClaim_row : Rows.FnExactReadClaimSaid :=
  OpenClaim.holds_of_wide 7 Tryz.f7 rfl rfl rfl rfl rfl rfl rfl ⟨rfl, rfl, rfl, rfl, rfl⟩ rfl rfl rfl rfl rfl (by as_aux_lemma => kernel_rfl) Tryz.func7 FnExactReadClaim_joined
    (of_decide_eq_true (by as_aux_lemma => kernel_rfl)) (by unfold Func.isWrapper; first | (rw [if_pos (by decide +kernel)]; kernel_rfl) | (rw [if_neg (by decide +kernel)]; exact ⟨rfl, rfl⟩))
    (fun os started H enc _ => FnExactReadClaim_lifted os started H enc)
set_option maxHeartbeats 4000000 in
theorem FnExactReadClaim_holds : Rows.FnExactReadClaimCardSaid :=
  Claim7.holds_tied_plain_at .later [] [.data, .data, .data, .data, .sentinel, .sentinel, .pinned] true (true, "659b7c5bb454daa9cb47c77b2a47dd68a0599cb4c50ef5809938054505dee88c") true FnExactReadClaim_row (fun _ h => by cases h) (by as_aux_lemma => kernel_rfl) (fun _ h => by cases h) fnExactReadClaim_row_tie rfl ⟨rfl, rfl⟩ (by as_aux_lemma => kernel_rfl) rfl
    (fun f fn hf hfn => by
      obtain rfl : f = 7 := Option.some.inj ((show Tryz.prog.funcNamed Rows.fnExactReadClaimRow.func = some 7 by kernel_rfl).symm.trans hf) |>.symm
      obtain rfl : fn = Tryz.f7 := (Option.some.inj (Tryz.func7.symm.trans hfn)).symm
      exact ⟨by kernel_rfl, fun j t ht => by
        rw [Tryz.params7] at ht
        have hm : t ∈ [9] := by simpa using Array.mem_of_getElem? ht
        have hall : ([9].all fun u => !Tryz.prog.wantsStandIn u) = true := by kernel_rfl
        exact (show Tryz.prog.wantsStandIn t = false by simpa using List.all_eq_true.1 hall t hm)⟩)
    (by as_aux_lemma => kernel_rfl)
#print axioms FnExactReadClaim_holds
end Go.Proofs.YtflcfdiochohgaaGreatDoor
