import Derived.Test.YtcpddgkloeklaaaGreatDoorOpen
import Derived.Test.YtcpddgkloeklaaaGreatDoorClm
/- Arguments of the laws on claims. -/
set_option linter.unusedSimpArgs false
set_option linter.unusedVariables false
namespace Go.Proofs.YtcpddgkloeklaaaGreatDoor
open Go.RowKit Go.ChangeShapes Go.WideShapes Go.Deep
section
variable {H : Type} {enc : TypeId × Value → H}
/-- The wrap of a row with a further condition on the world, the world's shape handed on to the contract. -/
theorem returns_shaped_and {a : Assume} {C : Checked} {os : Os} {f : FuncId} {fn : Func} {s : ChangeSpec} {conds : List PathCond} {apart fresh handsOn again : Bool} {X : World → Array Value → Prop}
    (hX : ∀ (w w' : World) (args : Array Value), w.heap = w'.heap → X w args → X w' args)
    (own : ownKnob C.prog.godebug = none) (started : os.Started) (noInit : C.prog.inits.idxOf? f = none) (hfn : C.prog.funcs[f]? = some fn)
    (witness : ∃ (w : World) (tape : Tape) (i : Input), w.os = os ∧ (w.forCall tape i).Shaped C.prog ∧ i.vars = [] ∧ Input.okWide C.prog (w.forCall tape i) .any w.heap.size f i ∧
      ((s.pre enc C.prog fn conds apart (w.forCall tape i).memory i.args ∧ X (w.forCall tape i).memory i.args) ∧ sizedMet enc C.prog fn (OpenSpec.ofChange s) apart (w.forCall tape i).memory i.args) ∧ a.holds C.prog (lone (Frame.enter C.prog f i.args .normal) [] (w.forCall tape i)))
    (contract : ∀ (W : World) (base : Nat) (args : Array Value) (ds gs : List (DataW H)) (before : List MemPlace),
      (∀ (j : Nat) t v, fn.params[j]? = some t → args[j]? = some v → Value.okWide C.prog W .any base t v) →
      DataW.Whole enc C.prog fn.params.toList s.vars apart W args.toList ds gs before →
      (DataW.weightsEach C.prog (fn.params.toList ++ s.plain.varTypes C.prog) (ds ++ gs)).all (· ≤ reachBytes) = true → X W args → W.ShapedOpen C.prog →
      Calls C.prog f args W fun e W' => ∃ v, e = .returned v ∧ s.post enc C.prog fn apart fresh handsOn again W args v W') :
    ReturnsInHanded a C os f .any (fun w args => (s.pre enc C.prog fn conds apart w args ∧ X w args) ∧ sizedMet enc C.prog fn (OpenSpec.ofChange s) apart w args) (s.post enc C.prog fn apart fresh handsOn again) := by
  refine returnsInHanded_of_calls own started noInit witness ?_
  intro w tape i _ hshape _ hok hpre hholds
  obtain ⟨_, _, _, fn', hfn', _, _, _, _, hval⟩ := hok
  have e : fn' = fn := Option.some.inj (hfn'.symm.trans hfn)
  subst e
  obtain ⟨⟨⟨ds, gs, before, hw, hc⟩, hx⟩, hz⟩ := hpre
  have hw' := DataW.Whole.of_heap (w' := w.forCall tape i) (by rfl) hw
  refine (contract (w.forCall tape i) w.heap.size i.args ds gs before hval hw' (hz.weights hw) (hX _ _ _ (by rfl) hx) hshape).mono fun e W' ⟨v, he, hp⟩ => ?_
  subst he
  exact ChangeSpec.post_blind hp
end
def factTy : Ty := .pair (.int .i64) (.pair .string (.pair .string (.pair (.int .i64) .unit)))
def spanTy : Ty := .pair (.int .i64) (.pair (.int .i64) .unit)
def claimTy : Ty := .pair .string (.pair (.int .i64) (.pair .string (.pair .string (.pair spanTy (.pair (.int .i64) .unit)))))
theorem Good.fact {w : World} {cs : List Value} (h : Good w factTy cs) : ∃ (k : Int) (p v : ByteArray) (y : Int), cs = [.int .i64 k, .string p, .string v, .int .i64 y] ∧ p.size ≤ maxLen ∧ v.size ≤ maxLen ∧ (Lit.int .i64 k).wf = true ∧ (Lit.int .i64 y).wf = true := by
  obtain ⟨c1, c2, rfl, _, ⟨k, rfl, hk⟩, c3, c4, rfl, _, ⟨p, rfl, hp⟩, c5, c6, rfl, _, ⟨v, rfl, hv⟩, c7, c8, rfl, _, ⟨y, rfl, hy⟩, rfl⟩ := h
  exact ⟨k, p, v, y, rfl, hp, hv, hk, hy⟩
/-- A claim that came in. -/
structure ClmIn (c : Clm) : Prop where
  s1 : c.src.size ≤ maxLen
  s2 : c.place.size ≤ maxLen
  s3 : c.val.size ≤ maxLen
  i1 : (Lit.int .i64 c.kind).wf = true
  i2 : (Lit.int .i64 c.fr).wf = true
  i3 : (Lit.int .i64 c.to).wf = true
  i4 : (Lit.int .i64 c.wt).wf = true
theorem Good.claim {w : World} {cs : List Value} (h : Good w claimTy cs) : ∃ c : Clm, cs = clmCells c ∧ ClmIn c := by
  obtain ⟨c1, c2, rfl, _, ⟨s, rfl, hs⟩, c3, c4, rfl, _, ⟨k, rfl, hk⟩, c5, c6, rfl, _, ⟨p, rfl, hp⟩, c7, c8, rfl, _, ⟨v, rfl, hv⟩, c9, c10, rfl, _, hsp, c11, c12, rfl, _, ⟨wt, rfl, hw⟩, rfl⟩ := h
  obtain ⟨d1, d2, rfl, _, ⟨f, rfl, hf⟩, d3, d4, rfl, _, ⟨t, rfl, ht⟩, rfl⟩ := hsp
  exact ⟨⟨s, k, p, v, f, t, wt⟩, rfl, hs, hp, hv, hk, hf, ht, hw⟩
theorem Good.claims {w : World} {cs : List Value} (h : Good w (.slice claimTy) cs) : ∃ (a : Option Addr) (n c : Nat) (L : List Clm), cs = [.slice a n c] ∧ n ≤ maxLen ∧ L.length = n ∧ Row w a (clmsCells L) ∧ ∀ x ∈ L, ClmIn x := by
  obtain ⟨a, n, c, xs, rfl, hn, hc, hl, hr, hx⟩ := h
  have : ∀ xs : List (List Value), (∀ x ∈ xs, x.length = claimTy.cells ∧ Good w claimTy x) → ∃ L : List Clm, L.length = xs.length ∧ xs.flatten = clmsCells L ∧ ∀ x ∈ L, ClmIn x := by
    intro xs
    induction xs with
    | nil => intro _; exact ⟨[], rfl, rfl, fun x hx => by cases hx⟩
    | cons x xs ih =>
      intro hh
      obtain ⟨L, h1, h2, h3⟩ := ih fun y hy => hh y (by simp [hy])
      obtain ⟨c, rfl, hc⟩ := (hh x (by simp)).2.claim
      refine ⟨c :: L, by simp [h1], by rw [List.flatten_cons, h2]; rfl, fun y hy => ?_⟩
      rcases List.mem_cons.1 hy with rfl | hy
      · exact hc
      · exact h3 y hy
  obtain ⟨L, h1, h2, h3⟩ := this xs hx
  exact ⟨a, n, c, L, rfl, by omega, by omega, h2 ▸ hr, h3⟩
theorem Good.ints {w : World} {cs : List Value} (h : Good w (.slice (.int .i64)) cs) : ∃ (a : Option Addr) (n c : Nat) (l : List Int), cs = [.slice a n c] ∧ n ≤ maxLen ∧ l.length = n ∧ Row w a (l.map (Value.int .i64)) ∧ ∀ x ∈ l, (Lit.int .i64 x).wf = true := by
  obtain ⟨a, n, c, xs, rfl, hn, hc, hl, hr, hx⟩ := h
  have : ∀ xs : List (List Value), (∀ x ∈ xs, x.length = 1 ∧ Good w (.int .i64) x) → ∃ l : List Int, l.length = xs.length ∧ xs.flatten = l.map (Value.int .i64) ∧ ∀ x ∈ l, (Lit.int .i64 x).wf = true := by
    intro xs
    induction xs with
    | nil => intro _; exact ⟨[], rfl, rfl, fun x hx => by cases hx⟩
    | cons x xs ih =>
      intro hh
      obtain ⟨l, h1, h2, h3⟩ := ih fun y hy => hh y (by simp [hy])
      obtain ⟨_, b, rfl, hb⟩ := hh x (by simp)
      refine ⟨b :: l, by simp [h1], by simp [h2], fun y hy => ?_⟩
      rcases List.mem_cons.1 hy with rfl | hy
      · exact hb
      · exact h3 y hy
  obtain ⟨l, h1, h2, h3⟩ := this xs hx
  exact ⟨a, n, c, l, rfl, by omega, by omega, h2 ▸ hr, h3⟩
/-- A slice's value is its cell. -/
theorem slice_of_good {P : Program} {w : World} {r : Reach} {b t : Nat} {e : TypeId} {v : Value} (ht : P.underlying t = some (.slice e)) (hv : Value.okWide P w r b t v) {a : Option Addr} {n c : Nat} (h : v.cells.toList = [.slice a n c]) : v = .slice a n c := by
  obtain ⟨a', n', c', rfl⟩ := okWide_slice ht hv
  simpa [Value.cells] using h
theorem int_of_good {P : Program} {w : World} {r : Reach} {b t : Nat} {v : Value} (ht : P.underlying t = some (.int .i64)) (hv : Value.okWide P w r b t v) {x : Int} (h : v.cells.toList = [.int .i64 x]) : v = .int .i64 x := by
  obtain ⟨n, rfl⟩ := okWide_int ht hv
  simpa [Value.cells] using h
theorem string_of_good {P : Program} {w : World} {r : Reach} {b t : Nat} {v : Value} (ht : P.underlying t = some .string) (hv : Value.okWide P w r b t v) {x : ByteArray} (h : v.cells.toList = [.string x]) : v = .string x := by
  obtain ⟨s, rfl⟩ := okWide_string ht hv
  simpa [Value.cells] using h
end Go.Proofs.YtcpddgkloeklaaaGreatDoor
