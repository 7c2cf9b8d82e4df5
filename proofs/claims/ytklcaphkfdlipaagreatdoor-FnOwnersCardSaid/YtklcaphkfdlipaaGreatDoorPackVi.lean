import Derived.Test.YtklcaphkfdlipaaGreatDoorPackVa
import Derived.ProofKit
import Derived.OpenShut
import Derived.ChangeOld
import Derived.Deep.Slices
import Derived.Test.YtklcaphkfdlipaaGreatDoorPackVc
/- Several of my texts, one behind the other: Open, OpenS, OpenV. -/
/- What an argument that can be read holds: its cells, by the type's shape. -/
set_option linter.unusedSimpArgs false
set_option linter.unusedVariables false
namespace Go.Proofs.YtklcaphkfdlipaaGreatDoor
open Go.RowKit Go.ChangeShapes Go.WideShapes Go.Deep

/-- Shapes of types: a struct is a chain of pairs that ends in 'unit'. -/
inductive Ty where
  | int (k : IntKind) | bool | string | slice (e : Ty) | pair (a b : Ty) | unit
/-- How many cells. -/
def Ty.cells : Ty → Nat
  | .int _ | .bool | .string | .slice _ => 1
  | .pair a b => a.cells + b.cells
  | .unit => 0
/-- The cells `cs` are a value of this shape, and what they lead to is too. -/
def Good (w : World) : Ty → List Value → Prop
  | .int k, cs => ∃ n, cs = [.int k n] ∧ (Lit.int k n).wf = true
  | .bool, cs => ∃ b, cs = [.bool b]
  | .string, cs => ∃ s : ByteArray, cs = [.string s] ∧ s.size ≤ maxLen
  | .slice e, cs => ∃ (a : Option Addr) (n c : Nat) (xs : List (List Value)), cs = [.slice a n c] ∧ n ≤ c ∧ c ≤ maxLen ∧ xs.length = n ∧ Row w a xs.flatten ∧ ∀ x ∈ xs, x.length = e.cells ∧ Good w e x
  | .pair a b, cs => ∃ c1 c2, cs = c1 ++ c2 ∧ c1.length = a.cells ∧ Good w a c1 ∧ Good w b c2
  | .unit, cs => cs = []
/-- The type has this shape (asked of the program's table). -/
def Ty.okB (P : Program) : Ty → TypeId ⊕ (List Field × Nat) → Bool
  | .int k, .inl t => match P.underlying t with | some (.int k') => k == k' && P.cellsOf t == 1 | _ => false
  | .bool, .inl t => match P.underlying t with | some .bool => P.cellsOf t == 1 | _ => false
  | .string, .inl t => match P.underlying t with | some .string => P.cellsOf t == 1 | _ => false
  | .slice e, .inl t => match P.underlying t with | some (.slice te) => P.cellsOf t == 1 && P.cellsOf te == e.cells && decide (0 < e.cells) && e.okB P (.inl te) | _ => false
  | .pair a b, .inl t => match P.underlying t with
    | some (.struct fs) => match fs.toList with
      | f :: r => f.offset == 0 && P.cellsOf f.type == a.cells && P.cellsOf t == a.cells + b.cells && a.okB P (.inl f.type) && b.okB P (.inr (r, a.cells))
      | [] => false
    | _ => false
  | .pair a b, .inr (f :: r, off) => f.offset == off && P.cellsOf f.type == a.cells && a.okB P (.inl f.type) && b.okB P (.inr (r, off + a.cells))
  | .unit, .inr ([], _) => true
  | _, _ => false
theorem flatten_get {F : Nat → List Value} {k : Nat} (hk : 0 < k) : ∀ (L : List Nat) (j : Nat) (v : Value), (∀ i ∈ L, (F i).length = k) → ((L.map F).flatten)[j]? = some v → ∃ i, L[j / k]? = some i ∧ (F i)[j % k]? = some v
  | [], j, v, _, hh => by simp at hh
  | i :: L, j, v, hall, hh => by
    have hFi := hall i (by simp)
    simp only [List.map_cons, List.flatten_cons] at hh
    by_cases hjk : j < k
    · rw [List.getElem?_append_left (by omega)] at hh
      exact ⟨i, by rw [Nat.div_eq_of_lt hjk]; rfl, by rw [Nat.mod_eq_of_lt hjk]; exact hh⟩
    · rw [List.getElem?_append_right (by omega), hFi] at hh
      obtain ⟨i', h1, h2⟩ := flatten_get hk L (j - k) v (fun i hi => hall i (by simp [hi])) hh
      refine ⟨i', ?_, ?_⟩
      · rw [Nat.div_eq_sub_div (by omega) (by omega)]; simpa using h1
      · rw [Nat.mod_eq_sub_mod (by omega)]; exact h2
section
variable {H : Type} {enc : TypeId × Value → H} {P : Program} {w : World} {base : Nat} {spare : Nat → Bool} {held : Bool}
theorem good_of_trod (ty : Ty) :
    (∀ (t fuel : Nat) (cs : List Value) (x : DataW H × List MemPlace), ty.okB P (.inl t) = true → DataW.trod enc P w base spare held fuel t cs = some x → cs.length = P.cellsOf t ∧ P.cellsOf t = ty.cells ∧ Good w ty cs) ∧
    (∀ (fs : List Field) (off fuel : Nat) (cs : List Value), ty.okB P (.inr (fs, off)) = true → cs.length = off + ty.cells → (∀ f ∈ fs, ∃ y, DataW.trod enc P w base spare held fuel f.type ((cs.drop f.offset).take (P.cellsOf f.type)) = some y) → Good w ty (cs.drop off)) := by
  induction ty with
  | int k =>
    refine ⟨fun t fuel cs x hok h => ?_, fun fs off fuel cs hok => by simp [Ty.okB] at hok⟩
    simp only [Ty.okB] at hok
    split at hok
    · rename_i k' hu
      simp only [Bool.and_eq_true, beq_iff_eq] at hok
      obtain ⟨rfl, hc⟩ := hok
      obtain ⟨n, rfl, _, hwf⟩ := DataW.trod_int hu h
      exact ⟨by rw [hc]; rfl, hc, n, rfl, hwf⟩
    · cases hok
  | bool =>
    refine ⟨fun t fuel cs x hok h => ?_, fun fs off fuel cs hok => by simp [Ty.okB] at hok⟩
    simp only [Ty.okB] at hok
    split at hok
    · rename_i hu
      simp only [beq_iff_eq] at hok
      obtain ⟨b, rfl, _⟩ := DataW.trod_bool hu h
      exact ⟨by rw [hok]; rfl, hok, b, rfl⟩
    · cases hok
  | string =>
    refine ⟨fun t fuel cs x hok h => ?_, fun fs off fuel cs hok => by simp [Ty.okB] at hok⟩
    simp only [Ty.okB] at hok
    split at hok
    · rename_i hu
      simp only [beq_iff_eq] at hok
      obtain ⟨s, rfl, _, hs⟩ := DataW.trod_string hu h
      exact ⟨by rw [hok]; rfl, hok, s, rfl, hs⟩
    · cases hok
  | slice e ih =>
    refine ⟨fun t fuel cs x hok h => ?_, fun fs off fuel cs hok => by simp [Ty.okB] at hok⟩
    simp only [Ty.okB] at hok
    split at hok
    · rename_i te hu
      simp only [Bool.and_eq_true, beq_iff_eq, decide_eq_true_eq] at hok
      obtain ⟨⟨⟨hc, hce⟩, hpos⟩, hoke⟩ := hok
      rcases open_slice hu h with ⟨rfl, _⟩ | ⟨a, len, cap, m, n, D, Pl, rfl, hb, hl, hm, hmm, hx, hi⟩
      · exact ⟨by rw [hc]; rfl, hc, none, 0, 0, [], rfl, Nat.le_refl _, by unfold maxLen; omega, rfl, fun j v hj => by simp at hj, fun x hx => by simp at hx⟩
      · have hlm : len ≤ m := by rw [hmm]; split <;> omega
        have hex : ∀ i : Nat, ∃ cs' : List Value, i < len → cs'.length = e.cells ∧ Good w e cs' ∧ ∀ j, j < e.cells → w.cell? ((a.add (i * e.cells)).add j) = cs'[j]? := by
          intro i
          by_cases hlt : i < len
          · obtain ⟨cs', hcs, ht⟩ := hi i (by omega)
            obtain ⟨_, hlen, hat⟩ := World.cells?_some hcs
            obtain ⟨g1, g2, g3⟩ := ih.1 te n cs' _ hoke ht
            rw [hce] at hlen hat
            exact ⟨cs', fun _ => ⟨hlen, g3, hat⟩⟩
          · exact ⟨[], fun h => absurd h hlt⟩
        obtain ⟨F, hF⟩ := Classical.axiomOfChoice hex
        refine ⟨by rw [hc]; rfl, hc, some a, len, cap, (List.range len).map F, rfl, hl, hm, by simp, ?_, ?_⟩
        · intro j v hj
          obtain ⟨i, h1, h2⟩ := flatten_get hpos (List.range len) j v (fun i hi => (hF i (List.mem_range.1 hi)).1) hj
          have hlt : j / e.cells < len := by
            have := (List.getElem?_eq_some_iff.1 h1).1
            simpa using this
          obtain rfl : i = j / e.cells := by
            have := (List.getElem?_eq_some_iff.1 h1).2
            simpa using this.symm
          have hmod := Nat.mod_lt j hpos
          have hc1 := ((hF _ hlt).2.2 _ hmod).trans h2
          rw [Go.Deep.add_add, Nat.mul_comm, Nat.div_add_mod] at hc1
          have hl0 : 0 < len := Nat.lt_of_le_of_lt (Nat.zero_le _) hlt
          have h00 := (hF 0 hl0).2.2 0 hpos
          have hlen0 := (hF 0 hl0).1
          rw [List.getElem?_eq_getElem (by omega)] at h00
          simp only [Nat.zero_mul, Go.Deep.add_add] at h00
          have hsp : a.spot = none := World.cell?_spot (by simpa [Addr.add] using h00)
          obtain ⟨b, o, sp⟩ := a
          simp only at hsp
          subst hsp
          refine ⟨b, o, rfl, ?_⟩
          by_cases hj0 : j = 0
          · subst hj0; simpa [Addr.add] using hc1
          · simpa [Addr.add, hj0] using hc1
        · intro x hx
          obtain ⟨i, hi', rfl⟩ := List.mem_map.1 hx
          exact ⟨(hF i (List.mem_range.1 hi')).1, (hF i (List.mem_range.1 hi')).2.1⟩
    · cases hok
  | pair a b iha ihb =>
    refine ⟨fun t fuel cs x hok h => ?_, fun fs off fuel cs hok hlen hfs => ?_⟩
    · simp only [Ty.okB] at hok
      split at hok
      · rename_i fs hu
        split at hok
        · rename_i f r hfr
          simp only [Bool.and_eq_true, beq_iff_eq] at hok
          obtain ⟨⟨⟨⟨ho, hfc⟩, hcc⟩, hoka⟩, hokb⟩ := hok
          obtain ⟨xs, n, _, _, hlen, hxl, hg⟩ := DataW.trod_struct hu h
          have hfsz : ∀ (i : Nat) (g : Field), (f :: r)[i]? = some g → fs[i]? = some g := fun i g hi => by rw [← hi, ← hfr, Array.getElem?_toList]
          have hall : ∀ (i : Nat) (g : Field), (f :: r)[i]? = some g → ∃ y, DataW.trod enc P w base spare held n g.type ((cs.drop g.offset).take (P.cellsOf g.type)) = some y := by
            intro i g hi
            have h1 := hg i g (hfsz i g hi)
            have h2 : i < xs.length := by rw [hxl]; exact (Array.getElem?_eq_some_iff.1 (hfsz i g hi)).1
            rw [List.getElem?_eq_getElem h2] at h1
            exact ⟨_, h1⟩
          obtain ⟨y, hy⟩ := hall 0 f rfl
          obtain ⟨g1, g2, g3⟩ := iha.1 f.type n _ y hoka hy
          rw [ho, List.drop_zero] at g1 g3
          rw [hfc] at g1 g3
          have hgb := ihb.2 r a.cells n cs hokb (by rw [hlen, hcc]) (fun g hgm => by
            obtain ⟨i, hi⟩ := List.mem_iff_getElem?.1 hgm
            exact hall (i + 1) g (by simpa using hi))
          exact ⟨hlen, hcc, cs.take a.cells, cs.drop a.cells, (List.take_append_drop _ _).symm, g1, g3, hgb⟩
        · cases hok
      · cases hok
    · cases fs with
      | nil => simp [Ty.okB] at hok
      | cons f r =>
        simp only [Ty.okB, Bool.and_eq_true, beq_iff_eq] at hok
        obtain ⟨⟨⟨ho, hfc⟩, hoka⟩, hokb⟩ := hok
        obtain ⟨y, hy⟩ := hfs f (by simp)
        obtain ⟨g1, g2, g3⟩ := iha.1 f.type fuel _ y hoka hy
        rw [ho] at g1 g3
        rw [hfc] at g1 g3
        have hgb := ihb.2 r (off + a.cells) fuel cs hokb (by rw [hlen]; simp only [Ty.cells]; omega) (fun g hgm => hfs g (by simp [hgm]))
        refine ⟨(cs.drop off).take a.cells, cs.drop (off + a.cells), ?_, g1, g3, hgb⟩
        rw [← List.drop_drop, List.take_append_drop]
  | unit =>
    refine ⟨fun t fuel cs x hok h => by simp [Ty.okB] at hok, fun fs off fuel cs hok hlen hfs => ?_⟩
    show cs.drop off = []
    exact List.drop_eq_nil_of_le (by rw [hlen]; simp [Ty.cells])
/-- An argument that can be read is good. -/
theorem good_of_Trod {ty : Ty} {t : TypeId} {v : Value} {d : DataW H} {p : List MemPlace} (hok : ty.okB P (.inl t) = true) (h : DataW.Trod enc P w base spare held t v d p) : Good w ty v.cells.toList := by
  obtain ⟨fuel, hf⟩ := h
  exact ((good_of_trod ty).1 t fuel _ _ hok hf).2.2
end
def pointTy : Ty := .pair (.int .i64) (.pair (.int .i64) .unit)
theorem Good.point {w : World} {cs : List Value} (h : Good w pointTy cs) : ∃ x y : Int, cs = [.int .i64 x, .int .i64 y] ∧ (Lit.int .i64 x).wf = true ∧ (Lit.int .i64 y).wf = true := by
  obtain ⟨c1, c2, rfl, _, ⟨x, rfl, hx⟩, c3, c4, rfl, _, ⟨y, rfl, hy⟩, rfl⟩ := h
  exact ⟨x, y, rfl, hx, hy⟩
theorem own : ownKnob Tryz.prog.godebug = none := by kernel_rfl
theorem laidOut : laidOutB Tryz.prog = true := by kernel_rfl
end Go.Proofs.YtklcaphkfdlipaaGreatDoor

/- The wrap of a row whose world's shape is handed on; values and their cells. -/
set_option linter.unusedSimpArgs false
set_option linter.unusedVariables false
namespace Go.Proofs.YtklcaphkfdlipaaGreatDoor
open Go.RowKit Go.ChangeShapes Go.WideShapes Go.Deep
section
variable {H : Type} {enc : TypeId × Value → H}
/-- The wrap of a row with a further condition on the world, the world's shape handed on to the contract. -/
theorem returns_shaped_and {a : Assume} {C : Checked} {os : Os} {f : FuncId} {fn : Func} {s : ChangeSpec} {conds : List PathCond} {apart fresh handsOn again : Bool} {X : World → Array Value → Prop}
    (hX : ∀ (w w' : World) (args : Array Value), w.heap = w'.heap → X w args → X w' args)
    (own : ownKnob C.prog.godebug = none) (started : os.Started) (noInit : C.prog.inits.idxOf? f = none) (hfn : C.prog.funcs[f]? = some fn)
    (witness : ∃ (w : World) (tape : Tape) (i : Input), w.os = os ∧ (w.forCall tape i).Shaped C.prog ∧ i.vars = [] ∧ Input.okWide C.prog (w.forCall tape i) .any w.heap.size f i ∧
      ((s.pre enc C.prog fn conds apart (w.forCall tape i).memory i.args ∧ X (w.forCall tape i).memory i.args) ∧ sizedMet enc C.prog fn (OpenSpec.ofChange s) apart (w.forCall tape i).memory i.args) ∧ a.holds C.prog (lone (Frame.enter C.prog f i.args .normal) [] (w.forCall tape i)))
    (contract : ∀ (W : World) (base : Nat) (args : Array Value) (ds gs : List (DataW H)) (before : List MemPlace),
      (∀ (j : Nat) t v, fn.params[j]? = some t → args[j]? = some v → Value.okWide C.prog W .any base t v) →
      DataW.Whole enc C.prog fn.params.toList s.vars apart W args.toList ds gs before →
      (DataW.weightsEach C.prog (fn.params.toList ++ s.plain.varTypes C.prog) (ds ++ gs)).all (· ≤ reachBytes) = true → X W args → W.ShapedOpen C.prog →
      Calls C.prog f args W fun e W' => ∃ v, e = .returned v ∧ s.post enc C.prog fn apart fresh handsOn again W args v W') :
    ReturnsInHanded a C os f .any (fun w args => (s.pre enc C.prog fn conds apart w args ∧ X w args) ∧ sizedMet enc C.prog fn (OpenSpec.ofChange s) apart w args) (s.post enc C.prog fn apart fresh handsOn again) := by
  refine returnsInHanded_of_calls own started noInit witness ?_
  intro w tape i _ hshape _ hok hpre hholds
  obtain ⟨_, _, _, fn', hfn', _, _, _, _, hval⟩ := hok
  have e : fn' = fn := Option.some.inj (hfn'.symm.trans hfn)
  subst e
  obtain ⟨⟨⟨ds, gs, before, hw, hc⟩, hx⟩, hz⟩ := hpre
  have hw' := DataW.Whole.of_heap (w' := w.forCall tape i) (by rfl) hw
  refine (contract (w.forCall tape i) w.heap.size i.args ds gs before hval hw' (hz.weights hw) (hX _ _ _ (by rfl) hx) hshape).mono fun e W' ⟨v, he, hp⟩ => ?_
  subst he
  exact ChangeSpec.post_blind hp
end
end Go.Proofs.YtklcaphkfdlipaaGreatDoor

/- Arguments of the laws on rings and views. -/
set_option linter.unusedSimpArgs false
set_option linter.unusedVariables false
namespace Go.Proofs.YtklcaphkfdlipaaGreatDoor
open Go.RowKit Go.ChangeShapes Go.WideShapes Go.Deep
def viewTy : Ty := .pair .string (.pair (.slice .string) .unit)
theorem Good.pointsC {w : World} {cs : List Value} (h : Good w (.slice pointTy) cs) : ∃ (a : Option Addr) (n c : Nat) (L : List Pt), cs = [.slice a n c] ∧ n ≤ c ∧ c ≤ maxLen ∧ L.length = n ∧ Row w a (ptsCells L) := by
  obtain ⟨a, n, c, xs, rfl, hn, hc, hl, hr, hx⟩ := h
  have : ∀ xs : List (List Value), (∀ x ∈ xs, x.length = pointTy.cells ∧ Good w pointTy x) → ∃ L : List Pt, L.length = xs.length ∧ xs.flatten = ptsCells L := by
    intro xs
    induction xs with
    | nil => intro _; exact ⟨[], rfl, rfl⟩
    | cons x xs ih =>
      intro hh
      obtain ⟨L, h1, h2⟩ := ih fun y hy => hh y (by simp [hy])
      obtain ⟨px, py, rfl, _, _⟩ := (hh x (by simp)).2.point
      exact ⟨⟨px, py⟩ :: L, by simp [h1], by rw [List.flatten_cons, h2]; rfl⟩
  obtain ⟨L, h1, h2⟩ := this xs hx
  exact ⟨a, n, c, L, rfl, hn, hc, by omega, h2 ▸ hr⟩
theorem Good.strsC {w : World} {cs : List Value} (h : Good w (.slice .string) cs) : ∃ (a : Option Addr) (n c : Nat) (l : List ByteArray), cs = [.slice a n c] ∧ n ≤ c ∧ c ≤ maxLen ∧ l.length = n ∧ Row w a (strCells l) ∧ ∀ s ∈ l, s.size ≤ maxLen := by
  obtain ⟨a, n, c, xs, rfl, hn, hc, hl, hr, hx⟩ := h
  have : ∀ xs : List (List Value), (∀ x ∈ xs, x.length = 1 ∧ Good w .string x) → ∃ l : List ByteArray, l.length = xs.length ∧ xs.flatten = strCells l ∧ ∀ s ∈ l, s.size ≤ maxLen := by
    intro xs
    induction xs with
    | nil => intro _; exact ⟨[], rfl, rfl, fun x hx => by cases hx⟩
    | cons x xs ih =>
      intro hh
      obtain ⟨l, h1, h2, h3⟩ := ih fun y hy => hh y (by simp [hy])
      obtain ⟨_, s, rfl, hs⟩ := hh x (by simp)
      refine ⟨s :: l, by simp [h1], by simp [h2, strCells], fun y hy => ?_⟩
      rcases List.mem_cons.1 hy with rfl | hy
      · exact hs
      · exact h3 y hy
  obtain ⟨l, h1, h2, h3⟩ := this xs hx
  exact ⟨a, n, c, l, rfl, hn, hc, by omega, h2 ▸ hr, h3⟩
theorem flatten_one : ∀ (xs : List (List Value)) (i : Nat) (v : Value), (∀ y ∈ xs, y.length = 1) → xs[i]? = some [v] → xs.flatten[i]? = some v
  | [], i, v, _, h => by simp at h
  | y :: xs, 0, v, hall, h => by
    obtain rfl : y = [v] := by simpa using h
    simp
  | y :: xs, i + 1, v, hall, h => by
    have hy := hall y (by simp)
    rw [List.flatten_cons, List.getElem?_append_right (by omega), hy, Nat.add_sub_cancel]
    exact flatten_one xs i v (fun z hz => hall z (by simp [hz])) (by simpa using h)
theorem flatten_two2 : ∀ (xs : List (List Value)) (i j : Nat) (x : List Value) (v : Value), (∀ y ∈ xs, y.length = 2) → xs[i]? = some x → x[j]? = some v → xs.flatten[i * 2 + j]? = some v
  | [], i, j, x, v, _, h, _ => by simp at h
  | y :: xs, 0, j, x, v, hall, h, hj => by
    obtain rfl : y = x := by simpa using h
    have := (List.getElem?_eq_some_iff.1 hj).1
    rw [List.flatten_cons, Nat.zero_mul, Nat.zero_add, List.getElem?_append_left this]
    exact hj
  | y :: xs, i + 1, j, x, v, hall, h, hj => by
    have hy := hall y (by simp)
    rw [List.flatten_cons, List.getElem?_append_right (by omega), hy, show (i + 1) * 2 + j - 2 = i * 2 + j by omega]
    exact flatten_two2 xs i j x v (fun z hz => hall z (by simp [hz])) (by simpa using h) hj
theorem Good.rings {w : World} {cs : List Value} (h : Good w (.slice (.slice pointTy)) cs) : ∃ (a : Option Addr) (n c : Nat) (R : List (List Pt)), cs = [.slice a n c] ∧ n ≤ c ∧ c ≤ maxLen ∧ R.length = n ∧ RingsR w a R ∧ ∀ r ∈ R, r.length ≤ maxLen := by
  obtain ⟨a, n, c, xs, rfl, hn, hc, hl, hr, hx⟩ := h
  have : ∀ xs : List (List Value), (∀ x ∈ xs, x.length = 1 ∧ Good w (.slice pointTy) x) → ∃ R : List (List Pt), R.length = xs.length ∧ (∀ i (h : i < R.length), ∃ ai ci, xs[i]? = some [.slice ai R[i].length ci] ∧ Row w ai (ptsCells R[i]) ∧ R[i].length ≤ ci ∧ ci ≤ maxLen) ∧ ∀ r ∈ R, r.length ≤ maxLen := by
    intro xs
    induction xs with
    | nil => intro _; exact ⟨[], rfl, fun i h => absurd h (by simp), fun x hx => by cases hx⟩
    | cons x xs ih =>
      intro hh
      obtain ⟨R, h1, h2, h3⟩ := ih fun y hy => hh y (by simp [hy])
      obtain ⟨ar, nr, cr, r, rfl, hc1, hc2, rfl, hrow⟩ := (hh x (by simp)).2.pointsC
      refine ⟨r :: R, by simp [h1], fun i hi => ?_, fun y hy => ?_⟩
      · cases i with
        | zero => exact ⟨ar, cr, by simp, hrow, hc1, hc2⟩
        | succ i =>
          obtain ⟨ai, ci, h4, h5⟩ := h2 i (by simpa using hi)
          exact ⟨ai, ci, by simpa using h4, by simpa using h5⟩
      · rcases List.mem_cons.1 hy with rfl | hy
        · exact Nat.le_trans hc1 hc2
        · exact h3 y hy
  obtain ⟨R, h1, h2, h3⟩ := this xs hx
  refine ⟨a, n, c, R, rfl, hn, hc, by omega, fun i hi => ?_, h3⟩
  obtain ⟨ai, ci, h4, h5, h6⟩ := h2 i hi
  obtain ⟨b, o, rfl, k0⟩ := hr i _ (flatten_one xs i _ (fun y hy => (hx y hy).1) h4)
  exact ⟨b, o, ai, ci, rfl, World.block_lt_of_cell? w _ k0, k0, h5, h6⟩
theorem Good.view {w : World} {cs : List Value} (h : Good w viewTy cs) : ∃ (v : Vw) (a : Option Addr) (c : Nat), cs = [.string v.holder, .slice a v.own.length c] ∧ VwIn v ∧ Row w a (strCells v.own) ∧ v.own.length ≤ c ∧ c ≤ maxLen := by
  obtain ⟨c1, c2, rfl, _, ⟨s, rfl, hs⟩, c3, c4, rfl, _, hi, rfl⟩ := h
  obtain ⟨a, n, c, l, rfl, h1, h2, rfl, h4, h5⟩ := hi.strsC
  exact ⟨⟨s, l⟩, a, c, rfl, ⟨hs, Nat.le_trans h1 h2, h5⟩, h4, h1, h2⟩
theorem Good.views {w : World} {cs : List Value} (h : Good w (.slice viewTy) cs) : ∃ (a : Option Addr) (n c : Nat) (V : List Vw), cs = [.slice a n c] ∧ n ≤ c ∧ c ≤ maxLen ∧ V.length = n ∧ ViewsR w a V ∧ ∀ v ∈ V, VwIn v := by
  obtain ⟨a, n, c, xs, rfl, hn, hc, hl, hr, hx⟩ := h
  have : ∀ xs : List (List Value), (∀ x ∈ xs, x.length = viewTy.cells ∧ Good w viewTy x) → ∃ V : List Vw, V.length = xs.length ∧ (∀ i (h : i < V.length), ∃ ai ci, xs[i]? = some [.string V[i].holder, .slice ai V[i].own.length ci] ∧ Row w ai (strCells V[i].own) ∧ V[i].own.length ≤ ci ∧ ci ≤ maxLen) ∧ ∀ v ∈ V, VwIn v := by
    intro xs
    induction xs with
    | nil => intro _; exact ⟨[], rfl, fun i h => absurd h (by simp), fun x hx => by cases hx⟩
    | cons x xs ih =>
      intro hh
      obtain ⟨V, h1, h2, h3⟩ := ih fun y hy => hh y (by simp [hy])
      obtain ⟨v, ar, cr, rfl, hri, hrow, hc1, hc2⟩ := (hh x (by simp)).2.view
      refine ⟨v :: V, by simp [h1], fun i hi => ?_, fun y hy => ?_⟩
      · cases i with
        | zero => exact ⟨ar, cr, by simp, hrow, hc1, hc2⟩
        | succ i =>
          obtain ⟨ai, ci, h4, h5⟩ := h2 i (by simpa using hi)
          exact ⟨ai, ci, by simpa using h4, by simpa using h5⟩
      · rcases List.mem_cons.1 hy with rfl | hy
        · exact hri
        · exact h3 y hy
  obtain ⟨V, h1, h2, h3⟩ := this xs hx
  refine ⟨a, n, c, V, rfl, hn, hc, by omega, fun i hi => ?_, h3⟩
  obtain ⟨ai, ci, h4, h5, h6⟩ := h2 i hi
  have e2 : ∀ y ∈ xs, y.length = 2 := fun y hy => (hx y hy).1
  obtain ⟨b, o, rfl, k0⟩ := hr (i * 2 + 0) _ (flatten_two2 xs i 0 _ _ e2 h4 rfl)
  obtain ⟨b', o', he, k1⟩ := hr (i * 2 + 1) _ (flatten_two2 xs i 1 _ _ e2 h4 rfl)
  cases he
  exact ⟨b, o, ai, ci, rfl, World.block_lt_of_cell? w _ k0, by simpa using k0, by rw [Nat.add_assoc]; exact k1, h5, h6⟩
end Go.Proofs.YtklcaphkfdlipaaGreatDoor
