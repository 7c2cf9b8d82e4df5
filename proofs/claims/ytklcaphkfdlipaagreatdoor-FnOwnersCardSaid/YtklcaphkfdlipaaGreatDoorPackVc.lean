import Derived.Test.YtklcaphkfdlipaaGreatDoorPackVa
import Derived.Test.YtklcaphkfdlipaaGreatDoorPts
import Derived.Test.YtklcaphkfdlipaaGreatDoorPackVb
import Derived.Lib.SliceRun
import Derived.Lib.AppendZerosOnto
/- Several of my texts, one behind the other: PtS, OwnG, VwW, RgW, PtC, FunC. -/
/- The laws' copies of slices of points: size, copy, comparison, marks. -/
set_option linter.unusedSimpArgs false
set_option linter.unusedVariables false
namespace Go.Proofs.YtklcaphkfdlipaaGreatDoor
open Go.RowKit
theorem info_pt : (Tryz.prog.info? 72).map (fun i => (i.zero, i.size, i.bytes)) = some (some (.agg #[.int .i64 0, .int .i64 0]), 2, 16) := by kernel_rfl
theorem ptsCells_append (L M : List Pt) : ptsCells (L ++ M) = ptsCells L ++ ptsCells M := by simp [ptsCells]
end Go.Proofs.YtklcaphkfdlipaaGreatDoor

/- Lists of rings: rows for reading, lists of one's own; sizes, copies, comparison, marks. -/
set_option linter.unusedSimpArgs false
set_option linter.unusedVariables false
namespace Go.Proofs.YtklcaphkfdlipaaGreatDoor
open Go.RowKit
def RingsR (w : World) (a : Option Addr) (T : List (List Pt)) : Prop :=
  ∀ i (h : i < T.length), ∃ b o ai ci, a = some ⟨b, o, none⟩ ∧ b < w.heap.size ∧ w.cell? ⟨b, o + i, none⟩ = some (.slice ai T[i].length ci) ∧ Row w ai (ptsCells T[i]) ∧ T[i].length ≤ ci ∧ ci ≤ maxLen
theorem RingsR.bel {w w' : World} {a : Option Addr} {T : List (List Pt)} (h : RingsR w a T) (hb : Below w.heap.size w w') : RingsR w' a T := fun i hi => by
  obtain ⟨b, o, ai, ci, h1, h2, h4, h5, h6⟩ := h i hi
  exact ⟨b, o, ai, ci, h1, Nat.lt_of_lt_of_le h2 hb.size, (hb.cell h2).trans h4, h5.bel hb, h6⟩
theorem RingsR.take {w : World} {a : Option Addr} {T : List (List Pt)} (h : RingsR w a T) (k : Nat) : RingsR w a (T.take k) := fun i hi => by
  have hi' : i < T.length := by rw [List.length_take] at hi; omega
  obtain ⟨b, o, ai, ci, h1, h2, h3⟩ := h i hi'
  exact ⟨b, o, ai, ci, h1, h2, by rw [List.getElem_take]; exact h3⟩
theorem RingsR.at_ {w : World} {a : Option Addr} {T : List (List Pt)} (h : RingsR w a T) {i : Nat} (hi : i < T.length) :
    ∃ b o ai ci, a = some ⟨b, o, none⟩ ∧ b < w.heap.size ∧ w.cell? ⟨b, o + i, none⟩ = some (.slice ai T[i].length ci) ∧ Row w ai (ptsCells T[i]) ∧ T[i].length ≤ ci ∧ ci ≤ maxLen := h i hi
theorem RingsR.nil (w : World) (a : Option Addr) : RingsR w a [] := fun i h => absurd h (by simp)
/-- A list of one's own: its elements in the block `g`, their slices in later ones. -/
structure OG (w : World) (g hi n c : Nat) (T : List (List Pt)) (vs : List Value) : Prop where
  own : Owns w g (g + 1) 83 1 n (some ⟨g, 0, none⟩) c vs
  len : T.length ≤ n
  lt : g < w.heap.size
  at_ : ∀ i (h : i < T.length), ∃ ai ci, vs[i]? = some (.slice ai T[i].length ci) ∧ Owns w (g + 1) hi 72 2 T[i].length ai ci (ptsCells T[i]) ∧ T[i].length ≤ ci ∧ ci ≤ maxLen
  sep : ∀ i j gi gj ni nj ci cj, i < j → j < T.length → vs[i]? = some (.slice (some ⟨gi, 0, none⟩) ni ci) → vs[j]? = some (.slice (some ⟨gj, 0, none⟩) nj cj) → gi ≠ gj
theorem OG.bel {w w' : World} {g hi n c : Nat} {T : List (List Pt)} {vs : List Value} (h : OG w g hi n c T vs) (hb : Below w.heap.size w w') (hh : hi ≤ w.heap.size) : OG w' g hi n c T vs :=
  ⟨h.own.bel hb h.lt, h.len, Nat.lt_of_lt_of_le h.lt hb.size, fun i hi' => by
    obtain ⟨ai, ci, h1, h3, h4⟩ := h.at_ i hi'
    exact ⟨ai, ci, h1, h3.bel hb hh, h4⟩, h.sep⟩
theorem OG.btw {w w' : World} {g hi n c lo' hi2 : Nat} {T : List (List Pt)} {vs : List Value} (h : OG w g hi n c T vs) (hb : Between lo' hi2 w w') (hh : hi2 ≤ g) : OG w' g hi n c T vs :=
  ⟨h.own.btw hb (.inr hh), h.len, Nat.lt_of_lt_of_le h.lt hb.size, fun i hi' => by
    obtain ⟨ai, ci, h1, h3, h4⟩ := h.at_ i hi'
    exact ⟨ai, ci, h1, h3.btw hb (.inr (by omega)), h4⟩, h.sep⟩
theorem OG.zero (w : World) (g n c : Nat) (T : List (List Pt)) (vs : List Value) (h : Owns w g (g + 1) 83 1 n (some ⟨g, 0, none⟩) c vs) (hg : g < w.heap.size) (hn : T.length = n) : OG w g w.heap.size n c (T.take 0) vs :=
  ⟨h, by simp only [List.take_zero, List.length_nil]; omega, hg, fun i hi => absurd hi (by simp), fun i j gi gj ni nj ci cj _ hj => absurd hj (by simp)⟩
theorem OG.step {w y : World} {g n c k : Nat} {T : List (List Pt)} {vs : List Value} (h : OG w g w.heap.size n c (T.take k) vs) (hk : k < T.length) (hkn : k < n) (hb : Below w.heap.size w y) {ai : Option Addr} {ci : Nat}
    (ho : y.ownsRow w.heap.size 72 2 (.slice ai T[k].length ci) T[k].length (ptsCells T[k])) :
    OG (y.setCell ⟨g, k, none⟩ (.slice ai T[k].length ci)) g y.heap.size n c (T.take (k + 1)) (vs.set k (.slice ai T[k].length ci)) := by
  have hv := h.own.own.1
  have hg := h.lt
  have hs := hb.size
  have htk : (T.take k).length = k := by rw [List.length_take]; omega
  have htk1 : (T.take (k + 1)).length = k + 1 := by rw [List.length_take]; omega
  have hcap := own_caps2 ho
  have hO := Owns.of ho
  have hset : ∀ {lo hi n c : Nat} {a : Option Addr} {xs : List Value}, Owns y lo hi 72 2 n a c xs → g < lo → Owns (y.setCell ⟨g, k, none⟩ (.slice ai T[k].length ci)) lo hi 72 2 n a c xs := fun h1 h2 =>
    ⟨own_set h1.own (p := ⟨g, k, none⟩) h2 _, h1.lt⟩
  refine ⟨(h.own.bel hb hg).set _, by omega, by simp only [World.size_setCell]; omega, fun i hi => ?_, fun i j gi gj ni nj ci' cj hij hj h1 h2 => ?_⟩
  · rw [htk1] at hi
    by_cases hik : i = k
    · subst hik
      refine ⟨ai, ci, ?_, ?_, ?_⟩
      · rw [List.getElem?_set_self (by omega)]
        simp
      · simp only [List.getElem_take]
        exact ⟨own_mono (hset hO (by omega)).own (by omega), fun p hp => hO.lt p hp⟩
      · simpa using hcap
    · obtain ⟨aj, cj, e1, e3, e4⟩ := h.at_ i (by omega)
      simp only [List.getElem_take] at e1 e3 e4 ⊢
      refine ⟨aj, cj, ?_, ?_, e4⟩
      · rw [List.getElem?_set_ne (by omega)]
        exact e1
      · have := hset (e3.bel hb (Nat.le_refl _)) (by omega)
        exact ⟨this.own, fun p hp => Nat.lt_of_lt_of_le (this.lt p hp) hs⟩
  · rw [htk1] at hj
    rw [List.getElem?_set_ne (by omega)] at h1
    obtain ⟨a1, c1, e1, e3, _⟩ := h.at_ i (by omega)
    have hgi : gi < w.heap.size := by
      rw [e1] at h1
      injection h1 with h1
      injection h1 with h1
      exact e3.lt _ h1
    by_cases hjk : j = k
    · subst hjk
      rw [List.getElem?_set_self (by omega)] at h2
      injection h2 with h2
      injection h2 with h2
      have := hO.ge _ h2
      simp only at this
      omega
    · rw [List.getElem?_set_ne (by omega)] at h2
      exact h.sep i j gi gj ni nj ci' cj hij (by omega) h1 h2
/-- Such a list of which some is marked: its slices are as they were, what they hold is one's own. -/
structure MG (w : World) (g hi n c : Nat) (T : List (List Pt)) (vs : List Value) : Prop where
  own : ∃ vs', Owns w g (g + 1) 83 1 n (some ⟨g, 0, none⟩) c vs' ∧ ∀ i, i < T.length → vs'[i]? = vs[i]?
  at_ : ∀ i (h : i < T.length), ∃ ai ci xs, vs[i]? = some (.slice ai T[i].length ci) ∧ Owns w (g + 1) hi 72 2 T[i].length ai ci xs
theorem MG.of {w : World} {g hi n c : Nat} {T : List (List Pt)} {vs : List Value} (h : OG w g hi n c T vs) : MG w g hi n c T vs :=
  ⟨⟨vs, h.own, fun _ _ => rfl⟩, fun i hi => by
    obtain ⟨ai, ci, h1, h3, h4⟩ := h.at_ i hi
    exact ⟨ai, ci, _, h1, h3⟩⟩
theorem MG.bel {w w' : World} {g hi n c : Nat} {T : List (List Pt)} {vs : List Value} (h : MG w g hi n c T vs) (hb : Below w.heap.size w w') (hg : g < w.heap.size) (hh : hi ≤ w.heap.size) : MG w' g hi n c T vs := by
  obtain ⟨⟨vs', h1, h2⟩, h3⟩ := h
  refine ⟨⟨vs', h1.bel hb hg, h2⟩, fun i hi => ?_⟩
  obtain ⟨ai, ci, ys, e1, e2⟩ := h3 i hi
  exact ⟨ai, ci, ys, e1, e2.bel hb hh⟩
end Go.Proofs.YtklcaphkfdlipaaGreatDoor

/- Tables of views: sizes, copies, comparison and marks for the laws. -/
set_option linter.unusedSimpArgs false
set_option linter.unusedVariables false
namespace Go.Proofs.YtklcaphkfdlipaaGreatDoor
open Go.RowKit
/-- Views whose sizes fit the laws. -/
structure VwOk (v : Vw) : Prop where
  h : v.holder.size ≤ 1048576
  n : v.own.length ≤ 1048576
  o : ∀ s ∈ v.own, s.size ≤ 1048576
/-- A view that came in. -/
structure VwIn (v : Vw) : Prop where
  h : v.holder.size ≤ maxLen
  n : v.own.length ≤ maxLen
  o : ∀ s ∈ v.own, s.size ≤ maxLen
theorem info_view : (Tryz.prog.info? 64).map (fun i => (i.zero, i.size, i.bytes)) = some (some (.agg #[.string ByteArray.empty, .slice none 0 0]), 2, 40) := by kernel_rfl
end Go.Proofs.YtklcaphkfdlipaaGreatDoor

/- Lists of rings: sizes, copies, comparison and marks for the laws. -/
set_option linter.unusedSimpArgs false
set_option linter.unusedVariables false
namespace Go.Proofs.YtklcaphkfdlipaaGreatDoor
open Go.RowKit
theorem info_pts : (Tryz.prog.info? 83).map (fun i => (i.zero, i.size, i.bytes)) = some (some (.slice none 0 0), 1, 24) := by kernel_rfl
end Go.Proofs.YtklcaphkfdlipaaGreatDoor

/- slices.Clone, Reverse, Grow and Concat of points. -/
set_option linter.unusedSimpArgs false
set_option linter.unusedVariables false
namespace Go.Proofs.YtklcaphkfdlipaaGreatDoor
open Go.RowKit
theorem Row.none {w : World} {xs : List Value} (h : Row w none xs) : xs = [] := by
  cases xs with
  | nil => rfl
  | cons x r => obtain ⟨b, o, h, _⟩ := h 0 x rfl; cases h
theorem pts_nil {L : List Pt} (h : ptsCells L = []) : L = [] := by
  have := length_ptsCells L
  rw [h] at this
  cases L with
  | nil => rfl
  | cons c L => simp at this
theorem info_pnt : ∃ i, Tryz.prog.info? 72 = some i ∧ i.zero = some (.agg #[.int .i64 0, .int .i64 0]) ∧ i.size = 2 ∧ i.bytes = 16 := by
  obtain ⟨i, h1, h2⟩ := Option.map_eq_some_iff.1 info_pt
  simp only [Prod.mk.injEq] at h2
  exact ⟨i, h1, h2.1, h2.2.1, h2.2.2⟩
theorem one_pnts (L : List Pt) : ∀ u ∈ ptsCells L, u.oneCell' = true := by
  intro u hu
  simp only [ptsCells, List.mem_flatMap] at hu
  obtain ⟨p, _, hp⟩ := hu
  simp [ptCells] at hp
  rcases hp with rfl | rfl <;> rfl
set_option maxRecDepth 4000 in
set_option maxHeartbeats 400000 in
theorem clonePts_any (L : List Pt) (a : Option Addr) (n c : Nat) (w : World) (hn : L.length = n) (hm : n ≤ 1048576) (hr : Row w a (ptsCells L)) :
    Calls Tryz.prog 142 #[.slice a n c] w (RetOwn w 72 2 n (ptsCells L) id) := by
  subst hn
  cases a with
  | none =>
    obtain rfl := pts_nil hr.none
    have heq := fun w => Lib.run_eql_slice_nil (P := Tryz.prog) w 83 72 none 0 c 0 0 Tryz.underlying83
    go_enter Tryz.func142, Tryz.ntmps142
    go_wp2_with fail
    go_ret
    exact RetOwn.mk (.slice none 0 0) rfl (World.ownsRow_nil _ _ _ _) bb
  | some p =>
    obtain ⟨ii, j1, j2, j3, j4⟩ := info_pnt
    have Jii := Lib.hid (And.intro j1 (And.intro j2 (And.intro j3 j4)))
    have HR := Lib.hid hr
    have hl7 := length_ptsCells L
    clear j1 j2 j3 j4 hr
    have heq := fun w => Lib.run_eql_slice_nil (P := Tryz.prog) w 83 72 (some p) L.length c 0 0 Tryz.underlying83
    go_enter Tryz.func142, Tryz.ntmps142
    go_wp2_with (at_builtin; (refine wpList_append_later _ rfl _ _ _ rfl 72 ii _ 2 16 Tryz.underlying83 Jii.out.1 Jii.out.2.1 Jii.out.2.2.1 Jii.out.2.2.2 rfl (by decide) (w) ?qa1 _ _ _ ([]) rfl ?qa2 _ _ _ (ptsCells L) rfl ?qa3 ?qa4 ?qa5 ?qa6 ?qa7 ?_); (case qa1 => (exact bb)); (case qa2 => exact World.ownsRow_lit w #[] 0 (Nat.le_refl _) (by unfold maxLen; omega) rfl); (case qa3 => (first | rfl | (simp [boolCells]; done) | (simp [intCells]; done) | (simp; done) | (first | omega | (simp only [List.length_append, List.length_cons, List.length_nil]; omega)))); (case qa4 => exact HR.out.bel bb); (case qa5 => exact one_pnts L); (case qa6 => (unfold maxLen; (first | omega | (simp only [List.length_append, List.length_cons, List.length_nil]; omega)))); (case qa7 => (first | omega | (simp only [List.length_append, List.length_cons, List.length_nil]; omega))); intro a' c' x hown)
    simp only [Nat.zero_add, List.nil_append] at hown
    have HO := Lib.hid hown
    clear hown
    go_ret
    exact RetOwn.mk _ rfl HO.out x.bel
/-! ### Reverse -/
theorem ptsSet {q : Pt} : ∀ {M : List Pt} {i : Nat}, i < M.length → ptsCells (M.set i q) = ((ptsCells M).set (i * 2) (.int .i64 q.x)).set (i * 2 + 1) (.int .i64 q.y)
  | [], i, h => by simp at h
  | d :: M, 0, h => rfl
  | d :: M, i + 1, h => by
    have ih := ptsSet (q := q) (M := M) (i := i) (by simpa using h)
    rw [show (i + 1) * 2 = i * 2 + 2 by omega, show i * 2 + 2 + 1 = (i * 2 + 1) + 2 by omega]
    show ptCells d ++ ptsCells (M.set i q) = _
    rw [ih]
    rfl
def atP (L : List Pt) (i : Nat) : Pt := L.getD i ⟨0, 0⟩
theorem atP_get {L : List Pt} {i : Nat} (h : i < L.length) : atP L i = L[i] := by simp [atP, h]
/-- The first `k` and the last `k` are changed about. -/
def revTo (L : List Pt) (k : Nat) : List Pt := (List.range L.length).map fun i => if i < k ∨ L.length ≤ i + k then atP L (L.length - 1 - i) else atP L i
theorem revTo_len (L : List Pt) (k : Nat) : (revTo L k).length = L.length := by simp [revTo]
theorem revTo_get {L : List Pt} {k i : Nat} (h : i < (revTo L k).length) : (revTo L k)[i] = if i < k ∨ L.length ≤ i + k then atP L (L.length - 1 - i) else atP L i := by simp [revTo]
theorem revTo_zero (L : List Pt) : revTo L 0 = L := by
  refine List.ext_getElem (revTo_len L 0) fun i h1 h2 => ?_
  rw [revTo_get, if_neg (by omega), atP_get h2]
theorem revTo_all {L : List Pt} {k j : Nat} (h : k + j + 1 = L.length) (h1 : ¬ k < j) (h2 : k ≤ j + 1) : revTo L k = L.reverse := by
  refine List.ext_getElem (by rw [revTo_len]; simp) fun i h3 h4 => ?_
  rw [revTo_len] at h3
  rw [revTo_get, List.getElem_reverse]
  split
  · rw [atP_get (by omega)]
  · rw [atP_get h3]
    have : L.length - 1 - i = i := by omega
    simp only [this]
theorem revTo_step {L : List Pt} {k j : Nat} (h : k + j + 1 = L.length) (h1 : k < j) : ((revTo L k).set k (atP L j)).set j (atP L k) = revTo L (k + 1) := by
  refine List.ext_getElem (by simp [revTo_len]) fun i h3 h4 => ?_
  rw [revTo_len] at h4
  rw [revTo_get]
  by_cases hij : j = i
  · subst hij
    rw [List.getElem_set_self, if_pos (by omega), show L.length - 1 - j = k by omega]
  · rw [List.getElem_set_ne hij]
    by_cases hik : k = i
    · subst hik
      rw [List.getElem_set_self, if_pos (by omega), show L.length - 1 - k = j by omega]
    · rw [List.getElem_set_ne hik, revTo_get]
      by_cases hc : i < k ∨ L.length ≤ i + k
      · rw [if_pos hc, if_pos (by omega)]
      · rw [if_neg hc, if_neg (by omega)]
/-- Nothing is handed back; the slice of the caller's own holds these cells. -/
def RetTurn (w : World) (lo hi E s n : Nat) (a : Option Addr) (c : Nat) (xs : List Value) (e : Ending) (w' : World) : Prop :=
  e = .returned (.tuple #[]) ∧ ∃ z : After w lo hi, w' = z.w ∧ Owns z.w lo hi E s n a c xs
theorem pt_two {W : World} {lo hi g n c i : Nat} {M : List Pt} (h : Owns W lo hi 72 2 n (some ⟨g, 0, none⟩) c (ptsCells M)) (hi' : i < M.length) : W.cell? ⟨g, i * 2, none⟩ = some (.int .i64 M[i].x) ∧ W.cell? ⟨g, i * 2 + 1, none⟩ = some (.int .i64 M[i].y) ∧ W.frozen? ⟨g, i * 2, none⟩ = false ∧ W.frozen? ⟨g, i * 2 + 1, none⟩ = false := by
  have h1 := h.own.1
  rw [length_ptsCells] at h1
  obtain ⟨b, o, he, hb, c0, c1⟩ := h.row.pt hi'
  injection he with he
  injection he with e1 e2
  subst e1 e2
  rw [Nat.zero_add] at c0 c1
  exact ⟨c0, c1, h.own.frozenAt _, h.own.frozenAt _⟩
set_option maxRecDepth 8000 in
set_option maxHeartbeats 4000000 in
theorem revPts_any (L : List Pt) (a : Option Addr) (n c lo hi : Nat) (w : World) (h : Owns w lo hi 72 2 n a c (ptsCells L)) (hh : hi ≤ w.heap.size) (hn : L.length = n) (h0 : 0 < n) (hm : n ≤ 1048576) :
    Calls Tryz.prog 143 #[.slice a n c] w (RetTurn w lo hi 72 2 n a c (ptsCells L.reverse)) := by
  have HO := Lib.hid h
  obtain ⟨g, rfl, g1, g2, -⟩ := h.at_ (j := 0) (by omega)
  subst hn
  clear h
  go_enter Tryz.func143, Tryz.ntmps143
  go_wp2_with fail
  go_loopw [2, 3] (fun i j wr => ∃ k m : Nat, k + m + 1 = L.length ∧ i = .int .i64 k ∧ j = .int .i64 m ∧ k ≤ m + 1 ∧ Between lo hi w wr ∧ Owns wr lo hi 72 2 L.length (some ⟨g, 0, none⟩) c (ptsCells (revTo L k))) (fun i j _ => (intOf j - intOf i).toNat)
  case atStart => exact ⟨0, L.length - 1, by omega, by go_num, by go_num, by omega, Between.refl _ _ _, by rw [revTo_zero]; exact HO.out⟩
  case round =>
    obtain ⟨k, m, hkm, rfl, rfl, hkm1, hb, ho⟩ := hrel
    by_cases hlt : k < m
    · obtain ⟨z, rfl⟩ := AfterC.mk hb
      have hzs := z.btw.size
      have hgz : g < z.w.heap.size := by omega
      have hl := revTo_len L k
      obtain ⟨p1, p2, p3, p4⟩ := pt_two ho (i := k) (by omega)
      obtain ⟨q1, q2, q3, q4⟩ := pt_two ho (i := m) (by omega)
      have e1 : (revTo L k)[k]'(by omega) = atP L k := by rw [revTo_get, if_neg (by omega)]
      have e2 : (revTo L k)[m]'(by omega) = atP L m := by rw [revTo_get, if_neg (by omega)]
      rw [e1] at p1 p2
      rw [e2] at q1 q2
      have hst := Lib.hid ((((ho.set (j := k * 2) (.int .i64 (atP L m).x)).set (j := k * 2 + 1) (.int .i64 (atP L m).y)).set (j := m * 2) (.int .i64 (atP L k).x)).set (j := m * 2 + 1) (.int .i64 (atP L k).y))
      rw [← ptsSet (q := atP L m) (by omega), ← ptsSet (q := atP L k) (by simp; omega), revTo_step hkm hlt] at hst
      have hbz := Lib.hid z.btw
      generalize atP L k = A at *
      generalize atP L m = B at *
      have hi1 : (k : Int) < (L.length : Int) := by omega
      have hi2 : (m : Int) < (L.length : Int) := by omega
      have hi3 : (k : Int) < (m : Int) := by omega
      clear e1 e2 ho hb
      go_wp2_with fail
      go_region
      go_wp2_with fail
      go_roundw
      case rel =>
        refine ⟨k + 1, m - 1, by omega, by go_num, by go_num, by omega, ?_, hst.out.bel (B := hi) ((Below.refl _ _).drew) (Nat.le_refl _)⟩
        have h0 := hbz.out
        exact ((((h0.set (p := ⟨g, k * 2, none⟩) g1 g2 _).set (p := ⟨g, k * 2 + 1, none⟩) g1 g2 _).set (p := ⟨g, m * 2, none⟩) g1 g2 _).set (p := ⟨g, m * 2 + 1, none⟩) g1 g2 _).drew
      case measure => simp [intOf]; omega
    · rw [revTo_all hkm hlt hkm1] at ho
      obtain ⟨z, rfl⟩ := AfterC.mk hb
      replace ho := Lib.hid ho
      clear hb
      go_wp2_with fail
      refine bodyPost_ret (by simp [results, Tryz.results143, go_sem, ↓IntWalk.iteOmega, *]; try rfl) rfl ?_
      exact ⟨rfl, z, rfl, ho.out⟩
/-! ### Grow and Concat -/
theorem own_none2 {w : World} {base cap s : Nat} {e : TypeId} {cs : Array Value} (hb : base ≤ w.heap.size) (hc : cap ≤ maxLen) (hs : cs.size = cap * s) :
    (w.alloc (.cells cs e)).ownsRow base e s (.slice (some ⟨w.heap.size, 0, none⟩) 0 cap) 0 [] :=
  ⟨by simp, .inr ⟨w.heap.size, cap, cs, rfl, hb, heap_alloc_new w _, Nat.zero_le _, hc, by omega, by simp⟩⟩
set_option maxRecDepth 8000 in
set_option maxHeartbeats 2000000 in
theorem growPts_any (n : Nat) (w : World) (hn : n ≤ 1048576) : Calls Tryz.prog 163 #[.slice none 0 0, .int .i64 n] w (RetOwn w 72 2 0 [] id) := by
  rcases Nat.eq_zero_or_pos n with rfl | h0
  · go_enter Tryz.func163, Tryz.ntmps163
    go_wp2_with fail
    go_ret
    exact RetOwn.mk (.slice none 0 0) rfl (World.ownsRow_nil _ _ _ _) bb
  · obtain ⟨i, j1, j2, j3, j4⟩ := info_pnt
    have hrz : ∀ (w : World) ty, (Builtin.append_ #[83, 3] ty #[.slice none 0 0, .int .i64 n]).run Tryz.prog w = .ok (.slice (some ⟨w.heap.size, 0, none⟩) n (grownCap w n 0 72)) (w.drew.alloc (.cells (#[] ++ Builtin.zeroCells (Value.agg #[.int .i64 0, .int .i64 0]).cells n ++ Builtin.zeroCells (Value.agg #[.int .i64 0, .int .i64 0]).cells (grownCap w n 0 72 - n)) 72)) := fun w ty => by
      have h := Lib.run_append_grow_zeros w 83 3 ty 72 i _ .i64 .i64 Tryz.underlying83 Tryz.underlying3 j1 j2 none 0 0 [] (run_firstCells_none w.drew i.size 0 0 0) n h0 (by omega) (by omega) (by omega) (by rw [j4]; omega) (growslice_fits (by omega) (by rw [j4]; omega))
      simp only [Nat.zero_add] at h
      exact h
    have hG : ∀ w : World, n ≤ grownCap w n 0 72 ∧ grownCap w n 0 72 ≤ maxLen := fun w => ⟨grownCap_ge w _ _ _, grownCap_le_maxLen w _ _ _ (by unfold maxLen; omega)⟩
    have hn1 : (0 : Int) < n := by omega
    replace hG := Lib.hid hG
    clear j1 j2 j3 j4
    go_enter Tryz.func163, Tryz.ntmps163
    go_wp2_with (at_builtin; refine Lib.wpList_append_run _ rfl _ _ _ _ rfl _ _ rfl rfl _ _ (hrz _ _) ?_)
    have h1 := (hG.out w).1
    have h2 := (hG.out w).2
    have HO := Lib.hid (own_none2 (w := w) (base := w.heap.size) (cap := grownCap w n 0 72) (s := 2) (e := 72) (cs := Builtin.zeroCells #[.int .i64 0, .int .i64 0] n ++ Builtin.zeroCells #[.int .i64 0, .int .i64 0] (grownCap w n 0 72 - n)) (Nat.le_refl _) h2 (by simp only [Array.size_append, size_zeroCells]; simp; omega))
    clear h1 h2
    go_ret
    refine RetOwn.mk _ rfl ?_ ?_
    · exact own_bel HO.out bb
    · (exact bb)
/-- Slices of points in a row, for reading. -/
def RowsP (w : World) (a : Option Addr) (S : List (List Pt)) : Prop :=
  ∀ i (h : i < S.length), ∃ b o ai ci, a = some ⟨b, o, none⟩ ∧ b < w.heap.size ∧ w.cell? ⟨b, o + i, none⟩ = some (.slice ai S[i].length ci) ∧ Row w ai (ptsCells S[i])
/-- The first `k` lists, one behind the other. -/
def flatP (S : List (List Pt)) (k : Nat) : List Pt := (S.take k).flatten
theorem flatP_succ {S : List (List Pt)} {k : Nat} (h : k < S.length) : flatP S (k + 1) = flatP S k ++ S[k] := by
  unfold flatP
  rw [List.take_succ_eq_append_getElem h, List.flatten_append]
  simp
theorem flatP_le {S : List (List Pt)} {M : Nat} (h : ∀ l ∈ S, l.length ≤ M) : ∀ k, k ≤ S.length → (flatP S k).length ≤ k * M
  | 0, _ => by simp [flatP]
  | k + 1, hk => by
    have ih := flatP_le h k (by omega)
    have := h _ (List.getElem_mem (show k < S.length by omega))
    rw [flatP_succ (by omega), List.length_append, Nat.succ_mul]
    omega
set_option maxRecDepth 8000 in
set_option maxHeartbeats 2000000 in
theorem concatPts_any (S : List (List Pt)) (a : Option Addr) (n c M : Nat) (w : World) (hn : S.length = n) (hm : n ≤ 1000) (hM : ∀ l ∈ S, l.length ≤ M) (hM' : M ≤ 1000) (hr : RowsP w a S) :
    Calls Tryz.prog 144 #[.slice a n c] w (RetOwn w 72 2 (flatP S n).length (ptsCells (flatP S n)) id) := by
  obtain ⟨ii, j1, j2, j3, j4⟩ := info_pnt
  have Jii := Lib.hid (And.intro j1 (And.intro j2 (And.intro j3 j4)))
  clear j1 j2 j3 j4
  subst hn
  have hoff := Lib.hid (flatP_le hM)
  replace hM := Lib.hid hM
  replace hr := Lib.hid hr
  go_enter Tryz.func144, Tryz.ntmps144
  go_wp2_with fail
  go_loopw [3, 11] (fun s i wr => ∃ k : Nat, k ≤ S.length ∧ i = .int .i64 k ∧ s = .int .i64 ((flatP S k).length : Nat) ∧ ∃ z : Later w, wr = z.w) (fun _ i _ => S.length - (intOf i).toNat)
  case atStart => exact ⟨0, Nat.zero_le _, rfl, rfl, ⟨_, Below.refl _ _⟩, rfl⟩
  case round =>
    obtain ⟨k, hk, rfl, rfl, z, rfl⟩ := hrel
    have hzz := z.bel.size
    have hof := hoff.out k hk
    have hof2 : k * M ≤ 1000 * 1000 := Nat.mul_le_mul (by omega) hM'
    by_cases hlt : k < S.length
    · obtain ⟨b, o, ai, ci, rfl, hb, hc, hrow⟩ := hr.out k hlt
      have hi1 : (k : Int) < (S.length : Int) := by omega
      have hl1 := hM.out _ (List.getElem_mem hlt)
      have X := Lib.hid (show (flatP S (k + 1)).length = (flatP S k).length + S[k].length by rw [flatP_succ hlt, List.length_append])
      have hpos : ¬ (((flatP S k).length : Int) + (S[k].length : Int) < 0) := by omega
      clear hrow
      go_wp2_with fail
      go_roundw
      case rel => exact ⟨k + 1, by omega, by go_num, by rw [X.out]; go_num, LaterC.mk bb⟩
      case measure => first | (simp [intOf]; done) | (simp [intOf]; omega) | omega
    · obtain rfl : k = S.length := by omega
      have hG := fun w => growPts_any (flatP S S.length).length w (by omega)
      replace hG := Lib.hid hG
      go_wp2_with fail
      with_reducible refine (hG.out _).mono ?_
      rintro e w' ⟨a6, c6, rfl, hown, y1, rfl⟩
      have hsy1 := y1.bel.size
      (try simp only [World.size_alloc, World.size_setCell, World.size_drew] at hsy1)
      have H6 := Lib.hid (Owns.of hown)
      clear hown
      go_wp2_with fail
      go_loopw [6, 27] (fun t6 i wr => ∃ (k : Nat) (a6 : Option Addr) (c6 : Nat), k ≤ S.length ∧ i = .int .i64 k ∧ t6 = .slice a6 (flatP S k).length c6 ∧ wr.ownsRow w.heap.size 72 2 (.slice a6 (flatP S k).length c6) (flatP S k).length (ptsCells (flatP S k)) ∧ ∃ z : Later w, wr = z.w) (fun _ i _ => S.length - (intOf i).toNat)
      case atStart => exact ⟨0, a6, c6, Nat.zero_le _, rfl, rfl, own_mono (own_bel H6.out.own bb) (by ((try simp only [World.size_alloc, World.size_setCell, World.size_drew]); omega)), LaterC.mk bb⟩
      case round =>
        obtain ⟨k, a6, c6, hk, rfl, rfl, hown, z2, rfl⟩ := hrel
        have hz2 := z2.bel.size
        have hof := hoff.out k hk
        have hof2 : k * M ≤ 1000 * 1000 := Nat.mul_le_mul (by omega) hM'
        replace hown := Lib.hid hown
        by_cases hlt : k < S.length
        · obtain ⟨b, o, ai, ci, rfl, hb, hc, hrow⟩ := hr.out k hlt
          have hi1 : (k : Int) < (S.length : Int) := by omega
          have hl1 := hM.out _ (List.getElem_mem hlt)
          have X := Lib.hid (show (flatP S (k + 1)).length = (flatP S k).length + S[k].length by rw [flatP_succ hlt, List.length_append])
          have Y := Lib.hid (flatP_succ hlt)
          have hli := length_ptsCells S[k]
          have hlk := length_ptsCells (flatP S k)
          replace hrow := Lib.hid hrow
          go_wp2_with (at_builtin; (refine wpList_append_later _ rfl _ _ _ rfl 72 ii _ 2 16 Tryz.underlying83 Jii.out.1 Jii.out.2.1 Jii.out.2.2.1 Jii.out.2.2.2 rfl (by decide) (w) ?qa8 _ _ _ (ptsCells (flatP S k)) rfl ?qa9 _ _ _ (ptsCells S[k]) rfl ?qa10 ?qa11 ?qa12 ?qa13 ?qa14 ?_); (case qa8 => (exact bb)); (case qa9 => exact hown.out); (case qa10 => (first | rfl | (simp [boolCells]; done) | (simp [intCells]; done) | (simp; done) | (first | omega | (simp only [List.length_append, List.length_cons, List.length_nil]; omega)))); (case qa11 => exact hrow.out.bel bb); (case qa12 => exact one_pnts _); (case qa13 => (unfold maxLen; (first | omega | (simp only [List.length_append, List.length_cons, List.length_nil]; omega)))); (case qa14 => (first | omega | (simp only [List.length_append, List.length_cons, List.length_nil]; omega))); intro a9 c9 x9 hown9)
          replace hown9 := Lib.hid hown9
          go_roundw
          case rel => exact ⟨k + 1, a9, c9, by omega, by go_num, by rw [X.out], by rw [X.out, Y.out, ptsCells_append]; exact hown9.out, x9, rfl⟩
          case measure => first | (simp [intOf]; done) | (simp [intOf]; omega) | omega
        · obtain rfl : k = S.length := by omega
          go_wp2_with fail
          go_ret
          exact RetOwn.mk _ rfl hown.out z2.bel
end Go.Proofs.YtklcaphkfdlipaaGreatDoor

/- slices.IndexFunc and slices.ContainsFunc with a function value: rings, views, texts. -/
set_option linter.unusedSimpArgs false
set_option linter.unusedVariables false
namespace Go.Proofs.YtklcaphkfdlipaaGreatDoor
open Go.RowKit
/-- The first place at which `p` holds, -1 if none. -/
def idxG {α : Type} (p : α → Bool) (L : List α) : Int := match L.findIdx? p with
  | some i => i
  | none => -1
theorem idxG_none {α : Type} {p : α → Bool} {L : List α} (h : ∀ j (hj : j < L.length), p L[j] = false) : idxG p L = -1 := by
  have : L.findIdx? p = none := by
    rw [List.findIdx?_eq_none_iff]
    intro x hx
    obtain ⟨j, hj, rfl⟩ := List.mem_iff_getElem.1 hx
    exact h j hj
  simp [idxG, this]
theorem idxG_some {α : Type} {p : α → Bool} {L : List α} {k : Nat} (hk : k < L.length) (h1 : p L[k] = true) (h : ∀ j (hj : j < L.length), j < k → p L[j] = false) : idxG p L = k := by
  have : L.findIdx? p = some k := by
    rw [List.findIdx?_eq_some_iff_getElem]
    exact ⟨hk, h1, fun j hj => by rw [h j (by omega) hj]; simp⟩
  simp [idxG, this]
theorem idxG_nonneg {α : Type} (p : α → Bool) (L : List α) : decide (0 ≤ idxG p L) = L.any p := by
  unfold idxG
  cases h : L.findIdx? p with
  | none =>
    rw [List.findIdx?_eq_none_iff] at h
    have : L.any p = false := by rw [Bool.eq_false_iff]; intro hh; obtain ⟨x, hx, hp⟩ := List.any_eq_true.1 hh; rw [h x hx] at hp; cases hp
    simp [this]
  | some i =>
    rw [List.findIdx?_eq_some_iff_getElem] at h
    obtain ⟨hi, hp, _⟩ := h
    have : L.any p = true := List.any_eq_true.2 ⟨L[i], List.getElem_mem hi, hp⟩
    simp [this]
/-- What a function value must do for a list: tell `p` of each of its elements, whenever it is called later. -/
def TellsG (g : Nat) (pre lb : Array Value) (p : List Pt → Bool) (L : List (List Pt)) (w : World) : Prop :=
  ∀ x ∈ L, ∀ (ai : Option Addr) (ci : Nat), ∀ w' : World, Below w.heap.size w w' → Row w' ai (ptsCells x) → x.length ≤ ci → ci ≤ maxLen → Calls Tryz.prog g (pre.push (.slice ai x.length ci) ++ lb) w' (Ret w' (.bool (p x)))
theorem TellsG.bel {g : Nat} {pre lb : Array Value} {p : List Pt → Bool} {L : List (List Pt)} {w w1 : World} (h : TellsG g pre lb p L w) (hb : Below w.heap.size w w1) : TellsG g pre lb p L w1 :=
  fun x hx ai ci w' hb' => h x hx ai ci w' (hb.trans (hb'.mono hb.size))
theorem TellsG.take {g : Nat} {pre lb : Array Value} {p : List Pt → Bool} {L : List (List Pt)} {w : World} (h : TellsG g pre lb p L w) (k : Nat) : TellsG g pre lb p (L.take k) w :=
  fun x hx => h x (List.mem_of_mem_take hx)
set_option maxHeartbeats 1000000 in
theorem indexFuncG_any (g : Nat) (pre lb : Array Value) (p : List Pt → Bool) (L : List (List Pt)) (a : Option Addr) (n c : Nat) (w : World) (eg : ∀ args w, (callFunc g args).run Tryz.prog w = .ok (.enter g args) w)
    (hn : L.length = n) (hm : n ≤ 1048576) (hr : RingsR w a L ) (hp : TellsG g pre lb p L w) :
    Calls Tryz.prog 95 #[.slice a n c, .func (.func g) pre lb] w (Ret w (.int .i64 (idxG p L))) := by
  subst hn
  replace hr := Lib.hid hr
  replace hp := Lib.hid hp
  go_enter Tryz.func95, Tryz.ntmps95
  go_wp2_with fail
  go_loopw [8] (fun i wr => ∃ k : Nat, k ≤ L.length ∧ i = .int .i64 k ∧ (∀ j (hj : j < L.length), j < k → p L[j] = false) ∧ ∃ z : Later w, wr = z.w) (fun i _ => L.length - (intOf i).toNat)
  case atStart => exact ⟨0, Nat.zero_le _, rfl, fun j _ h => absurd h (by omega), ⟨_, Below.refl _ _⟩, rfl⟩
  case round =>
    obtain ⟨k, hk, rfl, hall, z, rfl⟩ := hrel
    replace hall := Lib.hid hall
    by_cases hlt : k < L.length
    · obtain ⟨b, o, ai, ci, rfl, hb, q0, q1, q2, q3⟩ := hr.out.at_ hlt
      have hc := hp.out L[k] (List.getElem_mem hlt) ai ci z.w z.bel (q1.bel z.bel) q2 q3
      clear q1 q2 q3
      cases hv : p L[k]
      · rw [hv] at hc
        replace hc := Lib.hid hc
        have X := Lib.hid (show ∀ j (hj : j < L.length), j < k + 1 → p L[j] = false from fun j hj h => by
          rcases Nat.lt_or_ge j k with h1 | h1
          · exact hall.out j hj h1
          · obtain rfl : j = k := by omega
            exact hv)
        clear hv
        go_wp2_with (go_at_fn g; (with_reducible refine hc.out.mono ?_); rintro e w' ⟨rfl, y1, rfl⟩)
        go_roundw
        case rel => exact ⟨k + 1, by omega, by go_num, X.out, ⟨_, bb⟩, rfl⟩
        case measure => first | (simp [intOf]; done) | (simp [intOf]; omega) | omega
      · rw [hv] at hc
        replace hc := Lib.hid hc
        have X := Lib.hid (idxG_some hlt hv fun j hj h => hall.out j hj h)
        clear hv
        go_wp2_with (go_at_fn g; (with_reducible refine hc.out.mono ?_); rintro e w' ⟨rfl, y1, rfl⟩)
        go_ret
        exact .mk (by rw [X.out]; rfl) bb
    · obtain rfl : k = L.length := by omega
      have X := Lib.hid (idxG_none fun j hj => hall.out j hj hj)
      go_wp2_with fail
      go_ret
      exact .mk (by rw [X.out]; rfl) bb
set_option maxHeartbeats 1000000 in
theorem containsFuncG_any (g : Nat) (pre lb : Array Value) (p : List Pt → Bool) (L : List (List Pt)) (a : Option Addr) (n c : Nat) (w : World) (eg : ∀ args w, (callFunc g args).run Tryz.prog w = .ok (.enter g args) w)
    (hn : L.length = n) (hm : n ≤ 1048576) (hr : RingsR w a L ) (hp : TellsG g pre lb p L w) :
    Calls Tryz.prog 127 #[.slice a n c, .func (.func g) pre lb] w (Ret w (.bool (L.any p))) := by
  have X := Lib.hid (idxG_nonneg p L)
  replace hr := Lib.hid hr
  replace hp := Lib.hid hp
  replace hn := Lib.hid hn
  have EG := Lib.hid eg
  clear eg
  go_enter Tryz.func127, Tryz.ntmps127
  go_wp2_with fail
  with_reducible refine (indexFuncG_any g pre lb p L _ _ _ _ EG.out hn.out hm hr.out hp.out).mono ?_
  rintro e w' ⟨rfl, y1, rfl⟩
  have hsy1 := y1.bel.size
  (try simp only [World.size_alloc, World.size_setCell, World.size_drew] at hsy1)
  go_wp2_with fail
  go_ret
  exact .mk (by rw [← X.out]; rfl) bb
/-- What a function value must do for a list: tell `p` of each of its elements, whenever it is called later. -/
def TellsV (g : Nat) (pre lb : Array Value) (p : Vw → Bool) (L : List (Vw)) (w : World) : Prop :=
  ∀ x ∈ L, ∀ (ai : Option Addr) (ci : Nat), ∀ w' : World, Below w.heap.size w w' → Row w' ai (strCells x.own) → x.own.length ≤ ci → ci ≤ maxLen → Calls Tryz.prog g (pre.push (.agg #[.string x.holder, .slice ai x.own.length ci]) ++ lb) w' (Ret w' (.bool (p x)))
theorem TellsV.bel {g : Nat} {pre lb : Array Value} {p : Vw → Bool} {L : List (Vw)} {w w1 : World} (h : TellsV g pre lb p L w) (hb : Below w.heap.size w w1) : TellsV g pre lb p L w1 :=
  fun x hx ai ci w' hb' => h x hx ai ci w' (hb.trans (hb'.mono hb.size))
theorem TellsV.take {g : Nat} {pre lb : Array Value} {p : Vw → Bool} {L : List (Vw)} {w : World} (h : TellsV g pre lb p L w) (k : Nat) : TellsV g pre lb p (L.take k) w :=
  fun x hx => h x (List.mem_of_mem_take hx)
/-- What a function value must do for a list: tell `p` of each of its elements, whenever it is called later. -/
def TellsS (g : Nat) (pre lb : Array Value) (p : ByteArray → Bool) (L : List (ByteArray)) (w : World) : Prop :=
  ∀ x ∈ L, ∀ w' : World, Below w.heap.size w w' → Calls Tryz.prog g (pre.push (.string x) ++ lb) w' (Ret w' (.bool (p x)))
theorem TellsS.bel {g : Nat} {pre lb : Array Value} {p : ByteArray → Bool} {L : List (ByteArray)} {w w1 : World} (h : TellsS g pre lb p L w) (hb : Below w.heap.size w w1) : TellsS g pre lb p L w1 :=
  fun x hx w' hb' => h x hx w' (hb.trans (hb'.mono hb.size))
theorem TellsS.take {g : Nat} {pre lb : Array Value} {p : ByteArray → Bool} {L : List (ByteArray)} {w : World} (h : TellsS g pre lb p L w) (k : Nat) : TellsS g pre lb p (L.take k) w :=
  fun x hx => h x (List.mem_of_mem_take hx)
set_option maxHeartbeats 1000000 in
theorem indexFuncS_any (g : Nat) (pre lb : Array Value) (p : ByteArray → Bool) (L : List (ByteArray)) (a : Option Addr) (n c : Nat) (w : World) (eg : ∀ args w, (callFunc g args).run Tryz.prog w = .ok (.enter g args) w)
    (hn : L.length = n) (hm : n ≤ 1048576) (hr : Row w a (strCells L) ) (hp : TellsS g pre lb p L w) :
    Calls Tryz.prog 151 #[.slice a n c, .func (.func g) pre lb] w (Ret w (.int .i64 (idxG p L))) := by
  subst hn
  replace hr := Lib.hid hr
  replace hp := Lib.hid hp
  go_enter Tryz.func151, Tryz.ntmps151
  go_wp2_with fail
  go_loopw [8] (fun i wr => ∃ k : Nat, k ≤ L.length ∧ i = .int .i64 k ∧ (∀ j (hj : j < L.length), j < k → p L[j] = false) ∧ ∃ z : Later w, wr = z.w) (fun i _ => L.length - (intOf i).toNat)
  case atStart => exact ⟨0, Nat.zero_le _, rfl, fun j _ h => absurd h (by omega), ⟨_, Below.refl _ _⟩, rfl⟩
  case round =>
    obtain ⟨k, hk, rfl, hall, z, rfl⟩ := hrel
    replace hall := Lib.hid hall
    by_cases hlt : k < L.length
    · obtain ⟨b, o, rfl, hb, q0⟩ := hr.out.str hlt
      have hc := hp.out L[k] (List.getElem_mem hlt) z.w z.bel
      cases hv : p L[k]
      · rw [hv] at hc
        replace hc := Lib.hid hc
        have X := Lib.hid (show ∀ j (hj : j < L.length), j < k + 1 → p L[j] = false from fun j hj h => by
          rcases Nat.lt_or_ge j k with h1 | h1
          · exact hall.out j hj h1
          · obtain rfl : j = k := by omega
            exact hv)
        clear hv
        go_wp2_with (go_at_fn g; (with_reducible refine hc.out.mono ?_); rintro e w' ⟨rfl, y1, rfl⟩)
        go_roundw
        case rel => exact ⟨k + 1, by omega, by go_num, X.out, ⟨_, bb⟩, rfl⟩
        case measure => first | (simp [intOf]; done) | (simp [intOf]; omega) | omega
      · rw [hv] at hc
        replace hc := Lib.hid hc
        have X := Lib.hid (idxG_some hlt hv fun j hj h => hall.out j hj h)
        clear hv
        go_wp2_with (go_at_fn g; (with_reducible refine hc.out.mono ?_); rintro e w' ⟨rfl, y1, rfl⟩)
        go_ret
        exact .mk (by rw [X.out]; rfl) bb
    · obtain rfl : k = L.length := by omega
      have X := Lib.hid (idxG_none fun j hj => hall.out j hj hj)
      go_wp2_with fail
      go_ret
      exact .mk (by rw [X.out]; rfl) bb
set_option maxHeartbeats 1000000 in
theorem containsFuncS_any (g : Nat) (pre lb : Array Value) (p : ByteArray → Bool) (L : List (ByteArray)) (a : Option Addr) (n c : Nat) (w : World) (eg : ∀ args w, (callFunc g args).run Tryz.prog w = .ok (.enter g args) w)
    (hn : L.length = n) (hm : n ≤ 1048576) (hr : Row w a (strCells L) ) (hp : TellsS g pre lb p L w) :
    Calls Tryz.prog 125 #[.slice a n c, .func (.func g) pre lb] w (Ret w (.bool (L.any p))) := by
  have X := Lib.hid (idxG_nonneg p L)
  replace hr := Lib.hid hr
  replace hp := Lib.hid hp
  replace hn := Lib.hid hn
  have EG := Lib.hid eg
  clear eg
  go_enter Tryz.func125, Tryz.ntmps125
  go_wp2_with fail
  with_reducible refine (indexFuncS_any g pre lb p L _ _ _ _ EG.out hn.out hm hr.out hp.out).mono ?_
  rintro e w' ⟨rfl, y1, rfl⟩
  have hsy1 := y1.bel.size
  (try simp only [World.size_alloc, World.size_setCell, World.size_drew] at hsy1)
  go_wp2_with fail
  go_ret
  exact .mk (by rw [← X.out]; rfl) bb
end Go.Proofs.YtklcaphkfdlipaaGreatDoor
