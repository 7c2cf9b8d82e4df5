import Derived.Test.YtkkhjbdnpobpnaaPieceA
/- All pieces of a mask: the plain law. Taking whole pieces out leaves the other pieces whole. -/
set_option linter.unusedSimpArgs false
set_option linter.unusedVariables false
namespace Go.Proofs.Ytkkhjbdnpobpnaa
/-- The coordinates of the cell of a point are the point's. -/
theorem cell_coords {x y W H px py : Int} {k : Nat} (hW : 1 ≤ W) (h : (k : Int) = cellB x y W H px py) : x + (k : Int) % W = px ∧ y + (k : Int) / W = py ∧ 0 ≤ px - x ∧ px - x ≤ W - 1 ∧ 0 ≤ py - y ∧ py - y ≤ H - 1 := by
  unfold cellB at h
  split at h
  · rename_i hc
    rw [h]
    have e1 : ((py - y) * W + (px - x)) % W = px - x := by
      rw [Int.add_comm, Int.add_mul_emod_self_right]
      exact Int.emod_eq_of_lt hc.1 (by omega)
    have e2 : ((py - y) * W + (px - x)) / W = py - y := by
      rw [Int.add_comm, Int.add_mul_ediv_right _ _ (by omega), Int.ediv_eq_zero_of_lt hc.1 (by omega)]
      omega
    rw [e1, e2]
    exact ⟨by omega, by omega, hc.1, hc.2.1, hc.2.2.1, hc.2.2.2⟩
  · omega
/-- The cell of a cell's coordinates is that cell. -/
theorem coords_cell {x y W H : Int} {n k : Nat} (b : Box x y W H n) (hk : k < n) : (k : Int) = cellB x y W H (x + (k : Int) % W) (y + (k : Int) / W) := by
  have hW := b.w1
  have r1 := Int.emod_nonneg (k : Int) (show W ≠ 0 by omega)
  have r2 := Int.emod_lt_of_pos (k : Int) (show 0 < W by omega)
  have r3 : 0 ≤ (k : Int) / W := Int.ediv_nonneg (by omega) (by omega)
  have r4 : (k : Int) / W < H := by
    apply Int.ediv_lt_of_lt_mul (by omega)
    have := b.n1
    rw [Int.mul_comm]
    omega
  unfold cellB
  rw [if_pos ⟨by omega, by omega, by omega, by omega⟩]
  have e := Int.mul_ediv_add_emod (k : Int) W
  have e1 : y + (k : Int) / W - y = (k : Int) / W := by omega
  have e2 : x + (k : Int) % W - x = (k : Int) % W := by omega
  rw [e1, e2, Int.mul_comm]
  omega
/-- Lying beside goes both ways. -/
theorem beside_symm {x y W H : Int} {n k k' : Nat} (b : Box x y W H n) (hk : k < n) (h : Beside x y W H k k') : Beside x y W H k' k := by
  have hc := coords_cell b hk
  unfold Beside at h ⊢
  rcases h with h | h | h | h
  · obtain ⟨e1, e2, -⟩ := cell_coords b.w1 h
    rw [e1, e2]
    exact .inr (.inr (.inl (by rw [Int.add_sub_cancel]; exact hc)))
  · obtain ⟨e1, e2, -⟩ := cell_coords b.w1 h
    rw [e1, e2]
    exact .inr (.inr (.inr (by rw [Int.add_sub_cancel]; exact hc)))
  · obtain ⟨e1, e2, -⟩ := cell_coords b.w1 h
    rw [e1, e2]
    exact .inl (by rw [Int.sub_add_cancel]; exact hc)
  · obtain ⟨e1, e2, -⟩ := cell_coords b.w1 h
    rw [e1, e2]
    exact .inr (.inl (by rw [Int.sub_add_cancel]; exact hc))
/-- The cells of `m` that are not in `D`. -/
def minus (m D : List Bool) : List Bool := (List.range m.length).map fun k => m[k]! && !(D[k]!)
/-- The cells of `D` and of `P`. -/
def plus (D P : List Bool) : List Bool := (List.range D.length).map fun k => D[k]! || P[k]!
theorem length_minus (m D : List Bool) : (minus m D).length = m.length := by simp [minus]
theorem length_plus (D P : List Bool) : (plus D P).length = D.length := by simp [plus]
theorem minus_get {m D : List Bool} {k : Nat} (hl : D.length = m.length) : (minus m D)[k]? = some true ↔ m[k]? = some true ∧ D[k]? = some false := by
  by_cases hk : k < m.length
  · have hk' : k < D.length := by omega
    simp [minus, hk, hk', List.getElem?_eq_getElem]
  · simp [minus, hk]
theorem plus_get {D P : List Bool} {k : Nat} (hl : P.length = D.length) : (plus D P)[k]? = some true ↔ D[k]? = some true ∨ P[k]? = some true := by
  by_cases hk : k < D.length
  · have hk' : k < P.length := by omega
    simp [plus, hk, hk', List.getElem?_eq_getElem]
  · have hk' : ¬ k < P.length := by omega
    simp [plus, hk, hk']
theorem pieceL_get {m : List Bool} {Nb : Nat → Int → Prop} {s k : Nat} : (pieceL m Nb s)[k]? = some true ↔ k < m.length ∧ Reach m Nb s k := by
  by_cases hk : k < m.length
  · simp [pieceL, hk]
  · simp [pieceL, hk]
/-- What has been found so far: whole pieces alone. -/
structure Whole (m : List Bool) (Nb : Nat → Int → Prop) (D : List Bool) : Prop where
  len : D.length = m.length
  closed : ∀ k k' : Nat, D[k]? = some true → Nb k k' → m[k']? = some true → D[k']? = some true
section
variable {m : List Bool} {Nb : Nat → Int → Prop} {D : List Bool} {s : Nat}
/-- A search from outside of the found pieces never comes into them. -/
theorem Whole.out (h : Whole m Nb D) (hs : ∀ k k' : Nat, k < m.length → k' < m.length → Nb k k' → Nb k' k) (h1 : m[s]? = some true) (h2 : D[s]? = some false) : ∀ k, Reach m Nb s k → m[k]? = some true ∧ D[k]? = some false := by
  intro k hk
  induction hk with
  | start => exact ⟨h1, h2⟩
  | @step k k' _ hn hm ih =>
    refine ⟨hm, ?_⟩
    have hl' : k' < m.length := (List.getElem?_eq_some_iff.1 hm).1
    have hl : k < m.length := (List.getElem?_eq_some_iff.1 ih.1).1
    have hd : k' < D.length := by rw [h.len]; exact hl'
    cases hv : D[k'] with
    | false => rw [List.getElem?_eq_getElem hd, hv]
    | true =>
      have := h.closed k' k (by rw [List.getElem?_eq_getElem hd, hv]) (hs _ _ hl hl' hn) ih.1
      rw [ih.2] at this
      cases this
/-- The piece in what is left is the piece in the whole. -/
theorem Whole.piece (h : Whole m Nb D) (hs : ∀ k k' : Nat, k < m.length → k' < m.length → Nb k k' → Nb k' k) (h1 : m[s]? = some true) (h2 : D[s]? = some false) : pieceL (minus m D) Nb s = pieceL m Nb s := by
  have iff1 : ∀ k, Reach (minus m D) Nb s k ↔ Reach m Nb s k := by
    intro k
    constructor
    · intro hk
      induction hk with
      | start => exact .start
      | step _ hn hm ih => exact .step ih hn ((minus_get h.len).1 hm).1
    · intro hk
      induction hk with
      | start => exact .start
      | @step k k' hr hn hm ih => exact .step ih hn ((minus_get h.len).2 (h.out hs h1 h2 k' (.step hr hn hm)))
  unfold pieceL
  rw [length_minus]
  apply List.map_congr_left
  intro k _
  simp [iff1 k]
/-- With a piece more the found ones are whole pieces still. -/
theorem Whole.more (h : Whole m Nb D) : Whole m Nb (plus D (pieceL m Nb s)) := by
  have hl : (pieceL m Nb s).length = D.length := by simp [pieceL, h.len]
  refine ⟨by rw [length_plus, h.len], fun k k' hk hn hm => ?_⟩
  rw [plus_get hl] at hk ⊢
  have hl' : k' < m.length := (List.getElem?_eq_some_iff.1 hm).1
  rcases hk with hk | hk
  · exact .inl (h.closed k k' hk hn hm)
  · exact .inr (pieceL_get.2 ⟨hl', .step (pieceL_get.1 hk).2 hn hm⟩)
theorem Whole.none : Whole m Nb (List.replicate m.length false) := by
  refine ⟨by simp, fun k k' hk => ?_⟩
  simp [List.getElem?_replicate] at hk
/-- Taking a piece from what is left leaves what is left without it. -/
theorem minus_minus (h : D.length = m.length) (P : List Bool) (hP : P.length = m.length) : minus (minus m D) P = minus m (plus D P) := by
  apply List.ext_getElem?
  intro k
  by_cases hk : k < m.length
  · have h1 : k < D.length := by omega
    have h2 : k < P.length := by omega
    simp [minus, plus, hk, h1, h2, List.getElem?_eq_getElem, Bool.and_assoc]
  · simp [minus, plus, hk]
theorem minus_none : minus m (List.replicate m.length false) = m := by
  apply List.ext_getElem?
  intro k
  by_cases hk : k < m.length
  · simp [minus, hk, List.getElem?_eq_getElem]
  · simp [minus, hk]
end
end Go.Proofs.Ytkkhjbdnpobpnaa
