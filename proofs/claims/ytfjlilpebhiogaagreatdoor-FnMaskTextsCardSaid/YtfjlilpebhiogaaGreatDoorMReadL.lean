import Derived.Test.YtfjlilpebhiogaaGreatDoorMText
import Derived.Test.YtfjlilpebhiogaaGreatDoorRdL
import Derived.Test.YtfjlilpebhiogaaGreatDoorPackAa
/- Reading points and masks: the plain law. -/
set_option linter.unusedSimpArgs false
set_option linter.unusedVariables false
namespace Go.Proofs.YtfjlilpebhiogaaGreatDoor
/-! ### Points -/
def colA (s : ByteArray) : ByteArray := ⟨(Lib.cut s.data.toList [58]).1.toArray⟩
def colZ (s : ByteArray) : ByteArray := ⟨(Lib.cut s.data.toList [58]).2.1.toArray⟩
def ptI (s : ByteArray) : Bool := numK (colA s) && numK (colZ s) && isPointB (numV (colA s)) (numV (colZ s))
theorem dec_no58 (n : Int) : (58 : UInt8) ∉ (decB n).data.toList := fun hx => by
  rcases dec_byte hx with h | h
  · exact absurd h (by decide)
  · exact absurd h.2 (by decide)
theorem dec_no32 (n : Int) : (32 : UInt8) ∉ (decB n).data.toList := fun hx => by
  rcases dec_byte hx with h | h
  · exact absurd h (by decide)
  · exact absurd h.1 (by decide)
theorem pt_data (x y : Int) : (ptT x y).data.toList = (decB x).data.toList ++ 58 :: (decB y).data.toList := by
  unfold ptT
  simp
theorem index_hit : ∀ {x r : List UInt8} {c : UInt8}, c ∉ x → Lib.index (x ++ c :: r) [c] = x.length
  | [], r, c, _ => by unfold Lib.index; simp [List.isPrefixOf]
  | b :: x, r, c, h => by
    have hb : (c == b) = false := by rw [beq_eq_false_iff_ne]; rintro rfl; exact h (by simp)
    have ih := index_hit (x := x) (r := r) (c := c) (fun hc => h (by simp [hc]))
    have hp : ([c] : List UInt8).isPrefixOf (b :: (x ++ c :: r)) = false := by simp [List.isPrefixOf, hb]
    show Lib.index (b :: (x ++ c :: r)) [c] = _
    unfold Lib.index
    rw [hp, ih]
    have : (((x.length : Nat) : Int) == -1) = false := by rw [beq_eq_false_iff_ne]; omega
    simp [this]
theorem index_miss : ∀ {x : List UInt8} {c : UInt8}, c ∉ x → Lib.index x [c] = -1
  | [], c, _ => by unfold Lib.index; simp
  | b :: x, c, h => by
    have hb : (c == b) = false := by rw [beq_eq_false_iff_ne]; rintro rfl; exact h (by simp)
    have ih := index_miss (x := x) (c := c) (fun hc => h (by simp [hc]))
    have hp : ([c] : List UInt8).isPrefixOf (b :: x) = false := by simp [List.isPrefixOf, hb]
    unfold Lib.index
    rw [hp, ih]
    simp
theorem col_hit {s : ByteArray} {x r : List UInt8} (h : s.data.toList = x ++ 58 :: r) (hx : (58 : UInt8) ∉ x) : colA s = ⟨x.toArray⟩ ∧ colZ s = ⟨r.toArray⟩ := by
  have hi := index_hit (r := r) hx
  unfold colA colZ Lib.cut
  rw [h, hi, if_pos (by omega)]
  refine ⟨?_, ?_⟩
  · show (⟨(List.take _ _).toArray⟩ : ByteArray) = _
    rw [show ((x.length : Nat) : Int).toNat = x.length from by omega, List.take_left]
  · show (⟨(List.drop _ _).toArray⟩ : ByteArray) = _
    rw [show ((x.length : Nat) : Int).toNat + ([58] : List UInt8).length = x.length + 1 from by simp, ← List.drop_drop, List.drop_left]
    rfl
theorem col_miss {s : ByteArray} (h : (58 : UInt8) ∉ s.data.toList) : colA s = s ∧ colZ s = ByteArray.empty := by
  unfold colA colZ Lib.cut
  rw [index_miss h, if_neg (by omega)]
  exact ⟨rfl, rfl⟩
theorem numK_dec {s : ByteArray} (h : numK s = true) : decB (numV s) = s := by
  unfold numK numV at *
  split at h
  · rename_i v hv
    rw [hv]
    exact of_decide_eq_true h
  · cases h
theorem decB_ne (n : Int) : decB n ≠ ByteArray.empty := by
  intro h
  have h1 : Lib.itoa n = [] := by
    have := congrArg (fun (x : ByteArray) => x.data.toList) h
    simpa [decB] using this
  unfold Lib.itoa at h1
  split at h1
  · cases h1
  · exact decDigits_ne _ h1
theorem numK_of (n : Int) (h0 : -1000000 ≤ n) (h1 : n ≤ 1000000) : numK (decB n) = true := by
  unfold numK
  rw [show (decB n).data.toList = Lib.itoa n from rfl, parse_itoa n h0 h1]
  exact decide_eq_true rfl
theorem mem_split {c : UInt8} {l : List UInt8} (h : c ∈ l) : ∃ x r, l = x ++ c :: r ∧ c ∉ x := by
  induction l with
  | nil => cases h
  | cons b l ih =>
    by_cases hb : b = c
    · subst hb
      exact ⟨[], l, rfl, by simp⟩
    · rcases List.mem_cons.1 h with h | h
      · exact absurd h.symm hb
      · obtain ⟨x, r, e, hx⟩ := ih h
        refine ⟨b :: x, r, by rw [e]; rfl, fun hc => ?_⟩
        rcases List.mem_cons.1 hc with h | h
        · exact hb h.symm
        · exact hx h
theorem ptI_text {s : ByteArray} (h : ptI s = true) : s = ptT (numV (colA s)) (numV (colZ s)) ∧ isPointB (numV (colA s)) (numV (colZ s)) = true := by
  unfold ptI at h
  simp only [Bool.and_eq_true] at h
  obtain ⟨⟨h1, h2⟩, h3⟩ := h
  refine ⟨?_, h3⟩
  have e1 := numK_dec h1
  have e2 := numK_dec h2
  unfold ptT
  rw [e1, e2]
  by_cases hm : (58 : UInt8) ∈ s.data.toList
  · obtain ⟨x, r, e, hx⟩ := mem_split hm
    obtain ⟨a1, a2⟩ := col_hit e hx
    rw [a1, a2]
    apply ByteArray.ext
    apply Array.toList_inj.1
    rw [e]
    simp
  · obtain ⟨a1, a2⟩ := col_miss hm
    rw [a2] at e2
    exact absurd e2 (decB_ne _)
theorem ptI_of {x y : Int} (h : isPointB x y = true) : ptI (ptT x y) = true ∧ numV (colA (ptT x y)) = x ∧ numV (colZ (ptT x y)) = y := by
  have hb := isPointB_iff.1 h
  obtain ⟨a1, a2⟩ := col_hit (pt_data x y) (dec_no58 x)
  have e1 : (⟨(decB x).data.toList.toArray⟩ : ByteArray) = decB x := bytesOf_data _
  have e2 : (⟨(decB y).data.toList.toArray⟩ : ByteArray) = decB y := bytesOf_data _
  rw [e1] at a1
  rw [e2] at a2
  unfold ptI
  rw [a1, a2, numV_dec x (by omega) (by omega), numV_dec y (by omega) (by omega), numK_of x (by omega) (by omega), numK_of y (by omega) (by omega), h]
  exact ⟨rfl, rfl, rfl⟩
/-- The reference's point. -/
noncomputable def ptS (s : ByteArray) : Bool := match piecesS 58 s with
  | [a, b] => sgnK a && sgnK b && isPointB (sgnV a) (sgnV b) && decide (ptT (sgnV a) (sgnV b) = s)
  | _ => false
noncomputable def ptSx (s : ByteArray) : Int := if ptS s then (match piecesS 58 s with | [a, _] => sgnV a | _ => 0) else 0
noncomputable def ptSy (s : ByteArray) : Int := if ptS s then (match piecesS 58 s with | [_, b] => sgnV b | _ => 0) else 0
theorem pieces_pt (x y : Int) : piecesS 58 (ptT x y) = [decB x, decB y] := by
  unfold piecesS
  rw [pt_data, splitL_hit (dec_no58 x), splitL_miss (dec_no58 y)]
  simp only [List.map_cons, List.map_nil, bytesOf_data]
theorem ptS_of {x y : Int} (h : isPointB x y = true) : ptS (ptT x y) = true ∧ ptSx (ptT x y) = x ∧ ptSy (ptT x y) = y := by
  have hb := isPointB_iff.1 h
  have e := pieces_pt x y
  obtain ⟨a1, a2⟩ := sgn_dec x (by omega) (by omega)
  obtain ⟨b1, b2⟩ := sgn_dec y (by omega) (by omega)
  have k : ptS (ptT x y) = true := by
    unfold ptS
    rw [e]
    simp only [a1, a2, b1, b2, h, decide_true, Bool.and_self]
  refine ⟨k, ?_, ?_⟩
  · unfold ptSx
    rw [k, e, if_pos rfl]
    exact a1
  · unfold ptSy
    rw [k, e, if_pos rfl]
    exact b1
/-! ### Masks -/
/-- The cells of a word. -/
def wordC (t : ByteArray) : List Bool := t.data.toList.map fun b => b == 35
def hashB (b : UInt8) : Bool := b == 35 || b == 46
theorem wordC_len (t : ByteArray) : (wordC t).length = t.size := by
  unfold wordC
  rw [List.length_map, Array.length_toList]
  rfl
theorem wordC_rowT (l : List Bool) : wordC (rowT l) = l := by
  unfold wordC rowT
  simp only [List.map_map]
  conv => rhs; rw [← List.map_id l]
  apply List.map_congr_left
  intro b _
  cases b <;> rfl
theorem rowT_wordC {t : ByteArray} (h : t.data.toList.all hashB = true) : rowT (wordC t) = t := by
  unfold wordC rowT
  rw [List.map_map]
  apply ByteArray.ext
  apply Array.toList_inj.1
  simp only
  conv => rhs; rw [← List.map_id t.data.toList]
  apply List.map_congr_left
  intro b hb
  have := List.all_eq_true.1 h b hb
  unfold hashB at this
  rw [Bool.or_eq_true, beq_iff_eq, beq_iff_eq] at this
  rcases this with rfl | rfl <;> rfl
theorem rowT_marks (l : List Bool) : (rowT l).data.toList.all hashB = true := by
  unfold rowT
  rw [List.all_eq_true]
  intro b hb
  simp only [List.mem_map] at hb
  obtain ⟨c, _, rfl⟩ := hb
  cases c <;> rfl
theorem rowT_no32 (l : List Bool) : (32 : UInt8) ∉ (rowT l).data.toList := fun h => by
  have := List.all_eq_true.1 (rowT_marks l) _ h
  revert this
  decide
/-- Words with a blank ahead of each, in a row. -/
def flatW (L : List (List UInt8)) : List UInt8 := L.flatMap fun t => 32 :: t
theorem fold_data : ∀ (L : List ByteArray) (s : ByteArray), (L.foldl spB s).data.toList = s.data.toList ++ flatW (L.map (·.data.toList))
  | [], s => by simp [flatW]
  | b :: L, s => by
    rw [List.foldl_cons, fold_data L]
    simp [flatW, spB]
theorem split_flat : ∀ (L : List (List UInt8)) (a : List UInt8), (32 : UInt8) ∉ a → (∀ t ∈ L, (32 : UInt8) ∉ t) → splitL 32 (a ++ flatW L) = a :: L
  | [], a, ha, _ => by simp [flatW, splitL_miss ha]
  | b :: L, a, ha, hL => by
    have e : a ++ flatW (b :: L) = a ++ 32 :: (b ++ flatW L) := by simp [flatW]
    rw [e, splitL_hit ha, split_flat L b (hL b (by simp)) fun t ht => hL t (by simp [ht])]
theorem join_split : ∀ (l : List UInt8) (a : List UInt8) (L : List (List UInt8)), splitL 32 l = a :: L → l = a ++ flatW L
  | [], a, L, h => by
    simp only [splitL, List.cons.injEq] at h
    obtain ⟨rfl, rfl⟩ := h
    rfl
  | b :: l, a, L, h => by
    unfold splitL at h
    cases hs : splitL 32 l with
    | nil => exact absurd hs (splitL_ne 32 l)
    | cons y r =>
      have ih := join_split l y r hs
      rw [hs] at h
      cases hb : b == 32
      · rw [hb] at h
        simp only [Bool.false_eq_true, if_false, List.cons.injEq] at h
        obtain ⟨rfl, rfl⟩ := h
        rw [ih]
        rfl
      · rw [hb] at h
        simp only [if_true, List.cons.injEq] at h
        obtain ⟨rfl, rfl⟩ := h
        rw [beq_iff_eq] at hb
        rw [ih, hb]
        simp [flatW]
theorem pieces_mask (x y : Int) (W H : Nat) (l : List Bool) : piecesS 32 (maskT x y W H l) = ptT x y :: rowsT W H l H := by
  have no : (32 : UInt8) ∉ (ptT x y).data.toList := by
    rw [pt_data]
    intro h
    rcases List.mem_append.1 h with h | h
    · exact dec_no32 x h
    · rcases List.mem_cons.1 h with h | h
      · exact absurd h (by decide)
      · exact dec_no32 y h
  unfold piecesS maskT maskTo
  rw [fold_data, split_flat _ _ no]
  · simp only [List.map_cons, bytesOf_data, List.map_map]
    congr 1
    conv => rhs; rw [← List.map_id (rowsT W H l H)]
    apply List.map_congr_left
    intro t _
    exact bytesOf_data t
  · intro t ht
    simp only [rowsT, List.map_map, List.mem_map] at ht
    obtain ⟨i, _, rfl⟩ := ht
    exact rowT_no32 _
theorem text_of_pieces {s w0 : ByteArray} {R : List ByteArray} (h : piecesS 32 s = w0 :: R) : R.foldl spB w0 = s := by
  unfold piecesS at h
  cases hs : splitL 32 s.data.toList with
  | nil => exact absurd hs (splitL_ne 32 _)
  | cons a L =>
    have hj := join_split _ _ _ hs
    rw [hs, List.map_cons, List.cons.injEq] at h
    obtain ⟨rfl, rfl⟩ := h
    apply ByteArray.ext
    apply Array.toList_inj.1
    rw [fold_data, hj, data_bytesOf, List.map_map]
    congr 2
    conv => rhs; rw [← List.map_id L]
    apply List.map_congr_left
    intro t _
    exact data_bytesOf t
theorem flat_row {W : Nat} : ∀ (L : List (List Bool)) (r : Nat) (h : r < L.length), (∀ x ∈ L, x.length = W) → rowL W L.flatten r = L[r]
  | x :: L, 0, _, hL => by
    have := hL x (by simp)
    simp [rowL, ← this]
  | x :: L, r + 1, h, hL => by
    have hx := hL x (by simp)
    have ih := flat_row L r (by simpa using h) fun y hy => hL y (by simp [hy])
    unfold rowL at ih ⊢
    have e : (r + 1) * W = x.length + r * W := by rw [Nat.succ_mul, hx, Nat.add_comm]
    rw [e, ← List.drop_drop, List.flatten_cons, List.drop_left]
    simpa using ih
/-- The cells that rows of a text, the top first, tell. -/
def cellsR (R : List ByteArray) : List Bool := (R.reverse.map wordC).flatten
theorem rows_cells {W : Nat} {R : List ByteArray} (h : ∀ t ∈ R, t.size = W ∧ t.data.toList.all hashB = true) : rowsT W R.length (cellsR R) R.length = R := by
  apply List.ext_getElem (by simp [rowsT])
  intro i h1 h2
  have h3 : R.length - 1 - i < (R.reverse.map wordC).length := by simp; omega
  have e := flat_row (W := W) (R.reverse.map wordC) (R.length - 1 - i) h3 fun x hx => by
    simp only [List.mem_map, List.mem_reverse] at hx
    obtain ⟨t, ht, rfl⟩ := hx
    rw [wordC_len, (h t ht).1]
  simp only [rowsT, List.getElem_map, List.getElem_range]
  unfold cellsR
  rw [e, List.getElem_map, List.getElem_reverse]
  have hi : R.length - 1 - (R.length - 1 - i) = i := by omega
  simp only [hi]
  exact rowT_wordC (h _ (List.getElem_mem h2)).2
theorem flat_take {W : Nat} {l : List Bool} : ∀ H, H * W ≤ l.length → ((List.range H).map (rowL W l)).flatten = l.take (H * W)
  | 0, _ => by simp
  | H + 1, h => by
    have e : (H + 1) * W = H * W + W := Nat.succ_mul H W
    rw [List.range_succ, List.map_append, List.flatten_append, flat_take H (by omega), e, List.take_add]
    simp [rowL]
theorem cells_rows {W H : Nat} {l : List Bool} (h : l.length = H * W) : cellsR (rowsT W H l H) = l := by
  have e : (rowsT W H l H).reverse.map wordC = (List.range H).map (rowL W l) := by
    apply List.ext_getElem (by simp [rowsT])
    intro i h1 h2
    have hi : i < H := by simpa using h2
    simp only [List.getElem_map, List.getElem_reverse, rowsT, List.length_map, List.length_range, List.getElem_range]
    rw [wordC_rowT]
    congr 1
    omega
  unfold cellsR
  rw [e, flat_take H (by omega), ← h, List.take_length]
/-- A valid mask and its text. -/
def MT (s : ByteArray) (x y : Int) (W H : Nat) (l : List Bool) : Prop := isMaskB x y W H l.length = true ∧ maskT x y W H l = s
theorem rowsT_len (W H : Nat) (l : List Bool) (k : Nat) : (rowsT W H l k).length = k := by simp [rowsT]
theorem rowsT_mem {W H : Nat} {l : List Bool} (h : l.length = H * W) {t : ByteArray} (ht : t ∈ rowsT W H l H) : t.size = W ∧ t.data.toList.all hashB = true := by
  simp only [rowsT, List.mem_map, List.mem_range] at ht
  obtain ⟨i, hi, rfl⟩ := ht
  refine ⟨?_, rowT_marks _⟩
  rw [rowT_size]
  refine rowL_len ?_
  rw [h]
  exact Nat.mul_le_mul_right W (by omega)
/-- What a valid mask's text is read as. -/
theorem MT.parts {s w0 : ByteArray} {R : List ByteArray} {x y : Int} {W H : Nat} {l : List Bool} (h : MT s x y W H l) (hp : piecesS 32 s = w0 :: R) :
    w0 = ptT x y ∧ R.length = H ∧ (∀ t ∈ R, t.size = W ∧ t.data.toList.all hashB = true) ∧ cellsR R = l ∧ 1 ≤ W ∧ W ≤ 24 ∧ 1 ≤ H ∧ H ≤ 24 ∧ isPointB x y = true := by
  obtain ⟨hm, rfl⟩ := h
  obtain ⟨d1, d2, d3, d4, d5, d6⟩ := mask_dims hm
  rw [pieces_mask, List.cons.injEq] at hp
  obtain ⟨rfl, rfl⟩ := hp
  exact ⟨rfl, rowsT_len _ _ _ _, fun t ht => rowsT_mem d5 ht, cells_rows d5, d1, d2, d3, d4, d6⟩
theorem MT.unique {s : ByteArray} {x y x' y' : Int} {W H W' H' : Nat} {l l' : List Bool} (h : MT s x y W H l) (h' : MT s x' y' W' H' l') : x = x' ∧ y = y' ∧ W = W' ∧ H = H' ∧ l = l' := by
  obtain ⟨w0, R, hp⟩ : ∃ w0 R, piecesS 32 s = w0 :: R := by rw [← h.2]; exact ⟨_, _, pieces_mask _ _ _ _ _⟩
  obtain ⟨a1, a2, a3, a4, a5, a6, a7, a8, a9⟩ := h.parts hp
  obtain ⟨b1, b2, b3, b4, b5, b6, b7, b8, b9⟩ := h'.parts hp
  have p1 := ptI_of a9
  have p2 := ptI_of b9
  rw [← a1] at p1
  rw [← b1] at p2
  have hR : ∃ t, t ∈ R := by
    cases R with
    | nil => simp at a2; omega
    | cons t _ => exact ⟨t, by simp⟩
  obtain ⟨t, ht⟩ := hR
  exact ⟨p1.2.1.symm.trans p2.2.1, p1.2.2.symm.trans p2.2.2, (a3 t ht).1.symm.trans (b3 t ht).1, a2.symm.trans b2, a4.symm.trans b4⟩
/-- Words that are as a valid mask's text make one. -/
theorem MT.make {s w0 : ByteArray} {R : List ByteArray} {W : Nat} (hp : piecesS 32 s = w0 :: R) (h0 : ptI w0 = true) (hR : ∀ t ∈ R, t.size = W ∧ t.data.toList.all hashB = true)
    (hm : isMaskB (numV (colA w0)) (numV (colZ w0)) W R.length (cellsR R).length = true) : MT s (numV (colA w0)) (numV (colZ w0)) W R.length (cellsR R) := by
  refine ⟨hm, ?_⟩
  unfold maskT maskTo
  rw [rows_cells hR, ← (ptI_text h0).1]
  exact text_of_pieces hp
/-- What reading a text gives. -/
def RdM (s : ByteArray) (X Y W H code : Int) (L : List Bool) : Prop :=
  (∃ Wn Hn : Nat, W = Wn ∧ H = Hn ∧ code = 0 ∧ MT s X Y Wn Hn L) ∨ ((∀ x y Wn Hn l, ¬ MT s x y Wn Hn l) ∧ X = 0 ∧ Y = 0 ∧ W = 0 ∧ H = 0 ∧ code = 6 ∧ L = [])
theorem rdM_ex (s : ByteArray) : ∃ X Y W H code L, RdM s X Y W H code L := by
  by_cases h : ∃ x y Wn Hn l, MT s x y Wn Hn l
  · obtain ⟨x, y, W, H, l, h⟩ := h
    exact ⟨x, y, W, H, 0, l, .inl ⟨W, H, rfl, rfl, rfl, h⟩⟩
  · exact ⟨0, 0, 0, 0, 6, [], .inr ⟨fun x y W H l hh => h ⟨x, y, W, H, l, hh⟩, rfl, rfl, rfl, rfl, rfl, rfl⟩⟩
theorem RdM.yes {s : ByteArray} {X Y W H code : Int} {L : List Bool} (h : RdM s X Y W H code L) {x y : Int} {Wn Hn : Nat} {l : List Bool} (hm : MT s x y Wn Hn l) : X = x ∧ Y = y ∧ W = Wn ∧ H = Hn ∧ code = 0 ∧ L = l := by
  rcases h with ⟨Wn', Hn', rfl, rfl, rfl, h'⟩ | ⟨h', -⟩
  · obtain ⟨rfl, rfl, rfl, rfl, rfl⟩ := h'.unique hm
    exact ⟨rfl, rfl, rfl, rfl, rfl, rfl⟩
  · exact absurd hm (h' _ _ _ _ _)
theorem RdM.no {s : ByteArray} {X Y W H code : Int} {L : List Bool} (h : RdM s X Y W H code L) (hn : ∀ x y Wn Hn l, ¬ MT s x y Wn Hn l) : X = 0 ∧ Y = 0 ∧ W = 0 ∧ H = 0 ∧ code = 6 ∧ L = [] := by
  rcases h with ⟨Wn', Hn', rfl, rfl, rfl, h'⟩ | ⟨-, h'⟩
  · exact absurd h' (hn _ _ _ _ _)
  · exact h'
end Go.Proofs.YtfjlilpebhiogaaGreatDoor
