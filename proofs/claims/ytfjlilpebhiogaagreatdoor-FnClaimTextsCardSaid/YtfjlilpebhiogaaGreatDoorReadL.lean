import Derived.Test.YtfjlilpebhiogaaGreatDoorTextC
import Derived.Test.YtfjlilpebhiogaaGreatDoorRdL
import Derived.Test.YtfjlilpebhiogaaGreatDoorPackA
import Derived.Lib.IndexMore
/- Reading the texts of numbers, spans and claims: plain facts. -/
set_option linter.unusedSimpArgs false
set_option linter.unusedVariables false
namespace Go.Proofs.YtfjlilpebhiogaaGreatDoor
/-! ### The parts -/
theorem phrase_mem : ∀ {l : List UInt8} {x : UInt8}, x ∈ l → x = 32 ∨ ∃ p ∈ splitL 32 l, x ∈ p
  | [], x, h => by cases h
  | b :: l, x, h => by
    unfold splitL
    cases hb : b == 32
    · simp only [Bool.false_eq_true, if_false]
      cases hs : splitL 32 l with
      | nil => exact absurd hs (splitL_ne 32 l)
      | cons y r =>
        rcases List.mem_cons.1 h with rfl | h
        · exact .inr ⟨_, List.mem_cons_self .., List.mem_cons_self ..⟩
        · rcases phrase_mem h with rfl | ⟨p, hp, hx⟩
          · exact .inl rfl
          · rw [hs] at hp
            rcases List.mem_cons.1 hp with rfl | hp
            · exact .inr ⟨_, List.mem_cons_self .., List.mem_cons_of_mem _ hx⟩
            · exact .inr ⟨p, List.mem_cons_of_mem _ hp, hx⟩
    · simp only [if_true]
      rcases List.mem_cons.1 h with rfl | h
      · exact .inl (by simpa using hb)
      · rcases phrase_mem h with rfl | ⟨p, hp, hx⟩
        · exact .inl rfl
        · exact .inr ⟨p, List.mem_cons_of_mem _ hp, hx⟩
theorem word_letter {s : ByteArray} (h : wordB s = true) {x : UInt8} (hx : x ∈ s.data.toList) : 97 ≤ x.toNat ∧ x.toNat ≤ 122 := by
  unfold wordB wordL at h
  rw [Bool.and_eq_true, List.all_eq_true] at h
  have := h.2 x hx
  simpa [letterB] using this
theorem phrase_letter {s : ByteArray} (h : phraseB s = true) {x : UInt8} (hx : x ∈ s.data.toList) : x = 32 ∨ (97 ≤ x.toNat ∧ x.toNat ≤ 122) := by
  unfold phraseB phraseL at h
  rw [Bool.and_eq_true, List.all_eq_true] at h
  rcases phrase_mem hx with rfl | ⟨p, hp, hxp⟩
  · exact .inl rfl
  · have h2 := h.2 p hp
    unfold wordL at h2
    rw [Bool.and_eq_true, List.all_eq_true] at h2
    have := h2.2 x hxp
    exact .inr (by simpa [letterB] using this)
theorem not_word {s : ByteArray} (h : wordB s = true) : (47 : UInt8) ∉ s.data.toList := fun hx => absurd (word_letter h hx).1 (by decide)
theorem span_data (f t : Int) : (spanT f t).data.toList = (decB f).data.toList ++ 46 :: 46 :: (decB t).data.toList := by
  unfold spanT
  simp
theorem span_no47 (f t : Int) : (47 : UInt8) ∉ (spanT f t).data.toList := by
  rw [span_data]
  intro h
  rcases List.mem_append.1 h with h | h
  · exact dec_no47 f h
  · rcases List.mem_cons.1 h with h | h
    · exact absurd h (by decide)
    · rcases List.mem_cons.1 h with h | h
      · exact absurd h (by decide)
      · exact dec_no47 t h
theorem value_letter {c : Clm} (h : valueB c = true) {x : UInt8} (hx : x ∈ c.val.data.toList) : x = 32 ∨ (97 ≤ x.toNat ∧ x.toNat ≤ 122) := by
  unfold valueB at h
  split at h
  · exact phrase_letter h hx
  · split at h
    · rw [Bool.and_eq_true] at h
      exact .inr (word_letter h.1 hx)
    · split at h
      · have := of_decide_eq_true h
        rw [this] at hx
        cases hx
      · cases h
/-- A dot for none, read. -/
noncomputable def fromB (s : ByteArray) : ByteArray := if s = ⟨#[46]⟩ then ByteArray.empty else s
theorem from_dot {c : Clm} (h : valueB c = true) : fromB (dotB c.val) = c.val := by
  unfold dotB
  split
  · rename_i he
    unfold fromB
    rw [if_pos rfl, he]
  · unfold fromB
    rw [if_neg]
    intro he
    have h1 := value_letter h (x := 46) (by rw [he]; simp)
    exact absurd h1 (by decide)
theorem dot_no47 {c : Clm} (h : valueB c = true) : (47 : UInt8) ∉ (dotB c.val).data.toList := by
  intro hx
  unfold dotB at hx
  split at hx
  · revert hx; decide
  · exact absurd (value_letter h hx) (by decide)
theorem pieces_six {a b c d e f : ByteArray} (ha : (47 : UInt8) ∉ a.data.toList) (hb : (47 : UInt8) ∉ b.data.toList) (hc : (47 : UInt8) ∉ c.data.toList) (hd : (47 : UInt8) ∉ d.data.toList) (he : (47 : UInt8) ∉ e.data.toList) (hf : (47 : UInt8) ∉ f.data.toList) :
    piecesS 47 (a ++ ⟨#[47]⟩ ++ b ++ ⟨#[47]⟩ ++ c ++ ⟨#[47]⟩ ++ d ++ ⟨#[47]⟩ ++ e ++ ⟨#[47]⟩ ++ f) = [a, b, c, d, e, f] := by
  unfold piecesS
  have e1 : (a ++ ⟨#[47]⟩ ++ b ++ ⟨#[47]⟩ ++ c ++ ⟨#[47]⟩ ++ d ++ ⟨#[47]⟩ ++ e ++ ⟨#[47]⟩ ++ f : ByteArray).data.toList = a.data.toList ++ 47 :: (b.data.toList ++ 47 :: (c.data.toList ++ 47 :: (d.data.toList ++ 47 :: (e.data.toList ++ 47 :: f.data.toList)))) := by simp
  rw [e1, splitL_hit ha, splitL_hit hb, splitL_hit hc, splitL_hit hd, splitL_hit he, splitL_miss hf]
  simp only [List.map_cons, List.map_nil, bytesOf_data]
theorem pieces_clm {c : Clm} (h : claimB c = true) : piecesS 47 (clmT c) = [c.src, decB c.kind, c.place, dotB c.val, spanT c.fr c.to, decB c.wt] := by
  unfold claimB at h
  simp only [Bool.and_eq_true] at h
  obtain ⟨⟨⟨⟨h1, h2⟩, h3⟩, h4⟩, h5⟩ := h
  exact pieces_six (not_word h1) (dec_no47 _) (not_word h2) (dot_no47 h3) (span_no47 _ _) (dec_no47 _)
theorem pieces_span (f t : Int) : piecesS 46 (spanT f t) = [decB f, ByteArray.empty, decB t] := by
  unfold piecesS
  have e0 : splitL 46 (46 :: (decB t).data.toList) = [] :: splitL 46 (decB t).data.toList := splitL_hit (c := 46) (x := []) (by simp)
  rw [span_data, splitL_hit (dec_no46 f), e0, splitL_miss (dec_no46 t)]
  simp only [List.map_cons, List.map_nil, bytesOf_data]
  rfl
theorem index_dots : ∀ {x r : List UInt8}, (46 : UInt8) ∉ x → Lib.index (x ++ 46 :: 46 :: r) [46, 46] = x.length
  | [], r, _ => by unfold Lib.index; simp [List.isPrefixOf]
  | b :: x, r, h => by
    have hb : ((46 : UInt8) == b) = false := by rw [beq_eq_false_iff_ne]; rintro rfl; exact h (by simp)
    have ih := index_dots (x := x) (r := r) (fun hc => h (by simp [hc]))
    have hp : ([46, 46] : List UInt8).isPrefixOf (b :: (x ++ 46 :: 46 :: r)) = false := by simp [List.isPrefixOf, hb]
    show Lib.index (b :: (x ++ 46 :: 46 :: r)) [46, 46] = _
    unfold Lib.index
    rw [hp, ih]
    have : (((x.length : Nat) : Int) == -1) = false := by rw [beq_eq_false_iff_ne]; omega
    simp [this]
def cutA (s : ByteArray) : ByteArray := ⟨(Lib.cut s.data.toList [46, 46]).1.toArray⟩
def cutZ (s : ByteArray) : ByteArray := ⟨(Lib.cut s.data.toList [46, 46]).2.1.toArray⟩
theorem cut_span (f t : Int) : cutA (spanT f t) = decB f ∧ cutZ (spanT f t) = decB t := by
  have hi := index_dots (x := (decB f).data.toList) (r := (decB t).data.toList) (dec_no46 f)
  unfold cutA cutZ Lib.cut
  rw [span_data, hi, if_pos (by omega)]
  constructor
  · show bytesOf _ = _
    rw [show ((((decB f).data.toList.length : Nat) : Int)).toNat = (decB f).data.toList.length from by omega, List.take_left, bytesOf_data]
  · show bytesOf _ = _
    rw [show ((((decB f).data.toList.length : Nat) : Int)).toNat + ([46, 46] : List UInt8).length = (decB f).data.toList.length + 2 from by simp, ← List.drop_drop, List.drop_left]
    exact bytesOf_data _
/-! ### Claims, read -/
def clm0 : Clm := ⟨ByteArray.empty, 0, ByteArray.empty, ByteArray.empty, 0, 0, 0⟩
/-- The reference's span. -/
noncomputable def spnK (s : ByteArray) : Bool := match piecesS 46 s with
  | [a, m, b] => decide (m = ByteArray.empty) && sgnK a && sgnK b && spanB (sgnV a) (sgnV b) && decide (spanT (sgnV a) (sgnV b) = s)
  | _ => false
noncomputable def spnF (s : ByteArray) : Int := if spnK s then (match piecesS 46 s with | [a, _, _] => sgnV a | _ => 0) else 0
noncomputable def spnT (s : ByteArray) : Int := if spnK s then (match piecesS 46 s with | [_, _, b] => sgnV b | _ => 0) else 0
noncomputable def rdI (a b c d e f : ByteArray) : Clm := ⟨a, numV b, c, fromB d, numV (cutA e), numV (cutZ e), numV f⟩
noncomputable def rdS (a b c d e f : ByteArray) : Clm := ⟨a, valV b, c, fromB d, spnF e, spnT e, valV f⟩
noncomputable def okI (s a b c d e f : ByteArray) : Bool := claimB (rdI a b c d e f) && decide (clmT (rdI a b c d e f) = s)
noncomputable def okS (s a b c d e f : ByteArray) : Bool := valK b && valK f && spnK e && claimB (rdS a b c d e f) && decide (clmT (rdS a b c d e f) = s)
theorem spn_dec {f t : Int} (h : spanB f t = true) (hf : -1000000 ≤ f ∧ f ≤ 1000000) (ht : -1000000 ≤ t ∧ t ≤ 1000000) : spnK (spanT f t) = true ∧ spnF (spanT f t) = f ∧ spnT (spanT f t) = t := by
  have e := pieces_span f t
  obtain ⟨a1, a2⟩ := sgn_dec f hf.1 hf.2
  obtain ⟨b1, b2⟩ := sgn_dec t ht.1 ht.2
  have k : spnK (spanT f t) = true := by
    unfold spnK
    rw [e]
    simp only [a1, a2, b1, b2, h, decide_true, Bool.and_self]
  refine ⟨k, ?_, ?_⟩
  · unfold spnF
    rw [k, e, if_pos rfl]
    exact a1
  · unfold spnT
    rw [k, e, if_pos rfl]
    exact b1
/-- The six parts of a valid claim's text are read alike. -/
theorem rd_of {s a b c d e f : ByteArray} {x : Clm} (hp : piecesS 47 s = [a, b, c, d, e, f]) (h : claimB x = true) (hs : clmT x = s) :
    rdI a b c d e f = x ∧ rdS a b c d e f = x ∧ valK b = true ∧ valK f = true ∧ spnK e = true := by
  rw [← hs, pieces_clm h] at hp
  simp only [List.cons.injEq, and_true] at hp
  obtain ⟨rfl, rfl, rfl, rfl, rfl, rfl⟩ := hp
  have h' := h
  unfold claimB at h'
  simp only [Bool.and_eq_true] at h'
  obtain ⟨⟨⟨⟨h1, h2⟩, h3⟩, h4⟩, h5⟩ := h'
  have hsp := h4
  unfold spanB at h4
  simp only [Bool.and_eq_true, inB_iff] at h4
  rw [inB_iff] at h5
  have hk : 0 ≤ x.kind ∧ x.kind ≤ 3 := by
    unfold valueB at h3
    split at h3
    · omega
    · split at h3
      · omega
      · split at h3
        · omega
        · cases h3
  obtain ⟨K, hK⟩ := Int.eq_ofNat_of_zero_le hk.1
  obtain ⟨U, hU⟩ := Int.eq_ofNat_of_zero_le (show 0 ≤ x.wt by omega)
  obtain ⟨c1, c2⟩ := cut_span x.fr x.to
  obtain ⟨p1, p2, p3⟩ := spn_dec hsp (by omega) (by omega)
  have k1 := valV_dec K (by omega)
  have k2 := valK_dec K (by omega)
  have u1 := valV_dec U (by omega)
  have u2 := valK_dec U (by omega)
  rw [← hK] at k1 k2
  rw [← hU] at u1 u2
  refine ⟨?_, ?_, k2, u2, p1⟩
  · unfold rdI
    rw [c1, c2, numV_dec _ (by omega) (by omega), numV_dec _ (by omega) (by omega), numV_dec _ (by omega) (by omega), numV_dec _ (by omega) (by omega), from_dot h3]
  · unfold rdS
    rw [k1, u1, p2, p3, from_dot h3]
theorem ok_same {s a b c d e f : ByteArray} (hp : piecesS 47 s = [a, b, c, d, e, f]) : okI s a b c d e f = okS s a b c d e f ∧ (okI s a b c d e f = true → rdI a b c d e f = rdS a b c d e f) := by
  have h1 : okI s a b c d e f = true → okS s a b c d e f = true ∧ rdI a b c d e f = rdS a b c d e f := fun h => by
    unfold okI at h
    rw [Bool.and_eq_true, decide_eq_true_eq] at h
    obtain ⟨e1, e2, k1, k2, k3⟩ := rd_of hp h.1 h.2
    refine ⟨?_, e2.symm ▸ rfl⟩
    unfold okS
    rw [e2, k1, k2, k3, h.1]
    simp only [Bool.and_self, Bool.true_and, decide_eq_true_eq]
    exact h.2
  have h2 : okS s a b c d e f = true → okI s a b c d e f = true := fun h => by
    unfold okS at h
    simp only [Bool.and_eq_true, decide_eq_true_eq] at h
    obtain ⟨e1, e2, k1, k2, k3⟩ := rd_of hp h.1.2 h.2
    unfold okI
    rw [e1, h.1.2]
    simp only [Bool.true_and, decide_eq_true_eq]
    exact h.2
  refine ⟨?_, fun h => (h1 h).2⟩
  rw [Bool.eq_iff_iff]
  exact ⟨fun h => (h1 h).1, h2⟩
end Go.Proofs.YtfjlilpebhiogaaGreatDoor
