import Derived.Test.YtkkhjbdnpobpnaaMasksL
import Derived.Test.YtkkhjbdnpobpnaaPieceT
import Derived.Test.YtkkhjbdnpobpnaaPiecesOf
import Derived.Test.YtkkhjbdnpobpnaaMaskV
import Derived.Test.YtkkhjbdnpobpnaaRingM
/- Several of my texts, one behind the other: PcsL, PcsK. -/
/- One piece taken out of a mask: the plain law. What is left has one piece fewer, and the piece alone is one piece. -/
set_option linter.unusedSimpArgs false
set_option linter.unusedVariables false
namespace Go.Proofs.Ytkkhjbdnpobpnaa
section
variable {l : List Bool} {Nb : Nat → Int → Prop} {s : Nat}
theorem reach_mem (h : l[s]? = some true) {k : Nat} (hr : Reach l Nb s k) : l[k]? = some true := by
  cases hr with
  | start => exact h
  | step _ _ hm => exact hm
theorem reach_trans {a b c : Nat} (h1 : Reach l Nb a b) (h2 : Reach l Nb b c) : Reach l Nb a c := by
  induction h2 with
  | start => exact h1
  | step _ hn hm ih => exact .step ih hn hm
theorem lt_of_get {l : List Bool} {k : Nat} {b : Bool} (h : l[k]? = some b) : k < l.length := (List.getElem?_eq_some_iff.1 h).1
theorem reach_symm (hs : ∀ k k' : Nat, k < l.length → k' < l.length → Nb k k' → Nb k' k) (h : l[s]? = some true) {k : Nat} (hr : Reach l Nb s k) : Reach l Nb k s := by
  induction hr with
  | start => exact .start
  | @step k k' hr hn hm ih =>
    have hk := reach_mem h hr
    exact reach_trans (.step .start (hs k k' (lt_of_get hk) (lt_of_get hm) hn) hk) ih
theorem piece_same (hs : ∀ k k' : Nat, k < l.length → k' < l.length → Nb k k' → Nb k' k) (h : l[s]? = some true) {k : Nat} (hr : Reach l Nb s k) : pieceL l Nb k = pieceL l Nb s := by
  unfold pieceL
  apply List.map_congr_left
  intro i _
  have : Reach l Nb k i ↔ Reach l Nb s i := ⟨fun hi => reach_trans hr hi, fun hi => reach_trans (reach_symm hs h hr) hi⟩
  simp [this]
theorem piece_whole : Whole l Nb (pieceL l Nb s) :=
  ⟨length_pieceL, fun k k' hk hn hm => pieceL_get.2 ⟨lt_of_get hm, .step (pieceL_get.1 hk).2 hn hm⟩⟩
theorem piece_self (h : l[s]? = some true) : pieceL (pieceL l Nb s) Nb s = pieceL l Nb s := by
  have iff1 : ∀ k, Reach (pieceL l Nb s) Nb s k ↔ Reach l Nb s k := by
    intro k
    constructor
    · intro hk
      induction hk with
      | start => exact .start
      | step _ hn hm ih => exact .step ih hn (reach_mem h (pieceL_get.1 hm).2)
    · intro hk
      induction hk with
      | start => exact .start
      | @step k k' hr hn hm ih => exact .step ih hn (pieceL_get.2 ⟨lt_of_get hm, .step hr hn hm⟩)
  have key : ∀ q : List Bool, q.length = l.length → (∀ k, Reach q Nb s k ↔ Reach l Nb s k) → pieceL q Nb s = pieceL l Nb s := fun q hq hi => by
    unfold pieceL
    rw [hq]
    apply List.map_congr_left
    intro k _
    simp [hi k]
  exact key _ length_pieceL iff1
theorem nott_of {D D' q : List Bool} {b : Bool} {k : Nat} (hD : ∀ i : Nat, D[i]? = some true ↔ D'[i]? = some true ∨ (b = true ∧ q[i]? = some true)) (hb : b = true) (hq : q[k]? = some true) : D[k]? ≠ some false := by
  rw [(hD k).2 (.inr ⟨hb, hq⟩)]
  simp
open Classical in
theorem piece_out (hs : ∀ k k' : Nat, k < l.length → k' < l.length → Nb k k' → Nb k' k) (h : l[s]? = some true) : ∀ k, k ≤ l.length →
    ∃ b : Bool, (b = true ↔ ∃ j, j < k ∧ (pieceL l Nb s)[j]? = some true) ∧
      (∀ i : Nat, (pcs l Nb k).1[i]? = some true ↔ (pcs (minus l (pieceL l Nb s)) Nb k).1[i]? = some true ∨ (b = true ∧ (pieceL l Nb s)[i]? = some true)) ∧
      (pcs l Nb k).2.length = (pcs (minus l (pieceL l Nb s)) Nb k).2.length + (if b = true then 1 else 0) ∧
      (b = true → (cntB (pieceL l Nb s) l.length : Int) ∈ (pcs l Nb k).2)
  | 0, _ => ⟨false, by simp, by simp [pcs, length_minus], by simp [pcs], by simp⟩
  | k + 1, hk => by
    obtain ⟨b, hb, hD, hL, hC⟩ := piece_out hs h k (by omega)
    have hlq : (pieceL l Nb s).length = l.length := length_pieceL
    have hk1 : k < l.length := by omega
    have hkq : k < (pieceL l Nb s).length := by omega
    have hkm : k < (minus l (pieceL l Nb s)).length := by rw [length_minus]; omega
    have hkd : k < (pcs l Nb k).1.length := by rw [pcs_len]; omega
    have hkd' : k < (pcs (minus l (pieceL l Nb s)) Nb k).1.length := by rw [pcs_len]; omega
    have hsub : ∀ i : Nat, (pieceL l Nb s)[i]? = some true → l[i]? = some true := fun i hi => reach_mem h (pieceL_get.1 hi).2
    have hsm : ∀ k k' : Nat, k < (minus l (pieceL l Nb s)).length → k' < (minus l (pieceL l Nb s)).length → Nb k k' → Nb k' k := fun a a' h1 h2 => hs a a' (by rwa [length_minus] at h1) (by rwa [length_minus] at h2)
    have two : ∀ {l' : List Bool} {i : Nat}, i < l'.length → (l'[i]? = some true ∨ l'[i]? = some false) := fun {l'} {i} hi => by
      rw [List.getElem?_eq_getElem hi]
      cases l'[i] <;> simp
    have nott : ∀ {l' : List Bool} {i : Nat}, l'[i]? = some false → l'[i]? ≠ some true := fun h1 h2 => by rw [h1] at h2; cases h2
    have bstep : ∀ (b' : Bool), (pieceL l Nb s)[k]? ≠ some true → ((b = true ↔ ∃ j, j < k ∧ (pieceL l Nb s)[j]? = some true) → (b = true ↔ ∃ j, j < k + 1 ∧ (pieceL l Nb s)[j]? = some true)) := fun _ hq hbb => by
      rw [hbb]
      constructor
      · rintro ⟨j, h1, h2⟩; exact ⟨j, by omega, h2⟩
      · rintro ⟨j, h1, h2⟩
        refine ⟨j, ?_, h2⟩
        rcases Nat.lt_or_ge j k with h3 | h3
        · exact h3
        · obtain rfl : j = k := by omega
          exact absurd h2 hq
    rcases two hk1 with hl | hl
    · rcases two hkq with hq | hq
      · have hm : (minus l (pieceL l Nb s))[k]? ≠ some true := fun hc => nott ((minus_get hlq).1 hc).2 hq
        have hD' : (pcs (minus l (pieceL l Nb s)) Nb k).1[k]? ≠ some true := fun hc => hm ((pcs_all hsm k (by rw [length_minus]; omega)).2.1 k hc)
        rw [pcs_no _ _ (.inl hm)]
        cases b with
        | false =>
          have hf : (pcs l Nb k).1[k]? = some false := by
            rcases two hkd with h1 | h1
            · rcases (hD k).1 h1 with h2 | h2
              · exact absurd h2 hD'
              · cases h2.1
            · exact h1
          rw [pcs_yes _ _ hl hf, piece_same hs h (pieceL_get.1 hq).2]
          refine ⟨true, ⟨fun _ => ⟨k, by omega, hq⟩, fun _ => rfl⟩, fun i => ?_, ?_, fun _ => ?_⟩
          · rw [plus_get (by rw [length_pieceL, pcs_len]), hD i]
            simp
          · simp [hL]
          · simp
        | true =>
          rw [pcs_no _ _ (.inr (nott_of hD rfl hq))]
          exact ⟨true, ⟨fun _ => ⟨k, by omega, hq⟩, fun _ => rfl⟩, hD, hL, hC⟩
      · have hm : (minus l (pieceL l Nb s))[k]? = some true := (minus_get hlq).2 ⟨hl, hq⟩
        have hDk : (pcs l Nb k).1[k]? = some true ↔ (pcs (minus l (pieceL l Nb s)) Nb k).1[k]? = some true := by
          rw [hD k]
          exact ⟨fun h1 => h1.elim id fun h2 => absurd h2.2 (nott hq), .inl⟩
        rcases two hkd' with hd' | hd'
        · rw [pcs_no _ _ (.inr (fun hc => nott hc (hDk.2 hd'))), pcs_no _ _ (.inr (fun hc => nott hc hd'))]
          exact ⟨b, bstep b (nott hq) hb, hD, hL, hC⟩
        · have hd : (pcs l Nb k).1[k]? = some false := by
            rcases two hkd with h1 | h1
            · exact absurd (hDk.1 h1) (nott hd')
            · exact h1
          rw [pcs_yes _ _ hl hd, pcs_yes _ _ hm hd', piece_whole.piece hs hl hq, length_minus]
          refine ⟨b, bstep b (nott hq) hb, fun i => ?_, ?_, fun h1 => ?_⟩
          · rw [plus_get (by rw [length_pieceL, pcs_len]), plus_get (by rw [length_pieceL, pcs_len, length_minus]), hD i]
            constructor
            · rintro ((h1 | h1) | h1)
              · exact .inl (.inl h1)
              · exact .inr h1
              · exact .inl (.inr h1)
            · rintro ((h1 | h1) | h1)
              · exact .inl (.inl h1)
              · exact .inr h1
              · exact .inl (.inr h1)
          · simp [hL]
            omega
          · simp [hC h1]
    · have hm : (minus l (pieceL l Nb s))[k]? ≠ some true := fun hc => nott hl ((minus_get hlq).1 hc).1
      have hq : (pieceL l Nb s)[k]? ≠ some true := fun hc => nott hl (hsub k hc)
      rw [pcs_no _ _ (.inl hm), pcs_no _ _ (.inl (nott hl))]
      exact ⟨b, bstep b hq hb, hD, hL, hC⟩
theorem pcs_minus (hs : ∀ k k' : Nat, k < l.length → k' < l.length → Nb k k' → Nb k' k) (h : l[s]? = some true) :
    (pcs l Nb l.length).2.length = (pcs (minus l (pieceL l Nb s)) Nb l.length).2.length + 1 ∧ (cntB (pieceL l Nb s) l.length : Int) ∈ (pcs l Nb l.length).2 := by
  obtain ⟨b, hb, -, hL, hC⟩ := piece_out hs h l.length (Nat.le_refl _)
  have ht : b = true := hb.2 ⟨s, lt_of_get h, pieceL_get.2 ⟨lt_of_get h, .start⟩⟩
  subst ht
  exact ⟨by simpa using hL, hC rfl⟩
theorem minus_self (l : List Bool) : minus l l = List.replicate l.length false := by
  apply List.ext_getElem?
  intro k
  by_cases hk : k < l.length
  · rw [minus_at hk hk]
    simp [hk]
  · rw [List.getElem?_eq_none (by rw [length_minus]; omega), List.getElem?_eq_none (by simp; omega)]
theorem pcs_false (n k : Nat) : (pcs (List.replicate n false) Nb k).2 = [] := by
  induction k with
  | zero => rfl
  | succ k ih => rw [pcs_no _ _ (.inl (by simp [List.getElem?_replicate])), ih]
theorem pcs_alone (hs : ∀ k k' : Nat, k < l.length → k' < l.length → Nb k k' → Nb k' k) (h : l[s]? = some true) :
    (pcs (pieceL l Nb s) Nb (pieceL l Nb s).length).2 = [(cntB (pieceL l Nb s) l.length : Int)] := by
  have hq : (pieceL l Nb s)[s]? = some true := pieceL_get.2 ⟨lt_of_get h, .start⟩
  obtain ⟨h1, h2⟩ := pcs_minus (l := pieceL l Nb s) (s := s) (fun k k' a b => hs k k' (by rwa [length_pieceL] at a) (by rwa [length_pieceL] at b)) hq
  rw [piece_self h, minus_self, pcs_false] at h1
  rw [piece_self h, length_pieceL] at h2
  rw [length_pieceL] at h1 ⊢
  match hL : (pcs (pieceL l Nb s) Nb l.length).2, h1 with
  | [v], _ =>
    rw [hL] at h2
    simp at h2
    rw [h2]
end
theorem minus_zip (l q : List Bool) (h : q.length = l.length) : joinL op_dif l q = minus l q := by
  apply List.ext_getElem?
  intro k
  by_cases hk : k < l.length
  · have hk' : k < q.length := by omega
    rw [minus_at hk hk', joinL, List.getElem?_zipWith, List.getElem?_eq_getElem hk, List.getElem?_eq_getElem hk']
    simp [op_dif]
  · rw [List.getElem?_eq_none (by rw [length_joinL op_dif l q h.symm]; omega), List.getElem?_eq_none (by rw [length_minus]; omega)]
/-- A piece taken out: what is left has one piece fewer, the piece is one of the pieces, and alone it is one piece. -/
theorem pieces_out {x y W H : Int} {l : List Bool} {s : Nat} (hm : isMaskB x y W H l.length = true) (h : l[s]? = some true) :
    let q := pieceL l (Beside x y W H) s
    piecesN x y W H q = [(cntB q q.length : Int)] ∧ (cntB q q.length : Int) ∈ piecesN x y W H l ∧ (piecesN x y W H l).length = (piecesN x y W H (joinL op_dif l q)).length + 1 := by
  intro q
  have b := box_of hm
  have hs : ∀ k k' : Nat, k < l.length → k' < l.length → Beside x y W H k k' → Beside x y W H k' k := fun k k' hk _ hb => beside_symm b hk hb
  have hl : q.length = l.length := length_pieceL
  obtain ⟨h1, h2⟩ := pcs_minus (Nb := Beside x y W H) hs h
  have h3 := pcs_alone (Nb := Beside x y W H) hs h
  unfold piecesN
  rw [minus_zip l q hl, length_minus, hl]
  refine ⟨?_, h2, h1⟩
  rw [← hl]
  show (pcs q _ q.length).2 = _
  rw [hl]
  rw [length_pieceL] at h3
  exact h3
end Go.Proofs.Ytkkhjbdnpobpnaa

/- What a piece and the mask of a ring are, for the law on pieces. -/
set_option linter.unusedSimpArgs false
set_option linter.unusedVariables false
namespace Go.Proofs.Ytkkhjbdnpobpnaa
open Go.RowKit
/-- What PieceAt gives. -/
theorem at_cases {x y W H px py X Y X2 Y2 code : Int} {l P : List Bool} (h : atR x y W H px py l = ((X, Y, X2, Y2, code), P)) :
    (code = 0 ∧ X = x ∧ Y = y ∧ X2 = W ∧ Y2 = H ∧ P.length = l.length ∧ isMaskB x y W H l.length = true ∧ ∃ s, l[s]? = some true ∧ P = pieceL l (Beside x y W H) s) ∨ ((code = 4 ∨ code = 1) ∧ P.length = 0) := by
  unfold atR at h
  split at h
  · rename_i h1
    split at h
    · rename_i h2
      simp only [Prod.mk.injEq] at h
      obtain ⟨⟨rfl, rfl, rfl, rfl, rfl⟩, rfl⟩ := h
      simp only [Bool.and_eq_true] at h1
      exact .inl ⟨rfl, rfl, rfl, rfl, rfl, length_pieceL, h1.1, _, h2.1, rfl⟩
    · simp only [Prod.mk.injEq] at h
      obtain ⟨⟨rfl, rfl, rfl, rfl, rfl⟩, rfl⟩ := h
      exact .inr ⟨.inl rfl, rfl⟩
  · simp only [Prod.mk.injEq] at h
    obtain ⟨⟨rfl, rfl, rfl, rfl, rfl⟩, rfl⟩ := h
    exact .inr ⟨.inr rfl, rfl⟩
/-- What MaskOfRing gives. -/
theorem ring_cases {L : List Pt} {x y W H X Y X2 Y2 code : Int} {m : Nat} {R : List Bool} (h : ringR L x y W H m = ((X, Y, X2, Y2, code), R)) :
    (code = 0 ∧ X = x ∧ Y = y ∧ X2 = W ∧ Y2 = H ∧ R.length = m ∧ isMaskB x y W H m = true ∧ ringB L = true ∧ R = ringL L x y W m) ∨ (code = 1 ∧ R.length = 0) := by
  unfold ringR at h
  split at h
  · rename_i h1
    simp only [Prod.mk.injEq] at h
    obtain ⟨⟨rfl, rfl, rfl, rfl, rfl⟩, rfl⟩ := h
    simp only [Bool.and_eq_true] at h1
    exact .inl ⟨rfl, rfl, rfl, rfl, rfl, length_ringL _ _ _ _ _, h1.2, h1.1, rfl⟩
  · simp only [Prod.mk.injEq] at h
    obtain ⟨⟨rfl, rfl, rfl, rfl, rfl⟩, rfl⟩ := h
    exact .inr ⟨rfl, rfl⟩
/-- The cell of a point of the mask. -/
theorem ring_at {L : List Pt} {x y W H : Int} {m : Nat} (hM : isMaskB x y W H m = true) {i j : Int} (i0 : 0 ≤ i) (i1 : i < W) (j0 : 0 ≤ j) (j1 : j < H) :
    ∃ k : Nat, j * W + i = k ∧ k < m ∧ (ringL L x y W m)[k]? = some (decide (0 ≤ sideZ L ⟨x + i, y + j⟩)) := by
  have b := box_of hM
  have hn : W * H = m := by
    unfold isMaskB at hM
    simp only [Bool.and_eq_true, beq_iff_eq] at hM
    omega
  have hW : 0 < W := by omega
  have hk0 : 0 ≤ j * W + i := by have := Int.mul_nonneg j0 (Int.le_of_lt hW); omega
  have hk1 : j * W + i < m := by
    have h1 : (j + 1) * W ≤ H * W := Int.mul_le_mul_of_nonneg_right (by omega) (by omega)
    rw [Int.add_mul, Int.one_mul, Int.mul_comm H W, hn] at h1
    omega
  refine ⟨(j * W + i).toNat, by omega, by omega, ?_⟩
  rw [ringL_get _ _ _ _ _ _ (by omega)]
  have e : ptAt x y W (j * W + i).toNat = ⟨x + i, y + j⟩ := by
    unfold ptAt
    rw [show (((j * W + i).toNat : Nat) : Int) = i + j * W by omega, Int.add_mul_emod_self_right, Int.emod_eq_of_lt i0 i1, Int.add_mul_ediv_right _ _ (by omega), Int.ediv_eq_zero_of_lt i0 i1, Int.zero_add]
  rw [e]
/-- A point of the mask is a point. -/
theorem ring_pt {x y W H : Int} {m : Nat} (hM : isMaskB x y W H m = true) {i j : Int} (i0 : 0 ≤ i) (i1 : i < W) (j0 : 0 ≤ j) (j1 : j < H) : isPointB (x + i) (y + j) = true ∧ PtB ⟨x + i, y + j⟩ := by
  unfold isMaskB at hM
  simp only [Bool.and_eq_true, isPointB_iff] at hM
  obtain ⟨⟨⟨_, h1⟩, h2⟩, _⟩ := hM
  exact ⟨isPointB_iff.2 (by omega), ⟨by dsimp only; omega, by dsimp only; omega, by dsimp only; omega, by dsimp only; omega⟩⟩
/-- What the law asks of a piece: the pieces of it, of what is left, of the whole. -/
theorem piece_law {x y W H : Int} {l P : List Bool} {s : Nat} (hM : isMaskB x y W H l.length = true) (hs : l[s]? = some true) (hP : P = pieceL l (Beside x y W H) s) :
    ∃ (v : Int) (D : List Bool) (LD LW : List Int), piecesR x y W H P = (0, [v]) ∧ comb x y W H x y W H l P op_dif = ((x, y, W, H, 0), D) ∧ D.length = l.length ∧ piecesR x y W H D = (0, LD) ∧ piecesR x y W H l = (0, LW) ∧ LW.length = LD.length + 1 ∧ LW.contains v = true ∧ LW.length ≤ l.length := by
  have hPl : P.length = l.length := by rw [hP]; exact length_pieceL
  have hMP : isMaskB x y W H P.length = true := by rw [hPl]; exact hM
  have hDl : (joinL op_dif l P).length = l.length := length_joinL op_dif l P hPl.symm
  have hMD : isMaskB x y W H (joinL op_dif l P).length = true := by rw [hDl]; exact hM
  obtain ⟨h1, h2, h3⟩ := pieces_out hM hs
  rw [← hP] at h1 h2 h3
  have hlen := piecesR_len x y W H l
  have e0 : piecesR x y W H l = (0, piecesN x y W H l) := by unfold piecesR; rw [if_pos hM]
  rw [e0] at hlen
  have ht : twoCode x y W H x y W H l.length P.length = 0 := by
    unfold twoCode
    rw [if_pos (by simp [hM, hMP]), if_pos (by simp [fitsB])]
  exact ⟨_, joinL op_dif l P, _, _, by unfold piecesR; rw [if_pos hMP, h1], by unfold comb; rw [if_pos ht], hDl, by unfold piecesR; rw [if_pos hMD], e0, h3, by rw [List.contains_iff_mem]; exact h2, hlen⟩
end Go.Proofs.Ytkkhjbdnpobpnaa
