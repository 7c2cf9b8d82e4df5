import Derived.Test.YtfjlilpebhiogaaGreatDoorReadE
import Derived.Test.YtfjlilpebhiogaaGreatDoorPackAb
/- ReadClaim, both sides, and the law. -/
set_option linter.unusedSimpArgs false
set_option linter.unusedVariables false
namespace Go.Proofs.YtfjlilpebhiogaaGreatDoor
open Go.RowKit
/-- What reading a claim gives. -/
noncomputable def rdC (s : ByteArray) : Clm := match piecesS 47 s with
  | [a, b, c, d, e, f] => if okI s a b c d e f then rdI a b c d e f else clm0
  | _ => clm0
noncomputable def rdK (s : ByteArray) : Int := match piecesS 47 s with
  | [a, b, c, d, e, f] => if okI s a b c d e f then 0 else 6
  | _ => 6
theorem rd_no {s : ByteArray} (h : (piecesS 47 s).length ≠ 6) : rdC s = clm0 ∧ rdK s = 6 := by
  unfold rdC rdK
  constructor
  · split
    · rename_i e; rw [e] at h; simp at h
    · rfl
  · split
    · rename_i e; rw [e] at h; simp at h
    · rfl
theorem six_of {s : ByteArray} (h : (piecesS 47 s).length = 6) : ∃ a b c d e f, piecesS 47 s = [a, b, c, d, e, f] := by
  match hL : piecesS 47 s, h with
  | [a, b, c, d, e, f], _ => exact ⟨a, b, c, d, e, f, rfl⟩
theorem fromB_size (s : ByteArray) : (fromB s).size ≤ s.size := by
  unfold fromB
  split
  · show 0 ≤ _; omega
  · exact Nat.le_refl _
theorem read_any (s : ByteArray) (w : World) (hs : s.size ≤ 1048576) (hE : Env w) :
    Calls Tryz.prog 10 #[.string s] w (Ret w (.tuple #[clmV (rdC s), .int .i64 (rdK s)])) := by
  have C0 : ∀ w, Max w → Calls Tryz.prog 29 #[.string s, .string ⟨#[47]⟩] w _ := fun w hx => split_any 47 s w hx hs
  have hle := piecesS_length_le 47 s
  by_cases h6 : (piecesS 47 s).length = 6
  · have hsz : ∀ t ∈ piecesS 47 s, t.size ≤ 1048576 := fun t h => Nat.le_trans (piecesS_size h) hs
    obtain ⟨a, b, c, d, e, f, hp⟩ := six_of h6
    simp only [hp] at C0 hsz
    have za := hsz a (by simp)
    have zb := hsz b (by simp)
    have zc := hsz c (by simp)
    have zd := hsz d (by simp)
    have ze := hsz e (by simp)
    have zf := hsz f (by simp)
    have ok : ClmOk (rdI a b c d e f) := ⟨za, zc, Nat.le_trans (fromB_size d) zd⟩
    have e1 : rdC s = if claimB (rdI a b c d e f) && decide (clmT (rdI a b c d e f) = s) then rdI a b c d e f else clm0 := by unfold rdC; rw [hp]; rfl
    have e2 : rdK s = if claimB (rdI a b c d e f) && decide (clmT (rdI a b c d e f) = s) then 0 else 6 := by unfold rdK; rw [hp]; rfl
    rw [e1, e2]
    exact read_at w C0 (fun w hE => readNumber_any b w zb hE) (fun w hE => readSpan_any e w ze hE) (fun w hE => readNumber_any f w zf hE) (fun w => fromDot_any d w)
      (fun w hx => isClaim_any (rdI a b c d e f) w ok hx) (fun hk w hT => by
        obtain ⟨b1, b2, b3, b4⟩ := claim_bounds hk
        exact claimText_any (rdI a b c d e f) w ok b1 b2 b3 b4 hT) (toList_eq _ _) hE
  · obtain ⟨e1, e2⟩ := rd_no h6
    rw [e1, e2]
    exact read_no h6 (by omega) w C0 hE
theorem sRead_any (s : ByteArray) (w : World) (hs : s.size ≤ 1048576) :
    Calls Tryz.prog 11 #[.string s] w (Ret w (.tuple #[clmV (rdC s), .int .i64 (rdK s)])) := by
  have C0 : ∀ w, Calls Tryz.prog 33 #[.string s, .int .u8 47] w _ := fun w => l01Split_any s 47 w hs
  have hle := piecesS_length_le 47 s
  by_cases h6 : (piecesS 47 s).length = 6
  · have hsz : ∀ t ∈ piecesS 47 s, t.size ≤ 1048576 := fun t h => Nat.le_trans (piecesS_size h) hs
    obtain ⟨a, b, c, d, e, f, hp⟩ := six_of h6
    simp only [hp] at C0 hsz
    have za := hsz a (by simp)
    have zb := hsz b (by simp)
    have zc := hsz c (by simp)
    have zd := hsz d (by simp)
    have ze := hsz e (by simp)
    have zf := hsz f (by simp)
    have ok : ClmOk (rdS a b c d e f) := ⟨za, zc, Nat.le_trans (fromB_size d) zd⟩
    obtain ⟨o1, o2⟩ := ok_same hp
    have e1 : rdC s = if valK b && valK f && spnK e && claimB (rdS a b c d e f) && decide (clmT (rdS a b c d e f) = s) then rdS a b c d e f else clm0 := by
      show _ = if okS s a b c d e f = true then _ else _
      unfold rdC
      rw [hp]
      show (if okI s a b c d e f = true then _ else _) = _
      rw [← o1]
      split
      · rename_i h; exact o2 h
      · rfl
    have e2 : rdK s = if valK b && valK f && spnK e && claimB (rdS a b c d e f) && decide (clmT (rdS a b c d e f) = s) then 0 else 6 := by
      show _ = if okS s a b c d e f = true then _ else _
      unfold rdK
      rw [hp]
      show (if okI s a b c d e f = true then _ else _) = _
      rw [← o1]
    rw [e1, e2]
    exact sRead_at (J := if spnK e then 0 else 6) rfl w C0 (fun w => sValue_any b w zb) (fun w => sReadSpan_any e w ze) (fun w => sValue_any f w zf) (fun w => sFrom_any d w)
      (fun w => sIsClaim_any (rdS a b c d e f) w ok) (fun hk w => by
        obtain ⟨b1, b2, b3, b4⟩ := claim_bounds hk
        exact sClaimText_any (rdS a b c d e f) w ok b1 b2 b3 b4) (toList_eq _ _)
  · obtain ⟨e1, e2⟩ := rd_no h6
    rw [e1, e2]
    exact sRead_no h6 (by omega) w C0
end Go.Proofs.YtfjlilpebhiogaaGreatDoor
