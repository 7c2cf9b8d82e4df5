import Derived.Test.YtfjlilpebhiogaaGreatDoorNum
import Derived.Test.YtfjlilpebhiogaaGreatDoorPackA
import Derived.Lib.ItoaMem
import Derived.Lib.AtoiTie
import Derived.Lib.ParseIntBTie
import Derived.Lib.IndexMore
/- Reading numbers: plain facts. -/
set_option linter.unusedSimpArgs false
set_option linter.unusedVariables false
namespace Go.Proofs.YtfjlilpebhiogaaGreatDoor
def digL (b : UInt8) : Bool := decide (48 ≤ b.toNat) && decide (b.toNat ≤ 57)
/-- What digits spell, behind `acc`. -/
def valL : Nat → List UInt8 → Nat
  | acc, [] => acc
  | acc, c :: r => valL (10 * acc + (c.toNat - 48)) r
theorem valL_snoc : ∀ (l : List UInt8) (acc : Nat) (c : UInt8), valL acc (l ++ [c]) = 10 * valL acc l + (c.toNat - 48)
  | [], _, _ => rfl
  | _ :: l, _, c => valL_snoc l _ c
theorem digit_toNat {k : Nat} (h : k < 10) : (UInt8.ofNat (48 + k)).toNat = 48 + k := by
  rw [UInt8.toNat_ofNat', Nat.mod_eq_of_lt (by omega)]
theorem digit_digL {k : Nat} (h : k < 10) : digL (UInt8.ofNat (48 + k)) = true := by
  unfold digL
  rw [digit_toNat h]
  simp only [Bool.and_eq_true, decide_eq_true_eq]
  omega
theorem decDigits_digs (u : Nat) : (Lib.decDigits u).all digL = true := by
  induction u using Nat.strongRecOn with
  | _ u ih =>
    rw [Lib.decDigits]
    split
    · rename_i h
      simp only [List.all_cons, List.all_nil, digit_digL h, Bool.and_self]
    · rw [List.all_append, ih (u / 10) (by omega)]
      simp only [List.all_cons, List.all_nil, digit_digL (show u % 10 < 10 by omega), Bool.and_self]
theorem decDigits_ne (u : Nat) : Lib.decDigits u ≠ [] := by
  intro h
  have h1 := Lib.decDigits_length u
  have h2 := Lib.nDigits_pos u
  rw [h] at h1
  simp at h1
  omega
theorem valL_dec (u : Nat) : valL 0 (Lib.decDigits u) = u := by
  induction u using Nat.strongRecOn with
  | _ u ih =>
    rw [Lib.decDigits]
    split
    · rename_i h
      show 10 * 0 + ((UInt8.ofNat (48 + u)).toNat - 48) = u
      rw [digit_toNat h]
      omega
    · rw [valL_snoc, ih (u / 10) (by omega), digit_toNat (by omega)]
      omega
theorem decFrom_digs : ∀ (l : List UInt8) (acc : Nat), l.all digL = true → Lib.decFrom acc l = some (valL acc l)
  | [], _, _ => rfl
  | c :: r, acc, h => by
    rw [List.all_cons, Bool.and_eq_true] at h
    have hc : 48 ≤ c.toNat ∧ c.toNat ≤ 57 := by simpa [digL] using h.1
    show (match Lib.digitVal c with | some d => Lib.decFrom (acc * 10 + d) r | none => none) = _
    rw [show Lib.digitVal c = some (c.toNat - 48) from if_pos hc]
    show Lib.decFrom (acc * 10 + (c.toNat - 48)) r = some (valL (10 * acc + (c.toNat - 48)) r)
    rw [decFrom_digs r _ h.2, Nat.mul_comm]
theorem decNat_dec (u : Nat) : Lib.decNat (Lib.decDigits u) = some u := by
  unfold Lib.decNat
  rw [if_neg (by rw [List.isEmpty_iff]; exact decDigits_ne u), decFrom_digs _ _ (decDigits_digs u), valL_dec]
theorem atoi_itoa (n : Int) : Lib.atoi (Lib.itoa n) = some n := by
  by_cases hn : n < 0
  · have e : Lib.itoa n = 45 :: Lib.decDigits n.natAbs := by unfold Lib.itoa; rw [if_pos hn]
    rw [e]
    show (Lib.decNat (Lib.decDigits n.natAbs)).map (fun (m : Nat) => -(m : Int)) = some n
    rw [decNat_dec]
    show some (-(n.natAbs : Int)) = some n
    congr 1
    omega
  · have e : Lib.itoa n = Lib.decDigits n.toNat := by unfold Lib.itoa; rw [if_neg hn]
    have h1 := decNat_dec n.toNat
    have h2 := decDigits_digs n.toNat
    have h3 := decDigits_ne n.toNat
    rw [e]
    cases hl : Lib.decDigits n.toNat with
    | nil => exact absurd hl h3
    | cons b r =>
      rw [hl] at h1 h2
      rw [List.all_cons, Bool.and_eq_true] at h2
      have hb : 48 ≤ b.toNat ∧ b.toNat ≤ 57 := by simpa [digL] using h2.1
      have n1 : (b == 45) = false := by rw [beq_eq_false_iff_ne]; rintro rfl; exact absurd hb.1 (by decide)
      have n2 : (b == 43) = false := by rw [beq_eq_false_iff_ne]; rintro rfl; exact absurd hb.1 (by decide)
      simp only [Lib.atoi, n1, n2, h1, Bool.false_eq_true, if_false]
      show some ((n.toNat : Nat) : Int) = some n
      congr 1
      omega
theorem itoa_len (n : Int) (h0 : -1000000 ≤ n) (h1 : n ≤ 1000000) : (Lib.itoa n).length ≤ 8 := by
  have := decB_size n h0 h1
  exact this
theorem parse_itoa (n : Int) (h0 : -1000000 ≤ n) (h1 : n ≤ 1000000) : Lib.parseIntB 64 (Lib.itoa n) = .ok n := by
  rw [Lib.parseIntB_64, Lib.atoiAll_short _ (Nat.le_trans (itoa_len n h0 h1) (by omega)), atoi_itoa]
  rfl
/-! ### The program's side -/
def numV (s : ByteArray) : Int := match Lib.parseIntB 64 s.data.toList with
  | .ok v => v
  | .«syntax» => 0
  | .range => Lib.intSat 64 s.data.toList
theorem numV_dec (n : Int) (h0 : -1000000 ≤ n) (h1 : n ≤ 1000000) : numV (decB n) = n := by
  unfold numV
  rw [show (decB n).data.toList = Lib.itoa n from rfl, parse_itoa n h0 h1]
def numK (s : ByteArray) : Bool := match Lib.parseIntB 64 s.data.toList with
  | .ok v => decide (decB v = s)
  | _ => false
/-! ### The reference's side -/
def valV (s : ByteArray) : Int := if 1 ≤ s.size ∧ s.size ≤ 13 ∧ s.data.toList.all digL = true then (valL 0 s.data.toList : Int) else 0
noncomputable def valK (s : ByteArray) : Bool := if 1 ≤ s.size ∧ s.size ≤ 13 ∧ s.data.toList.all digL = true then decide (decB (valL 0 s.data.toList : Int) = s) else false
theorem decB_nat_data (u : Nat) : (decB (u : Int)).data.toList = Lib.decDigits u := by
  show Lib.itoa (u : Int) = _
  rw [Lib.itoa_nonneg]
theorem dec_cond (u : Nat) (h : u ≤ 1000000) : 1 ≤ (decB (u : Int)).size ∧ (decB (u : Int)).size ≤ 13 ∧ (decB (u : Int)).data.toList.all digL = true := by
  have h1 := decB_size (u : Int) (by omega) (by omega)
  have h2 := Lib.decDigits_length u
  have h3 := Lib.nDigits_pos u
  rw [← decB_nat_data, Array.length_toList] at h2
  have h4 : (decB (u : Int)).size = (decB (u : Int)).data.size := rfl
  refine ⟨by omega, by omega, ?_⟩
  rw [decB_nat_data]
  exact decDigits_digs u
theorem valV_dec (u : Nat) (h : u ≤ 1000000) : valV (decB (u : Int)) = u := by
  unfold valV
  rw [if_pos (dec_cond u h), decB_nat_data, valL_dec]
theorem valK_dec (u : Nat) (h : u ≤ 1000000) : valK (decB (u : Int)) = true := by
  unfold valK
  rw [if_pos (dec_cond u h), decB_nat_data, valL_dec]
  exact decide_eq_true rfl
def tailB (s : ByteArray) : ByteArray := s.extract 1 s.size
def minusB (s : ByteArray) : Bool := decide (s.data.toList.head? = some 45)
def sgnV (s : ByteArray) : Int := if minusB s then -(valV (tailB s)) else valV s
noncomputable def sgnK (s : ByteArray) : Bool := if minusB s then valK (tailB s) && decide (0 < valV (tailB s)) else valK s
theorem itoa_neg' (u : Nat) (h : 1 ≤ u) : decB (-(u : Int)) = ⟨(45 :: Lib.decDigits u).toArray⟩ := by
  unfold decB
  rw [Lib.itoa_neg u h]
theorem tailB_neg (u : Nat) (h : 1 ≤ u) : tailB (decB (-(u : Int))) = decB (u : Int) := by
  rw [itoa_neg' u h]
  unfold tailB decB
  rw [Lib.itoa_nonneg]
  apply ByteArray.ext
  apply Array.toList_inj.1
  simp [ByteArray.size]
theorem minusB_neg (u : Nat) (h : 1 ≤ u) : minusB (decB (-(u : Int))) = true := by
  rw [itoa_neg' u h]
  simp [minusB]
theorem minusB_pos (u : Nat) : minusB (decB (u : Int)) = false := by
  unfold minusB
  rw [decB_nat_data]
  have h2 := decDigits_digs u
  cases hl : Lib.decDigits u with
  | nil => simp
  | cons b r =>
    rw [hl, List.all_cons, Bool.and_eq_true] at h2
    have hb : 48 ≤ b.toNat ∧ b.toNat ≤ 57 := by simpa [digL] using h2.1
    rw [decide_eq_false_iff_not, List.head?_cons]
    intro h
    injection h with h
    subst h
    exact absurd hb.1 (by decide)
theorem sgn_dec (n : Int) (h0 : -1000000 ≤ n) (h1 : n ≤ 1000000) : sgnV (decB n) = n ∧ sgnK (decB n) = true := by
  by_cases hn : n < 0
  · obtain ⟨u, hu⟩ : ∃ u : Nat, n = -(u : Int) := ⟨n.natAbs, by omega⟩
    subst hu
    unfold sgnV sgnK
    rw [minusB_neg u (by omega), tailB_neg u (by omega), if_pos rfl, if_pos rfl, valV_dec u (by omega), valK_dec u (by omega)]
    refine ⟨rfl, ?_⟩
    simp only [Bool.true_and, decide_eq_true_eq]
    omega
  · obtain ⟨u, rfl⟩ := Int.eq_ofNat_of_zero_le (show 0 ≤ n by omega)
    unfold sgnV sgnK
    rw [minusB_pos u, if_neg (by simp), if_neg (by simp), valV_dec u (by omega), valK_dec u (by omega)]
    exact ⟨rfl, rfl⟩
theorem dec_byte {n : Int} {x : UInt8} (hx : x ∈ (decB n).data.toList) : x = 45 ∨ (48 ≤ x.toNat ∧ x.toNat ≤ 57) := by
  have hd : ∀ u, x ∈ Lib.decDigits u → 48 ≤ x.toNat ∧ x.toNat ≤ 57 := fun u h => by
    have := List.all_eq_true.1 (decDigits_digs u) x h
    simpa [digL] using this
  change x ∈ Lib.itoa n at hx
  unfold Lib.itoa at hx
  split at hx
  · rcases List.mem_cons.1 hx with rfl | hx
    · exact .inl rfl
    · exact .inr (hd _ hx)
  · exact .inr (hd _ hx)
end Go.Proofs.YtfjlilpebhiogaaGreatDoor
