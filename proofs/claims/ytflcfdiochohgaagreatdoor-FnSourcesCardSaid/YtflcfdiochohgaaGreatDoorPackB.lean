import Derived.Test.YtflcfdiochohgaaGreatDoorPackAb
import Derived.Test.YtflcfdiochohgaaGreatDoorShelf
import Derived.Shelf.SlSortCmp.NoneTotal
import Derived.Test.YtflcfdiochohgaaGreatDoorPackA
import Derived.Laws.BitsLemmas
import Derived.Test.YtflcfdiochohgaaGreatDoorPackAa
/- Several of my texts, one behind the other: Sort, Sub, Idx, Pick, Circ, Exist, Good, Wt, Few, TabC, About, Par, CirW, Oper. -/
/- A slice of slices of numbers, sorted by slices.SortFunc with slices.Compare. -/
set_option linter.unusedSimpArgs false
set_option linter.unusedVariables false
namespace Go.Proofs.YtflcfdiochohgaaGreatDoor
open Go.RowKit
end Go.Proofs.YtflcfdiochohgaaGreatDoor

/- The indices whose bits a number has: impl.subset. -/
set_option linter.unusedSimpArgs false
set_option linter.unusedVariables false
namespace Go.Proofs.YtflcfdiochohgaaGreatDoor
open Go.RowKit
theorem subN_zero (b : Nat) : subN 0 b = [] := rfl
theorem subN_yes {k b : Nat} (h : b.testBit k = true) : subN (k + 1) b = subN k b ++ [(k : Int)] := by
  simp [subN, List.range_succ, List.filter_append, h]
theorem subN_no {k b : Nat} (h : b.testBit k = false) : subN (k + 1) b = subN k b := by
  simp [subN, List.range_succ, List.filter_append, h]
theorem subN_len (k b : Nat) : (subN k b).length ≤ k := by
  unfold subN
  rw [List.length_map]
  exact Nat.le_trans (List.length_filter_le _ _) (by simp)
theorem subN_top {k n b : Nat} (h : b / 2 ^ k = 0) (hk : k ≤ n) : subN k b = subN n b := by
  have hb : b < 2 ^ k := by
    rcases Nat.lt_or_ge b (2 ^ k) with h1 | h1
    · exact h1
    · have := Nat.div_pos h1 (Nat.two_pow_pos k)
      omega
  refine ixs_ext (n := n) ⟨(ixs_subN k b).inc, fun x hx => by have := (ixs_subN k b).bd x hx; omega⟩ (ixs_subN n b) fun x => ?_
  rw [mem_subN, mem_subN]
  constructor
  · rintro ⟨i, rfl, h1, h2⟩
    exact ⟨i, rfl, by omega, h2⟩
  · rintro ⟨i, rfl, h1, h2⟩
    refine ⟨i, rfl, ?_, h2⟩
    rcases Nat.lt_or_ge i k with h3 | h3
    · exact h3
    · rw [Nat.testBit_lt_two_pow (Nat.lt_of_lt_of_le hb (Nat.pow_le_pow_right (by omega) h3))] at h2
      cases h2
theorem bit_of_div (b k : Nat) : b.testBit k = decide (b / 2 ^ k % 2 = 1) := by
  rw [Nat.testBit_eq_decide_div_mod_eq]
theorem shr_nat (b k : Nat) : (b : Int) / 2 ^ k = ((b / 2 ^ k : Nat) : Int) := by
  rw [Int.natCast_ediv, Int.natCast_pow]
  rfl
theorem and_one (m : Nat) (hm : m < 4611686018427387904) : bits .and .i64 (m : Int) 1 = ((m % 2 : Nat) : Int) := by
  have h := bits_mask .i64 62 (by decide) (fun n h0 h1 => by rw [IntKind.wrap_i64]; omega) 1 (by decide) (m : Int) (by omega) (by omega)
  rw [show ((2 : Int) ^ 1 - 1) = 1 by decide] at h
  rw [h]
  omega
set_option maxRecDepth 8000 in
set_option maxHeartbeats 2000000 in
theorem subset_any (n b : Nat) (w : World) (hn : n ≤ 12) (hb : b < 2 ^ n) : Calls Tryz.prog 136 #[.int .i64 b] w (RetOwn w 2 1 (subN n b).length (intCells (subN n b)) id) := by
  obtain ⟨ii, j1, j2, j3, j4⟩ := info_i64'
  have Jii := Lib.hid (And.intro j1 (And.intro j2 (And.intro j3 j4)))
  have hb2 : b < 4096 := Nat.lt_of_lt_of_le hb (Nat.pow_le_pow_right (by omega) hn)
  have hdz := Lib.hid (show ∀ k, n ≤ k → b / 2 ^ k = 0 from fun k hk => Nat.div_eq_of_lt (Nat.lt_of_lt_of_le hb (Nat.pow_le_pow_right (by omega) hk)))
  have hdv := Lib.hid (show ∀ k, b / 2 ^ k ≤ b from fun k => Nat.div_le_self _ _)
  have hS := Lib.hid (fun k (h : b / 2 ^ k = 0) (hk : k ≤ n) => subN_top h hk)
  have hZ := Lib.hid (subN_zero b)
  have hL := Lib.hid (subN_len)
  clear j1 j2 j3 j4 hb
  go_enter Tryz.func136, Tryz.ntmps136
  go_wp2_with fail
  go_loopw [3, 4] (fun t i wr => ∃ (k : Nat) (a5 : Option Addr) (c5 : Nat), k ≤ n ∧ i = .int .i64 k ∧ t = .slice a5 (subN k b).length c5 ∧ wr.ownsRow w.heap.size 2 1 (.slice a5 (subN k b).length c5) (subN k b).length (intCells (subN k b)) ∧ ∃ z : Later w, wr = z.w) (fun _ i _ => n - (intOf i).toNat)
  case atStart => exact ⟨0, none, 0, Nat.zero_le _, rfl, by rw [hZ.out]; rfl, by rw [hZ.out]; exact World.ownsRow_nil _ _ _ _, LaterC.mk (by (repeat (first | (with_reducible exact Below.refl _ _) | (with_reducible assumption) | (with_reducible refine Later.out _ ?_) | (with_reducible refine bel_alloc ?_ _) | (with_reducible refine bel_drew ?_) | (with_reducible refine bel_drewN ?_ _) | (with_reducible refine bel_set ?_ ?_ _) | (with_reducible refine After.out _ ?_ ?_) | (dsimp only; omega) | omega | (simp only [World.size_alloc, World.size_setCell, World.size_drew]; omega))))⟩
  case round =>
    obtain ⟨k, a5, c5, hk, rfl, rfl, hown, z, rfl⟩ := hrel
    replace hown := Lib.hid hown
    have hzz := z.bel.size
    have hsh := shr_nat b k
    have hll := hL.out k b
    have hbt := bit_of_div b k
    obtain ⟨m, hm⟩ : ∃ m, b / 2 ^ k = m := ⟨_, rfl⟩
    have hmb := hdv.out k
    rw [hm] at hsh hmb hbt
    have han := and_one m (by omega)
    rcases Nat.eq_zero_or_pos m with h0 | h0
    · subst h0
      have X := Lib.hid (hS.out k hm hk)
      clear han hbt
      go_wp2_with fail
      go_ret
      rw [← X.out]
      exact RetOwn.mk _ rfl hown.out z.bel
    · have hkn : k < n := by
        rcases Nat.lt_or_ge k n with h1 | h1
        · exact h1
        · have := hdz.out k h1
          omega
      have hm0 : (0 : Int) < (m : Int) := by omega
      clear hm
      rcases Nat.mod_two_eq_zero_or_one m with h1 | h1
      · rw [h1] at han hbt
        have X := Lib.hid (subN_no (k := k) (b := b) (by rw [hbt]; rfl))
        clear hbt h1
        go_wp2_with fail
        go_roundw
        case rel => exact ⟨k + 1, a5, c5, by omega, by go_num, by rw [X.out]; try rfl, by rw [X.out]; exact own_bel hown.out (by (repeat (first | (with_reducible exact Below.refl _ _) | (with_reducible assumption) | (with_reducible refine Later.out _ ?_) | (with_reducible refine bel_alloc ?_ _) | (with_reducible refine bel_drew ?_) | (with_reducible refine bel_drewN ?_ _) | (with_reducible refine bel_set ?_ ?_ _) | (with_reducible refine After.out _ ?_ ?_) | (dsimp only; omega) | omega | (simp only [World.size_alloc, World.size_setCell, World.size_drew]; omega)))), LaterC.mk (by (repeat (first | (with_reducible exact Below.refl _ _) | (with_reducible assumption) | (with_reducible refine Later.out _ ?_) | (with_reducible refine bel_alloc ?_ _) | (with_reducible refine bel_drew ?_) | (with_reducible refine bel_drewN ?_ _) | (with_reducible refine bel_set ?_ ?_ _) | (with_reducible refine After.out _ ?_ ?_) | (dsimp only; omega) | omega | (simp only [World.size_alloc, World.size_setCell, World.size_drew]; omega))))⟩
        case measure => first | (simp [intOf]; done) | (simp [intOf]; omega) | omega
      · rw [h1] at han hbt
        have X := Lib.hid (subN_yes (k := k) (b := b) (by rw [hbt]; rfl))
        clear hbt h1
        obtain ⟨N, hN⟩ : ∃ N, subN k b = N := ⟨_, rfl⟩
        rw [hN] at hown X hll
        simp only [hN]
        clear hN
        go_wp2_with (at_builtin; (refine wpList_append_later _ rfl _ _ _ rfl 2 ii _ 1 8 Tryz.underlying35 Jii.out.1 Jii.out.2.1 Jii.out.2.2.1 Jii.out.2.2.2 rfl (by decide) (w) ?qa1 _ _ _ (intCells N) rfl ?qa2 _ _ _ ([.int .i64 k]) rfl ?qa3 ?qa4 ?qa5 ?qa6 ?qa7 ?_); (case qa1 => (repeat (first | (with_reducible exact Below.refl _ _) | (with_reducible assumption) | (with_reducible refine Later.out _ ?_) | (with_reducible refine bel_alloc ?_ _) | (with_reducible refine bel_drew ?_) | (with_reducible refine bel_drewN ?_ _) | (with_reducible refine bel_set ?_ ?_ _) | (with_reducible refine After.out _ ?_ ?_) | (dsimp only; omega) | omega | (simp only [World.size_alloc, World.size_setCell, World.size_drew]; omega)))); (case qa2 => exact own_bel hown.out (by (repeat (first | (with_reducible exact Below.refl _ _) | (with_reducible assumption) | (with_reducible refine Later.out _ ?_) | (with_reducible refine bel_alloc ?_ _) | (with_reducible refine bel_drew ?_) | (with_reducible refine bel_drewN ?_ _) | (with_reducible refine bel_set ?_ ?_ _) | (with_reducible refine After.out _ ?_ ?_) | (dsimp only; omega) | omega | (simp only [World.size_alloc, World.size_setCell, World.size_drew]; omega))))); (case qa3 => (first | rfl | (simp [boolCells]; done) | (simp [intCells]; done) | (simp; done) | (first | omega | (simp only [List.length_append, List.length_cons, List.length_nil]; omega)))); (case qa4 => exact Row.madeAt (by simp only [World.size_alloc]; try rfl) rfl); (case qa5 => (intro u hu; simp at hu; subst hu; rfl)); (case qa6 => (unfold maxLen; (first | omega | (simp only [List.length_append, List.length_cons, List.length_nil]; omega)))); (case qa7 => (first | omega | (simp only [List.length_append, List.length_cons, List.length_nil]; omega))); intro a9 c9 x9 hown9)
        replace hown9 := Lib.hid hown9
        go_roundw
        case rel => exact ⟨k + 1, a9, c9, by omega, by go_num, by rw [X.out]; simp, by rw [X.out, intCells_snoc]; simpa using hown9.out, x9, rfl⟩
        case measure => first | (simp [intOf]; done) | (simp [intOf]; omega) | omega
end Go.Proofs.YtflcfdiochohgaaGreatDoor

/- The indices of those claims of which a function value tells true. -/
set_option linter.unusedSimpArgs false
set_option linter.unusedVariables false
namespace Go.Proofs.YtflcfdiochohgaaGreatDoor
open Go.RowKit
/-- The indices below `k` at which `p` holds. -/
def idxsTo (p : Clm → Bool) (L : List Clm) (k : Nat) : List Int := ((List.range k).filter fun i => match L[i]? with | some c => p c | none => false).map fun (i : Nat) => (i : Int)
def idxs (p : Clm → Bool) (L : List Clm) : List Int := idxsTo p L L.length
theorem idxsTo_zero (p : Clm → Bool) (L : List Clm) : idxsTo p L 0 = [] := rfl
theorem idxsTo_yes {p : Clm → Bool} {L : List Clm} {k : Nat} (hk : k < L.length) (h : p L[k] = true) : idxsTo p L (k + 1) = idxsTo p L k ++ [(k : Int)] := by
  simp [idxsTo, List.range_succ, List.getElem?_eq_getElem hk, h]
theorem idxsTo_no {p : Clm → Bool} {L : List Clm} {k : Nat} (hk : k < L.length) (h : p L[k] = false) : idxsTo p L (k + 1) = idxsTo p L k := by
  simp [idxsTo, List.range_succ, List.getElem?_eq_getElem hk, h]
theorem length_idxsTo (p : Clm → Bool) (L : List Clm) (k : Nat) : (idxsTo p L k).length ≤ k := by
  unfold idxsTo
  rw [List.length_map]
  have := List.length_filter_le (fun i => match L[i]? with | some c => p c | none => false) (List.range k)
  simpa using this
theorem one_int1 (x : Int) : ∀ u ∈ [Value.int .i64 x], u.oneCell' = true := by intro u hu; simp at hu; subst hu; rfl
end Go.Proofs.YtflcfdiochohgaaGreatDoor

/- Claims with some indices, and indices that a list does not have: what both sides speak of. -/
set_option linter.unusedSimpArgs false
set_option linter.unusedVariables false
namespace Go.Proofs.YtflcfdiochohgaaGreatDoor
open Go.RowKit
/-- The claims with some indices. -/
def pick (L : List Clm) (S : List Int) : List Clm := S.filterMap fun i => L[i.toNat]?
theorem pick_snoc {L : List Clm} {S : List Int} {x : Int} (h : x.toNat < L.length) : pick L (S ++ [x]) = pick L S ++ [L[x.toNat]] := by
  simp [pick, List.filterMap_append, List.getElem?_eq_getElem h]
theorem pick_take {L : List Clm} {S : List Int} {k : Nat} (hk : k < S.length) (h : S[k].toNat < L.length) : pick L (S.take (k + 1)) = pick L (S.take k) ++ [L[S[k].toNat]] := by
  rw [← List.take_append_getElem hk, pick_snoc h]
theorem pick_le (L : List Clm) (S : List Int) : (pick L S).length ≤ S.length := List.length_filterMap_le _ _
theorem pick_take_le (L : List Clm) (S : List Int) (k : Nat) (hk : k ≤ S.length) : (pick L (S.take k)).length ≤ k := by
  have := pick_le L (S.take k)
  rw [List.length_take] at this
  omega
/-- All are indices of a list of `n`. -/
def Within (n : Nat) (S : List Int) : Prop := ∀ x ∈ S, 0 ≤ x ∧ x < n
theorem within_of_rises {n : Nat} {S : List Int} (h : Rises S n) : Within n S := fun x hx => by
  obtain ⟨i, hi, rfl⟩ := List.mem_iff_getElem.1 hx
  obtain ⟨x, h1, h2, h3, _⟩ := h i hi
  rw [List.getElem?_eq_getElem hi] at h1
  obtain rfl := Option.some.inj h1
  exact ⟨h2, by omega⟩
theorem Within.at_ {n : Nat} {S : List Int} (h : Within n S) {k : Nat} (hk : k < S.length) : 0 ≤ S[k] ∧ S[k] < n := h _ (List.getElem_mem hk)
theorem Within.sub {n : Nat} {S T : List Int} (h : Within n S) (hs : ∀ x ∈ T, x ∈ S) : Within n T := fun x hx => h x (hs x hx)
/-- The indices below `k` that a list does not have. -/
def restTo (S : List Int) (k : Nat) : List Int := ((List.range k).map fun (i : Nat) => (i : Int)).filter fun i => !S.contains i
theorem restTo_within (S : List Int) (k : Nat) : Within k (restTo S k) := fun x hx => by
  unfold restTo at hx
  have := (List.mem_filter.1 hx).1
  rw [List.mem_map] at this
  obtain ⟨i, hi, rfl⟩ := this
  have := List.mem_range.1 hi
  omega
theorem one_clm1 (c : Clm) : ∀ u ∈ clmCells c, u.oneCell' = true := by intro u hu; simp [clmCells] at hu; rcases hu with rfl | rfl | rfl | rfl | rfl | rfl | rfl <;> rfl
theorem clmsCells_snoc (L : List Clm) (c : Clm) : clmsCells (L ++ [c]) = clmsCells L ++ clmCells c := by rw [clmsCells_append]; simp [clmsCells]
end Go.Proofs.YtflcfdiochohgaaGreatDoor

/- Circles of parents and consistency: the plain law. -/
set_option linter.unusedSimpArgs false
set_option linter.unusedVariables false
namespace Go.Proofs.YtflcfdiochohgaaGreatDoor
/-- A proposition as a truth value. -/
@[irreducible] noncomputable def bof (p : Prop) : Bool := @decide p (Classical.propDecidable p)
theorem bof_true {p : Prop} (h : p) : bof p = true := by unfold bof; exact @decide_eq_true p (Classical.propDecidable p) h
theorem bof_false {p : Prop} (h : ¬ p) : bof p = false := by unfold bof; exact @decide_eq_false p (Classical.propDecidable p) h
theorem of_bof {p : Prop} (h : bof p = true) : p := Classical.byContradiction fun hn => by rw [bof_false hn] at h; cases h
theorem not_bof {p : Prop} (h : bof p = false) : ¬ p := fun hp => by rw [bof_true hp] at h; cases h
theorem bof_congr {p q : Prop} (h : p ↔ q) : bof p = bof q := by rw [propext h]
/-- `c` tells the parent of a place in a year. -/
def parP (place : ByteArray) (y : Int) (c : Clm) : Bool := decide (c.kind = 1) && decide (c.place = place) && hasB c y
theorem parP_iff {p : ByteArray} {y : Int} {c : Clm} : parP p y c = true ↔ c.kind = 1 ∧ c.place = p ∧ hasB c y = true := by simp [parP, and_assoc]
def parOf (L : List Clm) (y : Int) (p : ByteArray) : Option ByteArray := (L.find? (parP p y)).map (·.val)
theorem parOf_some {L : List Clm} {y : Int} {p v : ByteArray} (h : parOf L y p = some v) : ∃ c ∈ L, parP p y c = true ∧ c.val = v := by
  unfold parOf at h
  cases hf : L.find? (parP p y) with
  | none => rw [hf] at h; cases h
  | some c =>
    rw [hf] at h
    exact ⟨c, List.mem_of_find?_eq_some hf, List.find?_some hf, Option.some.inj h⟩
theorem parOf_none {L : List Clm} {y : Int} {p : ByteArray} (h : ∀ c ∈ L, parP p y c = false) : parOf L y p = none := by
  unfold parOf
  rw [List.find?_eq_none.2 fun c hc => by rw [h c hc]; simp]
  rfl
theorem parOf_at {L : List Clm} {y : Int} {p : ByteArray} {k : Nat} (hk : k < L.length) (h1 : parP p y L[k] = true) (h : ∀ j (hj : j < L.length), j < k → parP p y L[j] = false) : parOf L y p = some L[k].val := by
  have hf : L.find? (parP p y) = some L[k] := by
    rw [List.find?_eq_some_iff_getElem]
    exact ⟨h1, k, hk, rfl, fun j hj => by rw [h j (by omega) hj]; rfl⟩
  simp [parOf, hf]
/-- Following the parents from `p` on, `out` behind it: the circle, if it leads back to `place`. -/
noncomputable def circ (f : ByteArray → Option ByteArray) (place : ByteArray) : Nat → List ByteArray → ByteArray → Option (List ByteArray)
  | 0, _, _ => none
  | n + 1, out, p => match f p with
    | none => none
    | some nx => if nx = place then some (out ++ [p]) else if bof (nx ∈ out ++ [p]) then none else circ f place n (out ++ [p]) nx
/-- The circle that begins with a place in a year. -/
noncomputable def circZ (L : List Clm) (y : Int) (place : ByteArray) : Option (List ByteArray) := circ (parOf L y) place (L.length + 1) [] place
structure CInv (L : List Clm) (y : Int) (place : ByteArray) (out : List ByteArray) (p : ByteArray) : Prop where
  nodup : (out ++ [p]).Nodup
  mem : ∀ x ∈ out ++ [p], x = place ∨ x ∈ L.map (·.val)
  head : place ∈ out ++ [p]
  eq : circZ L y place = circ (parOf L y) place (L.length + 1 - out.length) out p
theorem CInv.start (L : List Clm) (y : Int) (place : ByteArray) : CInv L y place [] place := ⟨by simp, fun x hx => by simp at hx; exact .inl hx, by simp, rfl⟩
theorem nodup_len {α : Type} [DecidableEq α] : ∀ (l m : List α), l.Nodup → (∀ x ∈ l, x ∈ m) → l.length ≤ m.length
  | [], m, _, _ => by simp
  | x :: l, m, hn, hs => by
    have hx := hs x (by simp)
    have h1 := List.nodup_cons.1 hn
    have ih := nodup_len l (m.erase x) h1.2 fun z hz => by
      have hne : z ≠ x := fun e => h1.1 (e ▸ hz)
      exact (List.mem_erase_of_ne hne).2 (hs z (by simp [hz]))
    have hl := List.length_erase_of_mem hx
    have hp := List.length_pos_of_mem hx
    simp only [List.length_cons]
    omega
theorem CInv.len {L : List Clm} {y : Int} {place p : ByteArray} {out : List ByteArray} (h : CInv L y place out p) : out.length ≤ L.length := by
  have := nodup_len (out ++ [p]) (place :: L.map (·.val)) h.nodup fun x hx => by
    rcases h.mem x hx with rfl | h
    · simp
    · simp only [List.mem_cons]; exact .inr h
  simp at this
  exact this
theorem CInv.unfold {L : List Clm} {y : Int} {place p : ByteArray} {out : List ByteArray} (h : CInv L y place out p) :
    circZ L y place = match parOf L y p with
    | Option.none => Option.none
    | some nx => if nx = place then some (out ++ [p]) else if bof (nx ∈ out ++ [p]) then Option.none else circ (parOf L y) place (L.length + 1 - (out ++ [p]).length) (out ++ [p]) nx := by
  have hl := h.len
  rw [h.eq, show L.length + 1 - out.length = (L.length - out.length) + 1 by omega, circ]
  simp only [List.length_append, List.length_cons, List.length_nil, show L.length + 1 - (out.length + (0 + 1)) = L.length - out.length by omega]
theorem CInv.no {L : List Clm} {y : Int} {place p : ByteArray} {out : List ByteArray} (h : CInv L y place out p) (h1 : parOf L y p = Option.none) : circZ L y place = Option.none := by rw [h.unfold, h1]
theorem CInv.close {L : List Clm} {y : Int} {place p : ByteArray} {out : List ByteArray} (h : CInv L y place out p) (h1 : parOf L y p = some place) : circZ L y place = some (out ++ [p]) := by rw [h.unfold, h1]; simp
theorem CInv.again {L : List Clm} {y : Int} {place p nx : ByteArray} {out : List ByteArray} (h : CInv L y place out p) (h1 : parOf L y p = some nx) (h2 : nx ≠ place) (h3 : nx ∈ out ++ [p]) : circZ L y place = none := by rw [h.unfold, h1]; simp only [if_neg h2, bof_true h3, if_true]
theorem CInv.on {L : List Clm} {y : Int} {place p nx : ByteArray} {out : List ByteArray} (h : CInv L y place out p) (h1 : parOf L y p = some nx) (h2 : nx ≠ place) (h3 : ¬ nx ∈ out ++ [p]) : CInv L y place (out ++ [p]) nx := by
  refine ⟨?_, fun x hx => ?_, List.mem_append_left _ h.head, ?_⟩
  · rw [List.nodup_append]
    refine ⟨h.nodup, by simp [List.Nodup], fun a ha b hb => ?_⟩
    simp only [List.mem_cons, List.not_mem_nil, or_false] at hb
    subst hb
    intro e
    exact h3 (e ▸ ha)
  · rcases List.mem_append.1 hx with hx | hx
    · exact h.mem x hx
    · simp only [List.mem_cons, List.not_mem_nil, or_false] at hx
      subst hx
      obtain ⟨c, hc, _, hv⟩ := parOf_some h1
      exact .inr (List.mem_map.2 ⟨c, hc, hv⟩)
  · rw [h.unfold, h1]; simp only [if_neg h2, bof_false h3, Bool.false_eq_true, if_false]
theorem CInv.fresh {L : List Clm} {y : Int} {place p : ByteArray} {out : List ByteArray} (h : CInv L y place out p) : ¬ p ∈ out := fun hp => (List.nodup_append.1 h.nodup).2.2 p hp p (by simp) rfl
theorem circ_head {f : ByteArray → Option ByteArray} {place : ByteArray} {n : Nat} {out : List ByteArray} {p : ByteArray} {r : List ByteArray} (h : circ f place n out p = some r) : ∃ v, f p = some v := by
  cases n with
  | zero => cases h
  | succ n =>
    rw [circ] at h
    cases hf : f p with
    | none => rw [hf] at h; cases h
    | some v => exact ⟨v, rfl⟩
theorem circ_mono {f g : ByteArray → Option ByteArray} (hfg : ∀ x v, f x = some v → g x = some v) {place : ByteArray} : ∀ {n m : Nat} {out : List ByteArray} {p : ByteArray} {r : List ByteArray}, n ≤ m → circ f place n out p = some r → circ g place m out p = some r
  | 0, m, out, p, r, _, h => by cases h
  | n + 1, 0, out, p, r, hm, h => by omega
  | n + 1, m + 1, out, p, r, hm, h => by
    rw [circ] at h ⊢
    cases hf : f p with
    | none => rw [hf] at h; cases h
    | some v =>
      rw [hf] at h
      rw [hfg _ _ hf]
      simp only at h ⊢
      split
      · rename_i h1; rw [if_pos h1] at h; exact h
      · rename_i h1
        rw [if_neg h1] at h
        split
        · rename_i h2; rw [if_pos h2] at h; cases h
        · rename_i h2; rw [if_neg h2] at h; exact circ_mono hfg (by omega) h
/-! ### Consistency -/
def NoPair (L : List Clm) : Prop := L.Pairwise fun d c => contraB c d = false
theorem noPair_iff {L : List Clm} : NoPair L ↔ ∀ i k (hi : i < L.length) (hk : k < L.length), k < i → contraB L[i] L[k] = false := by
  unfold NoPair
  rw [List.pairwise_iff_getElem]
  exact ⟨fun h i k hi hk hki => h k i hk hi hki, fun h i k hi hk hik => h k i hk hi hik⟩
def NoCirc (L : List Clm) : Prop := ∀ c ∈ L, c.kind = 1 → ∀ d ∈ L, circZ L c.fr d.place = none
def Cons (L : List Clm) : Prop := NoPair L ∧ NoCirc L
noncomputable def consB (L : List Clm) : Bool := bof (Cons L)
theorem contra_val {c d : Clm} {y : Int} (h : contraB c d = false) (hc : c.kind = 1) (hd : d.kind = 1) (hp : c.place = d.place) (h1 : hasB c y = true) (h2 : hasB d y = true) : c.val = d.val := by
  simp only [hasB, Bool.and_eq_true, decide_eq_true_eq] at h1 h2
  have hm : meetsB c d = true := by simp only [meetsB, Bool.and_eq_true, decide_eq_true_eq]; omega
  apply Classical.byContradiction
  intro hv
  have : contraB c d = true := by
    unfold contraB
    rw [hm, hp, hc, hd]
    simp [hv]
  rw [h] at this
  cases this
theorem NoPair.val {L : List Clm} (h : NoPair L) {c d : Clm} (hc : c ∈ L) (hd : d ∈ L) {y : Int} {p : ByteArray} (h1 : parP p y c = true) (h2 : parP p y d = true) : c.val = d.val := by
  rw [noPair_iff] at h
  obtain ⟨i, hi, rfl⟩ := List.mem_iff_getElem.1 hc
  obtain ⟨k, hk, rfl⟩ := List.mem_iff_getElem.1 hd
  obtain ⟨a1, a2, a3⟩ := parP_iff.1 h1
  obtain ⟨b1, b2, b3⟩ := parP_iff.1 h2
  rcases Nat.lt_trichotomy i k with hlt | rfl | hlt
  · exact (contra_val (h k i hk hi hlt) b1 a1 (b2.trans a2.symm) b3 a3).symm
  · rfl
  · exact contra_val (h i k hi hk hlt) a1 b1 (a2.trans b2.symm) a3 b3
theorem parOf_sub {L L' : List Clm} (hs : L'.Sublist L) (h : NoPair L) {y : Int} {p v : ByteArray} (hv : parOf L' y p = some v) : parOf L y p = some v := by
  obtain ⟨c, hc, hp, rfl⟩ := parOf_some hv
  have hcL := hs.subset hc
  cases hf : parOf L y p with
  | none =>
    exfalso
    unfold parOf at hf
    rw [Option.map_eq_none_iff, List.find?_eq_none] at hf
    exact hf c hcL hp
  | some u =>
    obtain ⟨d, hd, hdp, rfl⟩ := parOf_some hf
    rw [h.val hd hcL hdp hp]
/-- What is left of consistent claims is consistent. -/
theorem Cons.sub {L L' : List Clm} (h : Cons L) (hs : L'.Sublist L) : Cons L' := by
  refine ⟨h.1.sublist hs, fun c hc hk d hd => ?_⟩
  cases hz : circZ L' c.fr d.place with
  | none => rfl
  | some r =>
    have h1 := h.2 c (hs.subset hc) hk d (hs.subset hd)
    have h2 := circ_mono (fun x v hx => parOf_sub hs h.1 hx) (m := L.length + 1) (by have := hs.length_le; omega) hz
    rw [circZ, h2] at h1
    cases h1
theorem cons_nil : Cons [] := ⟨List.Pairwise.nil, fun c hc => by simp at hc⟩
/-- A circle begins where a claim tells a parent. -/
theorem circZ_par {L : List Clm} {y : Int} {p : ByteArray} {r : List ByteArray} (h : circZ L y p = some r) : ∃ d ∈ L, parP p y d = true := by
  obtain ⟨v, hv⟩ := circ_head h
  obtain ⟨c, hc, h1, _⟩ := parOf_some hv
  exact ⟨c, hc, h1⟩
theorem noCirc_of {L : List Clm} (h : ∀ c ∈ L, c.kind = 1 → ∀ d ∈ L, d.kind = 1 → hasB d c.fr = true → circZ L c.fr d.place = none) : NoCirc L := by
  intro c hc hk d hd
  cases hz : circZ L c.fr d.place with
  | none => rfl
  | some r =>
    obtain ⟨e, he, hp⟩ := circZ_par hz
    obtain ⟨e1, e2, e3⟩ := parP_iff.1 hp
    have := h c hc hk e he e1 e3
    rw [e2, hz] at this
    cases this
end Go.Proofs.YtflcfdiochohgaaGreatDoor

/- What consistent claims tell of the existence of a place: the first that tells is as good as the last. -/
set_option linter.unusedSimpArgs false
set_option linter.unusedVariables false
namespace Go.Proofs.YtflcfdiochohgaaGreatDoor
theorem contra_symm (c d : Clm) : contraB c d = contraB d c := by
  have h1 : meetsB c d = meetsB d c := by unfold meetsB; exact Bool.and_comm _ _
  have h2 : (withoutB c d || withoutB d c) = (withoutB d c || withoutB c d) := Bool.or_comm _ _
  have h3 : decide (c.place = d.place) = decide (d.place = c.place) := by rw [decide_eq_decide]; exact eq_comm
  have h4 : (decide (c.kind = 3) != decide (d.kind = 3)) = (decide (d.kind = 3) != decide (c.kind = 3)) := by cases decide (c.kind = 3) <;> cases decide (d.kind = 3) <;> rfl
  have h5 : (decide (c.kind = d.kind) && (decide (c.kind = 0) || decide (c.kind = 1)) && !(decide (c.val = d.val))) = (decide (d.kind = c.kind) && (decide (d.kind = 0) || decide (d.kind = 1)) && !(decide (d.val = c.val))) := by
    by_cases h : c.kind = d.kind
    · have e : decide (c.val = d.val) = decide (d.val = c.val) := by rw [decide_eq_decide]; exact eq_comm
      rw [h, e]
    · have h' : ¬ d.kind = c.kind := fun e => h e.symm
      simp [h, h']
  unfold contraB
  rw [h1, h2, h3, h4, h5]
theorem contra_self (c : Clm) : contraB c c = false := by
  have h1 : withoutB c c = false := by
    unfold withoutB
    by_cases hk : c.kind = 1
    · simp [hk]
    · simp [hk]
  unfold contraB
  rw [h1]
  simp
theorem NoPair.all {L : List Clm} (h : NoPair L) {c d : Clm} (hc : c ∈ L) (hd : d ∈ L) : contraB c d = false := by
  rw [noPair_iff] at h
  obtain ⟨i, hi, rfl⟩ := List.mem_iff_getElem.1 hc
  obtain ⟨k, hk, rfl⟩ := List.mem_iff_getElem.1 hd
  rcases Nat.lt_trichotomy i k with hlt | rfl | hlt
  · rw [contra_symm]; exact h k i hk hi hlt
  · exact contra_self _
  · exact h i k hi hk hlt
end Go.Proofs.YtflcfdiochohgaaGreatDoor

/- Repairs and cores as sets of indices: the plain law. -/
set_option linter.unusedSimpArgs false
set_option linter.unusedVariables false
namespace Go.Proofs.YtflcfdiochohgaaGreatDoor
theorem cons_sub_b {L L' : List Clm} (hs : L'.Sublist L) (h : consB L = true) : consB L' = true := bof_true ((of_bof h).sub hs)
theorem ixs_rest (S : List Int) (k : Nat) : Ixs k (restTo S k) := by
  refine ⟨?_, fun x hx => restTo_within S k x hx⟩
  unfold restTo
  refine List.Pairwise.sublist List.filter_sublist ?_
  rw [List.pairwise_map]
  exact List.pairwise_lt_range.imp fun h => by omega
end Go.Proofs.YtflcfdiochohgaaGreatDoor

/- The weight of chosen claims. -/
set_option linter.unusedSimpArgs false
set_option linter.unusedVariables false
namespace Go.Proofs.YtflcfdiochohgaaGreatDoor
open Go.RowKit
theorem lengthClaim_any (a : Option Addr) (n c : Nat) (w : World) : Calls Tryz.prog 89 #[.slice a n c] w (Ret w (.int .i64 n)) := by
  go_enter Tryz.func89, Tryz.ntmps89
  go_wp2_with fail
  go_ret
  exact .mk rfl (by (repeat (first | (with_reducible exact Below.refl _ _) | (with_reducible assumption) | (with_reducible refine Later.out _ ?_) | (with_reducible refine bel_alloc ?_ _) | (with_reducible refine bel_drew ?_) | (with_reducible refine bel_drewN ?_ _) | (with_reducible refine bel_set ?_ ?_ _) | (with_reducible refine After.out _ ?_ ?_) | (dsimp only; omega) | omega | (simp only [World.size_alloc, World.size_setCell, World.size_drew]; omega))))
/-- The code of a choice of claims. -/
noncomputable def codeZ (L : List Clm) (l : List Int) : Int := if claimsB L then (if risesB l L.length then 0 else 2) else 1
theorem code_rises {L : List Clm} {l : List Int} (h : codeZ L l = 0) : Rises l L.length := by
  unfold codeZ at h
  cases h1 : claimsB L
  · rw [h1] at h; cases h
  · cases h2 : risesB l L.length
    · rw [h1, h2] at h; cases h
    · exact rises_of h2
section
variable (L : List Clm) (l : List Int) (a a' : Option Addr) (n c n' c' : Nat) (w : World) (hn : L.length = n) (hn' : l.length = n') (hm : n ≤ 1048576) (hm' : n' ≤ 1048576) (hr : Row w a (clmsCells L)) (hr' : Row w a' (intCells l)) (ok : ∀ c ∈ L, ClmOk c)
include hn hn' hm hm' hr hr' ok
theorem chosenCode_any (hx : Max w) : Calls Tryz.prog 97 #[.slice a n c, .slice a' n' c'] w (Ret w (.int .i64 (codeZ L l))) := by
  cases h1 : claimsB L
  · have X := Lib.hid (show codeZ L l = 1 by simp [codeZ, h1])
    have C1 := Lib.hid (areClaims_b (c := c) hn hm hr ok hx h1)
    clear hr hr' ok hx h1
    go_enter Tryz.func97, Tryz.ntmps97
    go_wp2_with fail
    with_reducible refine (C1.out).mono ?_
    rintro e w' ⟨rfl, y1, rfl⟩
    have hsy1 := y1.bel.size
    (try simp only [World.size_alloc, World.size_setCell, World.size_drew] at hsy1)
    go_wp2_with fail
    go_ret
    exact .mk (by rw [X.out]; rfl) (by (repeat (first | (with_reducible exact Below.refl _ _) | (with_reducible assumption) | (with_reducible refine Later.out _ ?_) | (with_reducible refine bel_alloc ?_ _) | (with_reducible refine bel_drew ?_) | (with_reducible refine bel_drewN ?_ _) | (with_reducible refine bel_set ?_ ?_ _) | (with_reducible refine After.out _ ?_ ?_) | (dsimp only; omega) | omega | (simp only [World.size_alloc, World.size_setCell, World.size_drew]; omega))))
  cases h2 : risesB l L.length
  · have X := Lib.hid (show codeZ L l = 2 by simp [codeZ, h1, h2])
    have C1 := Lib.hid (areClaims_b (c := c) hn hm hr ok hx h1)
    rw [hn] at h2
    have C2 := Lib.hid (fun w hr' => areIndices_b (w := w) (a := a') (c := c') hn' hm' hr' (by omega) (by omega) h2)
    replace hr' := Lib.hid hr'
    clear hr ok hx h1 h2
    go_enter Tryz.func97, Tryz.ntmps97
    go_wp2_with fail
    with_reducible refine (C1.out).mono ?_
    rintro e w' ⟨rfl, y1, rfl⟩
    have hsy1 := y1.bel.size
    (try simp only [World.size_alloc, World.size_setCell, World.size_drew] at hsy1)
    go_wp2_with fail
    with_reducible refine (lengthClaim_any _ _ _ _).mono ?_
    rintro e w' ⟨rfl, y2, rfl⟩
    have hsy2 := y2.bel.size
    (try simp only [World.size_alloc, World.size_setCell, World.size_drew] at hsy2)
    go_wp2_with fail
    with_reducible refine (C2.out _ (hr'.out.bel (by (repeat (first | (with_reducible exact Below.refl _ _) | (with_reducible assumption) | (with_reducible refine Later.out _ ?_) | (with_reducible refine bel_alloc ?_ _) | (with_reducible refine bel_drew ?_) | (with_reducible refine bel_drewN ?_ _) | (with_reducible refine bel_set ?_ ?_ _) | (with_reducible refine After.out _ ?_ ?_) | (dsimp only; omega) | omega | (simp only [World.size_alloc, World.size_setCell, World.size_drew]; omega)))))).mono ?_
    rintro e w' ⟨rfl, y3, rfl⟩
    have hsy3 := y3.bel.size
    (try simp only [World.size_alloc, World.size_setCell, World.size_drew] at hsy3)
    go_wp2_with fail
    go_ret
    exact .mk (by rw [X.out]; rfl) (by (repeat (first | (with_reducible exact Below.refl _ _) | (with_reducible assumption) | (with_reducible refine Later.out _ ?_) | (with_reducible refine bel_alloc ?_ _) | (with_reducible refine bel_drew ?_) | (with_reducible refine bel_drewN ?_ _) | (with_reducible refine bel_set ?_ ?_ _) | (with_reducible refine After.out _ ?_ ?_) | (dsimp only; omega) | omega | (simp only [World.size_alloc, World.size_setCell, World.size_drew]; omega))))
  · have X := Lib.hid (show codeZ L l = 0 by simp [codeZ, h1, h2])
    have C1 := Lib.hid (areClaims_b (c := c) hn hm hr ok hx h1)
    rw [hn] at h2
    have C2 := Lib.hid (fun w hr' => areIndices_b (w := w) (a := a') (c := c') hn' hm' hr' (by omega) (by omega) h2)
    replace hr' := Lib.hid hr'
    clear hr ok hx h1 h2
    go_enter Tryz.func97, Tryz.ntmps97
    go_wp2_with fail
    with_reducible refine (C1.out).mono ?_
    rintro e w' ⟨rfl, y1, rfl⟩
    have hsy1 := y1.bel.size
    (try simp only [World.size_alloc, World.size_setCell, World.size_drew] at hsy1)
    go_wp2_with fail
    with_reducible refine (lengthClaim_any _ _ _ _).mono ?_
    rintro e w' ⟨rfl, y2, rfl⟩
    have hsy2 := y2.bel.size
    (try simp only [World.size_alloc, World.size_setCell, World.size_drew] at hsy2)
    go_wp2_with fail
    with_reducible refine (C2.out _ (hr'.out.bel (by (repeat (first | (with_reducible exact Below.refl _ _) | (with_reducible assumption) | (with_reducible refine Later.out _ ?_) | (with_reducible refine bel_alloc ?_ _) | (with_reducible refine bel_drew ?_) | (with_reducible refine bel_drewN ?_ _) | (with_reducible refine bel_set ?_ ?_ _) | (with_reducible refine After.out _ ?_ ?_) | (dsimp only; omega) | omega | (simp only [World.size_alloc, World.size_setCell, World.size_drew]; omega)))))).mono ?_
    rintro e w' ⟨rfl, y3, rfl⟩
    have hsy3 := y3.bel.size
    (try simp only [World.size_alloc, World.size_setCell, World.size_drew] at hsy3)
    go_wp2_with fail
    go_ret
    exact .mk (by rw [X.out]; rfl) (by (repeat (first | (with_reducible exact Below.refl _ _) | (with_reducible assumption) | (with_reducible refine Later.out _ ?_) | (with_reducible refine bel_alloc ?_ _) | (with_reducible refine bel_drew ?_) | (with_reducible refine bel_drewN ?_ _) | (with_reducible refine bel_set ?_ ?_ _) | (with_reducible refine After.out _ ?_ ?_) | (dsimp only; omega) | omega | (simp only [World.size_alloc, World.size_setCell, World.size_drew]; omega))))
end
end Go.Proofs.YtflcfdiochohgaaGreatDoor

/- The first least one of a list; what the tables of repairs and cores are used for: the plain laws. -/
set_option linter.unusedSimpArgs false
set_option linter.unusedVariables false
namespace Go.Proofs.YtflcfdiochohgaaGreatDoor
def orZ (a b : Int) : Int := if a = 0 then b else a
def coreLt (x y : List Int) : Bool := decide (orZ (cmpZ x.length y.length) (cmpL x y) < 0)
end Go.Proofs.YtflcfdiochohgaaGreatDoor

/- The tables by number: the plain law of a table, the search in a list of numbers by a function value, the function values. -/
set_option linter.unusedSimpArgs false
set_option linter.unusedVariables false
namespace Go.Proofs.YtflcfdiochohgaaGreatDoor
open Go.RowKit
theorem wrap_pow {i : Nat} (hi : i ≤ 12) : wrap64 ((2 : Int) ^ i) = ((2 ^ i : Nat) : Int) := by
  have h1 : (2 ^ i : Nat) ≤ 2 ^ 12 := Nat.pow_le_pow_right (by omega) hi
  have h2 : (2 : Int) ^ i = ((2 ^ i : Nat) : Int) := (Int.natCast_pow 2 i).symm
  rw [h2]
  generalize 2 ^ i = m at h1
  unfold wrap64
  omega
/-- What a function value must do for a list of numbers: tell `p` of each, whenever it is called later. -/
def TellsI (g : Nat) (lb : Array Value) (p : Int → Bool) (L : List Int) (w : World) : Prop :=
  ∀ x ∈ L, ∀ w' : World, Below w.heap.size w w' → Calls Tryz.prog g (#[.int .i64 x] ++ lb) w' (Ret w' (.bool (p x)))
theorem TellsI.bel {g : Nat} {lb : Array Value} {p : Int → Bool} {L : List Int} {w w1 : World} (h : TellsI g lb p L w) (hb : Below w.heap.size w w1) : TellsI g lb p L w1 :=
  fun c hc w' hb' => h c hc w' (hb.trans (hb'.mono hb.size))
end Go.Proofs.YtflcfdiochohgaaGreatDoor

/- ClaimsAbout, both sides. -/
set_option linter.unusedSimpArgs false
set_option linter.unusedVariables false
namespace Go.Proofs.YtflcfdiochohgaaGreatDoor
open Go.RowKit
theorem hasB_in (c : Clm) (y : Int) : hasB c y = inB y c.fr c.to := rfl
set_option maxHeartbeats 400000 in
theorem has_any (f t y : Int) (w : World) : Calls Tryz.prog 95 #[.agg #[.int .i64 f, .int .i64 t], .int .i64 y] w (Ret w (.bool (inB y f t))) := by
  go_enter Tryz.func95, Tryz.ntmps95
  go_wp2_with fail
  with_reducible refine (within_any _ _ _ _).mono ?_
  rintro e w' ⟨rfl, y1, rfl⟩
  have hsy1 := y1.bel.size
  (try simp only [World.size_alloc, World.size_setCell, World.size_drew] at hsy1)
  go_wp2_with fail
  go_ret
  exact .mk rfl (by (repeat (first | (with_reducible exact Below.refl _ _) | (with_reducible assumption) | (with_reducible refine Later.out _ ?_) | (with_reducible refine bel_alloc ?_ _) | (with_reducible refine bel_drew ?_) | (with_reducible refine bel_drewN ?_ _) | (with_reducible refine bel_set ?_ ?_ _) | (with_reducible refine After.out _ ?_ ?_) | (dsimp only; omega) | omega | (simp only [World.size_alloc, World.size_setCell, World.size_drew]; omega))))
theorem has_b {f t y : Int} {w : World} {b : Bool} (h : inB y f t = b) : Calls Tryz.prog 95 #[.agg #[.int .i64 f, .int .i64 t], .int .i64 y] w (Ret w (.bool b)) := by subst h; exact has_any _ _ _ _
section
variable (L : List Clm) (p : ByteArray) (y : Int) (a : Option Addr) (n c : Nat) (w : World) (hn : L.length = n) (hm : n ≤ 1048576) (hr : Row w a (clmsCells L)) (ok : ∀ c ∈ L, ClmOk c)
include hn hm hr ok
end
end Go.Proofs.YtflcfdiochohgaaGreatDoor

/- Parents and circles by claims, both sides. -/
set_option linter.unusedSimpArgs false
set_option linter.unusedVariables false
namespace Go.Proofs.YtflcfdiochohgaaGreatDoor
open Go.RowKit
theorem idxP_par (L : List Clm) (y : Int) (p : ByteArray) : (parOf L y p = none ∧ idxP (parP p y) L = -1) ∨ ∃ (k : Nat) (hk : k < L.length), parOf L y p = some L[k].val ∧ idxP (parP p y) L = k := by
  unfold idxP
  cases h : L.findIdx? (parP p y) with
  | none =>
    left
    rw [List.findIdx?_eq_none_iff] at h
    exact ⟨parOf_none h, rfl⟩
  | some i =>
    right
    rw [List.findIdx?_eq_some_iff_getElem] at h
    obtain ⟨hi, hp, hall⟩ := h
    exact ⟨i, hi, parOf_at hi hp fun j hj hji => by have := hall j hji; simpa using this, rfl⟩
set_option maxHeartbeats 1000000 in
theorem parent1_any (c : Clm) (p : ByteArray) (y : Int) (g1 g2 : Nat) (w : World) (h1 : w.cell? ⟨g1, 0, none⟩ = some (.string p)) (h2 : w.cell? ⟨g2, 0, none⟩ = some (.int .i64 y)) :
    Calls Tryz.prog 265 #[clmV c, .pointer (some ⟨g1, 0, none⟩), .pointer (some ⟨g2, 0, none⟩)] w (Ret w (.bool (parP p y c))) := by
  have b1 := World.block_lt_of_cell? w _ h1
  have b2 := World.block_lt_of_cell? w _ h2
  simp only at b1 b2
  by_cases k : c.kind = 1
  · have k1 : (c.kind == 1) = true := by simp [k]
    rcases sameB c.place p with ⟨e, e1⟩ | ⟨e, e1⟩
    · have X := Lib.hid (show parP p y c = inB y c.fr c.to by simp [parP, e, hasB_in, k])
      clear e k
      go_enter Tryz.func265, Tryz.ntmps265
      go_wp2_with fail
      with_reducible refine (has_any _ _ _ _).mono ?_
      rintro e w' ⟨rfl, y1, rfl⟩
      have hsy1 := y1.bel.size
      (try simp only [World.size_alloc, World.size_setCell, World.size_drew] at hsy1)
      go_wp2_with fail
      go_ret
      exact .mk (by rw [X.out]; rfl) (by (repeat (first | (with_reducible exact Below.refl _ _) | (with_reducible assumption) | (with_reducible refine Later.out _ ?_) | (with_reducible refine bel_alloc ?_ _) | (with_reducible refine bel_drew ?_) | (with_reducible refine bel_drewN ?_ _) | (with_reducible refine bel_set ?_ ?_ _) | (with_reducible refine After.out _ ?_ ?_) | (dsimp only; omega) | omega | (simp only [World.size_alloc, World.size_setCell, World.size_drew]; omega))))
    · have X := Lib.hid (show parP p y c = false by simp [parP, e])
      clear e k
      go_enter Tryz.func265, Tryz.ntmps265
      go_wp2_with fail
      go_ret
      exact .mk (by rw [X.out]; rfl) (by (repeat (first | (with_reducible exact Below.refl _ _) | (with_reducible assumption) | (with_reducible refine Later.out _ ?_) | (with_reducible refine bel_alloc ?_ _) | (with_reducible refine bel_drew ?_) | (with_reducible refine bel_drewN ?_ _) | (with_reducible refine bel_set ?_ ?_ _) | (with_reducible refine After.out _ ?_ ?_) | (dsimp only; omega) | omega | (simp only [World.size_alloc, World.size_setCell, World.size_drew]; omega))))
  · have k1 : (c.kind == 1) = false := by simp [k]
    have X := Lib.hid (show parP p y c = false by simp [parP, k])
    clear k
    go_enter Tryz.func265, Tryz.ntmps265
    go_wp2_with fail
    go_ret
    exact .mk (by rw [X.out]; rfl) (by (repeat (first | (with_reducible exact Below.refl _ _) | (with_reducible assumption) | (with_reducible refine Later.out _ ?_) | (with_reducible refine bel_alloc ?_ _) | (with_reducible refine bel_drew ?_) | (with_reducible refine bel_drewN ?_ _) | (with_reducible refine bel_set ?_ ?_ _) | (with_reducible refine After.out _ ?_ ?_) | (dsimp only; omega) | omega | (simp only [World.size_alloc, World.size_setCell, World.size_drew]; omega))))
theorem enters_parent1 : ∀ args w, (callFunc 265 args).run Tryz.prog w = .ok (.enter 265 args) w := fun _ _ => by kernel_rfl
theorem tells_parent {L : List Clm} {p : ByteArray} {y : Int} {g1 g2 : Nat} {w : World} (h1 : w.cell? ⟨g1, 0, none⟩ = some (.string p)) (h2 : w.cell? ⟨g2, 0, none⟩ = some (.int .i64 y)) :
    Tells 265 #[] #[.pointer (some ⟨g1, 0, none⟩), .pointer (some ⟨g2, 0, none⟩)] (parP p y) L w :=
  fun c _ w' hb => by
    have := parent1_any c p y g1 g2 w' ((hb.cell (World.block_lt_of_cell? w _ h1)).trans h1) ((hb.cell (World.block_lt_of_cell? w _ h2)).trans h2)
    simpa using this
section
variable {L : List Clm} {p : ByteArray} {y : Int} {a : Option Addr} {n c : Nat} {w : World} (hn : L.length = n) (hm : n ≤ 1048576) (hr : Row w a (clmsCells L))
include hn hm hr
set_option maxHeartbeats 1000000 in
theorem parent_none (h : parOf L y p = none) : Calls Tryz.prog 245 #[.slice a n c, .string p, .int .i64 y] w (Ret w (.tuple #[.string ByteArray.empty, .bool false])) := by
  have C := fun lb w hr hp => indexFunc_any 265 #[] lb (parP p y) L a n c w enters_parent1 hn hm hr hp
  rcases idxP_par L y p with ⟨h1, h2⟩ | ⟨k, hk, h1, h2⟩
  · rw [h2] at C
    replace C := Lib.hid C
    replace hr := Lib.hid hr
    clear h h1 h2 hn
    go_enter Tryz.func245, Tryz.ntmps245
    go_wp2_with fail
    with_reducible refine (C.out _ _ (hr.out.bel (by (repeat (first | (with_reducible exact Below.refl _ _) | (with_reducible assumption) | (with_reducible refine Later.out _ ?_) | (with_reducible refine bel_alloc ?_ _) | (with_reducible refine bel_drew ?_) | (with_reducible refine bel_drewN ?_ _) | (with_reducible refine bel_set ?_ ?_ _) | (with_reducible refine After.out _ ?_ ?_) | (dsimp only; omega) | omega | (simp only [World.size_alloc, World.size_setCell, World.size_drew]; omega))))) (by refine tells_parent ?_ ?_ <;> simp [go_sem, ↓IntWalk.iteOmega, *])).mono ?_
    rintro e w' ⟨rfl, y1, rfl⟩
    have hsy1 := y1.bel.size
    (try simp only [World.size_alloc, World.size_setCell, World.size_drew] at hsy1)
    go_wp2_with fail
    refine bodyPost_ret (by simp [results, Tryz.results245, go_sem, ↓IntWalk.iteOmega, *]; try rfl) rfl ?_
    exact .mk rfl (by (repeat (first | (with_reducible exact Below.refl _ _) | (with_reducible assumption) | (with_reducible refine Later.out _ ?_) | (with_reducible refine bel_alloc ?_ _) | (with_reducible refine bel_drew ?_) | (with_reducible refine bel_drewN ?_ _) | (with_reducible refine bel_set ?_ ?_ _) | (with_reducible refine After.out _ ?_ ?_) | (dsimp only; omega) | omega | (simp only [World.size_alloc, World.size_setCell, World.size_drew]; omega))))
  · rw [h] at h1; cases h1
set_option maxHeartbeats 1000000 in
theorem parent_some {v : ByteArray} (h : parOf L y p = some v) : Calls Tryz.prog 245 #[.slice a n c, .string p, .int .i64 y] w (Ret w (.tuple #[.string v, .bool true])) := by
  have C := fun lb w hr hp => indexFunc_any 265 #[] lb (parP p y) L a n c w enters_parent1 hn hm hr hp
  rcases idxP_par L y p with ⟨h1, h2⟩ | ⟨k, hk, h1, h2⟩
  · rw [h] at h1; cases h1
  · rw [h] at h1
    have hv := Option.some.inj h1
    rw [h2] at C
    obtain ⟨b, o, rfl, hb, q0, q1, q2, q3, q4, q5, q6⟩ := hr.clm hk
    rw [← hv] at q3
    have hkn : (k : Int) < (n : Int) := by omega
    have hkn2 : k < n := by omega
    replace C := Lib.hid C
    replace hr := Lib.hid hr
    clear h h1 h2 hn hk hv q0 q1 q2 q4 q5 q6
    go_enter Tryz.func245, Tryz.ntmps245
    go_wp2_with fail
    with_reducible refine (C.out _ _ (hr.out.bel (by (repeat (first | (with_reducible exact Below.refl _ _) | (with_reducible assumption) | (with_reducible refine Later.out _ ?_) | (with_reducible refine bel_alloc ?_ _) | (with_reducible refine bel_drew ?_) | (with_reducible refine bel_drewN ?_ _) | (with_reducible refine bel_set ?_ ?_ _) | (with_reducible refine After.out _ ?_ ?_) | (dsimp only; omega) | omega | (simp only [World.size_alloc, World.size_setCell, World.size_drew]; omega))))) (by refine tells_parent ?_ ?_ <;> simp [go_sem, ↓IntWalk.iteOmega, *])).mono ?_
    rintro e w' ⟨rfl, y1, rfl⟩
    have hsy1 := y1.bel.size
    (try simp only [World.size_alloc, World.size_setCell, World.size_drew] at hsy1)
    go_wp2_with fail
    refine bodyPost_ret (by simp [results, Tryz.results245, go_sem, ↓IntWalk.iteOmega, *]; try rfl) rfl ?_
    exact .mk rfl (by (repeat (first | (with_reducible exact Below.refl _ _) | (with_reducible assumption) | (with_reducible refine Later.out _ ?_) | (with_reducible refine bel_alloc ?_ _) | (with_reducible refine bel_drew ?_) | (with_reducible refine bel_drewN ?_ _) | (with_reducible refine bel_set ?_ ?_ _) | (with_reducible refine After.out _ ?_ ?_) | (dsimp only; omega) | omega | (simp only [World.size_alloc, World.size_setCell, World.size_drew]; omega))))
end
/-- The reference's parent: the empty text if there is none. -/
def parS (L : List Clm) (y : Int) (p : ByteArray) : ByteArray := (parOf L y p).getD ByteArray.empty
set_option maxRecDepth 4000 in
set_option maxHeartbeats 2000000 in
theorem sParent_any (L : List Clm) (y : Int) (p : ByteArray) (a : Option Addr) (n c : Nat) (w : World) (hn : L.length = n) (hm : n ≤ 1048576) (hr : Row w a (clmsCells L)) :
    Calls Tryz.prog 217 #[.slice a n c, .string p, .int .i64 y] w (Ret w (.string (parS L y p))) := by
  subst hn
  replace hr := Lib.hid hr
  go_enter Tryz.func217, Tryz.ntmps217
  go_wp2_with fail
  go_loopw [7] (fun i wr => ∃ k : Nat, k ≤ L.length ∧ i = .int .i64 k ∧ (∀ j (hj : j < L.length), j < k → parP p y L[j] = false) ∧ ∃ z : Later w, wr = z.w) (fun i _ => L.length - (intOf i).toNat)
  case atStart => exact ⟨0, Nat.zero_le _, rfl, fun j _ h => absurd h (by omega), ⟨_, Below.refl _ _⟩, rfl⟩
  case round =>
    obtain ⟨k, hk, rfl, hall, z, rfl⟩ := hrel
    replace hall := Lib.hid hall
    have hzz := z.bel.size
    by_cases hlt : k < L.length
    · obtain ⟨b, o, rfl, hb, q0, q1, q2, q3, q4, q5, q6⟩ := hr.out.clm hlt
      have hno := fun h : parP p y L[k] = false => (show ∀ j (hj : j < L.length), j < k + 1 → parP p y L[j] = false from fun j hj h1 => by
        rcases Nat.lt_or_ge j k with h2 | h2
        · exact hall.out j hj h2
        · obtain rfl : j = k := by omega
          exact h)
      by_cases e : L[k].kind = 1
      · have k1 : (L[k].kind == 1) = true := by simp [e]
        rcases sameB L[k].place p with ⟨e2, e1⟩ | ⟨e2, e1⟩
        · cases hv : inB y L[k].fr L[k].to
          · have X := Lib.hid (hno (by simp [parP, hasB_in, hv]))
            replace hv := Lib.hid hv
            clear e e2 hno
            go_wp2_with fail
            with_reducible refine (l01In_b _ hv.out).mono ?_
            rintro e w' ⟨rfl, y1, rfl⟩
            have hsy1 := y1.bel.size
            (try simp only [World.size_alloc, World.size_setCell, World.size_drew] at hsy1)
            go_wp2_with fail
            go_roundw
            case rel => exact ⟨k + 1, by omega, by go_num, X.out, LaterC.mk (by (repeat (first | (with_reducible exact Below.refl _ _) | (with_reducible assumption) | (with_reducible refine Later.out _ ?_) | (with_reducible refine bel_alloc ?_ _) | (with_reducible refine bel_drew ?_) | (with_reducible refine bel_drewN ?_ _) | (with_reducible refine bel_set ?_ ?_ _) | (with_reducible refine After.out _ ?_ ?_) | (dsimp only; omega) | omega | (simp only [World.size_alloc, World.size_setCell, World.size_drew]; omega))))⟩
            case measure => first | (simp [intOf]; done) | (simp [intOf]; omega) | omega
          · have X := Lib.hid (show parS L y p = L[k].val by
              unfold parS
              rw [parOf_at hlt (by simp [parP, hasB_in, hv, e, e2]) fun j hj hjk => hall.out j hj hjk]
              rfl)
            replace hv := Lib.hid hv
            clear e e2 hno
            go_wp2_with fail
            with_reducible refine (l01In_b _ hv.out).mono ?_
            rintro e w' ⟨rfl, y1, rfl⟩
            have hsy1 := y1.bel.size
            (try simp only [World.size_alloc, World.size_setCell, World.size_drew] at hsy1)
            go_wp2_with fail
            go_ret
            exact .mk (by rw [X.out]; rfl) (by (repeat (first | (with_reducible exact Below.refl _ _) | (with_reducible assumption) | (with_reducible refine Later.out _ ?_) | (with_reducible refine bel_alloc ?_ _) | (with_reducible refine bel_drew ?_) | (with_reducible refine bel_drewN ?_ _) | (with_reducible refine bel_set ?_ ?_ _) | (with_reducible refine After.out _ ?_ ?_) | (dsimp only; omega) | omega | (simp only [World.size_alloc, World.size_setCell, World.size_drew]; omega))))
        · have X := Lib.hid (hno (by simp [parP, e2]))
          clear e e2 hno
          go_wp2_with fail
          go_roundw
          case rel => exact ⟨k + 1, by omega, by go_num, X.out, LaterC.mk (by (repeat (first | (with_reducible exact Below.refl _ _) | (with_reducible assumption) | (with_reducible refine Later.out _ ?_) | (with_reducible refine bel_alloc ?_ _) | (with_reducible refine bel_drew ?_) | (with_reducible refine bel_drewN ?_ _) | (with_reducible refine bel_set ?_ ?_ _) | (with_reducible refine After.out _ ?_ ?_) | (dsimp only; omega) | omega | (simp only [World.size_alloc, World.size_setCell, World.size_drew]; omega))))⟩
          case measure => first | (simp [intOf]; done) | (simp [intOf]; omega) | omega
      · have k1 : (L[k].kind == 1) = false := by simp [e]
        have X := Lib.hid (hno (by simp [parP, e]))
        clear e hno
        go_wp2_with fail
        go_roundw
        case rel => exact ⟨k + 1, by omega, by go_num, X.out, LaterC.mk (by (repeat (first | (with_reducible exact Below.refl _ _) | (with_reducible assumption) | (with_reducible refine Later.out _ ?_) | (with_reducible refine bel_alloc ?_ _) | (with_reducible refine bel_drew ?_) | (with_reducible refine bel_drewN ?_ _) | (with_reducible refine bel_set ?_ ?_ _) | (with_reducible refine After.out _ ?_ ?_) | (dsimp only; omega) | omega | (simp only [World.size_alloc, World.size_setCell, World.size_drew]; omega))))⟩
        case measure => first | (simp [intOf]; done) | (simp [intOf]; omega) | omega
    · obtain rfl : k = L.length := by omega
      have X := Lib.hid (show parS L y p = ByteArray.empty by
        unfold parS
        rw [parOf_none fun c hc => by
          obtain ⟨j, hj, rfl⟩ := List.mem_iff_getElem.1 hc
          exact hall.out j hj hj]
        rfl)
      go_wp2_with fail
      go_ret
      exact .mk (by rw [X.out]; rfl) (by (repeat (first | (with_reducible exact Below.refl _ _) | (with_reducible assumption) | (with_reducible refine Later.out _ ?_) | (with_reducible refine bel_alloc ?_ _) | (with_reducible refine bel_drew ?_) | (with_reducible refine bel_drewN ?_ _) | (with_reducible refine bel_set ?_ ?_ _) | (with_reducible refine After.out _ ?_ ?_) | (dsimp only; omega) | omega | (simp only [World.size_alloc, World.size_setCell, World.size_drew]; omega))))
/-! ### Texts in lists -/
/-- The first place of a text, -1 if there is none. -/
def idxS (x : ByteArray) (O : List ByteArray) : Int := match O.findIdx? (fun y => decide (y = x)) with
  | some i => i
  | none => -1
theorem idxS_none {x : ByteArray} {O : List ByteArray} (h : ∀ j (hj : j < O.length), O[j] ≠ x) : idxS x O = -1 := by
  have : O.findIdx? (fun y => decide (y = x)) = none := by
    rw [List.findIdx?_eq_none_iff]
    intro z hz
    obtain ⟨j, hj, rfl⟩ := List.mem_iff_getElem.1 hz
    simpa using h j hj
  simp [idxS, this]
theorem idxS_some {x : ByteArray} {O : List ByteArray} {k : Nat} (hk : k < O.length) (h1 : O[k] = x) (h : ∀ j (hj : j < O.length), j < k → O[j] ≠ x) : idxS x O = k := by
  have : O.findIdx? (fun y => decide (y = x)) = some k := by
    rw [List.findIdx?_eq_some_iff_getElem]
    exact ⟨hk, by simpa using h1, fun j hj => by simpa using h j (by omega) hj⟩
  simp [idxS, this]
theorem idxS_cases (x : ByteArray) (O : List ByteArray) : (x ∈ O ∧ 0 ≤ idxS x O) ∨ (¬ x ∈ O ∧ idxS x O = -1) := by
  unfold idxS
  cases h : O.findIdx? (fun y => decide (y = x)) with
  | none =>
    right
    rw [List.findIdx?_eq_none_iff] at h
    exact ⟨fun hx => by simpa using h x hx, rfl⟩
  | some i =>
    left
    rw [List.findIdx?_eq_some_iff_getElem] at h
    obtain ⟨hi, hp, _⟩ := h
    have : O[i] = x := by simpa using hp
    exact ⟨this ▸ List.getElem_mem hi, by simp⟩
theorem Row.str {w : World} {a : Option Addr} {O : List ByteArray} (h : Row w a (strCells O)) {k : Nat} (hk : k < O.length) : ∃ b o, a = some ⟨b, o, none⟩ ∧ b < w.heap.size ∧ w.cell? ⟨b, o + k, none⟩ = some (.string O[k]) := by
  obtain ⟨b, o, rfl, hc⟩ := h k _ (strCells_get hk)
  exact ⟨b, o, rfl, World.block_lt_of_cell? w _ hc, hc⟩
set_option maxRecDepth 4000 in
set_option maxHeartbeats 1000000 in
theorem indexStr_any (x : ByteArray) (O : List ByteArray) (a : Option Addr) (n c : Nat) (w : World) (hn : O.length = n) (hm : n ≤ 1048577) (hr : Row w a (strCells O)) :
    Calls Tryz.prog 221 #[.slice a n c, .string x] w (Ret w (.int .i64 (idxS x O))) := by
  subst hn
  replace hr := Lib.hid hr
  go_enter Tryz.func221, Tryz.ntmps221
  go_wp2_with fail
  go_loopw [8] (fun i wr => ∃ k : Nat, k ≤ O.length ∧ i = .int .i64 k ∧ (∀ j (hj : j < O.length), j < k → O[j] ≠ x) ∧ ∃ z : Later w, wr = z.w) (fun i _ => O.length - (intOf i).toNat)
  case atStart => exact ⟨0, Nat.zero_le _, rfl, fun j _ h => absurd h (by omega), ⟨_, Below.refl _ _⟩, rfl⟩
  case round =>
    obtain ⟨k, hk, rfl, hall, z, rfl⟩ := hrel
    replace hall := Lib.hid hall
    by_cases hlt : k < O.length
    · obtain ⟨b, o, rfl, hb, q⟩ := hr.out.str hlt
      rcases sameB x O[k] with ⟨e2, e1⟩ | ⟨e2, e1⟩
      · have X := Lib.hid (idxS_some hlt e2.symm hall.out)
        clear e2
        go_wp2_with fail
        go_ret
        exact .mk (by rw [X.out]; rfl) (by (repeat (first | (with_reducible exact Below.refl _ _) | (with_reducible assumption) | (with_reducible refine Later.out _ ?_) | (with_reducible refine bel_alloc ?_ _) | (with_reducible refine bel_drew ?_) | (with_reducible refine bel_drewN ?_ _) | (with_reducible refine bel_set ?_ ?_ _) | (with_reducible refine After.out _ ?_ ?_) | (dsimp only; omega) | omega | (simp only [World.size_alloc, World.size_setCell, World.size_drew]; omega))))
      · have X := Lib.hid (show ∀ j (hj : j < O.length), j < k + 1 → O[j] ≠ x from fun j hj h1 => by
          rcases Nat.lt_or_ge j k with h2 | h2
          · exact hall.out j hj h2
          · obtain rfl : j = k := by omega
            exact e2.symm)
        clear e2
        go_wp2_with fail
        go_roundw
        case rel => exact ⟨k + 1, by omega, by go_num, X.out, LaterC.mk (by (repeat (first | (with_reducible exact Below.refl _ _) | (with_reducible assumption) | (with_reducible refine Later.out _ ?_) | (with_reducible refine bel_alloc ?_ _) | (with_reducible refine bel_drew ?_) | (with_reducible refine bel_drewN ?_ _) | (with_reducible refine bel_set ?_ ?_ _) | (with_reducible refine After.out _ ?_ ?_) | (dsimp only; omega) | omega | (simp only [World.size_alloc, World.size_setCell, World.size_drew]; omega))))⟩
        case measure => first | (simp [intOf]; done) | (simp [intOf]; omega) | omega
    · obtain rfl : k = O.length := by omega
      have X := Lib.hid (idxS_none fun j hj => hall.out j hj hj)
      go_wp2_with fail
      go_ret
      exact .mk (by rw [X.out]; rfl) (by (repeat (first | (with_reducible exact Below.refl _ _) | (with_reducible assumption) | (with_reducible refine Later.out _ ?_) | (with_reducible refine bel_alloc ?_ _) | (with_reducible refine bel_drew ?_) | (with_reducible refine bel_drewN ?_ _) | (with_reducible refine bel_set ?_ ?_ _) | (with_reducible refine After.out _ ?_ ?_) | (dsimp only; omega) | omega | (simp only [World.size_alloc, World.size_setCell, World.size_drew]; omega))))
theorem containsStr_any (x : ByteArray) (O : List ByteArray) (a : Option Addr) (n c : Nat) (w : World) (hn : O.length = n) (hm : n ≤ 1048577) (hr : Row w a (strCells O)) :
    Calls Tryz.prog 188 #[.slice a n c, .string x] w (Ret w (.bool (decide (0 ≤ idxS x O)))) := by
  replace hr := Lib.hid hr
  replace hn := Lib.hid hn
  go_enter Tryz.func188, Tryz.ntmps188
  go_wp2_with fail
  with_reducible refine (indexStr_any x O _ _ _ _ hn.out hm hr.out).mono ?_
  rintro e w' ⟨rfl, y1, rfl⟩
  have hsy1 := y1.bel.size
  (try simp only [World.size_alloc, World.size_setCell, World.size_drew] at hsy1)
  go_wp2_with fail
  go_ret
  exact .mk rfl (by (repeat (first | (with_reducible exact Below.refl _ _) | (with_reducible assumption) | (with_reducible refine Later.out _ ?_) | (with_reducible refine bel_alloc ?_ _) | (with_reducible refine bel_drew ?_) | (with_reducible refine bel_drewN ?_ _) | (with_reducible refine bel_set ?_ ?_ _) | (with_reducible refine After.out _ ?_ ?_) | (dsimp only; omega) | omega | (simp only [World.size_alloc, World.size_setCell, World.size_drew]; omega))))
theorem containsStr_b {x : ByteArray} {O : List ByteArray} {a : Option Addr} {n c : Nat} {w : World} {b : Bool} (hn : O.length = n) (hm : n ≤ 1048577) (hr : Row w a (strCells O)) (h : decide (0 ≤ idxS x O) = b) :
    Calls Tryz.prog 188 #[.slice a n c, .string x] w (Ret w (.bool b)) := by subst h; exact containsStr_any x O a n c w hn hm hr
set_option maxRecDepth 4000 in
set_option maxHeartbeats 1000000 in
theorem l03Find_any (x : ByteArray) (O : List ByteArray) (a : Option Addr) (n c : Nat) (w : World) (hn : O.length = n) (hm : n ≤ 1048577) (hr : Row w a (strCells O)) :
    Calls Tryz.prog 216 #[.slice a n c, .string x] w (Ret w (.int .i64 (idxS x O))) := by
  subst hn
  replace hr := Lib.hid hr
  go_enter Tryz.func216, Tryz.ntmps216
  go_wp2_with fail
  go_loopw [5] (fun i wr => ∃ k : Nat, k ≤ O.length ∧ i = .int .i64 k ∧ (∀ j (hj : j < O.length), j < k → O[j] ≠ x) ∧ ∃ z : Later w, wr = z.w) (fun i _ => O.length - (intOf i).toNat)
  case atStart => exact ⟨0, Nat.zero_le _, rfl, fun j _ h => absurd h (by omega), ⟨_, Below.refl _ _⟩, rfl⟩
  case round =>
    obtain ⟨k, hk, rfl, hall, z, rfl⟩ := hrel
    replace hall := Lib.hid hall
    by_cases hlt : k < O.length
    · obtain ⟨b, o, rfl, hb, q⟩ := hr.out.str hlt
      rcases sameB O[k] x with ⟨e2, e1⟩ | ⟨e2, e1⟩
      · have X := Lib.hid (idxS_some hlt e2 hall.out)
        clear e2
        go_wp2_with fail
        go_ret
        exact .mk (by rw [X.out]; rfl) (by (repeat (first | (with_reducible exact Below.refl _ _) | (with_reducible assumption) | (with_reducible refine Later.out _ ?_) | (with_reducible refine bel_alloc ?_ _) | (with_reducible refine bel_drew ?_) | (with_reducible refine bel_drewN ?_ _) | (with_reducible refine bel_set ?_ ?_ _) | (with_reducible refine After.out _ ?_ ?_) | (dsimp only; omega) | omega | (simp only [World.size_alloc, World.size_setCell, World.size_drew]; omega))))
      · have X := Lib.hid (show ∀ j (hj : j < O.length), j < k + 1 → O[j] ≠ x from fun j hj h1 => by
          rcases Nat.lt_or_ge j k with h2 | h2
          · exact hall.out j hj h2
          · obtain rfl : j = k := by omega
            exact e2)
        clear e2
        go_wp2_with fail
        go_roundw
        case rel => exact ⟨k + 1, by omega, by go_num, X.out, LaterC.mk (by (repeat (first | (with_reducible exact Below.refl _ _) | (with_reducible assumption) | (with_reducible refine Later.out _ ?_) | (with_reducible refine bel_alloc ?_ _) | (with_reducible refine bel_drew ?_) | (with_reducible refine bel_drewN ?_ _) | (with_reducible refine bel_set ?_ ?_ _) | (with_reducible refine After.out _ ?_ ?_) | (dsimp only; omega) | omega | (simp only [World.size_alloc, World.size_setCell, World.size_drew]; omega))))⟩
        case measure => first | (simp [intOf]; done) | (simp [intOf]; omega) | omega
    · obtain rfl : k = O.length := by omega
      have X := Lib.hid (idxS_none fun j hj => hall.out j hj hj)
      go_wp2_with fail
      go_ret
      exact .mk (by rw [X.out]; rfl) (by (repeat (first | (with_reducible exact Below.refl _ _) | (with_reducible assumption) | (with_reducible refine Later.out _ ?_) | (with_reducible refine bel_alloc ?_ _) | (with_reducible refine bel_drew ?_) | (with_reducible refine bel_drewN ?_ _) | (with_reducible refine bel_set ?_ ?_ _) | (with_reducible refine After.out _ ?_ ?_) | (dsimp only; omega) | omega | (simp only [World.size_alloc, World.size_setCell, World.size_drew]; omega))))
end Go.Proofs.YtflcfdiochohgaaGreatDoor

/- Circles by claims, both sides. -/
set_option linter.unusedSimpArgs false
set_option linter.unusedVariables false
namespace Go.Proofs.YtflcfdiochohgaaGreatDoor
open Go.RowKit
def sliceLen : Value → Nat
  | .slice _ n _ => n
  | _ => 0
theorem one_str1 (x : ByteArray) : ∀ u ∈ [Value.string x], u.oneCell' = true := by intro u hu; simp at hu; subst hu; rfl
/-- What the search for a circle hands back: the circle, or that there is none. -/
def CircRet (w : World) (Z : Option (List ByteArray)) (e : Ending) (w' : World) : Prop :=
  ∃ (a : Option Addr) (n c : Nat) (r : List ByteArray), e = .returned (.tuple #[.slice a n c, .bool Z.isSome]) ∧ n = r.length ∧ w'.ownsRow w.heap.size 9 1 (.slice a n c) n (strCells r) ∧ (∀ s, Z = some s → r = s) ∧ ∃ y : Later w, w' = y.w
theorem CircRet.mk {w w' : World} {Z : Option (List ByteArray)} {e : Ending} {b : Bool} (v : Value) (r : List ByteArray) (h : e = .returned (.tuple #[v, .bool b])) (hb : Z.isSome = b) (ho : w'.ownsRow w.heap.size 9 1 v r.length (strCells r)) (hz : ∀ s, Z = some s → r = s) (hw : Below w.heap.size w w') : CircRet w Z e w' := by
  subst hb
  obtain ⟨a, c, rfl⟩ := own_form ho
  exact ⟨a, r.length, c, r, h, rfl, ho, hz, ⟨w', hw⟩, rfl⟩
set_option maxRecDepth 4000 in
set_option maxHeartbeats 2000000 in
theorem circleIn_any (L : List Clm) (y : Int) (place : ByteArray) (a : Option Addr) (n c : Nat) (w : World) (hn : L.length = n) (hm : n ≤ 1048576) (hr : Row w a (clmsCells L)) :
    Calls Tryz.prog 215 #[.slice a n c, .string place, .int .i64 y] w (CircRet w (circZ L y place)) := by
  obtain ⟨ii, j1, j2, j3, j4⟩ := info_str'
  have Jii := Lib.hid (And.intro j1 (And.intro j2 (And.intro j3 j4)))
  clear j1 j2 j3 j4
  have PN := fun p w hr h => parent_none (L := L) (p := p) (y := y) (a := a) (n := n) (c := c) (w := w) hn hm hr h
  have PS := fun p v w hr h => parent_some (L := L) (p := p) (y := y) (a := a) (n := n) (c := c) (w := w) hn hm hr (v := v) h
  replace PN := Lib.hid PN
  replace PS := Lib.hid PS
  replace hr := Lib.hid hr
  subst hn
  have hown0 := World.ownsRow_lit (base := w.heap.size) (e := 9) (size := 1) w #[.string place] 1 (Nat.le_refl _) (by unfold maxLen; omega) rfl
  replace hown0 := Lib.hid hown0
  go_enter Tryz.func215, Tryz.ntmps215
  go_wp2_with fail
  go_loopw [8] (fun t8 wr => ∃ (out : List ByteArray) (p : ByteArray) (a8 : Option Addr) (c8 : Nat), t8 = .slice a8 (out.length + 1) c8 ∧ wr.ownsRow w.heap.size 9 1 (.slice a8 (out.length + 1) c8) (out.length + 1) (strCells (out ++ [p])) ∧ CInv L y place out p ∧ ∃ z : Later w, wr = z.w) (fun t8 _ => L.length + 2 - sliceLen t8)
  case atStart => exact ⟨[], place, _, _, rfl, hown0.out, CInv.start _ _ _, LaterC.mk (by (repeat (first | (with_reducible exact Below.refl _ _) | (with_reducible assumption) | (with_reducible refine Later.out _ ?_) | (with_reducible refine bel_alloc ?_ _) | (with_reducible refine bel_drew ?_) | (with_reducible refine bel_drewN ?_ _) | (with_reducible refine bel_set ?_ ?_ _) | (with_reducible refine After.out _ ?_ ?_) | (dsimp only; omega) | omega | (simp only [World.size_alloc, World.size_setCell, World.size_drew]; omega))))⟩
  case round =>
    obtain ⟨out, p, a8, c8, rfl, hown, hinv, z, rfl⟩ := hrel
    have hzz := z.bel.size
    have hl := hinv.len
    obtain ⟨m, hm8⟩ : ∃ m, out.length = m := ⟨_, rfl⟩
    have hrow : Row z.w a8 (strCells (out ++ [p])) := Row.of_own hown
    obtain ⟨b8, o8, rfl, hb8, hc8⟩ := hrow.str (k := m) (by simp; omega)
    have hp : (out ++ [p])[m]'(by simp; omega) = p := by subst hm8; simp
    rw [hp] at hc8
    rw [hm8] at hown hl
    have hlr : (out ++ [p]).length = m + 1 := by simp [hm8]
    obtain ⟨C, hC⟩ : ∃ C, out ++ [p] = C := ⟨_, rfl⟩
    have hINV := Lib.hid hinv
    rw [hC] at hrow hown hlr
    rw [hm8]
    replace hrow := Lib.hid hrow
    replace hown := Lib.hid hown
    replace hlr := Lib.hid hlr
    have hC' := Lib.hid hC
    have hm8' := Lib.hid hm8
    clear hinv hm8 hp hown0 hC
    cases hpar : parOf L y p with
    | none =>
      have X := Lib.hid (hINV.out.no hpar)
      go_wp2_with fail
      with_reducible refine (PN.out _ _ (hr.out.bel (by (repeat (first | (with_reducible exact Below.refl _ _) | (with_reducible assumption) | (with_reducible refine Later.out _ ?_) | (with_reducible refine bel_alloc ?_ _) | (with_reducible refine bel_drew ?_) | (with_reducible refine bel_drewN ?_ _) | (with_reducible refine bel_set ?_ ?_ _) | (with_reducible refine After.out _ ?_ ?_) | (dsimp only; omega) | omega | (simp only [World.size_alloc, World.size_setCell, World.size_drew]; omega))))) hpar).mono ?_
      rintro e w' ⟨rfl, y1, rfl⟩
      have hsy1 := y1.bel.size
      (try simp only [World.size_alloc, World.size_setCell, World.size_drew] at hsy1)
      go_wp2_with fail
      refine bodyPost_ret (by simp [results, Tryz.results215, go_sem, ↓IntWalk.iteOmega, *]; try rfl) rfl ?_
      exact CircRet.mk (.slice none 0 0) [] rfl (by rw [X.out]; rfl) (World.ownsRow_nil _ _ _ _) (by rw [X.out]; intro s h; cases h) (by (repeat (first | (with_reducible exact Below.refl _ _) | (with_reducible assumption) | (with_reducible refine Later.out _ ?_) | (with_reducible refine bel_alloc ?_ _) | (with_reducible refine bel_drew ?_) | (with_reducible refine bel_drewN ?_ _) | (with_reducible refine bel_set ?_ ?_ _) | (with_reducible refine After.out _ ?_ ?_) | (dsimp only; omega) | omega | (simp only [World.size_alloc, World.size_setCell, World.size_drew]; omega))))
    | some nx =>
      have hcall := fun w hr => PS.out _ _ w hr hpar
      rcases sameB nx place with ⟨e2, e1⟩ | ⟨e2, e1⟩
      · have X := Lib.hid (hINV.out.close (by rw [hpar, e2]))
        replace hcall := Lib.hid hcall
        clear e2 hpar
        go_wp2_with fail
        with_reducible refine (hcall.out _ (hr.out.bel (by (repeat (first | (with_reducible exact Below.refl _ _) | (with_reducible assumption) | (with_reducible refine Later.out _ ?_) | (with_reducible refine bel_alloc ?_ _) | (with_reducible refine bel_drew ?_) | (with_reducible refine bel_drewN ?_ _) | (with_reducible refine bel_set ?_ ?_ _) | (with_reducible refine After.out _ ?_ ?_) | (dsimp only; omega) | omega | (simp only [World.size_alloc, World.size_setCell, World.size_drew]; omega)))))).mono ?_
        rintro e w' ⟨rfl, y1, rfl⟩
        have hsy1 := y1.bel.size
        (try simp only [World.size_alloc, World.size_setCell, World.size_drew] at hsy1)
        go_wp2_with fail
        refine bodyPost_ret (by simp [results, Tryz.results215, go_sem, ↓IntWalk.iteOmega, *]; try rfl) rfl ?_
        exact CircRet.mk _ C rfl (by rw [X.out]; rfl) (by rw [hlr.out]; exact own_bel hown.out (by (repeat (first | (with_reducible exact Below.refl _ _) | (with_reducible assumption) | (with_reducible refine Later.out _ ?_) | (with_reducible refine bel_alloc ?_ _) | (with_reducible refine bel_drew ?_) | (with_reducible refine bel_drewN ?_ _) | (with_reducible refine bel_set ?_ ?_ _) | (with_reducible refine After.out _ ?_ ?_) | (dsimp only; omega) | omega | (simp only [World.size_alloc, World.size_setCell, World.size_drew]; omega))))) (by rw [X.out, hC'.out]; intro s h; exact Option.some.inj h) (by (repeat (first | (with_reducible exact Below.refl _ _) | (with_reducible assumption) | (with_reducible refine Later.out _ ?_) | (with_reducible refine bel_alloc ?_ _) | (with_reducible refine bel_drew ?_) | (with_reducible refine bel_drewN ?_ _) | (with_reducible refine bel_set ?_ ?_ _) | (with_reducible refine After.out _ ?_ ?_) | (dsimp only; omega) | omega | (simp only [World.size_alloc, World.size_setCell, World.size_drew]; omega))))
      · have hCt := fun w hr b h => containsStr_b (x := nx) (O := C) (a := some ⟨b8, o8, none⟩) (n := m + 1) (c := c8) (w := w) (b := b) hlr.out (by omega) hr h
        rcases idxS_cases nx C with ⟨hin, hd⟩ | ⟨hin, hd⟩
        · have X := Lib.hid (hINV.out.again hpar e2 (by rw [hC'.out]; exact hin))
          replace hcall := Lib.hid hcall
          replace hCt := Lib.hid (fun w hr => hCt w hr true (by simp [hd]))
          clear e2 hpar hd hin
          go_wp2_with fail
          with_reducible refine (hcall.out _ (hr.out.bel (by (repeat (first | (with_reducible exact Below.refl _ _) | (with_reducible assumption) | (with_reducible refine Later.out _ ?_) | (with_reducible refine bel_alloc ?_ _) | (with_reducible refine bel_drew ?_) | (with_reducible refine bel_drewN ?_ _) | (with_reducible refine bel_set ?_ ?_ _) | (with_reducible refine After.out _ ?_ ?_) | (dsimp only; omega) | omega | (simp only [World.size_alloc, World.size_setCell, World.size_drew]; omega)))))).mono ?_
          rintro e w' ⟨rfl, y1, rfl⟩
          have hsy1 := y1.bel.size
          (try simp only [World.size_alloc, World.size_setCell, World.size_drew] at hsy1)
          go_wp2_with fail
          with_reducible refine (hCt.out _ (hrow.out.bel (by (repeat (first | (with_reducible exact Below.refl _ _) | (with_reducible assumption) | (with_reducible refine Later.out _ ?_) | (with_reducible refine bel_alloc ?_ _) | (with_reducible refine bel_drew ?_) | (with_reducible refine bel_drewN ?_ _) | (with_reducible refine bel_set ?_ ?_ _) | (with_reducible refine After.out _ ?_ ?_) | (dsimp only; omega) | omega | (simp only [World.size_alloc, World.size_setCell, World.size_drew]; omega)))))).mono ?_
          rintro e w' ⟨rfl, y2, rfl⟩
          have hsy2 := y2.bel.size
          (try simp only [World.size_alloc, World.size_setCell, World.size_drew] at hsy2)
          go_wp2_with fail
          refine bodyPost_ret (by simp [results, Tryz.results215, go_sem, ↓IntWalk.iteOmega, *]; try rfl) rfl ?_
          exact CircRet.mk (.slice none 0 0) [] rfl (by rw [X.out]; rfl) (World.ownsRow_nil _ _ _ _) (by rw [X.out]; intro s h; cases h) (by (repeat (first | (with_reducible exact Below.refl _ _) | (with_reducible assumption) | (with_reducible refine Later.out _ ?_) | (with_reducible refine bel_alloc ?_ _) | (with_reducible refine bel_drew ?_) | (with_reducible refine bel_drewN ?_ _) | (with_reducible refine bel_set ?_ ?_ _) | (with_reducible refine After.out _ ?_ ?_) | (dsimp only; omega) | omega | (simp only [World.size_alloc, World.size_setCell, World.size_drew]; omega))))
        · have X := Lib.hid (hINV.out.on hpar e2 (by rw [hC'.out]; exact hin))
          replace hcall := Lib.hid hcall
          replace hCt := Lib.hid (fun w hr => hCt w hr false (by rw [hd]; rfl))
          clear e2 hpar hd hin
          have hXl := Lib.hid X.out.len
          go_wp2_with (first | (go_at_call 245; (with_reducible refine (hcall.out _ (hr.out.bel (by (repeat (first | (with_reducible exact Below.refl _ _) | (with_reducible assumption) | (with_reducible refine Later.out _ ?_) | (with_reducible refine bel_alloc ?_ _) | (with_reducible refine bel_drew ?_) | (with_reducible refine bel_drewN ?_ _) | (with_reducible refine bel_set ?_ ?_ _) | (with_reducible refine After.out _ ?_ ?_) | (dsimp only; omega) | omega | (simp only [World.size_alloc, World.size_setCell, World.size_drew]; omega)))))).mono ?_); rintro e w' ⟨rfl, y1, rfl⟩; have hs1 := y1.bel.size) | (go_at_call 188; (with_reducible refine (hCt.out _ (hrow.out.bel (by (repeat (first | (with_reducible exact Below.refl _ _) | (with_reducible assumption) | (with_reducible refine Later.out _ ?_) | (with_reducible refine bel_alloc ?_ _) | (with_reducible refine bel_drew ?_) | (with_reducible refine bel_drewN ?_ _) | (with_reducible refine bel_set ?_ ?_ _) | (with_reducible refine After.out _ ?_ ?_) | (dsimp only; omega) | omega | (simp only [World.size_alloc, World.size_setCell, World.size_drew]; omega)))))).mono ?_); rintro e w' ⟨rfl, y2, rfl⟩; have hs2 := y2.bel.size) | (at_builtin; (refine wpList_append_later _ rfl _ _ _ rfl 9 ii _ 1 16 Tryz.underlying63 Jii.out.1 Jii.out.2.1 Jii.out.2.2.1 Jii.out.2.2.2 rfl (by decide) (w) ?qa1 _ _ _ (strCells C) rfl ?qa2 _ _ _ ([.string nx]) rfl ?qa3 ?qa4 ?qa5 ?qa6 ?qa7 ?_); (case qa1 => (repeat (first | (with_reducible exact Below.refl _ _) | (with_reducible assumption) | (with_reducible refine Later.out _ ?_) | (with_reducible refine bel_alloc ?_ _) | (with_reducible refine bel_drew ?_) | (with_reducible refine bel_drewN ?_ _) | (with_reducible refine bel_set ?_ ?_ _) | (with_reducible refine After.out _ ?_ ?_) | (dsimp only; omega) | omega | (simp only [World.size_alloc, World.size_setCell, World.size_drew]; omega)))); (case qa2 => exact own_bel hown.out (by (repeat (first | (with_reducible exact Below.refl _ _) | (with_reducible assumption) | (with_reducible refine Later.out _ ?_) | (with_reducible refine bel_alloc ?_ _) | (with_reducible refine bel_drew ?_) | (with_reducible refine bel_drewN ?_ _) | (with_reducible refine bel_set ?_ ?_ _) | (with_reducible refine After.out _ ?_ ?_) | (dsimp only; omega) | omega | (simp only [World.size_alloc, World.size_setCell, World.size_drew]; omega))))); (case qa3 => (first | rfl | (simp [boolCells]; done) | (simp [intCells]; done) | (simp; done) | (first | omega | (simp only [List.length_append, List.length_cons, List.length_nil]; omega)))); (case qa4 => exact Row.made _ _ _); (case qa5 => exact one_str1 _); (case qa6 => (unfold maxLen; (first | omega | (simp only [List.length_append, List.length_cons, List.length_nil]; omega)))); (case qa7 => (first | omega | (simp only [List.length_append, List.length_cons, List.length_nil]; omega))); intro a9 c9 x9 hown9))
          replace hown9 := Lib.hid hown9
          go_roundw
          case rel =>
            refine ⟨C, nx, a9, c9, by rw [hlr.out], ?_, by rw [← hC'.out]; exact X.out, LaterC.mk x9.bel⟩
            rw [strCells_snoc, hlr.out]
            exact hown9.out
          case measure => simp only [sliceLen]; rw [hC'.out, hlr.out] at hXl; have := hXl.out; omega
/-- The claims on parents name them. -/
def Named (L : List Clm) : Prop := ∀ c ∈ L, c.kind = 1 → c.val.toList.isEmpty = false
theorem Named.par {L : List Clm} (h : Named L) {y : Int} {p v : ByteArray} (hp : parOf L y p = some v) : v.toList.isEmpty = false := by
  obtain ⟨c, hc, h1, rfl⟩ := parOf_some hp
  exact h c hc (parP_iff.1 h1).1
/-- Where the reference's search stands: on its way, or at its end. -/
def SInv (L : List Clm) (y : Int) (place : ByteArray) (out : List ByteArray) (p : ByteArray) : Prop :=
  CInv L y place out p ∨ (p ∈ out ∧ out.length ≤ L.length + 1 ∧ ((p = place ∧ circZ L y place = some out) ∨ (p ≠ place ∧ circZ L y place = none)))
set_option maxRecDepth 4000 in
set_option maxHeartbeats 2000000 in
theorem sCircle_any (L : List Clm) (y : Int) (place : ByteArray) (a : Option Addr) (n c : Nat) (w : World) (hn : L.length = n) (hm : n ≤ 1048576) (hr : Row w a (clmsCells L)) (hv : Named L) :
    Calls Tryz.prog 182 #[.slice a n c, .string place, .int .i64 y] w (CircRet w (circZ L y place)) := by
  obtain ⟨ii, j1, j2, j3, j4⟩ := info_str'
  have Jii := Lib.hid (And.intro j1 (And.intro j2 (And.intro j3 j4)))
  clear j1 j2 j3 j4
  have PN := fun p w hr => sParent_any L y p a n c w hn hm hr
  replace PN := Lib.hid PN
  replace hr := Lib.hid hr
  replace hv := Lib.hid hv
  subst hn
  have hown0 := World.ownsRow_lit (base := w.heap.size) (e := 9) (size := 1) w #[] 0 (Nat.le_refl _) (by unfold maxLen; omega) rfl
  replace hown0 := Lib.hid hown0
  go_enter Tryz.func182, Tryz.ntmps182
  go_wp2_with fail
  go_loopw [8, 9] (fun t8 t9 wr => ∃ (out : List ByteArray) (p : ByteArray) (a8 : Option Addr) (c8 : Nat), t8 = .slice a8 out.length c8 ∧ t9 = .string p ∧ wr.ownsRow w.heap.size 9 1 (.slice a8 out.length c8) out.length (strCells out) ∧ SInv L y place out p ∧ ∃ z : Later w, wr = z.w) (fun t8 _ _ => L.length + 2 - sliceLen t8)
  case atStart => exact ⟨[], place, _, _, rfl, rfl, hown0.out, .inl (CInv.start _ _ _), LaterC.mk (by (repeat (first | (with_reducible exact Below.refl _ _) | (with_reducible assumption) | (with_reducible refine Later.out _ ?_) | (with_reducible refine bel_alloc ?_ _) | (with_reducible refine bel_drew ?_) | (with_reducible refine bel_drewN ?_ _) | (with_reducible refine bel_set ?_ ?_ _) | (with_reducible refine After.out _ ?_ ?_) | (dsimp only; omega) | omega | (simp only [World.size_alloc, World.size_setCell, World.size_drew]; omega))))⟩
  case round =>
    obtain ⟨out, p, a8, c8, rfl, rfl, hown, hinv, z, rfl⟩ := hrel
    have hzz := z.bel.size
    have hrow : Row z.w a8 (strCells out) := Row.of_own hown
    have hol : out.length ≤ 1048577 := by
      rcases hinv with h | ⟨_, h, _⟩
      · have := h.len; omega
      · omega
    have hF := fun w hr => l03Find_any p out a8 out.length c8 w rfl hol hr
    replace hown := Lib.hid hown
    replace hrow := Lib.hid hrow
    clear hown0
    rcases hinv with hinv | ⟨hin, _, hend⟩
    · have hl := hinv.len
      have hid : idxS p out = -1 := by
        rcases idxS_cases p out with ⟨h1, _⟩ | ⟨_, h⟩
        · exact absurd h1 hinv.fresh
        · exact h
      rw [hid] at hF
      replace hF := Lib.hid hF
      have hINV := Lib.hid hinv
      clear hinv hid
      cases hpar : parOf L y p with
      | none =>
        have X := Lib.hid (hINV.out.no hpar)
        have hps : parS L y p = ByteArray.empty := by simp [parS, hpar]
        have PN' := fun w hr => PN.out p w hr
        rw [hps] at PN'
        replace PN' := Lib.hid PN'
        clear hps hpar
        go_wp2_with (first | (go_at_call 216; (with_reducible refine (hF.out _ (hrow.out.bel (by (repeat (first | (with_reducible exact Below.refl _ _) | (with_reducible assumption) | (with_reducible refine Later.out _ ?_) | (with_reducible refine bel_alloc ?_ _) | (with_reducible refine bel_drew ?_) | (with_reducible refine bel_drewN ?_ _) | (with_reducible refine bel_set ?_ ?_ _) | (with_reducible refine After.out _ ?_ ?_) | (dsimp only; omega) | omega | (simp only [World.size_alloc, World.size_setCell, World.size_drew]; omega)))))).mono ?_); rintro e w' ⟨rfl, y1, rfl⟩; have hs1 := y1.bel.size) | (go_at_call 217; (with_reducible refine (PN'.out _ (hr.out.bel (by (repeat (first | (with_reducible exact Below.refl _ _) | (with_reducible assumption) | (with_reducible refine Later.out _ ?_) | (with_reducible refine bel_alloc ?_ _) | (with_reducible refine bel_drew ?_) | (with_reducible refine bel_drewN ?_ _) | (with_reducible refine bel_set ?_ ?_ _) | (with_reducible refine After.out _ ?_ ?_) | (dsimp only; omega) | omega | (simp only [World.size_alloc, World.size_setCell, World.size_drew]; omega)))))).mono ?_); rintro e w' ⟨rfl, y2, rfl⟩; have hs2 := y2.bel.size) | (at_builtin; (refine wpList_append_later _ rfl _ _ _ rfl 9 ii _ 1 16 Tryz.underlying63 Jii.out.1 Jii.out.2.1 Jii.out.2.2.1 Jii.out.2.2.2 rfl (by decide) (w) ?qa8 _ _ _ (strCells out) rfl ?qa9 _ _ _ ([.string p]) rfl ?qa10 ?qa11 ?qa12 ?qa13 ?qa14 ?_); (case qa8 => (repeat (first | (with_reducible exact Below.refl _ _) | (with_reducible assumption) | (with_reducible refine Later.out _ ?_) | (with_reducible refine bel_alloc ?_ _) | (with_reducible refine bel_drew ?_) | (with_reducible refine bel_drewN ?_ _) | (with_reducible refine bel_set ?_ ?_ _) | (with_reducible refine After.out _ ?_ ?_) | (dsimp only; omega) | omega | (simp only [World.size_alloc, World.size_setCell, World.size_drew]; omega)))); (case qa9 => exact own_bel hown.out (by (repeat (first | (with_reducible exact Below.refl _ _) | (with_reducible assumption) | (with_reducible refine Later.out _ ?_) | (with_reducible refine bel_alloc ?_ _) | (with_reducible refine bel_drew ?_) | (with_reducible refine bel_drewN ?_ _) | (with_reducible refine bel_set ?_ ?_ _) | (with_reducible refine After.out _ ?_ ?_) | (dsimp only; omega) | omega | (simp only [World.size_alloc, World.size_setCell, World.size_drew]; omega))))); (case qa10 => (first | rfl | (simp [boolCells]; done) | (simp [intCells]; done) | (simp; done) | (first | omega | (simp only [List.length_append, List.length_cons, List.length_nil]; omega)))); (case qa11 => exact Row.made _ _ _); (case qa12 => exact one_str1 _); (case qa13 => (unfold maxLen; (first | omega | (simp only [List.length_append, List.length_cons, List.length_nil]; omega)))); (case qa14 => (first | omega | (simp only [List.length_append, List.length_cons, List.length_nil]; omega))); intro a9 c9 x9 hown9))
        refine bodyPost_ret (by simp [results, Tryz.results182, go_sem, ↓IntWalk.iteOmega, *]; try rfl) rfl ?_
        exact CircRet.mk (.slice none 0 0) [] rfl (by rw [X.out]; rfl) (World.ownsRow_nil _ _ _ _) (by rw [X.out]; intro s h; cases h) (by (repeat (first | (with_reducible exact Below.refl _ _) | (with_reducible assumption) | (with_reducible refine Later.out _ ?_) | (with_reducible refine bel_alloc ?_ _) | (with_reducible refine bel_drew ?_) | (with_reducible refine bel_drewN ?_ _) | (with_reducible refine bel_set ?_ ?_ _) | (with_reducible refine After.out _ ?_ ?_) | (dsimp only; omega) | omega | (simp only [World.size_alloc, World.size_setCell, World.size_drew]; omega))))
      | some nx =>
        have hne := hv.out.par hpar
        have hps : parS L y p = nx := by simp [parS, hpar]
        have PN' := fun w hr => PN.out p w hr
        rw [hps] at PN'
        replace PN' := Lib.hid PN'
        have X : SInv L y place (out ++ [p]) nx := by
          by_cases e : nx = place
          · subst e
            exact .inr ⟨hINV.out.head, by simp; omega, .inl ⟨rfl, hINV.out.close hpar⟩⟩
          · by_cases hin : nx ∈ out ++ [p]
            · exact .inr ⟨hin, by simp; omega, .inr ⟨e, hINV.out.again hpar e hin⟩⟩
            · exact .inl (hINV.out.on hpar e hin)
        replace X := Lib.hid X
        clear hps hpar
        go_wp2_with (first | (go_at_call 216; (with_reducible refine (hF.out _ (hrow.out.bel (by (repeat (first | (with_reducible exact Below.refl _ _) | (with_reducible assumption) | (with_reducible refine Later.out _ ?_) | (with_reducible refine bel_alloc ?_ _) | (with_reducible refine bel_drew ?_) | (with_reducible refine bel_drewN ?_ _) | (with_reducible refine bel_set ?_ ?_ _) | (with_reducible refine After.out _ ?_ ?_) | (dsimp only; omega) | omega | (simp only [World.size_alloc, World.size_setCell, World.size_drew]; omega)))))).mono ?_); rintro e w' ⟨rfl, y1, rfl⟩; have hs1 := y1.bel.size) | (go_at_call 217; (with_reducible refine (PN'.out _ (hr.out.bel (by (repeat (first | (with_reducible exact Below.refl _ _) | (with_reducible assumption) | (with_reducible refine Later.out _ ?_) | (with_reducible refine bel_alloc ?_ _) | (with_reducible refine bel_drew ?_) | (with_reducible refine bel_drewN ?_ _) | (with_reducible refine bel_set ?_ ?_ _) | (with_reducible refine After.out _ ?_ ?_) | (dsimp only; omega) | omega | (simp only [World.size_alloc, World.size_setCell, World.size_drew]; omega)))))).mono ?_); rintro e w' ⟨rfl, y2, rfl⟩; have hs2 := y2.bel.size) | (at_builtin; (refine wpList_append_later _ rfl _ _ _ rfl 9 ii _ 1 16 Tryz.underlying63 Jii.out.1 Jii.out.2.1 Jii.out.2.2.1 Jii.out.2.2.2 rfl (by decide) (w) ?qa15 _ _ _ (strCells out) rfl ?qa16 _ _ _ ([.string p]) rfl ?qa17 ?qa18 ?qa19 ?qa20 ?qa21 ?_); (case qa15 => (repeat (first | (with_reducible exact Below.refl _ _) | (with_reducible assumption) | (with_reducible refine Later.out _ ?_) | (with_reducible refine bel_alloc ?_ _) | (with_reducible refine bel_drew ?_) | (with_reducible refine bel_drewN ?_ _) | (with_reducible refine bel_set ?_ ?_ _) | (with_reducible refine After.out _ ?_ ?_) | (dsimp only; omega) | omega | (simp only [World.size_alloc, World.size_setCell, World.size_drew]; omega)))); (case qa16 => exact own_bel hown.out (by (repeat (first | (with_reducible exact Below.refl _ _) | (with_reducible assumption) | (with_reducible refine Later.out _ ?_) | (with_reducible refine bel_alloc ?_ _) | (with_reducible refine bel_drew ?_) | (with_reducible refine bel_drewN ?_ _) | (with_reducible refine bel_set ?_ ?_ _) | (with_reducible refine After.out _ ?_ ?_) | (dsimp only; omega) | omega | (simp only [World.size_alloc, World.size_setCell, World.size_drew]; omega))))); (case qa17 => (first | rfl | (simp [boolCells]; done) | (simp [intCells]; done) | (simp; done) | (first | omega | (simp only [List.length_append, List.length_cons, List.length_nil]; omega)))); (case qa18 => exact Row.made _ _ _); (case qa19 => exact one_str1 _); (case qa20 => (unfold maxLen; (first | omega | (simp only [List.length_append, List.length_cons, List.length_nil]; omega)))); (case qa21 => (first | omega | (simp only [List.length_append, List.length_cons, List.length_nil]; omega))); intro a9 c9 x9 hown9))
        replace hown9 := Lib.hid hown9
        go_roundw
        case rel =>
          refine ⟨out ++ [p], nx, a9, c9, by simp, rfl, ?_, X.out, LaterC.mk (by (repeat (first | (with_reducible exact Below.refl _ _) | (with_reducible assumption) | (with_reducible refine Later.out _ ?_) | (with_reducible refine bel_alloc ?_ _) | (with_reducible refine bel_drew ?_) | (with_reducible refine bel_drewN ?_ _) | (with_reducible refine bel_set ?_ ?_ _) | (with_reducible refine After.out _ ?_ ?_) | (dsimp only; omega) | omega | (simp only [World.size_alloc, World.size_setCell, World.size_drew]; omega))))⟩
          rw [strCells_snoc, List.length_append, List.length_cons, List.length_nil]
          exact own_bel hown9.out (by (repeat (first | (with_reducible exact Below.refl _ _) | (with_reducible assumption) | (with_reducible refine Later.out _ ?_) | (with_reducible refine bel_alloc ?_ _) | (with_reducible refine bel_drew ?_) | (with_reducible refine bel_drewN ?_ _) | (with_reducible refine bel_set ?_ ?_ _) | (with_reducible refine After.out _ ?_ ?_) | (dsimp only; omega) | omega | (simp only [World.size_alloc, World.size_setCell, World.size_drew]; omega))))
        case measure => simp only [sliceLen]; omega
    · have hge : 0 ≤ idxS p out := by
        rcases idxS_cases p out with ⟨_, h⟩ | ⟨h, _⟩
        · exact h
        · exact absurd hin h
      obtain ⟨r, hrr⟩ : ∃ r, idxS p out = r := ⟨_, rfl⟩
      rw [hrr] at hF hge
      replace hF := Lib.hid hF
      clear hrr
      rcases hend with ⟨e, hZ⟩ | ⟨e, hZ⟩
      · have e1 : (p.toList == place.toList) = true := by rw [toList_eq]; simp [e]
        replace hZ := Lib.hid hZ
        clear e
        go_wp2_with fail
        with_reducible refine (hF.out _ (hrow.out.bel (by (repeat (first | (with_reducible exact Below.refl _ _) | (with_reducible assumption) | (with_reducible refine Later.out _ ?_) | (with_reducible refine bel_alloc ?_ _) | (with_reducible refine bel_drew ?_) | (with_reducible refine bel_drewN ?_ _) | (with_reducible refine bel_set ?_ ?_ _) | (with_reducible refine After.out _ ?_ ?_) | (dsimp only; omega) | omega | (simp only [World.size_alloc, World.size_setCell, World.size_drew]; omega)))))).mono ?_
        rintro e w' ⟨rfl, y1, rfl⟩
        have hsy1 := y1.bel.size
        (try simp only [World.size_alloc, World.size_setCell, World.size_drew] at hsy1)
        go_wp2_with fail
        refine bodyPost_ret (by simp [results, Tryz.results182, go_sem, ↓IntWalk.iteOmega, *]; try rfl) rfl ?_
        exact CircRet.mk _ out rfl (by rw [hZ.out]; rfl) (own_bel hown.out (by (repeat (first | (with_reducible exact Below.refl _ _) | (with_reducible assumption) | (with_reducible refine Later.out _ ?_) | (with_reducible refine bel_alloc ?_ _) | (with_reducible refine bel_drew ?_) | (with_reducible refine bel_drewN ?_ _) | (with_reducible refine bel_set ?_ ?_ _) | (with_reducible refine After.out _ ?_ ?_) | (dsimp only; omega) | omega | (simp only [World.size_alloc, World.size_setCell, World.size_drew]; omega))))) (by rw [hZ.out]; intro s h; exact Option.some.inj h) (by (repeat (first | (with_reducible exact Below.refl _ _) | (with_reducible assumption) | (with_reducible refine Later.out _ ?_) | (with_reducible refine bel_alloc ?_ _) | (with_reducible refine bel_drew ?_) | (with_reducible refine bel_drewN ?_ _) | (with_reducible refine bel_set ?_ ?_ _) | (with_reducible refine After.out _ ?_ ?_) | (dsimp only; omega) | omega | (simp only [World.size_alloc, World.size_setCell, World.size_drew]; omega))))
      · have e1 : (p.toList == place.toList) = false := by rw [toList_eq]; simp [e]
        replace hZ := Lib.hid hZ
        clear e
        go_wp2_with fail
        with_reducible refine (hF.out _ (hrow.out.bel (by (repeat (first | (with_reducible exact Below.refl _ _) | (with_reducible assumption) | (with_reducible refine Later.out _ ?_) | (with_reducible refine bel_alloc ?_ _) | (with_reducible refine bel_drew ?_) | (with_reducible refine bel_drewN ?_ _) | (with_reducible refine bel_set ?_ ?_ _) | (with_reducible refine After.out _ ?_ ?_) | (dsimp only; omega) | omega | (simp only [World.size_alloc, World.size_setCell, World.size_drew]; omega)))))).mono ?_
        rintro e w' ⟨rfl, y1, rfl⟩
        have hsy1 := y1.bel.size
        (try simp only [World.size_alloc, World.size_setCell, World.size_drew] at hsy1)
        go_wp2_with fail
        refine bodyPost_ret (by simp [results, Tryz.results182, go_sem, ↓IntWalk.iteOmega, *]; try rfl) rfl ?_
        exact CircRet.mk _ out rfl (by rw [hZ.out]; rfl) (own_bel hown.out (by (repeat (first | (with_reducible exact Below.refl _ _) | (with_reducible assumption) | (with_reducible refine Later.out _ ?_) | (with_reducible refine bel_alloc ?_ _) | (with_reducible refine bel_drew ?_) | (with_reducible refine bel_drewN ?_ _) | (with_reducible refine bel_set ?_ ?_ _) | (with_reducible refine After.out _ ?_ ?_) | (dsimp only; omega) | omega | (simp only [World.size_alloc, World.size_setCell, World.size_drew]; omega))))) (by rw [hZ.out]; intro s h; cases h) (by (repeat (first | (with_reducible exact Below.refl _ _) | (with_reducible assumption) | (with_reducible refine Later.out _ ?_) | (with_reducible refine bel_alloc ?_ _) | (with_reducible refine bel_drew ?_) | (with_reducible refine bel_drewN ?_ _) | (with_reducible refine bel_set ?_ ?_ _) | (with_reducible refine After.out _ ?_ ?_) | (dsimp only; omega) | omega | (simp only [World.size_alloc, World.size_setCell, World.size_drew]; omega))))
end Go.Proofs.YtflcfdiochohgaaGreatDoor

/- append as one operation of a drawn region. -/
set_option linter.unusedSimpArgs false
set_option linter.unusedVariables false
namespace Go.Proofs.YtflcfdiochohgaaGreatDoor
open Go.RowKit
section
variable {P : Program} (w : World)
theorem oper_append_later {o : Oper} {ac : Act} {K : Act → World → Prop} {Q : Exit → Act → World → Prop} (s x : Operand) (t : TypeId)
    (ho : o.op = .call { callee := .builtin .append, args := #[s, x], argTypes := #[t, t] })
    (e : TypeId) (i : TypeInfo) (z : Value) (size bytes : Nat) (ht : P.underlying t = some (.slice e)) (hi : P.info? e = some i) (hz : i.zero = some z)
    (hsize : i.size = size) (hby : i.bytes = bytes) (hzs : z.cells.size = size) (hsz : 0 < size)
    (W : World) (hb : Below W.heap.size W w)
    (a : Option Addr) (n cap : Nat) (xs : List Value) (hs : ac.eval s = .slice a n cap) (hown : w.ownsRow W.heap.size e size (.slice a n cap) n xs)
    (A : Option Addr) (m c : Nat) (news : List Value) (hx : ac.eval x = .slice A m c) (hl : news.length = m * size) (hr : Row w A news) (h1 : ∀ u ∈ news, u.oneCell' = true)
    (h63 : n + m ≤ maxLen) (hbytes : (n + m) * bytes ≤ 140737488355328)
    (h : ∀ a' c' (x : Later W), x.w.ownsRow W.heap.size e size (.slice a' (n + m) c') (n + m) (xs ++ news) → K (ac.put o.dst (.slice a' (n + m) c')) x.w) : o.wp P ac w K Q := by
  obtain ⟨v', w', hrun, h2, h3, _⟩ := run_append_row (P := P) w W.heap.size t o.type e i z size bytes ht hi hz hsize hby hzs hsz _ n xs hown A m c news hl hr h1 h63 hbytes hb.size
  obtain ⟨a', c', rfl⟩ := own_form h2
  have hb' : Below W.heap.size W w' := hb.grown h3 hb.size fun k hk => (hown.lt k hk).1
  unfold Oper.wp execOp
  simp only [ho, resolve, invoke, builtin, Sem.run_bind, Sem.run_pure, Result.andThen_ok, List.map_toArray, List.map_cons, List.map_nil, hs, hx, hrun]
  exact h a' c' ⟨w', hb'⟩ h2
/-- append to an empty row that begins at a block: only that block turns. -/
theorem oper_append_at {o : Oper} {ac : Act} {K : Act → World → Prop} {Q : Exit → Act → World → Prop} (s x : Operand) (t : TypeId)
    (ho : o.op = .call { callee := .builtin .append, args := #[s, x], argTypes := #[t, t] })
    (e : TypeId) (i : TypeInfo) (z : Value) (size bytes : Nat) (ht : P.underlying t = some (.slice e)) (hi : P.info? e = some i) (hz : i.zero = some z)
    (hsize : i.size = size) (hby : i.bytes = bytes) (hzs : z.cells.size = size) (hsz : 0 < size)
    (g cap : Nat) (hs : ac.eval s = .slice (some ⟨g, 0, none⟩) 0 cap) (hlw : g ≤ w.heap.size) (hown : w.ownsRow g e size (.slice (some ⟨g, 0, none⟩) 0 cap) 0 [])
    (A : Option Addr) (m c : Nat) (news : List Value) (hx : ac.eval x = .slice A m c) (hl : news.length = m * size) (hr : Row w A news) (h1 : ∀ u ∈ news, u.oneCell' = true)
    (h63 : m ≤ maxLen) (hbytes : m * bytes ≤ 140737488355328)
    (h : ∀ a' c' (x : After w g (g + 1)), x.w.ownsRow g e size (.slice a' m c') m news → K (ac.put o.dst (.slice a' m c')) x.w) : o.wp P ac w K Q := by
  obtain ⟨v', w', hrun, h2, h3, h4⟩ := run_append_row (P := P) w g t o.type e i z size bytes ht hi hz hsize hby hzs hsz _ 0 [] hown A m c news hl hr h1 (by omega) (by rw [Nat.zero_add]; exact hbytes) hlw
  rw [Nat.zero_add, List.nil_append] at h2
  obtain ⟨a', c', rfl⟩ := own_form h2
  have hb' : Between g (g + 1) w w' := ⟨h3.os, h3.tape, h3.output, h3.size, fun k hk hor => h3.block k hk fun e => by
    have e1 : g = k := by simpa [Value.ownBlock] using e.symm
    omega⟩
  unfold Oper.wp execOp
  simp only [ho, resolve, invoke, builtin, Sem.run_bind, Sem.run_pure, Result.andThen_ok, List.map_toArray, List.map_cons, List.map_nil, hs, hx, hrun]
  exact h a' c' ⟨w', hb'⟩ h2
end
theorem lit0_at {W W' : World} {g base e size : Nat} (hg : g = W.heap.size) (hb : base ≤ W.heap.size) (h : Below (W.alloc (.cells #[] e)).heap.size (W.alloc (.cells #[] e)) W') : W'.ownsRow base e size (.slice (some ⟨g, 0, none⟩) 0 0) 0 [] := by
  subst hg
  exact own_bel (World.ownsRow_lit W #[] 0 hb (by unfold maxLen; omega) (by simp)) h
end Go.Proofs.YtflcfdiochohgaaGreatDoor
