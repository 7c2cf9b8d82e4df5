import Derived.Test.YtflcfdiochohgaaGreatDoorPackAb
import Derived.Test.YtflcfdiochohgaaGreatDoorShelf
import Derived.Shelf.SlSortCmp.NoneTotal
import Derived.Test.YtflcfdiochohgaaGreatDoorPackA
import Derived.Laws.BitsLemmas
import Derived.Test.YtflcfdiochohgaaGreatDoorPackAa
/- Several of my texts, one behind the other: Sort, Sub, Idx, Pick, Circ, Exist, Good, Wt, Few, TabC, About, Par, CirW, Oper. -/
/- A slice of slices of numbers, sorted by slices.SortFunc with slices.Compare. -/
set_option linter.unusedSimpArgs false
set_option linter.unusedVariables false
namespace Go.Proofs.YtflcfdiochohgaaGreatDoor
open Go.RowKit
end Go.Proofs.YtflcfdiochohgaaGreatDoor

/- The indices whose bits a number has: impl.subset. -/
set_option linter.unusedSimpArgs false
set_option linter.unusedVariables false
namespace Go.Proofs.YtflcfdiochohgaaGreatDoor
open Go.RowKit
end Go.Proofs.YtflcfdiochohgaaGreatDoor

/- The indices of those claims of which a function value tells true. -/
set_option linter.unusedSimpArgs false
set_option linter.unusedVariables false
namespace Go.Proofs.YtflcfdiochohgaaGreatDoor
open Go.RowKit
/-- The indices below `k` at which `p` holds. -/
def idxsTo (p : Clm → Bool) (L : List Clm) (k : Nat) : List Int := ((List.range k).filter fun i => match L[i]? with | some c => p c | none => false).map fun (i : Nat) => (i : Int)
def idxs (p : Clm → Bool) (L : List Clm) : List Int := idxsTo p L L.length
theorem idxsTo_yes {p : Clm → Bool} {L : List Clm} {k : Nat} (hk : k < L.length) (h : p L[k] = true) : idxsTo p L (k + 1) = idxsTo p L k ++ [(k : Int)] := by
  simp [idxsTo, List.range_succ, List.getElem?_eq_getElem hk, h]
theorem idxsTo_no {p : Clm → Bool} {L : List Clm} {k : Nat} (hk : k < L.length) (h : p L[k] = false) : idxsTo p L (k + 1) = idxsTo p L k := by
  simp [idxsTo, List.range_succ, List.getElem?_eq_getElem hk, h]
theorem length_idxsTo (p : Clm → Bool) (L : List Clm) (k : Nat) : (idxsTo p L k).length ≤ k := by
  unfold idxsTo
  rw [List.length_map]
  have := List.length_filter_le (fun i => match L[i]? with | some c => p c | none => false) (List.range k)
  simpa using this
theorem idxs_le (p : Clm → Bool) (L : List Clm) : (idxs p L).length ≤ L.length := length_idxsTo p L _
theorem one_int1 (x : Int) : ∀ u ∈ [Value.int .i64 x], u.oneCell' = true := by intro u hu; simp at hu; subst hu; rfl
set_option maxRecDepth 4000 in
set_option maxHeartbeats 1000000 in
theorem claimsWhere_any (g : Nat) (pre lb : Array Value) (p : Clm → Bool) (L : List Clm) (a : Option Addr) (n c : Nat) (w : World) (eg : ∀ args w, (callFunc g args).run Tryz.prog w = .ok (.enter g args) w)
    (hn : L.length = n) (hm : n ≤ 1048576) (hr : Row w a (clmsCells L)) (hp : Tells g pre lb p L w) :
    Calls Tryz.prog 90 #[.slice a n c, .func (.func g) pre lb] w (RetOwn w 2 1 (idxs p L).length (intCells (idxs p L)) id) := by
  subst hn
  obtain ⟨ii, j1, j2, j3, j4⟩ := info_i64'
  have Jii := Lib.hid (And.intro j1 (And.intro j2 (And.intro j3 j4)))
  clear j1 j2 j3 j4
  replace hr := Lib.hid hr
  replace hp := Lib.hid hp
  go_enter Tryz.func90, Tryz.ntmps90
  go_wp2_with fail
  go_loopw [5, 10] (fun t5 i wr => ∃ (k : Nat) (a5 : Option Addr) (c5 : Nat), k ≤ L.length ∧ i = .int .i64 k ∧ t5 = .slice a5 (idxsTo p L k).length c5 ∧ wr.ownsRow w.heap.size 2 1 (.slice a5 (idxsTo p L k).length c5) (idxsTo p L k).length (intCells (idxsTo p L k)) ∧ ∃ z : Later w, wr = z.w) (fun _ i _ => L.length - (intOf i).toNat)
  case atStart => exact ⟨0, none, 0, Nat.zero_le _, rfl, rfl, World.ownsRow_nil _ _ _ _, ⟨_, Below.refl _ _⟩, rfl⟩
  case round =>
    obtain ⟨k, a5, c5, hk, rfl, rfl, hown, z, rfl⟩ := hrel
    replace hown := Lib.hid hown
    have hzz := z.bel.size
    by_cases hlt : k < L.length
    · obtain ⟨b, o, rfl, hb, q0, q1, q2, q3, q4, q5, q6⟩ := hr.out.clm hlt
      have hc := fun w1 hb => hp.out L[k] (List.getElem_mem hlt) w1 hb
      have hle := length_idxsTo p L k
      cases hv : p L[k]
      · rw [hv] at hc
        replace hc := Lib.hid hc
        have X := Lib.hid (idxsTo_no hlt hv)
        clear hv
        go_wp2_with (go_at_fn g; (with_reducible refine (hc.out _ (by (repeat (first | (with_reducible exact Below.refl _ _) | (with_reducible assumption) | (with_reducible refine Later.out _ ?_) | (with_reducible refine bel_alloc ?_ _) | (with_reducible refine bel_drew ?_) | (with_reducible refine bel_drewN ?_ _) | (with_reducible refine bel_set ?_ ?_ _) | (with_reducible refine After.out _ ?_ ?_) | (dsimp only; omega) | omega | (simp only [World.size_alloc, World.size_setCell, World.size_drew]; omega))))).mono ?_); rintro e w' ⟨rfl, y1, rfl⟩; have hs1 := y1.bel.size; (try simp only [World.size_alloc, World.size_setCell] at hs1))
        go_roundw
        case rel => exact ⟨k + 1, a5, c5, by omega, by go_num, by rw [X.out], by rw [X.out]; exact own_bel hown.out (by (repeat (first | (with_reducible exact Below.refl _ _) | (with_reducible assumption) | (with_reducible refine Later.out _ ?_) | (with_reducible refine bel_alloc ?_ _) | (with_reducible refine bel_drew ?_) | (with_reducible refine bel_drewN ?_ _) | (with_reducible refine bel_set ?_ ?_ _) | (with_reducible refine After.out _ ?_ ?_) | (dsimp only; omega) | omega | (simp only [World.size_alloc, World.size_setCell, World.size_drew]; omega)))), ⟨_, by (repeat (first | (with_reducible exact Below.refl _ _) | (with_reducible assumption) | (with_reducible refine Later.out _ ?_) | (with_reducible refine bel_alloc ?_ _) | (with_reducible refine bel_drew ?_) | (with_reducible refine bel_drewN ?_ _) | (with_reducible refine bel_set ?_ ?_ _) | (with_reducible refine After.out _ ?_ ?_) | (dsimp only; omega) | omega | (simp only [World.size_alloc, World.size_setCell, World.size_drew]; omega)))⟩, rfl⟩
        case measure => first | (simp [intOf]; done) | (simp [intOf]; omega) | omega
      · rw [hv] at hc
        replace hc := Lib.hid hc
        have X := Lib.hid (idxsTo_yes hlt hv)
        clear hv
        obtain ⟨N, hN⟩ : ∃ N, idxsTo p L k = N := ⟨_, rfl⟩
        rw [hN] at hown X hle
        simp only [hN]
        clear hN
        go_wp2_with (first | (go_at_fn g; (with_reducible refine (hc.out _ (by (repeat (first | (with_reducible exact Below.refl _ _) | (with_reducible assumption) | (with_reducible refine Later.out _ ?_) | (with_reducible refine bel_alloc ?_ _) | (with_reducible refine bel_drew ?_) | (with_reducible refine bel_drewN ?_ _) | (with_reducible refine bel_set ?_ ?_ _) | (with_reducible refine After.out _ ?_ ?_) | (dsimp only; omega) | omega | (simp only [World.size_alloc, World.size_setCell, World.size_drew]; omega))))).mono ?_); rintro e w' ⟨rfl, y1, rfl⟩; have hs1 := y1.bel.size; (try simp only [World.size_alloc, World.size_setCell] at hs1)) | (at_builtin; (refine wpList_append_later _ rfl _ _ _ rfl 2 ii _ 1 8 Tryz.underlying35 Jii.out.1 Jii.out.2.1 Jii.out.2.2.1 Jii.out.2.2.2 rfl (by decide) (w) ?qa1 _ _ _ (intCells N) rfl ?qa2 _ _ _ ([.int .i64 k]) rfl ?qa3 ?qa4 ?qa5 ?qa6 ?qa7 ?_); (case qa1 => (repeat (first | (with_reducible exact Below.refl _ _) | (with_reducible assumption) | (with_reducible refine Later.out _ ?_) | (with_reducible refine bel_alloc ?_ _) | (with_reducible refine bel_drew ?_) | (with_reducible refine bel_drewN ?_ _) | (with_reducible refine bel_set ?_ ?_ _) | (with_reducible refine After.out _ ?_ ?_) | (dsimp only; omega) | omega | (simp only [World.size_alloc, World.size_setCell, World.size_drew]; omega)))); (case qa2 => exact own_bel hown.out (by (repeat (first | (with_reducible exact Below.refl _ _) | (with_reducible assumption) | (with_reducible refine Later.out _ ?_) | (with_reducible refine bel_alloc ?_ _) | (with_reducible refine bel_drew ?_) | (with_reducible refine bel_drewN ?_ _) | (with_reducible refine bel_set ?_ ?_ _) | (with_reducible refine After.out _ ?_ ?_) | (dsimp only; omega) | omega | (simp only [World.size_alloc, World.size_setCell, World.size_drew]; omega))))); (case qa3 => (first | rfl | (simp [boolCells]; done) | (simp [intCells]; done) | (simp; done) | (first | omega | (simp only [List.length_append, List.length_cons, List.length_nil]; omega)))); (case qa4 => exact Row.made _ _ _); (case qa5 => exact one_int1 _); (case qa6 => (unfold maxLen; (first | omega | (simp only [List.length_append, List.length_cons, List.length_nil]; omega)))); (case qa7 => (first | omega | (simp only [List.length_append, List.length_cons, List.length_nil]; omega))); intro a9 c9 x9 hown9))
        replace hown9 := Lib.hid hown9
        go_roundw
        case rel => exact ⟨k + 1, a9, c9, by omega, by go_num, by rw [X.out]; simp, by rw [X.out, intCells_snoc]; simpa using hown9.out, x9, rfl⟩
        case measure => first | (simp [intOf]; done) | (simp [intOf]; omega) | omega
    · obtain rfl : k = L.length := by omega
      go_wp2_with fail
      go_ret
      exact RetOwn.mk _ rfl hown.out z.bel
end Go.Proofs.YtflcfdiochohgaaGreatDoor

/- Claims with some indices, and indices that a list does not have: what both sides speak of. -/
set_option linter.unusedSimpArgs false
set_option linter.unusedVariables false
namespace Go.Proofs.YtflcfdiochohgaaGreatDoor
open Go.RowKit
/-- The claims with some indices. -/
def pick (L : List Clm) (S : List Int) : List Clm := S.filterMap fun i => L[i.toNat]?
theorem pick_snoc {L : List Clm} {S : List Int} {x : Int} (h : x.toNat < L.length) : pick L (S ++ [x]) = pick L S ++ [L[x.toNat]] := by
  simp [pick, List.filterMap_append, List.getElem?_eq_getElem h]
theorem pick_take {L : List Clm} {S : List Int} {k : Nat} (hk : k < S.length) (h : S[k].toNat < L.length) : pick L (S.take (k + 1)) = pick L (S.take k) ++ [L[S[k].toNat]] := by
  rw [← List.take_append_getElem hk, pick_snoc h]
theorem pick_le (L : List Clm) (S : List Int) : (pick L S).length ≤ S.length := List.length_filterMap_le _ _
theorem pick_take_le (L : List Clm) (S : List Int) (k : Nat) (hk : k ≤ S.length) : (pick L (S.take k)).length ≤ k := by
  have := pick_le L (S.take k)
  rw [List.length_take] at this
  omega
/-- All are indices of a list of `n`. -/
def Within (n : Nat) (S : List Int) : Prop := ∀ x ∈ S, 0 ≤ x ∧ x < n
theorem within_of_rises {n : Nat} {S : List Int} (h : Rises S n) : Within n S := fun x hx => by
  obtain ⟨i, hi, rfl⟩ := List.mem_iff_getElem.1 hx
  obtain ⟨x, h1, h2, h3, _⟩ := h i hi
  rw [List.getElem?_eq_getElem hi] at h1
  obtain rfl := Option.some.inj h1
  exact ⟨h2, by omega⟩
theorem Within.at_ {n : Nat} {S : List Int} (h : Within n S) {k : Nat} (hk : k < S.length) : 0 ≤ S[k] ∧ S[k] < n := h _ (List.getElem_mem hk)
theorem Within.sub {n : Nat} {S T : List Int} (h : Within n S) (hs : ∀ x ∈ T, x ∈ S) : Within n T := fun x hx => h x (hs x hx)
theorem one_clm1 (c : Clm) : ∀ u ∈ clmCells c, u.oneCell' = true := by intro u hu; simp [clmCells] at hu; rcases hu with rfl | rfl | rfl | rfl | rfl | rfl | rfl <;> rfl
theorem clmsCells_snoc (L : List Clm) (c : Clm) : clmsCells (L ++ [c]) = clmsCells L ++ clmCells c := by rw [clmsCells_append]; simp [clmsCells]
theorem contains_false {S : List Int} {x : Int} (h : ∀ j (hj : j < S.length), S[j] ≠ x) : S.contains x = false := by
  rw [Bool.eq_false_iff]
  intro hc
  rw [List.contains_iff_mem] at hc
  obtain ⟨j, hj, e⟩ := List.mem_iff_getElem.1 hc
  exact h j hj e
theorem contains_true {S : List Int} {x : Int} {j : Nat} (hj : j < S.length) (h : S[j] = x) : S.contains x = true := by
  rw [List.contains_iff_mem]; exact h ▸ List.getElem_mem hj
end Go.Proofs.YtflcfdiochohgaaGreatDoor

/- Circles of parents and consistency: the plain law. -/
set_option linter.unusedSimpArgs false
set_option linter.unusedVariables false
namespace Go.Proofs.YtflcfdiochohgaaGreatDoor
/-- A proposition as a truth value. -/
@[irreducible] noncomputable def bof (p : Prop) : Bool := @decide p (Classical.propDecidable p)
theorem bof_true {p : Prop} (h : p) : bof p = true := by unfold bof; exact @decide_eq_true p (Classical.propDecidable p) h
theorem bof_false {p : Prop} (h : ¬ p) : bof p = false := by unfold bof; exact @decide_eq_false p (Classical.propDecidable p) h
theorem of_bof {p : Prop} (h : bof p = true) : p := Classical.byContradiction fun hn => by rw [bof_false hn] at h; cases h
theorem not_bof {p : Prop} (h : bof p = false) : ¬ p := fun hp => by rw [bof_true hp] at h; cases h
theorem bof_congr {p q : Prop} (h : p ↔ q) : bof p = bof q := by rw [propext h]
/-- `c` tells the parent of a place in a year. -/
def parP (place : ByteArray) (y : Int) (c : Clm) : Bool := decide (c.kind = 1) && decide (c.place = place) && hasB c y
theorem parP_iff {p : ByteArray} {y : Int} {c : Clm} : parP p y c = true ↔ c.kind = 1 ∧ c.place = p ∧ hasB c y = true := by simp [parP, and_assoc]
def parOf (L : List Clm) (y : Int) (p : ByteArray) : Option ByteArray := (L.find? (parP p y)).map (·.val)
theorem parOf_some {L : List Clm} {y : Int} {p v : ByteArray} (h : parOf L y p = some v) : ∃ c ∈ L, parP p y c = true ∧ c.val = v := by
  unfold parOf at h
  cases hf : L.find? (parP p y) with
  | none => rw [hf] at h; cases h
  | some c =>
    rw [hf] at h
    exact ⟨c, List.mem_of_find?_eq_some hf, List.find?_some hf, Option.some.inj h⟩
theorem parOf_none {L : List Clm} {y : Int} {p : ByteArray} (h : ∀ c ∈ L, parP p y c = false) : parOf L y p = none := by
  unfold parOf
  rw [List.find?_eq_none.2 fun c hc => by rw [h c hc]; simp]
  rfl
theorem parOf_at {L : List Clm} {y : Int} {p : ByteArray} {k : Nat} (hk : k < L.length) (h1 : parP p y L[k] = true) (h : ∀ j (hj : j < L.length), j < k → parP p y L[j] = false) : parOf L y p = some L[k].val := by
  have hf : L.find? (parP p y) = some L[k] := by
    rw [List.find?_eq_some_iff_getElem]
    exact ⟨h1, k, hk, rfl, fun j hj => by rw [h j (by omega) hj]; rfl⟩
  simp [parOf, hf]
/-- Following the parents from `p` on, `out` behind it: the circle, if it leads back to `place`. -/
noncomputable def circ (f : ByteArray → Option ByteArray) (place : ByteArray) : Nat → List ByteArray → ByteArray → Option (List ByteArray)
  | 0, _, _ => none
  | n + 1, out, p => match f p with
    | none => none
    | some nx => if nx = place then some (out ++ [p]) else if bof (nx ∈ out ++ [p]) then none else circ f place n (out ++ [p]) nx
/-- The circle that begins with a place in a year. -/
noncomputable def circZ (L : List Clm) (y : Int) (place : ByteArray) : Option (List ByteArray) := circ (parOf L y) place (L.length + 1) [] place
structure CInv (L : List Clm) (y : Int) (place : ByteArray) (out : List ByteArray) (p : ByteArray) : Prop where
  nodup : (out ++ [p]).Nodup
  mem : ∀ x ∈ out ++ [p], x = place ∨ x ∈ L.map (·.val)
  head : place ∈ out ++ [p]
  eq : circZ L y place = circ (parOf L y) place (L.length + 1 - out.length) out p
theorem CInv.start (L : List Clm) (y : Int) (place : ByteArray) : CInv L y place [] place := ⟨by simp, fun x hx => by simp at hx; exact .inl hx, by simp, rfl⟩
theorem nodup_len {α : Type} [DecidableEq α] : ∀ (l m : List α), l.Nodup → (∀ x ∈ l, x ∈ m) → l.length ≤ m.length
  | [], m, _, _ => by simp
  | x :: l, m, hn, hs => by
    have hx := hs x (by simp)
    have h1 := List.nodup_cons.1 hn
    have ih := nodup_len l (m.erase x) h1.2 fun z hz => by
      have hne : z ≠ x := fun e => h1.1 (e ▸ hz)
      exact (List.mem_erase_of_ne hne).2 (hs z (by simp [hz]))
    have hl := List.length_erase_of_mem hx
    have hp := List.length_pos_of_mem hx
    simp only [List.length_cons]
    omega
theorem CInv.len {L : List Clm} {y : Int} {place p : ByteArray} {out : List ByteArray} (h : CInv L y place out p) : out.length ≤ L.length := by
  have := nodup_len (out ++ [p]) (place :: L.map (·.val)) h.nodup fun x hx => by
    rcases h.mem x hx with rfl | h
    · simp
    · simp only [List.mem_cons]; exact .inr h
  simp at this
  exact this
theorem CInv.unfold {L : List Clm} {y : Int} {place p : ByteArray} {out : List ByteArray} (h : CInv L y place out p) :
    circZ L y place = match parOf L y p with
    | Option.none => Option.none
    | some nx => if nx = place then some (out ++ [p]) else if bof (nx ∈ out ++ [p]) then Option.none else circ (parOf L y) place (L.length + 1 - (out ++ [p]).length) (out ++ [p]) nx := by
  have hl := h.len
  rw [h.eq, show L.length + 1 - out.length = (L.length - out.length) + 1 by omega, circ]
  simp only [List.length_append, List.length_cons, List.length_nil, show L.length + 1 - (out.length + (0 + 1)) = L.length - out.length by omega]
theorem CInv.no {L : List Clm} {y : Int} {place p : ByteArray} {out : List ByteArray} (h : CInv L y place out p) (h1 : parOf L y p = Option.none) : circZ L y place = Option.none := by rw [h.unfold, h1]
theorem CInv.close {L : List Clm} {y : Int} {place p : ByteArray} {out : List ByteArray} (h : CInv L y place out p) (h1 : parOf L y p = some place) : circZ L y place = some (out ++ [p]) := by rw [h.unfold, h1]; simp
theorem CInv.again {L : List Clm} {y : Int} {place p nx : ByteArray} {out : List ByteArray} (h : CInv L y place out p) (h1 : parOf L y p = some nx) (h2 : nx ≠ place) (h3 : nx ∈ out ++ [p]) : circZ L y place = none := by rw [h.unfold, h1]; simp only [if_neg h2, bof_true h3, if_true]
theorem CInv.on {L : List Clm} {y : Int} {place p nx : ByteArray} {out : List ByteArray} (h : CInv L y place out p) (h1 : parOf L y p = some nx) (h2 : nx ≠ place) (h3 : ¬ nx ∈ out ++ [p]) : CInv L y place (out ++ [p]) nx := by
  refine ⟨?_, fun x hx => ?_, List.mem_append_left _ h.head, ?_⟩
  · rw [List.nodup_append]
    refine ⟨h.nodup, by simp [List.Nodup], fun a ha b hb => ?_⟩
    simp only [List.mem_cons, List.not_mem_nil, or_false] at hb
    subst hb
    intro e
    exact h3 (e ▸ ha)
  · rcases List.mem_append.1 hx with hx | hx
    · exact h.mem x hx
    · simp only [List.mem_cons, List.not_mem_nil, or_false] at hx
      subst hx
      obtain ⟨c, hc, _, hv⟩ := parOf_some h1
      exact .inr (List.mem_map.2 ⟨c, hc, hv⟩)
  · rw [h.unfold, h1]; simp only [if_neg h2, bof_false h3, Bool.false_eq_true, if_false]
theorem CInv.fresh {L : List Clm} {y : Int} {place p : ByteArray} {out : List ByteArray} (h : CInv L y place out p) : ¬ p ∈ out := fun hp => (List.nodup_append.1 h.nodup).2.2 p hp p (by simp) rfl
theorem circ_head {f : ByteArray → Option ByteArray} {place : ByteArray} {n : Nat} {out : List ByteArray} {p : ByteArray} {r : List ByteArray} (h : circ f place n out p = some r) : ∃ v, f p = some v := by
  cases n with
  | zero => cases h
  | succ n =>
    rw [circ] at h
    cases hf : f p with
    | none => rw [hf] at h; cases h
    | some v => exact ⟨v, rfl⟩
theorem circ_mono {f g : ByteArray → Option ByteArray} (hfg : ∀ x v, f x = some v → g x = some v) {place : ByteArray} : ∀ {n m : Nat} {out : List ByteArray} {p : ByteArray} {r : List ByteArray}, n ≤ m → circ f place n out p = some r → circ g place m out p = some r
  | 0, m, out, p, r, _, h => by cases h
  | n + 1, 0, out, p, r, hm, h => by omega
  | n + 1, m + 1, out, p, r, hm, h => by
    rw [circ] at h ⊢
    cases hf : f p with
    | none => rw [hf] at h; cases h
    | some v =>
      rw [hf] at h
      rw [hfg _ _ hf]
      simp only at h ⊢
      split
      · rename_i h1; rw [if_pos h1] at h; exact h
      · rename_i h1
        rw [if_neg h1] at h
        split
        · rename_i h2; rw [if_pos h2] at h; cases h
        · rename_i h2; rw [if_neg h2] at h; exact circ_mono hfg (by omega) h
/-! ### Consistency -/
def NoPair (L : List Clm) : Prop := L.Pairwise fun d c => contraB c d = false
theorem noPair_iff {L : List Clm} : NoPair L ↔ ∀ i k (hi : i < L.length) (hk : k < L.length), k < i → contraB L[i] L[k] = false := by
  unfold NoPair
  rw [List.pairwise_iff_getElem]
  exact ⟨fun h i k hi hk hki => h k i hk hi hki, fun h i k hi hk hik => h k i hk hi hik⟩
def NoCirc (L : List Clm) : Prop := ∀ c ∈ L, c.kind = 1 → ∀ d ∈ L, circZ L c.fr d.place = none
def Cons (L : List Clm) : Prop := NoPair L ∧ NoCirc L
noncomputable def consB (L : List Clm) : Bool := bof (Cons L)
theorem contra_val {c d : Clm} {y : Int} (h : contraB c d = false) (hc : c.kind = 1) (hd : d.kind = 1) (hp : c.place = d.place) (h1 : hasB c y = true) (h2 : hasB d y = true) : c.val = d.val := by
  simp only [hasB, Bool.and_eq_true, decide_eq_true_eq] at h1 h2
  have hm : meetsB c d = true := by simp only [meetsB, Bool.and_eq_true, decide_eq_true_eq]; omega
  apply Classical.byContradiction
  intro hv
  have : contraB c d = true := by
    unfold contraB
    rw [hm, hp, hc, hd]
    simp [hv]
  rw [h] at this
  cases this
theorem NoPair.val {L : List Clm} (h : NoPair L) {c d : Clm} (hc : c ∈ L) (hd : d ∈ L) {y : Int} {p : ByteArray} (h1 : parP p y c = true) (h2 : parP p y d = true) : c.val = d.val := by
  rw [noPair_iff] at h
  obtain ⟨i, hi, rfl⟩ := List.mem_iff_getElem.1 hc
  obtain ⟨k, hk, rfl⟩ := List.mem_iff_getElem.1 hd
  obtain ⟨a1, a2, a3⟩ := parP_iff.1 h1
  obtain ⟨b1, b2, b3⟩ := parP_iff.1 h2
  rcases Nat.lt_trichotomy i k with hlt | rfl | hlt
  · exact (contra_val (h k i hk hi hlt) b1 a1 (b2.trans a2.symm) b3 a3).symm
  · rfl
  · exact contra_val (h i k hi hk hlt) a1 b1 (a2.trans b2.symm) a3 b3
theorem parOf_sub {L L' : List Clm} (hs : L'.Sublist L) (h : NoPair L) {y : Int} {p v : ByteArray} (hv : parOf L' y p = some v) : parOf L y p = some v := by
  obtain ⟨c, hc, hp, rfl⟩ := parOf_some hv
  have hcL := hs.subset hc
  cases hf : parOf L y p with
  | none =>
    exfalso
    unfold parOf at hf
    rw [Option.map_eq_none_iff, List.find?_eq_none] at hf
    exact hf c hcL hp
  | some u =>
    obtain ⟨d, hd, hdp, rfl⟩ := parOf_some hf
    rw [h.val hd hcL hdp hp]
/-- What is left of consistent claims is consistent. -/
theorem Cons.sub {L L' : List Clm} (h : Cons L) (hs : L'.Sublist L) : Cons L' := by
  refine ⟨h.1.sublist hs, fun c hc hk d hd => ?_⟩
  cases hz : circZ L' c.fr d.place with
  | none => rfl
  | some r =>
    have h1 := h.2 c (hs.subset hc) hk d (hs.subset hd)
    have h2 := circ_mono (fun x v hx => parOf_sub hs h.1 hx) (m := L.length + 1) (by have := hs.length_le; omega) hz
    rw [circZ, h2] at h1
    cases h1
/-- A circle begins where a claim tells a parent. -/
theorem circZ_par {L : List Clm} {y : Int} {p : ByteArray} {r : List ByteArray} (h : circZ L y p = some r) : ∃ d ∈ L, parP p y d = true := by
  obtain ⟨v, hv⟩ := circ_head h
  obtain ⟨c, hc, h1, _⟩ := parOf_some hv
  exact ⟨c, hc, h1⟩
theorem noCirc_of {L : List Clm} (h : ∀ c ∈ L, c.kind = 1 → ∀ d ∈ L, d.kind = 1 → hasB d c.fr = true → circZ L c.fr d.place = none) : NoCirc L := by
  intro c hc hk d hd
  cases hz : circZ L c.fr d.place with
  | none => rfl
  | some r =>
    obtain ⟨e, he, hp⟩ := circZ_par hz
    obtain ⟨e1, e2, e3⟩ := parP_iff.1 hp
    have := h c hc hk e he e1 e3
    rw [e2, hz] at this
    cases this
end Go.Proofs.YtflcfdiochohgaaGreatDoor

/- What consistent claims tell of the existence of a place: the first that tells is as good as the last. -/
set_option linter.unusedSimpArgs false
set_option linter.unusedVariables false
namespace Go.Proofs.YtflcfdiochohgaaGreatDoor
theorem contra_symm (c d : Clm) : contraB c d = contraB d c := by
  have h1 : meetsB c d = meetsB d c := by unfold meetsB; exact Bool.and_comm _ _
  have h2 : (withoutB c d || withoutB d c) = (withoutB d c || withoutB c d) := Bool.or_comm _ _
  have h3 : decide (c.place = d.place) = decide (d.place = c.place) := by rw [decide_eq_decide]; exact eq_comm
  have h4 : (decide (c.kind = 3) != decide (d.kind = 3)) = (decide (d.kind = 3) != decide (c.kind = 3)) := by cases decide (c.kind = 3) <;> cases decide (d.kind = 3) <;> rfl
  have h5 : (decide (c.kind = d.kind) && (decide (c.kind = 0) || decide (c.kind = 1)) && !(decide (c.val = d.val))) = (decide (d.kind = c.kind) && (decide (d.kind = 0) || decide (d.kind = 1)) && !(decide (d.val = c.val))) := by
    by_cases h : c.kind = d.kind
    · have e : decide (c.val = d.val) = decide (d.val = c.val) := by rw [decide_eq_decide]; exact eq_comm
      rw [h, e]
    · have h' : ¬ d.kind = c.kind := fun e => h e.symm
      simp [h, h']
  unfold contraB
  rw [h1, h2, h3, h4, h5]
theorem contra_self (c : Clm) : contraB c c = false := by
  have h1 : withoutB c c = false := by
    unfold withoutB
    by_cases hk : c.kind = 1
    · simp [hk]
    · simp [hk]
  unfold contraB
  rw [h1]
  simp
theorem NoPair.all {L : List Clm} (h : NoPair L) {c d : Clm} (hc : c ∈ L) (hd : d ∈ L) : contraB c d = false := by
  rw [noPair_iff] at h
  obtain ⟨i, hi, rfl⟩ := List.mem_iff_getElem.1 hc
  obtain ⟨k, hk, rfl⟩ := List.mem_iff_getElem.1 hd
  rcases Nat.lt_trichotomy i k with hlt | rfl | hlt
  · rw [contra_symm]; exact h k i hk hi hlt
  · exact contra_self _
  · exact h i k hi hk hlt
end Go.Proofs.YtflcfdiochohgaaGreatDoor

/- Repairs and cores as sets of indices: the plain law. -/
set_option linter.unusedSimpArgs false
set_option linter.unusedVariables false
namespace Go.Proofs.YtflcfdiochohgaaGreatDoor
/-- The claims with these indices are not consistent. -/
noncomputable def coreG (L : List Clm) (S : List Int) : Bool := !consB (pick L S)
end Go.Proofs.YtflcfdiochohgaaGreatDoor

/- The weight of chosen claims. -/
set_option linter.unusedSimpArgs false
set_option linter.unusedVariables false
namespace Go.Proofs.YtflcfdiochohgaaGreatDoor
open Go.RowKit
/-- The weight of the claim at an index. -/
def selW (L : List Clm) (i : Int) : Int := match L[i.toNat]? with | some c => c.wt | none => 0
theorem selW_at {L : List Clm} {j : Nat} (h : j < L.length) : selW L (j : Int) = L[j].wt := by simp [selW, h]
/-- The weight of the first `k` chosen claims. -/
def wtTo (L : List Clm) (l : List Int) : Nat → Int
  | 0 => 0
  | k + 1 => IntKind.i64.wrap (wtTo L l k + selW L (l.getD k 0))
theorem wtTo_at {L : List Clm} {l : List Int} {k j : Nat} (hk : k < l.length) (hj : l[k] = (j : Int)) (h : j < L.length) : wtTo L l (k + 1) = IntKind.i64.wrap (wtTo L l k + L[j].wt) := by
  show IntKind.i64.wrap (wtTo L l k + selW L (l.getD k 0)) = _
  rw [List.getD_eq_getElem?_getD, List.getElem?_eq_getElem hk, Option.getD_some, hj, selW_at h]
def wtZ (L : List Clm) (l : List Int) : Int := wtTo L l l.length
theorem rise_ix {l : List Int} {n k : Nat} (h : RiseAt l n k) (hk : k < l.length) : ∃ j : Nat, l[k] = (j : Int) ∧ j < n := by
  obtain ⟨x, h1, h2, h3, _⟩ := h
  rw [List.getElem?_eq_getElem hk] at h1
  obtain rfl := Option.some.inj h1
  exact ⟨l[k].toNat, by omega, by omega⟩
set_option maxRecDepth 4000 in
set_option maxHeartbeats 1000000 in
theorem weightOf_any (L : List Clm) (l : List Int) (a a' : Option Addr) (n c n' c' : Nat) (w : World) (hn : L.length = n) (hn' : l.length = n') (hm : n ≤ 1048576) (hm' : n' ≤ 1048576) (hr : Row w a (clmsCells L)) (hr' : Row w a' (intCells l)) (hR : Rises l n) :
    Calls Tryz.prog 98 #[.slice a n c, .slice a' n' c'] w (Ret w (.int .i64 (wtZ L l))) := by
  subst hn hn'
  replace hr := Lib.hid hr
  replace hr' := Lib.hid hr'
  replace hR := Lib.hid hR
  go_enter Tryz.func98, Tryz.ntmps98
  go_wp2_with fail
  go_loopw [5, 10] (fun s i wr => ∃ k : Nat, k ≤ l.length ∧ i = .int .i64 k ∧ s = .int .i64 (wtTo L l k) ∧ ∃ z : Later w, wr = z.w) (fun _ i _ => l.length - (intOf i).toNat)
  case atStart => exact ⟨0, Nat.zero_le _, rfl, rfl, ⟨_, Below.refl _ _⟩, rfl⟩
  case round =>
    obtain ⟨k, hk, rfl, rfl, z, rfl⟩ := hrel
    have hzz := z.bel.size
    by_cases hlt : k < l.length
    · obtain ⟨b', o', rfl, hb', hc'⟩ := hr'.out.int hlt
      obtain ⟨j, hj, hjn⟩ := rise_ix (hR.out k hlt) hlt
      obtain ⟨b, o, rfl, hb, q0, q1, q2, q3, q4, q5, q6⟩ := hr.out.clm hjn
      rw [hj] at hc'
      have X := Lib.hid (wtTo_at hlt hj hjn)
      clear hj
      go_wp2_with fail
      go_roundw
      case rel => exact ⟨k + 1, by omega, by go_num, by rw [X.out, IntWalk.i64_left], ⟨_, by (repeat (first | (with_reducible exact Below.refl _ _) | (with_reducible assumption) | (with_reducible refine Later.out _ ?_) | (with_reducible refine bel_alloc ?_ _) | (with_reducible refine bel_drew ?_) | (with_reducible refine bel_drewN ?_ _) | (with_reducible refine bel_set ?_ ?_ _) | (with_reducible refine After.out _ ?_ ?_) | (dsimp only; omega) | omega | (simp only [World.size_alloc, World.size_setCell, World.size_drew]; omega)))⟩, rfl⟩
      case measure => first | (simp [intOf]; done) | (simp [intOf]; omega) | omega
    · obtain rfl : k = l.length := by omega
      go_wp2_with fail
      go_ret
      exact .mk rfl (by (repeat (first | (with_reducible exact Below.refl _ _) | (with_reducible assumption) | (with_reducible refine Later.out _ ?_) | (with_reducible refine bel_alloc ?_ _) | (with_reducible refine bel_drew ?_) | (with_reducible refine bel_drewN ?_ _) | (with_reducible refine bel_set ?_ ?_ _) | (with_reducible refine After.out _ ?_ ?_) | (dsimp only; omega) | omega | (simp only [World.size_alloc, World.size_setCell, World.size_drew]; omega))))
set_option maxRecDepth 4000 in
set_option maxHeartbeats 1000000 in
theorem sWeight_any (L : List Clm) (l : List Int) (a a' : Option Addr) (n c n' c' : Nat) (w : World) (hn : L.length = n) (hn' : l.length = n') (hm : n ≤ 1048576) (hm' : n' ≤ 1048576) (hr : Row w a (clmsCells L)) (hr' : Row w a' (intCells l)) (hR : Rises l n) :
    Calls Tryz.prog 100 #[.slice a n c, .slice a' n' c'] w (Ret w (.int .i64 (wtZ L l))) := by
  subst hn hn'
  replace hr := Lib.hid hr
  replace hr' := Lib.hid hr'
  replace hR := Lib.hid hR
  go_enter Tryz.func100, Tryz.ntmps100
  go_wp2_with fail
  go_loopw [5, 6] (fun s i wr => ∃ k : Nat, k ≤ l.length ∧ i = .int .i64 k ∧ s = .int .i64 (wtTo L l k) ∧ ∃ z : Later w, wr = z.w) (fun _ i _ => l.length - (intOf i).toNat)
  case atStart => exact ⟨0, Nat.zero_le _, rfl, rfl, ⟨_, Below.refl _ _⟩, rfl⟩
  case round =>
    obtain ⟨k, hk, rfl, rfl, z, rfl⟩ := hrel
    have hzz := z.bel.size
    by_cases hlt : k < l.length
    · obtain ⟨b', o', rfl, hb', hc'⟩ := hr'.out.int hlt
      obtain ⟨j, hj, hjn⟩ := rise_ix (hR.out k hlt) hlt
      obtain ⟨b, o, rfl, hb, q0, q1, q2, q3, q4, q5, q6⟩ := hr.out.clm hjn
      rw [hj] at hc'
      have X := Lib.hid (wtTo_at hlt hj hjn)
      clear hj
      go_wp2_with fail
      go_roundw
      case rel => exact ⟨k + 1, by omega, by go_num, by rw [X.out, IntWalk.i64_left], ⟨_, by (repeat (first | (with_reducible exact Below.refl _ _) | (with_reducible assumption) | (with_reducible refine Later.out _ ?_) | (with_reducible refine bel_alloc ?_ _) | (with_reducible refine bel_drew ?_) | (with_reducible refine bel_drewN ?_ _) | (with_reducible refine bel_set ?_ ?_ _) | (with_reducible refine After.out _ ?_ ?_) | (dsimp only; omega) | omega | (simp only [World.size_alloc, World.size_setCell, World.size_drew]; omega)))⟩, rfl⟩
      case measure => first | (simp [intOf]; done) | (simp [intOf]; omega) | omega
    · obtain rfl : k = l.length := by omega
      go_wp2_with fail
      go_ret
      exact .mk rfl (by (repeat (first | (with_reducible exact Below.refl _ _) | (with_reducible assumption) | (with_reducible refine Later.out _ ?_) | (with_reducible refine bel_alloc ?_ _) | (with_reducible refine bel_drew ?_) | (with_reducible refine bel_drewN ?_ _) | (with_reducible refine bel_set ?_ ?_ _) | (with_reducible refine After.out _ ?_ ?_) | (dsimp only; omega) | omega | (simp only [World.size_alloc, World.size_setCell, World.size_drew]; omega))))
theorem lengthClaim_any (a : Option Addr) (n c : Nat) (w : World) : Calls Tryz.prog 89 #[.slice a n c] w (Ret w (.int .i64 n)) := by
  go_enter Tryz.func89, Tryz.ntmps89
  go_wp2_with fail
  go_ret
  exact .mk rfl (by (repeat (first | (with_reducible exact Below.refl _ _) | (with_reducible assumption) | (with_reducible refine Later.out _ ?_) | (with_reducible refine bel_alloc ?_ _) | (with_reducible refine bel_drew ?_) | (with_reducible refine bel_drewN ?_ _) | (with_reducible refine bel_set ?_ ?_ _) | (with_reducible refine After.out _ ?_ ?_) | (dsimp only; omega) | omega | (simp only [World.size_alloc, World.size_setCell, World.size_drew]; omega))))
/-- The code of a choice of claims. -/
noncomputable def codeZ (L : List Clm) (l : List Int) : Int := if claimsB L then (if risesB l L.length then 0 else 2) else 1
/-- The answer of WeightOf. -/
noncomputable def wtR (L : List Clm) (l : List Int) : Int := if codeZ L l = 0 then wtZ L l else 0
theorem code_rises {L : List Clm} {l : List Int} (h : codeZ L l = 0) : Rises l L.length := by
  unfold codeZ at h
  cases h1 : claimsB L
  · rw [h1] at h; cases h
  · cases h2 : risesB l L.length
    · rw [h1, h2] at h; cases h
    · exact rises_of h2
section
variable (L : List Clm) (l : List Int) (a a' : Option Addr) (n c n' c' : Nat) (w : World) (hn : L.length = n) (hn' : l.length = n') (hm : n ≤ 1048576) (hm' : n' ≤ 1048576) (hr : Row w a (clmsCells L)) (hr' : Row w a' (intCells l)) (ok : ∀ c ∈ L, ClmOk c)
include hn hn' hm hm' hr hr' ok
theorem chosenCode_any (hx : Max w) : Calls Tryz.prog 97 #[.slice a n c, .slice a' n' c'] w (Ret w (.int .i64 (codeZ L l))) := by
  cases h1 : claimsB L
  · have X := Lib.hid (show codeZ L l = 1 by simp [codeZ, h1])
    have C1 := Lib.hid (areClaims_b (c := c) hn hm hr ok hx h1)
    clear hr hr' ok hx h1
    go_enter Tryz.func97, Tryz.ntmps97
    go_wp2_with fail
    with_reducible refine (C1.out).mono ?_
    rintro e w' ⟨rfl, y1, rfl⟩
    have hsy1 := y1.bel.size
    (try simp only [World.size_alloc, World.size_setCell, World.size_drew] at hsy1)
    go_wp2_with fail
    go_ret
    exact .mk (by rw [X.out]; rfl) (by (repeat (first | (with_reducible exact Below.refl _ _) | (with_reducible assumption) | (with_reducible refine Later.out _ ?_) | (with_reducible refine bel_alloc ?_ _) | (with_reducible refine bel_drew ?_) | (with_reducible refine bel_drewN ?_ _) | (with_reducible refine bel_set ?_ ?_ _) | (with_reducible refine After.out _ ?_ ?_) | (dsimp only; omega) | omega | (simp only [World.size_alloc, World.size_setCell, World.size_drew]; omega))))
  cases h2 : risesB l L.length
  · have X := Lib.hid (show codeZ L l = 2 by simp [codeZ, h1, h2])
    have C1 := Lib.hid (areClaims_b (c := c) hn hm hr ok hx h1)
    rw [hn] at h2
    have C2 := Lib.hid (fun w hr' => areIndices_b (w := w) (a := a') (c := c') hn' hm' hr' (by omega) (by omega) h2)
    replace hr' := Lib.hid hr'
    clear hr ok hx h1 h2
    go_enter Tryz.func97, Tryz.ntmps97
    go_wp2_with fail
    with_reducible refine (C1.out).mono ?_
    rintro e w' ⟨rfl, y1, rfl⟩
    have hsy1 := y1.bel.size
    (try simp only [World.size_alloc, World.size_setCell, World.size_drew] at hsy1)
    go_wp2_with fail
    with_reducible refine (lengthClaim_any _ _ _ _).mono ?_
    rintro e w' ⟨rfl, y2, rfl⟩
    have hsy2 := y2.bel.size
    (try simp only [World.size_alloc, World.size_setCell, World.size_drew] at hsy2)
    go_wp2_with fail
    with_reducible refine (C2.out _ (hr'.out.bel (by (repeat (first | (with_reducible exact Below.refl _ _) | (with_reducible assumption) | (with_reducible refine Later.out _ ?_) | (with_reducible refine bel_alloc ?_ _) | (with_reducible refine bel_drew ?_) | (with_reducible refine bel_drewN ?_ _) | (with_reducible refine bel_set ?_ ?_ _) | (with_reducible refine After.out _ ?_ ?_) | (dsimp only; omega) | omega | (simp only [World.size_alloc, World.size_setCell, World.size_drew]; omega)))))).mono ?_
    rintro e w' ⟨rfl, y3, rfl⟩
    have hsy3 := y3.bel.size
    (try simp only [World.size_alloc, World.size_setCell, World.size_drew] at hsy3)
    go_wp2_with fail
    go_ret
    exact .mk (by rw [X.out]; rfl) (by (repeat (first | (with_reducible exact Below.refl _ _) | (with_reducible assumption) | (with_reducible refine Later.out _ ?_) | (with_reducible refine bel_alloc ?_ _) | (with_reducible refine bel_drew ?_) | (with_reducible refine bel_drewN ?_ _) | (with_reducible refine bel_set ?_ ?_ _) | (with_reducible refine After.out _ ?_ ?_) | (dsimp only; omega) | omega | (simp only [World.size_alloc, World.size_setCell, World.size_drew]; omega))))
  · have X := Lib.hid (show codeZ L l = 0 by simp [codeZ, h1, h2])
    have C1 := Lib.hid (areClaims_b (c := c) hn hm hr ok hx h1)
    rw [hn] at h2
    have C2 := Lib.hid (fun w hr' => areIndices_b (w := w) (a := a') (c := c') hn' hm' hr' (by omega) (by omega) h2)
    replace hr' := Lib.hid hr'
    clear hr ok hx h1 h2
    go_enter Tryz.func97, Tryz.ntmps97
    go_wp2_with fail
    with_reducible refine (C1.out).mono ?_
    rintro e w' ⟨rfl, y1, rfl⟩
    have hsy1 := y1.bel.size
    (try simp only [World.size_alloc, World.size_setCell, World.size_drew] at hsy1)
    go_wp2_with fail
    with_reducible refine (lengthClaim_any _ _ _ _).mono ?_
    rintro e w' ⟨rfl, y2, rfl⟩
    have hsy2 := y2.bel.size
    (try simp only [World.size_alloc, World.size_setCell, World.size_drew] at hsy2)
    go_wp2_with fail
    with_reducible refine (C2.out _ (hr'.out.bel (by (repeat (first | (with_reducible exact Below.refl _ _) | (with_reducible assumption) | (with_reducible refine Later.out _ ?_) | (with_reducible refine bel_alloc ?_ _) | (with_reducible refine bel_drew ?_) | (with_reducible refine bel_drewN ?_ _) | (with_reducible refine bel_set ?_ ?_ _) | (with_reducible refine After.out _ ?_ ?_) | (dsimp only; omega) | omega | (simp only [World.size_alloc, World.size_setCell, World.size_drew]; omega)))))).mono ?_
    rintro e w' ⟨rfl, y3, rfl⟩
    have hsy3 := y3.bel.size
    (try simp only [World.size_alloc, World.size_setCell, World.size_drew] at hsy3)
    go_wp2_with fail
    go_ret
    exact .mk (by rw [X.out]; rfl) (by (repeat (first | (with_reducible exact Below.refl _ _) | (with_reducible assumption) | (with_reducible refine Later.out _ ?_) | (with_reducible refine bel_alloc ?_ _) | (with_reducible refine bel_drew ?_) | (with_reducible refine bel_drewN ?_ _) | (with_reducible refine bel_set ?_ ?_ _) | (with_reducible refine After.out _ ?_ ?_) | (dsimp only; omega) | omega | (simp only [World.size_alloc, World.size_setCell, World.size_drew]; omega))))
theorem weightOf_impl (hx : Max w) : Calls Tryz.prog 20 #[.slice a n c, .slice a' n' c'] w (Ret w (.tuple #[.int .i64 (wtR L l), .int .i64 (codeZ L l)])) := by
  have C1 := chosenCode_any L l a a' n c n' c' w hn hn' hm hm' hr hr' ok hx
  by_cases h : codeZ L l = 0
  · have C2 := fun w hr hr' => weightOf_any L l a a' n c n' c' w hn hn' hm hm' hr hr' (hn ▸ code_rises h)
    rw [show wtR L l = wtZ L l by simp [wtR, h]]
    rw [h] at C1 ⊢
    replace C1 := Lib.hid C1
    replace C2 := Lib.hid C2
    replace hr := Lib.hid hr
    replace hr' := Lib.hid hr'
    clear ok hx h
    go_enter Tryz.func20, Tryz.ntmps20
    go_wp2_with fail
    with_reducible refine (C1.out).mono ?_
    rintro e w' ⟨rfl, y1, rfl⟩
    have hsy1 := y1.bel.size
    (try simp only [World.size_alloc, World.size_setCell, World.size_drew] at hsy1)
    go_wp2_with fail
    with_reducible refine (C2.out _ (hr.out.bel (by (repeat (first | (with_reducible exact Below.refl _ _) | (with_reducible assumption) | (with_reducible refine Later.out _ ?_) | (with_reducible refine bel_alloc ?_ _) | (with_reducible refine bel_drew ?_) | (with_reducible refine bel_drewN ?_ _) | (with_reducible refine bel_set ?_ ?_ _) | (with_reducible refine After.out _ ?_ ?_) | (dsimp only; omega) | omega | (simp only [World.size_alloc, World.size_setCell, World.size_drew]; omega))))) (hr'.out.bel (by (repeat (first | (with_reducible exact Below.refl _ _) | (with_reducible assumption) | (with_reducible refine Later.out _ ?_) | (with_reducible refine bel_alloc ?_ _) | (with_reducible refine bel_drew ?_) | (with_reducible refine bel_drewN ?_ _) | (with_reducible refine bel_set ?_ ?_ _) | (with_reducible refine After.out _ ?_ ?_) | (dsimp only; omega) | omega | (simp only [World.size_alloc, World.size_setCell, World.size_drew]; omega)))))).mono ?_
    rintro e w' ⟨rfl, y2, rfl⟩
    have hsy2 := y2.bel.size
    (try simp only [World.size_alloc, World.size_setCell, World.size_drew] at hsy2)
    go_wp2_with fail
    refine bodyPost_ret (by simp [results, Tryz.results20, go_sem, ↓IntWalk.iteOmega, *]; try rfl) rfl ?_
    exact .mk rfl (by (repeat (first | (with_reducible exact Below.refl _ _) | (with_reducible assumption) | (with_reducible refine Later.out _ ?_) | (with_reducible refine bel_alloc ?_ _) | (with_reducible refine bel_drew ?_) | (with_reducible refine bel_drewN ?_ _) | (with_reducible refine bel_set ?_ ?_ _) | (with_reducible refine After.out _ ?_ ?_) | (dsimp only; omega) | omega | (simp only [World.size_alloc, World.size_setCell, World.size_drew]; omega))))
  · rw [show wtR L l = 0 by simp [wtR, h]]
    generalize codeZ L l = k at C1 h
    have hk : (k == 0) = false := by simpa using h
    have hk' : (k != 0) = true := by simpa using h
    replace C1 := Lib.hid C1
    clear ok hx hr hr'
    go_enter Tryz.func20, Tryz.ntmps20
    go_wp2_with fail
    with_reducible refine (C1.out).mono ?_
    rintro e w' ⟨rfl, y1, rfl⟩
    have hsy1 := y1.bel.size
    (try simp only [World.size_alloc, World.size_setCell, World.size_drew] at hsy1)
    go_wp2_with fail
    refine bodyPost_ret (by simp [results, Tryz.results20, go_sem, ↓IntWalk.iteOmega, *]; try rfl) rfl ?_
    exact .mk rfl (by (repeat (first | (with_reducible exact Below.refl _ _) | (with_reducible assumption) | (with_reducible refine Later.out _ ?_) | (with_reducible refine bel_alloc ?_ _) | (with_reducible refine bel_drew ?_) | (with_reducible refine bel_drewN ?_ _) | (with_reducible refine bel_set ?_ ?_ _) | (with_reducible refine After.out _ ?_ ?_) | (dsimp only; omega) | omega | (simp only [World.size_alloc, World.size_setCell, World.size_drew]; omega))))
theorem weightOf_spec : Calls Tryz.prog 21 #[.slice a n c, .slice a' n' c'] w (Ret w (.tuple #[.int .i64 (wtR L l), .int .i64 (codeZ L l)])) := by
  cases h1 : claimsB L
  · have e : codeZ L l = 1 := by simp [codeZ, h1]
    rw [show wtR L l = 0 by simp [wtR, e], e]
    have C1 := Lib.hid (sAreClaims_b (c := c) hn hm hr ok h1)
    clear hr hr' ok h1 e
    go_enter Tryz.func21, Tryz.ntmps21
    go_wp2_with fail
    with_reducible refine (C1.out).mono ?_
    rintro e w' ⟨rfl, y1, rfl⟩
    have hsy1 := y1.bel.size
    (try simp only [World.size_alloc, World.size_setCell, World.size_drew] at hsy1)
    go_wp2_with fail
    refine bodyPost_ret (by simp [results, Tryz.results21, go_sem, ↓IntWalk.iteOmega, *]; try rfl) rfl ?_
    exact .mk rfl (by (repeat (first | (with_reducible exact Below.refl _ _) | (with_reducible assumption) | (with_reducible refine Later.out _ ?_) | (with_reducible refine bel_alloc ?_ _) | (with_reducible refine bel_drew ?_) | (with_reducible refine bel_drewN ?_ _) | (with_reducible refine bel_set ?_ ?_ _) | (with_reducible refine After.out _ ?_ ?_) | (dsimp only; omega) | omega | (simp only [World.size_alloc, World.size_setCell, World.size_drew]; omega))))
  cases h2 : risesB l L.length
  · have e : codeZ L l = 2 := by simp [codeZ, h1, h2]
    rw [show wtR L l = 0 by simp [wtR, e], e]
    have C1 := Lib.hid (sAreClaims_b (c := c) hn hm hr ok h1)
    rw [hn] at h2
    have C2 := Lib.hid (fun w hr' => l01Rises_b (w := w) (a := a') (c := c') hn' hm' hr' (by omega) (by omega) h2)
    replace hr' := Lib.hid hr'
    clear hr ok h1 h2 e
    go_enter Tryz.func21, Tryz.ntmps21
    go_wp2_with fail
    with_reducible refine (C1.out).mono ?_
    rintro e w' ⟨rfl, y1, rfl⟩
    have hsy1 := y1.bel.size
    (try simp only [World.size_alloc, World.size_setCell, World.size_drew] at hsy1)
    go_wp2_with fail
    with_reducible refine (C2.out _ (hr'.out.bel (by (repeat (first | (with_reducible exact Below.refl _ _) | (with_reducible assumption) | (with_reducible refine Later.out _ ?_) | (with_reducible refine bel_alloc ?_ _) | (with_reducible refine bel_drew ?_) | (with_reducible refine bel_drewN ?_ _) | (with_reducible refine bel_set ?_ ?_ _) | (with_reducible refine After.out _ ?_ ?_) | (dsimp only; omega) | omega | (simp only [World.size_alloc, World.size_setCell, World.size_drew]; omega)))))).mono ?_
    rintro e w' ⟨rfl, y3, rfl⟩
    have hsy3 := y3.bel.size
    (try simp only [World.size_alloc, World.size_setCell, World.size_drew] at hsy3)
    go_wp2_with fail
    refine bodyPost_ret (by simp [results, Tryz.results21, go_sem, ↓IntWalk.iteOmega, *]; try rfl) rfl ?_
    exact .mk rfl (by (repeat (first | (with_reducible exact Below.refl _ _) | (with_reducible assumption) | (with_reducible refine Later.out _ ?_) | (with_reducible refine bel_alloc ?_ _) | (with_reducible refine bel_drew ?_) | (with_reducible refine bel_drewN ?_ _) | (with_reducible refine bel_set ?_ ?_ _) | (with_reducible refine After.out _ ?_ ?_) | (dsimp only; omega) | omega | (simp only [World.size_alloc, World.size_setCell, World.size_drew]; omega))))
  · have e : codeZ L l = 0 := by simp [codeZ, h1, h2]
    rw [show wtR L l = wtZ L l by simp [wtR, e], e]
    have C1 := Lib.hid (sAreClaims_b (c := c) hn hm hr ok h1)
    have C3 := Lib.hid (fun w hr hr' => sWeight_any L l a a' n c n' c' w hn hn' hm hm' hr hr' (hn ▸ rises_of h2))
    rw [hn] at h2
    have C2 := Lib.hid (fun w hr' => l01Rises_b (w := w) (a := a') (c := c') hn' hm' hr' (by omega) (by omega) h2)
    replace hr' := Lib.hid hr'
    replace hr := Lib.hid hr
    clear ok h1 h2 e
    go_enter Tryz.func21, Tryz.ntmps21
    go_wp2_with fail
    with_reducible refine (C1.out).mono ?_
    rintro e w' ⟨rfl, y1, rfl⟩
    have hsy1 := y1.bel.size
    (try simp only [World.size_alloc, World.size_setCell, World.size_drew] at hsy1)
    go_wp2_with fail
    with_reducible refine (C2.out _ (hr'.out.bel (by (repeat (first | (with_reducible exact Below.refl _ _) | (with_reducible assumption) | (with_reducible refine Later.out _ ?_) | (with_reducible refine bel_alloc ?_ _) | (with_reducible refine bel_drew ?_) | (with_reducible refine bel_drewN ?_ _) | (with_reducible refine bel_set ?_ ?_ _) | (with_reducible refine After.out _ ?_ ?_) | (dsimp only; omega) | omega | (simp only [World.size_alloc, World.size_setCell, World.size_drew]; omega)))))).mono ?_
    rintro e w' ⟨rfl, y3, rfl⟩
    have hsy3 := y3.bel.size
    (try simp only [World.size_alloc, World.size_setCell, World.size_drew] at hsy3)
    go_wp2_with fail
    with_reducible refine (C3.out _ (hr.out.bel (by (repeat (first | (with_reducible exact Below.refl _ _) | (with_reducible assumption) | (with_reducible refine Later.out _ ?_) | (with_reducible refine bel_alloc ?_ _) | (with_reducible refine bel_drew ?_) | (with_reducible refine bel_drewN ?_ _) | (with_reducible refine bel_set ?_ ?_ _) | (with_reducible refine After.out _ ?_ ?_) | (dsimp only; omega) | omega | (simp only [World.size_alloc, World.size_setCell, World.size_drew]; omega))))) (hr'.out.bel (by (repeat (first | (with_reducible exact Below.refl _ _) | (with_reducible assumption) | (with_reducible refine Later.out _ ?_) | (with_reducible refine bel_alloc ?_ _) | (with_reducible refine bel_drew ?_) | (with_reducible refine bel_drewN ?_ _) | (with_reducible refine bel_set ?_ ?_ _) | (with_reducible refine After.out _ ?_ ?_) | (dsimp only; omega) | omega | (simp only [World.size_alloc, World.size_setCell, World.size_drew]; omega)))))).mono ?_
    rintro e w' ⟨rfl, y4, rfl⟩
    have hsy4 := y4.bel.size
    (try simp only [World.size_alloc, World.size_setCell, World.size_drew] at hsy4)
    go_wp2_with fail
    refine bodyPost_ret (by simp [results, Tryz.results21, go_sem, ↓IntWalk.iteOmega, *]; try rfl) rfl ?_
    exact .mk rfl (by (repeat (first | (with_reducible exact Below.refl _ _) | (with_reducible assumption) | (with_reducible refine Later.out _ ?_) | (with_reducible refine bel_alloc ?_ _) | (with_reducible refine bel_drew ?_) | (with_reducible refine bel_drewN ?_ _) | (with_reducible refine bel_set ?_ ?_ _) | (with_reducible refine After.out _ ?_ ?_) | (dsimp only; omega) | omega | (simp only [World.size_alloc, World.size_setCell, World.size_drew]; omega))))
end
end Go.Proofs.YtflcfdiochohgaaGreatDoor

/- The first least one of a list; what the tables of repairs and cores are used for: the plain laws. -/
set_option linter.unusedSimpArgs false
set_option linter.unusedVariables false
namespace Go.Proofs.YtflcfdiochohgaaGreatDoor
end Go.Proofs.YtflcfdiochohgaaGreatDoor

/- The tables by number: the plain law of a table, the search in a list of numbers by a function value, the function values. -/
set_option linter.unusedSimpArgs false
set_option linter.unusedVariables false
namespace Go.Proofs.YtflcfdiochohgaaGreatDoor
open Go.RowKit
/-- What a function value must do for a list of numbers: tell `p` of each, whenever it is called later. -/
def TellsI (g : Nat) (lb : Array Value) (p : Int → Bool) (L : List Int) (w : World) : Prop :=
  ∀ x ∈ L, ∀ w' : World, Below w.heap.size w w' → Calls Tryz.prog g (#[.int .i64 x] ++ lb) w' (Ret w' (.bool (p x)))
theorem TellsI.bel {g : Nat} {lb : Array Value} {p : Int → Bool} {L : List Int} {w w1 : World} (h : TellsI g lb p L w) (hb : Below w.heap.size w w1) : TellsI g lb p L w1 :=
  fun c hc w' hb' => h c hc w' (hb.trans (hb'.mono hb.size))
end Go.Proofs.YtflcfdiochohgaaGreatDoor

/- ClaimsAbout, both sides. -/
set_option linter.unusedSimpArgs false
set_option linter.unusedVariables false
namespace Go.Proofs.YtflcfdiochohgaaGreatDoor
open Go.RowKit
theorem hasB_in (c : Clm) (y : Int) : hasB c y = inB y c.fr c.to := rfl
set_option maxHeartbeats 400000 in
theorem has_any (f t y : Int) (w : World) : Calls Tryz.prog 95 #[.agg #[.int .i64 f, .int .i64 t], .int .i64 y] w (Ret w (.bool (inB y f t))) := by
  go_enter Tryz.func95, Tryz.ntmps95
  go_wp2_with fail
  with_reducible refine (within_any _ _ _ _).mono ?_
  rintro e w' ⟨rfl, y1, rfl⟩
  have hsy1 := y1.bel.size
  (try simp only [World.size_alloc, World.size_setCell, World.size_drew] at hsy1)
  go_wp2_with fail
  go_ret
  exact .mk rfl (by (repeat (first | (with_reducible exact Below.refl _ _) | (with_reducible assumption) | (with_reducible refine Later.out _ ?_) | (with_reducible refine bel_alloc ?_ _) | (with_reducible refine bel_drew ?_) | (with_reducible refine bel_drewN ?_ _) | (with_reducible refine bel_set ?_ ?_ _) | (with_reducible refine After.out _ ?_ ?_) | (dsimp only; omega) | omega | (simp only [World.size_alloc, World.size_setCell, World.size_drew]; omega))))
theorem has_b {f t y : Int} {w : World} {b : Bool} (h : inB y f t = b) : Calls Tryz.prog 95 #[.agg #[.int .i64 f, .int .i64 t], .int .i64 y] w (Ret w (.bool b)) := by subst h; exact has_any _ _ _ _
/-- The claim is about a place, and its years have a year. -/
def aboutB (p : ByteArray) (y : Int) (c : Clm) : Bool := decide (c.place = p) && hasB c y
set_option maxHeartbeats 1000000 in
theorem about1_any (c : Clm) (p : ByteArray) (y : Int) (g1 g2 : Nat) (w : World) (h1 : w.cell? ⟨g1, 0, none⟩ = some (.string p)) (h2 : w.cell? ⟨g2, 0, none⟩ = some (.int .i64 y)) :
    Calls Tryz.prog 94 #[clmV c, .pointer (some ⟨g1, 0, none⟩), .pointer (some ⟨g2, 0, none⟩)] w (Ret w (.bool (aboutB p y c))) := by
  have b1 := World.block_lt_of_cell? w _ h1
  have b2 := World.block_lt_of_cell? w _ h2
  simp only at b1 b2
  rcases sameB c.place p with ⟨e, e1⟩ | ⟨e, e1⟩
  · have X := Lib.hid (show aboutB p y c = inB y c.fr c.to by simp [aboutB, e, hasB_in])
    clear e
    go_enter Tryz.func94, Tryz.ntmps94
    go_wp2_with fail
    with_reducible refine (has_any _ _ _ _).mono ?_
    rintro e w' ⟨rfl, y1, rfl⟩
    have hsy1 := y1.bel.size
    (try simp only [World.size_alloc, World.size_setCell, World.size_drew] at hsy1)
    go_wp2_with fail
    go_ret
    exact .mk (by rw [X.out]; rfl) (by (repeat (first | (with_reducible exact Below.refl _ _) | (with_reducible assumption) | (with_reducible refine Later.out _ ?_) | (with_reducible refine bel_alloc ?_ _) | (with_reducible refine bel_drew ?_) | (with_reducible refine bel_drewN ?_ _) | (with_reducible refine bel_set ?_ ?_ _) | (with_reducible refine After.out _ ?_ ?_) | (dsimp only; omega) | omega | (simp only [World.size_alloc, World.size_setCell, World.size_drew]; omega))))
  · have X := Lib.hid (show aboutB p y c = false by simp [aboutB, e])
    clear e
    go_enter Tryz.func94, Tryz.ntmps94
    go_wp2_with fail
    go_ret
    exact .mk (by rw [X.out]; rfl) (by (repeat (first | (with_reducible exact Below.refl _ _) | (with_reducible assumption) | (with_reducible refine Later.out _ ?_) | (with_reducible refine bel_alloc ?_ _) | (with_reducible refine bel_drew ?_) | (with_reducible refine bel_drewN ?_ _) | (with_reducible refine bel_set ?_ ?_ _) | (with_reducible refine After.out _ ?_ ?_) | (dsimp only; omega) | omega | (simp only [World.size_alloc, World.size_setCell, World.size_drew]; omega))))
theorem enters_about1 : ∀ args w, (callFunc 94 args).run Tryz.prog w = .ok (.enter 94 args) w := fun _ _ => by kernel_rfl
theorem tells_about {L : List Clm} {p : ByteArray} {y : Int} {g1 g2 : Nat} {w : World} (h1 : w.cell? ⟨g1, 0, none⟩ = some (.string p)) (h2 : w.cell? ⟨g2, 0, none⟩ = some (.int .i64 y)) :
    Tells 94 #[] #[.pointer (some ⟨g1, 0, none⟩), .pointer (some ⟨g2, 0, none⟩)] (aboutB p y) L w :=
  fun c _ w' hb => by
    have := about1_any c p y g1 g2 w' ((hb.cell (World.block_lt_of_cell? w _ h1)).trans h1) ((hb.cell (World.block_lt_of_cell? w _ h2)).trans h2)
    simpa using this
noncomputable def aboutR (L : List Clm) (p : ByteArray) (y : Int) : List Int := if claimsB L then idxs (aboutB p y) L else []
noncomputable def aboutK (L : List Clm) (p : ByteArray) (y : Int) : Int := if claimsB L then 0 else 1
section
variable (L : List Clm) (p : ByteArray) (y : Int) (a : Option Addr) (n c : Nat) (w : World) (hn : L.length = n) (hm : n ≤ 1048576) (hr : Row w a (clmsCells L)) (ok : ∀ c ∈ L, ClmOk c)
include hn hm hr ok
set_option maxHeartbeats 1000000 in
theorem about_impl (_hp : p.size ≤ 1048576) (hx : Max w) : Calls Tryz.prog 17 #[.slice a n c, .string p, .int .i64 y] w (RetOwn w 2 1 (aboutR L p y).length (intCells (aboutR L p y)) fun v => .tuple #[v, .int .i64 (aboutK L p y)]) := by
  cases h1 : claimsB L
  · rw [show aboutR L p y = [] by simp [aboutR, h1], show aboutK L p y = 1 by simp [aboutK, h1]]
    have C1 := Lib.hid (fun w hr hx => areClaims_b (a := a) (c := c) (w := w) hn hm hr ok hx h1)
    replace hx := Lib.hid hx
    replace hr := Lib.hid hr
    clear ok h1 hn
    go_enter Tryz.func17, Tryz.ntmps17
    go_wp2_with fail
    with_reducible refine (C1.out _ (hr.out.bel (by (repeat (first | (with_reducible exact Below.refl _ _) | (with_reducible assumption) | (with_reducible refine Later.out _ ?_) | (with_reducible refine bel_alloc ?_ _) | (with_reducible refine bel_drew ?_) | (with_reducible refine bel_drewN ?_ _) | (with_reducible refine bel_set ?_ ?_ _) | (with_reducible refine After.out _ ?_ ?_) | (dsimp only; omega) | omega | (simp only [World.size_alloc, World.size_setCell, World.size_drew]; omega))))) (hx.out.bel (by (repeat (first | (with_reducible exact Below.refl _ _) | (with_reducible assumption) | (with_reducible refine Later.out _ ?_) | (with_reducible refine bel_alloc ?_ _) | (with_reducible refine bel_drew ?_) | (with_reducible refine bel_drewN ?_ _) | (with_reducible refine bel_set ?_ ?_ _) | (with_reducible refine After.out _ ?_ ?_) | (dsimp only; omega) | omega | (simp only [World.size_alloc, World.size_setCell, World.size_drew]; omega)))))).mono ?_
    rintro e w' ⟨rfl, y1, rfl⟩
    have hsy1 := y1.bel.size
    (try simp only [World.size_alloc, World.size_setCell, World.size_drew] at hsy1)
    go_wp2_with fail
    refine bodyPost_ret (by simp [results, Tryz.results17, go_sem, ↓IntWalk.iteOmega, *]; try rfl) rfl ?_
    refine RetOwn.mk (.slice none 0 0) rfl (World.ownsRow_nil _ _ _ _) ?_
    (repeat (first | (with_reducible exact Below.refl _ _) | (with_reducible assumption) | (with_reducible refine Later.out _ ?_) | (with_reducible refine bel_alloc ?_ _) | (with_reducible refine bel_drew ?_) | (with_reducible refine bel_drewN ?_ _) | (with_reducible refine bel_set ?_ ?_ _) | (with_reducible refine After.out _ ?_ ?_) | (dsimp only; omega) | omega | (simp only [World.size_alloc, World.size_setCell, World.size_drew]; omega)))
  · rw [show aboutR L p y = idxs (aboutB p y) L by simp [aboutR, h1], show aboutK L p y = 0 by simp [aboutK, h1]]
    have C1 := Lib.hid (fun w hr hx => areClaims_b (a := a) (c := c) (w := w) hn hm hr ok hx h1)
    have C2 := Lib.hid (fun lb w hr hp => claimsWhere_any 94 #[] lb (aboutB p y) L a n c w enters_about1 hn hm hr hp)
    replace hx := Lib.hid hx
    replace hr := Lib.hid hr
    clear ok h1 hn
    go_enter Tryz.func17, Tryz.ntmps17
    go_wp2_with fail
    with_reducible refine (C1.out _ (hr.out.bel (by (repeat (first | (with_reducible exact Below.refl _ _) | (with_reducible assumption) | (with_reducible refine Later.out _ ?_) | (with_reducible refine bel_alloc ?_ _) | (with_reducible refine bel_drew ?_) | (with_reducible refine bel_drewN ?_ _) | (with_reducible refine bel_set ?_ ?_ _) | (with_reducible refine After.out _ ?_ ?_) | (dsimp only; omega) | omega | (simp only [World.size_alloc, World.size_setCell, World.size_drew]; omega))))) (hx.out.bel (by (repeat (first | (with_reducible exact Below.refl _ _) | (with_reducible assumption) | (with_reducible refine Later.out _ ?_) | (with_reducible refine bel_alloc ?_ _) | (with_reducible refine bel_drew ?_) | (with_reducible refine bel_drewN ?_ _) | (with_reducible refine bel_set ?_ ?_ _) | (with_reducible refine After.out _ ?_ ?_) | (dsimp only; omega) | omega | (simp only [World.size_alloc, World.size_setCell, World.size_drew]; omega)))))).mono ?_
    rintro e w' ⟨rfl, y1, rfl⟩
    have hsy1 := y1.bel.size
    (try simp only [World.size_alloc, World.size_setCell, World.size_drew] at hsy1)
    go_wp2_with fail
    with_reducible refine (C2.out _ _ (hr.out.bel (by (repeat (first | (with_reducible exact Below.refl _ _) | (with_reducible assumption) | (with_reducible refine Later.out _ ?_) | (with_reducible refine bel_alloc ?_ _) | (with_reducible refine bel_drew ?_) | (with_reducible refine bel_drewN ?_ _) | (with_reducible refine bel_set ?_ ?_ _) | (with_reducible refine After.out _ ?_ ?_) | (dsimp only; omega) | omega | (simp only [World.size_alloc, World.size_setCell, World.size_drew]; omega))))) (by refine tells_about ?_ ?_ <;> simp [go_sem, ↓IntWalk.iteOmega, *])).mono ?_
    rintro e w' ⟨a2, c2, rfl, hown, y2, rfl⟩
    have hsy2 := y2.bel.size
    (try simp only [World.size_alloc, World.size_setCell, World.size_drew] at hsy2)
    have H2 := Lib.hid (Owns.of hown)
    clear hown
    go_wp2_with fail
    refine bodyPost_ret (by simp [results, Tryz.results17, go_sem, ↓IntWalk.iteOmega, *]; try rfl) rfl ?_
    refine RetOwn.mk _ rfl (own_mono H2.out.own ?_) ?_
    · ((try simp only [World.size_alloc, World.size_setCell, World.size_drew]); omega)
    · (repeat (first | (with_reducible exact Below.refl _ _) | (with_reducible assumption) | (with_reducible refine Later.out _ ?_) | (with_reducible refine bel_alloc ?_ _) | (with_reducible refine bel_drew ?_) | (with_reducible refine bel_drewN ?_ _) | (with_reducible refine bel_set ?_ ?_ _) | (with_reducible refine After.out _ ?_ ?_) | (dsimp only; omega) | omega | (simp only [World.size_alloc, World.size_setCell, World.size_drew]; omega)))
set_option maxRecDepth 4000 in
set_option maxHeartbeats 2000000 in
theorem about_spec (_hp : p.size ≤ 1048576) : Calls Tryz.prog 18 #[.slice a n c, .string p, .int .i64 y] w (RetOwn w 2 1 (aboutR L p y).length (intCells (aboutR L p y)) fun v => .tuple #[v, .int .i64 (aboutK L p y)]) := by
  cases h1 : claimsB L
  · rw [show aboutR L p y = [] by simp [aboutR, h1], show aboutK L p y = 1 by simp [aboutK, h1]]
    have C1 := Lib.hid (sAreClaims_b (a := a) (c := c) (w := w) hn hm hr ok h1)
    clear ok h1 hn hr
    go_enter Tryz.func18, Tryz.ntmps18
    go_wp2_with fail
    with_reducible refine (C1.out).mono ?_
    rintro e w' ⟨rfl, y1, rfl⟩
    have hsy1 := y1.bel.size
    (try simp only [World.size_alloc, World.size_setCell, World.size_drew] at hsy1)
    go_wp2_with fail
    refine bodyPost_ret (by simp [results, Tryz.results18, go_sem, ↓IntWalk.iteOmega, *]; try rfl) rfl ?_
    refine RetOwn.mk (.slice none 0 0) rfl (World.ownsRow_nil _ _ _ _) ?_
    (repeat (first | (with_reducible exact Below.refl _ _) | (with_reducible assumption) | (with_reducible refine Later.out _ ?_) | (with_reducible refine bel_alloc ?_ _) | (with_reducible refine bel_drew ?_) | (with_reducible refine bel_drewN ?_ _) | (with_reducible refine bel_set ?_ ?_ _) | (with_reducible refine After.out _ ?_ ?_) | (dsimp only; omega) | omega | (simp only [World.size_alloc, World.size_setCell, World.size_drew]; omega)))
  · rw [show aboutR L p y = idxs (aboutB p y) L by simp [aboutR, h1], show aboutK L p y = 0 by simp [aboutK, h1]]
    have C1 := Lib.hid (sAreClaims_b (a := a) (c := c) (w := w) hn hm hr ok h1)
    obtain ⟨ii, j1, j2, j3, j4⟩ := info_i64'
    have Jii := Lib.hid (And.intro j1 (And.intro j2 (And.intro j3 j4)))
    clear j1 j2 j3 j4
    subst hn
    replace hr := Lib.hid hr
    clear ok h1
    go_enter Tryz.func18, Tryz.ntmps18
    go_wp2_with fail
    with_reducible refine (C1.out).mono ?_
    rintro e w' ⟨rfl, y1, rfl⟩
    have hsy1 := y1.bel.size
    (try simp only [World.size_alloc, World.size_setCell, World.size_drew] at hsy1)
    go_wp2_with fail
    have hs0 := y1.bel.size
    have hown0 := Lib.hid (World.ownsRow_lit (base := w.heap.size) (e := 2) (size := 1) y1.w #[] 0 hs0 (by unfold maxLen; omega) rfl)
    go_loopw [8, 9] (fun t8 i wr => ∃ (k : Nat) (a5 : Option Addr) (c5 : Nat), k ≤ L.length ∧ i = .int .i64 k ∧ t8 = .slice a5 (idxsTo (aboutB p y) L k).length c5 ∧ wr.ownsRow w.heap.size 2 1 (.slice a5 (idxsTo (aboutB p y) L k).length c5) (idxsTo (aboutB p y) L k).length (intCells (idxsTo (aboutB p y) L k)) ∧ ∃ z : Later w, wr = z.w) (fun _ i _ => L.length - (intOf i).toNat)
    case atStart => exact ⟨0, _, _, Nat.zero_le _, rfl, rfl, hown0.out, LaterC.mk (by (repeat (first | (with_reducible exact Below.refl _ _) | (with_reducible assumption) | (with_reducible refine Later.out _ ?_) | (with_reducible refine bel_alloc ?_ _) | (with_reducible refine bel_drew ?_) | (with_reducible refine bel_drewN ?_ _) | (with_reducible refine bel_set ?_ ?_ _) | (with_reducible refine After.out _ ?_ ?_) | (dsimp only; omega) | omega | (simp only [World.size_alloc, World.size_setCell, World.size_drew]; omega))))⟩
    case round =>
      obtain ⟨k, a5, c5, hk, rfl, rfl, hown, z, rfl⟩ := hrel
      replace hown := Lib.hid hown
      have hzz := z.bel.size
      clear hown0
      by_cases hlt : k < L.length
      · obtain ⟨b, o, rfl, hb, q0, q1, q2, q3, q4, q5, q6⟩ := hr.out.clm hlt
        have hi1 : (k : Int) < (L.length : Int) := by omega
        have hle := length_idxsTo (aboutB p y) L k
        rcases sameB L[k].place p with ⟨e, e1⟩ | ⟨e, e1⟩
        · cases hv : inB y L[k].fr L[k].to
          · have X := Lib.hid (idxsTo_no hlt (show aboutB p y L[k] = false by simp [aboutB, hasB_in, hv]))
            replace hv := Lib.hid hv
            clear e
            go_wp2_with fail
            refine wp_region_plan [(0, true), (1, true), (2, true), (3, true), (4, true), (5, true), (6, true), (7, true), (8, true), (9, true), (10, true), (11, true), (12, true), (13, true), (14, true), (15, true), (16, true), (17, true), (18, true), (19, true), (20, true), (21, false), (22, true)] (C := LaterC _) (by kernel_rfl) (by kernel_rfl) (by kernel_rfl) rfl (fun _ _ d _ _ h => by cases d <;> exact h) (LaterC.mk ((Below.refl _ _).drew)) ?_
            first | (refine plan_quiet nth0 rfl ?_; intro KP hKP; go_big_quiet_op; go_big_quiet_on) | (refine plan_skip_q nth0 rfl rfl ?_; simp only [Act.put, List.setIfInBounds_toArray, List.set_cons_zero, List.set_cons_succ])
            first | (refine plan_quiet nth1 rfl ?_; intro KP hKP; go_big_quiet_op; go_big_quiet_on) | (refine plan_skip_q nth1 rfl rfl ?_; simp only [Act.put, List.setIfInBounds_toArray, List.set_cons_zero, List.set_cons_succ])
            first | (refine plan_quiet nth2 rfl ?_; intro KP hKP; go_big_quiet_op; go_big_quiet_on) | (refine plan_skip_q nth2 rfl rfl ?_; simp only [Act.put, List.setIfInBounds_toArray, List.set_cons_zero, List.set_cons_succ])
            first | (refine plan_quiet nth3 rfl ?_; intro KP hKP; go_big_quiet_op; go_big_quiet_on) | (refine plan_skip_q nth3 rfl rfl ?_; simp only [Act.put, List.setIfInBounds_toArray, List.set_cons_zero, List.set_cons_succ])
            first | (refine plan_quiet nth4 rfl ?_; intro KP hKP; go_big_quiet_op; go_big_quiet_on) | (refine plan_skip_q nth4 rfl rfl ?_; simp only [Act.put, List.setIfInBounds_toArray, List.set_cons_zero, List.set_cons_succ])
            first | (refine plan_quiet nth5 rfl ?_; intro KP hKP; go_big_quiet_op; go_big_quiet_on) | (refine plan_skip_q nth5 rfl rfl ?_; simp only [Act.put, List.setIfInBounds_toArray, List.set_cons_zero, List.set_cons_succ])
            first | (refine plan_quiet nth6 rfl ?_; intro KP hKP; go_big_quiet_op; go_big_quiet_on) | (refine plan_skip_q nth6 rfl rfl ?_; simp only [Act.put, List.setIfInBounds_toArray, List.set_cons_zero, List.set_cons_succ])
            first | (refine plan_quiet nth7 rfl ?_; intro KP hKP; go_big_quiet_op; go_big_quiet_on) | (refine plan_skip_q nth7 rfl rfl ?_; simp only [Act.put, List.setIfInBounds_toArray, List.set_cons_zero, List.set_cons_succ])
            first | (refine plan_quiet nth8 rfl ?_; intro KP hKP; go_big_quiet_op; go_big_quiet_on) | (refine plan_skip_q nth8 rfl rfl ?_; simp only [Act.put, List.setIfInBounds_toArray, List.set_cons_zero, List.set_cons_succ])
            first | (refine plan_quiet nth9 rfl ?_; intro KP hKP; go_big_quiet_op; go_big_quiet_on) | (refine plan_skip_q nth9 rfl rfl ?_; simp only [Act.put, List.setIfInBounds_toArray, List.set_cons_zero, List.set_cons_succ])
            first | (refine plan_quiet nth10 rfl ?_; intro KP hKP; go_big_quiet_op; go_big_quiet_on) | (refine plan_skip_q nth10 rfl rfl ?_; simp only [Act.put, List.setIfInBounds_toArray, List.set_cons_zero, List.set_cons_succ])
            first | (refine plan_quiet nth11 rfl ?_; intro KP hKP; go_big_quiet_op; go_big_quiet_on) | (refine plan_skip_q nth11 rfl rfl ?_; simp only [Act.put, List.setIfInBounds_toArray, List.set_cons_zero, List.set_cons_succ])
            first | (refine plan_quiet nth12 rfl ?_; intro KP hKP; go_big_quiet_op; go_big_quiet_on) | (refine plan_skip_q nth12 rfl rfl ?_; simp only [Act.put, List.setIfInBounds_toArray, List.set_cons_zero, List.set_cons_succ])
            first | (refine plan_quiet nth13 rfl ?_; intro KP hKP; go_big_quiet_op; go_big_quiet_on) | (refine plan_skip_q nth13 rfl rfl ?_; simp only [Act.put, List.setIfInBounds_toArray, List.set_cons_zero, List.set_cons_succ])
            first | (refine plan_quiet nth14 rfl ?_; intro KP hKP; go_big_quiet_op; go_big_quiet_on) | (refine plan_skip_q nth14 rfl rfl ?_; simp only [Act.put, List.setIfInBounds_toArray, List.set_cons_zero, List.set_cons_succ])
            first | (refine plan_quiet nth15 rfl ?_; intro KP hKP; go_big_quiet_op; go_big_quiet_on) | (refine plan_skip_q nth15 rfl rfl ?_; simp only [Act.put, List.setIfInBounds_toArray, List.set_cons_zero, List.set_cons_succ])
            first | (refine plan_quiet nth16 rfl ?_; intro KP hKP; go_big_quiet_op; go_big_quiet_on) | (refine plan_skip_q nth16 rfl rfl ?_; simp only [Act.put, List.setIfInBounds_toArray, List.set_cons_zero, List.set_cons_succ])
            first | (refine plan_quiet nth17 rfl ?_; intro KP hKP; go_big_quiet_op; go_big_quiet_on) | (refine plan_skip_q nth17 rfl rfl ?_; simp only [Act.put, List.setIfInBounds_toArray, List.set_cons_zero, List.set_cons_succ])
            first | (refine plan_quiet nth18 rfl ?_; intro KP hKP; go_big_quiet_op; go_big_quiet_on) | (refine plan_skip_q nth18 rfl rfl ?_; simp only [Act.put, List.setIfInBounds_toArray, List.set_cons_zero, List.set_cons_succ])
            first | (refine plan_quiet nth19 rfl ?_; intro KP hKP; go_big_quiet_op; go_big_quiet_on) | (refine plan_skip_q nth19 rfl rfl ?_; simp only [Act.put, List.setIfInBounds_toArray, List.set_cons_zero, List.set_cons_succ])
            first | (refine plan_quiet nth20 rfl ?_; intro KP hKP; go_big_quiet_op; go_big_quiet_on) | (refine plan_skip_q nth20 rfl rfl ?_; simp only [Act.put, List.setIfInBounds_toArray, List.set_cons_zero, List.set_cons_succ])
            first | (refine plan_loud nth21 rfl ?_; intro KP hKP; go_wp2_with (first | (go_at_call 92; first | ((with_reducible refine (Calls.later (l01In_b _ hv.out)).mono ?_); rintro e w' ⟨rfl, xl, rfl⟩; have hsz := xl.bel.size; (try simp only [World.size_alloc, World.size_setCell, World.size_drew] at hsz); (try have hz0 : w.heap.size < xl.w.heap.size := (by omega)); (try have hz1 : w.heap.size + 1 < xl.w.heap.size := (by omega)); (try have hz2 : w.heap.size + 1 + 1 < xl.w.heap.size := (by omega))) | ((with_reducible refine (l01In_b _ hv.out).mono ?_); rintro e w' ⟨rfl, xl, rfl⟩; have hsz := xl.bel.size; (try simp only [World.size_alloc, World.size_setCell, World.size_drew] at hsz); (try have hz0 : w.heap.size < xl.w.heap.size := (by omega)); (try have hz1 : w.heap.size + 1 < xl.w.heap.size := (by omega)); (try have hz2 : w.heap.size + 1 + 1 < xl.w.heap.size := (by omega))))); refine hKP _ _ (LaterC.mk (by (repeat (first | (with_reducible exact Below.refl _ _) | (with_reducible assumption) | (with_reducible refine Later.out _ ?_) | (with_reducible refine bel_alloc ?_ _) | (with_reducible refine bel_drew ?_) | (with_reducible refine bel_drewN ?_ _) | (with_reducible refine bel_set ?_ ?_ _) | (with_reducible refine After.out _ ?_ ?_) | (dsimp only; omega) | omega | (simp only [World.size_alloc, World.size_setCell, World.size_drew]; omega))))) ?_; clear hKP KP) | (refine plan_skip nth21 rfl rfl (LaterC.mk (by (repeat (first | (with_reducible exact Below.refl _ _) | (with_reducible assumption) | (with_reducible refine Later.out _ ?_) | (with_reducible refine bel_alloc ?_ _) | (with_reducible refine bel_drew ?_) | (with_reducible refine bel_drewN ?_ _) | (with_reducible refine bel_set ?_ ?_ _) | (with_reducible refine After.out _ ?_ ?_) | (dsimp only; omega) | omega | (simp only [World.size_alloc, World.size_setCell, World.size_drew]; omega))))) ?_; simp only [Act.put, List.setIfInBounds_toArray, List.set_cons_zero, List.set_cons_succ])
            first | (refine plan_quiet nth22 rfl ?_; intro KP hKP; go_big_quiet_op; go_big_quiet_on) | (refine plan_skip_q nth22 rfl rfl ?_; simp only [Act.put, List.setIfInBounds_toArray, List.set_cons_zero, List.set_cons_succ])
            refine plan_nil ?_
            go_wp2_with fail
            go_roundw
            case rel => exact ⟨k + 1, a5, c5, by omega, by go_num, by rw [X.out], by rw [X.out]; exact own_bel hown.out (by (repeat (first | (with_reducible exact Below.refl _ _) | (with_reducible assumption) | (with_reducible refine Later.out _ ?_) | (with_reducible refine bel_alloc ?_ _) | (with_reducible refine bel_drew ?_) | (with_reducible refine bel_drewN ?_ _) | (with_reducible refine bel_set ?_ ?_ _) | (with_reducible refine After.out _ ?_ ?_) | (dsimp only; omega) | omega | (simp only [World.size_alloc, World.size_setCell, World.size_drew]; omega)))), LaterC.mk (by (repeat (first | (with_reducible exact Below.refl _ _) | (with_reducible assumption) | (with_reducible refine Later.out _ ?_) | (with_reducible refine bel_alloc ?_ _) | (with_reducible refine bel_drew ?_) | (with_reducible refine bel_drewN ?_ _) | (with_reducible refine bel_set ?_ ?_ _) | (with_reducible refine After.out _ ?_ ?_) | (dsimp only; omega) | omega | (simp only [World.size_alloc, World.size_setCell, World.size_drew]; omega))))⟩
            case measure => first | (simp [intOf]; done) | (simp [intOf]; omega) | omega
          · have X := Lib.hid (idxsTo_yes hlt (show aboutB p y L[k] = true by simp [aboutB, hasB_in, hv, e]))
            replace hv := Lib.hid hv
            clear e
            obtain ⟨N, hN⟩ : ∃ N, idxsTo (aboutB p y) L k = N := ⟨_, rfl⟩
            rw [hN] at hown X hle
            simp only [hN]
            clear hN
            go_wp2_with fail
            refine wp_region_plan [(0, true), (1, true), (2, true), (3, true), (4, true), (5, true), (6, true), (7, true), (8, true), (9, true), (10, true), (11, true), (12, true), (13, true), (14, true), (15, true), (16, true), (17, true), (18, true), (19, true), (20, true), (21, false), (22, true)] (C := LaterC _) (by kernel_rfl) (by kernel_rfl) (by kernel_rfl) rfl (fun _ _ d _ _ h => by cases d <;> exact h) (LaterC.mk ((Below.refl _ _).drew)) ?_
            first | (refine plan_quiet nth0 rfl ?_; intro KP hKP; go_big_quiet_op; go_big_quiet_on) | (refine plan_skip_q nth0 rfl rfl ?_; simp only [Act.put, List.setIfInBounds_toArray, List.set_cons_zero, List.set_cons_succ])
            first | (refine plan_quiet nth1 rfl ?_; intro KP hKP; go_big_quiet_op; go_big_quiet_on) | (refine plan_skip_q nth1 rfl rfl ?_; simp only [Act.put, List.setIfInBounds_toArray, List.set_cons_zero, List.set_cons_succ])
            first | (refine plan_quiet nth2 rfl ?_; intro KP hKP; go_big_quiet_op; go_big_quiet_on) | (refine plan_skip_q nth2 rfl rfl ?_; simp only [Act.put, List.setIfInBounds_toArray, List.set_cons_zero, List.set_cons_succ])
            first | (refine plan_quiet nth3 rfl ?_; intro KP hKP; go_big_quiet_op; go_big_quiet_on) | (refine plan_skip_q nth3 rfl rfl ?_; simp only [Act.put, List.setIfInBounds_toArray, List.set_cons_zero, List.set_cons_succ])
            first | (refine plan_quiet nth4 rfl ?_; intro KP hKP; go_big_quiet_op; go_big_quiet_on) | (refine plan_skip_q nth4 rfl rfl ?_; simp only [Act.put, List.setIfInBounds_toArray, List.set_cons_zero, List.set_cons_succ])
            first | (refine plan_quiet nth5 rfl ?_; intro KP hKP; go_big_quiet_op; go_big_quiet_on) | (refine plan_skip_q nth5 rfl rfl ?_; simp only [Act.put, List.setIfInBounds_toArray, List.set_cons_zero, List.set_cons_succ])
            first | (refine plan_quiet nth6 rfl ?_; intro KP hKP; go_big_quiet_op; go_big_quiet_on) | (refine plan_skip_q nth6 rfl rfl ?_; simp only [Act.put, List.setIfInBounds_toArray, List.set_cons_zero, List.set_cons_succ])
            first | (refine plan_quiet nth7 rfl ?_; intro KP hKP; go_big_quiet_op; go_big_quiet_on) | (refine plan_skip_q nth7 rfl rfl ?_; simp only [Act.put, List.setIfInBounds_toArray, List.set_cons_zero, List.set_cons_succ])
            first | (refine plan_quiet nth8 rfl ?_; intro KP hKP; go_big_quiet_op; go_big_quiet_on) | (refine plan_skip_q nth8 rfl rfl ?_; simp only [Act.put, List.setIfInBounds_toArray, List.set_cons_zero, List.set_cons_succ])
            first | (refine plan_quiet nth9 rfl ?_; intro KP hKP; go_big_quiet_op; go_big_quiet_on) | (refine plan_skip_q nth9 rfl rfl ?_; simp only [Act.put, List.setIfInBounds_toArray, List.set_cons_zero, List.set_cons_succ])
            first | (refine plan_quiet nth10 rfl ?_; intro KP hKP; go_big_quiet_op; go_big_quiet_on) | (refine plan_skip_q nth10 rfl rfl ?_; simp only [Act.put, List.setIfInBounds_toArray, List.set_cons_zero, List.set_cons_succ])
            first | (refine plan_quiet nth11 rfl ?_; intro KP hKP; go_big_quiet_op; go_big_quiet_on) | (refine plan_skip_q nth11 rfl rfl ?_; simp only [Act.put, List.setIfInBounds_toArray, List.set_cons_zero, List.set_cons_succ])
            first | (refine plan_quiet nth12 rfl ?_; intro KP hKP; go_big_quiet_op; go_big_quiet_on) | (refine plan_skip_q nth12 rfl rfl ?_; simp only [Act.put, List.setIfInBounds_toArray, List.set_cons_zero, List.set_cons_succ])
            first | (refine plan_quiet nth13 rfl ?_; intro KP hKP; go_big_quiet_op; go_big_quiet_on) | (refine plan_skip_q nth13 rfl rfl ?_; simp only [Act.put, List.setIfInBounds_toArray, List.set_cons_zero, List.set_cons_succ])
            first | (refine plan_quiet nth14 rfl ?_; intro KP hKP; go_big_quiet_op; go_big_quiet_on) | (refine plan_skip_q nth14 rfl rfl ?_; simp only [Act.put, List.setIfInBounds_toArray, List.set_cons_zero, List.set_cons_succ])
            first | (refine plan_quiet nth15 rfl ?_; intro KP hKP; go_big_quiet_op; go_big_quiet_on) | (refine plan_skip_q nth15 rfl rfl ?_; simp only [Act.put, List.setIfInBounds_toArray, List.set_cons_zero, List.set_cons_succ])
            first | (refine plan_quiet nth16 rfl ?_; intro KP hKP; go_big_quiet_op; go_big_quiet_on) | (refine plan_skip_q nth16 rfl rfl ?_; simp only [Act.put, List.setIfInBounds_toArray, List.set_cons_zero, List.set_cons_succ])
            first | (refine plan_quiet nth17 rfl ?_; intro KP hKP; go_big_quiet_op; go_big_quiet_on) | (refine plan_skip_q nth17 rfl rfl ?_; simp only [Act.put, List.setIfInBounds_toArray, List.set_cons_zero, List.set_cons_succ])
            first | (refine plan_quiet nth18 rfl ?_; intro KP hKP; go_big_quiet_op; go_big_quiet_on) | (refine plan_skip_q nth18 rfl rfl ?_; simp only [Act.put, List.setIfInBounds_toArray, List.set_cons_zero, List.set_cons_succ])
            first | (refine plan_quiet nth19 rfl ?_; intro KP hKP; go_big_quiet_op; go_big_quiet_on) | (refine plan_skip_q nth19 rfl rfl ?_; simp only [Act.put, List.setIfInBounds_toArray, List.set_cons_zero, List.set_cons_succ])
            first | (refine plan_quiet nth20 rfl ?_; intro KP hKP; go_big_quiet_op; go_big_quiet_on) | (refine plan_skip_q nth20 rfl rfl ?_; simp only [Act.put, List.setIfInBounds_toArray, List.set_cons_zero, List.set_cons_succ])
            first | (refine plan_loud nth21 rfl ?_; intro KP hKP; go_wp2_with (first | (go_at_call 92; first | ((with_reducible refine (Calls.later (l01In_b _ hv.out)).mono ?_); rintro e w' ⟨rfl, xl, rfl⟩; have hsz := xl.bel.size; (try simp only [World.size_alloc, World.size_setCell, World.size_drew] at hsz); (try have hz0 : w.heap.size < xl.w.heap.size := (by omega)); (try have hz1 : w.heap.size + 1 < xl.w.heap.size := (by omega)); (try have hz2 : w.heap.size + 1 + 1 < xl.w.heap.size := (by omega))) | ((with_reducible refine (l01In_b _ hv.out).mono ?_); rintro e w' ⟨rfl, xl, rfl⟩; have hsz := xl.bel.size; (try simp only [World.size_alloc, World.size_setCell, World.size_drew] at hsz); (try have hz0 : w.heap.size < xl.w.heap.size := (by omega)); (try have hz1 : w.heap.size + 1 < xl.w.heap.size := (by omega)); (try have hz2 : w.heap.size + 1 + 1 < xl.w.heap.size := (by omega))))); refine hKP _ _ (LaterC.mk (by (repeat (first | (with_reducible exact Below.refl _ _) | (with_reducible assumption) | (with_reducible refine Later.out _ ?_) | (with_reducible refine bel_alloc ?_ _) | (with_reducible refine bel_drew ?_) | (with_reducible refine bel_drewN ?_ _) | (with_reducible refine bel_set ?_ ?_ _) | (with_reducible refine After.out _ ?_ ?_) | (dsimp only; omega) | omega | (simp only [World.size_alloc, World.size_setCell, World.size_drew]; omega))))) ?_; clear hKP KP) | (refine plan_skip nth21 rfl rfl (LaterC.mk (by (repeat (first | (with_reducible exact Below.refl _ _) | (with_reducible assumption) | (with_reducible refine Later.out _ ?_) | (with_reducible refine bel_alloc ?_ _) | (with_reducible refine bel_drew ?_) | (with_reducible refine bel_drewN ?_ _) | (with_reducible refine bel_set ?_ ?_ _) | (with_reducible refine After.out _ ?_ ?_) | (dsimp only; omega) | omega | (simp only [World.size_alloc, World.size_setCell, World.size_drew]; omega))))) ?_; simp only [Act.put, List.setIfInBounds_toArray, List.set_cons_zero, List.set_cons_succ])
            first | (refine plan_quiet nth22 rfl ?_; intro KP hKP; go_big_quiet_op; go_big_quiet_on) | (refine plan_skip_q nth22 rfl rfl ?_; simp only [Act.put, List.setIfInBounds_toArray, List.set_cons_zero, List.set_cons_succ])
            refine plan_nil ?_
            go_wp2_with (at_builtin; (refine wpList_append_later _ rfl _ _ _ rfl 2 ii _ 1 8 Tryz.underlying35 Jii.out.1 Jii.out.2.1 Jii.out.2.2.1 Jii.out.2.2.2 rfl (by decide) (w) ?qa1 _ _ _ (intCells N) rfl ?qa2 _ _ _ ([.int .i64 k]) rfl ?qa3 ?qa4 ?qa5 ?qa6 ?qa7 ?_); (case qa1 => (repeat (first | (with_reducible exact Below.refl _ _) | (with_reducible assumption) | (with_reducible refine Later.out _ ?_) | (with_reducible refine bel_alloc ?_ _) | (with_reducible refine bel_drew ?_) | (with_reducible refine bel_drewN ?_ _) | (with_reducible refine bel_set ?_ ?_ _) | (with_reducible refine After.out _ ?_ ?_) | (dsimp only; omega) | omega | (simp only [World.size_alloc, World.size_setCell, World.size_drew]; omega)))); (case qa2 => exact own_bel hown.out (by (repeat (first | (with_reducible exact Below.refl _ _) | (with_reducible assumption) | (with_reducible refine Later.out _ ?_) | (with_reducible refine bel_alloc ?_ _) | (with_reducible refine bel_drew ?_) | (with_reducible refine bel_drewN ?_ _) | (with_reducible refine bel_set ?_ ?_ _) | (with_reducible refine After.out _ ?_ ?_) | (dsimp only; omega) | omega | (simp only [World.size_alloc, World.size_setCell, World.size_drew]; omega))))); (case qa3 => (first | rfl | (simp [boolCells]; done) | (simp [intCells]; done) | (simp; done) | (first | omega | (simp only [List.length_append, List.length_cons, List.length_nil]; omega)))); (case qa4 => exact Row.made _ _ _); (case qa5 => exact one_int1 _); (case qa6 => (unfold maxLen; (first | omega | (simp only [List.length_append, List.length_cons, List.length_nil]; omega)))); (case qa7 => (first | omega | (simp only [List.length_append, List.length_cons, List.length_nil]; omega))); intro a9 c9 x9 hown9)
            replace hown9 := Lib.hid hown9
            go_roundw
            case rel => exact ⟨k + 1, a9, c9, by omega, by go_num, by rw [X.out]; simp, by rw [X.out, intCells_snoc]; simpa using hown9.out, x9, rfl⟩
            case measure => first | (simp [intOf]; done) | (simp [intOf]; omega) | omega
        · have X := Lib.hid (idxsTo_no hlt (show aboutB p y L[k] = false by simp [aboutB, e]))
          clear e
          go_wp2_with fail
          refine wp_region_plan [(0, true), (1, true), (2, true), (3, true), (4, true), (5, true), (6, true), (7, true), (8, true), (9, true), (10, true), (11, true), (12, true), (13, true), (14, true), (15, true), (16, true), (17, true), (18, true), (19, true), (20, true), (21, false), (22, true)] (C := LaterC _) (by kernel_rfl) (by kernel_rfl) (by kernel_rfl) rfl (fun _ _ d _ _ h => by cases d <;> exact h) (LaterC.mk ((Below.refl _ _).drew)) ?_
          first | (refine plan_quiet nth0 rfl ?_; intro KP hKP; go_big_quiet_op; go_big_quiet_on) | (refine plan_skip_q nth0 rfl rfl ?_; simp only [Act.put, List.setIfInBounds_toArray, List.set_cons_zero, List.set_cons_succ])
          first | (refine plan_quiet nth1 rfl ?_; intro KP hKP; go_big_quiet_op; go_big_quiet_on) | (refine plan_skip_q nth1 rfl rfl ?_; simp only [Act.put, List.setIfInBounds_toArray, List.set_cons_zero, List.set_cons_succ])
          first | (refine plan_quiet nth2 rfl ?_; intro KP hKP; go_big_quiet_op; go_big_quiet_on) | (refine plan_skip_q nth2 rfl rfl ?_; simp only [Act.put, List.setIfInBounds_toArray, List.set_cons_zero, List.set_cons_succ])
          first | (refine plan_quiet nth3 rfl ?_; intro KP hKP; go_big_quiet_op; go_big_quiet_on) | (refine plan_skip_q nth3 rfl rfl ?_; simp only [Act.put, List.setIfInBounds_toArray, List.set_cons_zero, List.set_cons_succ])
          first | (refine plan_quiet nth4 rfl ?_; intro KP hKP; go_big_quiet_op; go_big_quiet_on) | (refine plan_skip_q nth4 rfl rfl ?_; simp only [Act.put, List.setIfInBounds_toArray, List.set_cons_zero, List.set_cons_succ])
          first | (refine plan_quiet nth5 rfl ?_; intro KP hKP; go_big_quiet_op; go_big_quiet_on) | (refine plan_skip_q nth5 rfl rfl ?_; simp only [Act.put, List.setIfInBounds_toArray, List.set_cons_zero, List.set_cons_succ])
          first | (refine plan_quiet nth6 rfl ?_; intro KP hKP; go_big_quiet_op; go_big_quiet_on) | (refine plan_skip_q nth6 rfl rfl ?_; simp only [Act.put, List.setIfInBounds_toArray, List.set_cons_zero, List.set_cons_succ])
          first | (refine plan_quiet nth7 rfl ?_; intro KP hKP; go_big_quiet_op; go_big_quiet_on) | (refine plan_skip_q nth7 rfl rfl ?_; simp only [Act.put, List.setIfInBounds_toArray, List.set_cons_zero, List.set_cons_succ])
          first | (refine plan_quiet nth8 rfl ?_; intro KP hKP; go_big_quiet_op; go_big_quiet_on) | (refine plan_skip_q nth8 rfl rfl ?_; simp only [Act.put, List.setIfInBounds_toArray, List.set_cons_zero, List.set_cons_succ])
          first | (refine plan_quiet nth9 rfl ?_; intro KP hKP; go_big_quiet_op; go_big_quiet_on) | (refine plan_skip_q nth9 rfl rfl ?_; simp only [Act.put, List.setIfInBounds_toArray, List.set_cons_zero, List.set_cons_succ])
          first | (refine plan_quiet nth10 rfl ?_; intro KP hKP; go_big_quiet_op; go_big_quiet_on) | (refine plan_skip_q nth10 rfl rfl ?_; simp only [Act.put, List.setIfInBounds_toArray, List.set_cons_zero, List.set_cons_succ])
          first | (refine plan_quiet nth11 rfl ?_; intro KP hKP; go_big_quiet_op; go_big_quiet_on) | (refine plan_skip_q nth11 rfl rfl ?_; simp only [Act.put, List.setIfInBounds_toArray, List.set_cons_zero, List.set_cons_succ])
          first | (refine plan_quiet nth12 rfl ?_; intro KP hKP; go_big_quiet_op; go_big_quiet_on) | (refine plan_skip_q nth12 rfl rfl ?_; simp only [Act.put, List.setIfInBounds_toArray, List.set_cons_zero, List.set_cons_succ])
          first | (refine plan_quiet nth13 rfl ?_; intro KP hKP; go_big_quiet_op; go_big_quiet_on) | (refine plan_skip_q nth13 rfl rfl ?_; simp only [Act.put, List.setIfInBounds_toArray, List.set_cons_zero, List.set_cons_succ])
          first | (refine plan_quiet nth14 rfl ?_; intro KP hKP; go_big_quiet_op; go_big_quiet_on) | (refine plan_skip_q nth14 rfl rfl ?_; simp only [Act.put, List.setIfInBounds_toArray, List.set_cons_zero, List.set_cons_succ])
          first | (refine plan_quiet nth15 rfl ?_; intro KP hKP; go_big_quiet_op; go_big_quiet_on) | (refine plan_skip_q nth15 rfl rfl ?_; simp only [Act.put, List.setIfInBounds_toArray, List.set_cons_zero, List.set_cons_succ])
          first | (refine plan_quiet nth16 rfl ?_; intro KP hKP; go_big_quiet_op; go_big_quiet_on) | (refine plan_skip_q nth16 rfl rfl ?_; simp only [Act.put, List.setIfInBounds_toArray, List.set_cons_zero, List.set_cons_succ])
          first | (refine plan_quiet nth17 rfl ?_; intro KP hKP; go_big_quiet_op; go_big_quiet_on) | (refine plan_skip_q nth17 rfl rfl ?_; simp only [Act.put, List.setIfInBounds_toArray, List.set_cons_zero, List.set_cons_succ])
          first | (refine plan_quiet nth18 rfl ?_; intro KP hKP; go_big_quiet_op; go_big_quiet_on) | (refine plan_skip_q nth18 rfl rfl ?_; simp only [Act.put, List.setIfInBounds_toArray, List.set_cons_zero, List.set_cons_succ])
          first | (refine plan_quiet nth19 rfl ?_; intro KP hKP; go_big_quiet_op; go_big_quiet_on) | (refine plan_skip_q nth19 rfl rfl ?_; simp only [Act.put, List.setIfInBounds_toArray, List.set_cons_zero, List.set_cons_succ])
          first | (refine plan_quiet nth20 rfl ?_; intro KP hKP; go_big_quiet_op; go_big_quiet_on) | (refine plan_skip_q nth20 rfl rfl ?_; simp only [Act.put, List.setIfInBounds_toArray, List.set_cons_zero, List.set_cons_succ])
          first | (refine plan_loud nth21 rfl ?_; intro KP hKP; go_wp2_with (first | (go_at_call 92; first | ((with_reducible refine (Calls.later (l01In_any _ _ _ _)).mono ?_); rintro e w' ⟨rfl, xl, rfl⟩; have hsz := xl.bel.size; (try simp only [World.size_alloc, World.size_setCell, World.size_drew] at hsz); (try have hz0 : w.heap.size < xl.w.heap.size := (by omega)); (try have hz1 : w.heap.size + 1 < xl.w.heap.size := (by omega)); (try have hz2 : w.heap.size + 1 + 1 < xl.w.heap.size := (by omega))) | ((with_reducible refine (l01In_any _ _ _ _).mono ?_); rintro e w' ⟨rfl, xl, rfl⟩; have hsz := xl.bel.size; (try simp only [World.size_alloc, World.size_setCell, World.size_drew] at hsz); (try have hz0 : w.heap.size < xl.w.heap.size := (by omega)); (try have hz1 : w.heap.size + 1 < xl.w.heap.size := (by omega)); (try have hz2 : w.heap.size + 1 + 1 < xl.w.heap.size := (by omega))))); refine hKP _ _ (LaterC.mk (by (repeat (first | (with_reducible exact Below.refl _ _) | (with_reducible assumption) | (with_reducible refine Later.out _ ?_) | (with_reducible refine bel_alloc ?_ _) | (with_reducible refine bel_drew ?_) | (with_reducible refine bel_drewN ?_ _) | (with_reducible refine bel_set ?_ ?_ _) | (with_reducible refine After.out _ ?_ ?_) | (dsimp only; omega) | omega | (simp only [World.size_alloc, World.size_setCell, World.size_drew]; omega))))) ?_; clear hKP KP) | (refine plan_skip nth21 rfl rfl (LaterC.mk (by (repeat (first | (with_reducible exact Below.refl _ _) | (with_reducible assumption) | (with_reducible refine Later.out _ ?_) | (with_reducible refine bel_alloc ?_ _) | (with_reducible refine bel_drew ?_) | (with_reducible refine bel_drewN ?_ _) | (with_reducible refine bel_set ?_ ?_ _) | (with_reducible refine After.out _ ?_ ?_) | (dsimp only; omega) | omega | (simp only [World.size_alloc, World.size_setCell, World.size_drew]; omega))))) ?_; simp only [Act.put, List.setIfInBounds_toArray, List.set_cons_zero, List.set_cons_succ])
          first | (refine plan_quiet nth22 rfl ?_; intro KP hKP; go_big_quiet_op; go_big_quiet_on) | (refine plan_skip_q nth22 rfl rfl ?_; simp only [Act.put, List.setIfInBounds_toArray, List.set_cons_zero, List.set_cons_succ])
          refine plan_nil ?_
          go_wp2_with fail
          go_roundw
          case rel => exact ⟨k + 1, a5, c5, by omega, by go_num, by rw [X.out], by rw [X.out]; exact own_bel hown.out (by (repeat (first | (with_reducible exact Below.refl _ _) | (with_reducible assumption) | (with_reducible refine Later.out _ ?_) | (with_reducible refine bel_alloc ?_ _) | (with_reducible refine bel_drew ?_) | (with_reducible refine bel_drewN ?_ _) | (with_reducible refine bel_set ?_ ?_ _) | (with_reducible refine After.out _ ?_ ?_) | (dsimp only; omega) | omega | (simp only [World.size_alloc, World.size_setCell, World.size_drew]; omega)))), LaterC.mk (by (repeat (first | (with_reducible exact Below.refl _ _) | (with_reducible assumption) | (with_reducible refine Later.out _ ?_) | (with_reducible refine bel_alloc ?_ _) | (with_reducible refine bel_drew ?_) | (with_reducible refine bel_drewN ?_ _) | (with_reducible refine bel_set ?_ ?_ _) | (with_reducible refine After.out _ ?_ ?_) | (dsimp only; omega) | omega | (simp only [World.size_alloc, World.size_setCell, World.size_drew]; omega))))⟩
          case measure => first | (simp [intOf]; done) | (simp [intOf]; omega) | omega
      · obtain rfl : k = L.length := by omega
        go_wp2_with fail
        refine bodyPost_ret (by simp [results, Tryz.results18, go_sem, ↓IntWalk.iteOmega, *]; try rfl) rfl ?_
        exact RetOwn.mk _ rfl hown.out z.bel
end
end Go.Proofs.YtflcfdiochohgaaGreatDoor

/- Parents and circles by claims, both sides. -/
set_option linter.unusedSimpArgs false
set_option linter.unusedVariables false
namespace Go.Proofs.YtflcfdiochohgaaGreatDoor
open Go.RowKit
theorem idxP_par (L : List Clm) (y : Int) (p : ByteArray) : (parOf L y p = none ∧ idxP (parP p y) L = -1) ∨ ∃ (k : Nat) (hk : k < L.length), parOf L y p = some L[k].val ∧ idxP (parP p y) L = k := by
  unfold idxP
  cases h : L.findIdx? (parP p y) with
  | none =>
    left
    rw [List.findIdx?_eq_none_iff] at h
    exact ⟨parOf_none h, rfl⟩
  | some i =>
    right
    rw [List.findIdx?_eq_some_iff_getElem] at h
    obtain ⟨hi, hp, hall⟩ := h
    exact ⟨i, hi, parOf_at hi hp fun j hj hji => by have := hall j hji; simpa using this, rfl⟩
set_option maxHeartbeats 1000000 in
theorem parent1_any (c : Clm) (p : ByteArray) (y : Int) (g1 g2 : Nat) (w : World) (h1 : w.cell? ⟨g1, 0, none⟩ = some (.string p)) (h2 : w.cell? ⟨g2, 0, none⟩ = some (.int .i64 y)) :
    Calls Tryz.prog 265 #[clmV c, .pointer (some ⟨g1, 0, none⟩), .pointer (some ⟨g2, 0, none⟩)] w (Ret w (.bool (parP p y c))) := by
  have b1 := World.block_lt_of_cell? w _ h1
  have b2 := World.block_lt_of_cell? w _ h2
  simp only at b1 b2
  by_cases k : c.kind = 1
  · have k1 : (c.kind == 1) = true := by simp [k]
    rcases sameB c.place p with ⟨e, e1⟩ | ⟨e, e1⟩
    · have X := Lib.hid (show parP p y c = inB y c.fr c.to by simp [parP, e, hasB_in, k])
      clear e k
      go_enter Tryz.func265, Tryz.ntmps265
      go_wp2_with fail
      with_reducible refine (has_any _ _ _ _).mono ?_
      rintro e w' ⟨rfl, y1, rfl⟩
      have hsy1 := y1.bel.size
      (try simp only [World.size_alloc, World.size_setCell, World.size_drew] at hsy1)
      go_wp2_with fail
      go_ret
      exact .mk (by rw [X.out]; rfl) (by (repeat (first | (with_reducible exact Below.refl _ _) | (with_reducible assumption) | (with_reducible refine Later.out _ ?_) | (with_reducible refine bel_alloc ?_ _) | (with_reducible refine bel_drew ?_) | (with_reducible refine bel_drewN ?_ _) | (with_reducible refine bel_set ?_ ?_ _) | (with_reducible refine After.out _ ?_ ?_) | (dsimp only; omega) | omega | (simp only [World.size_alloc, World.size_setCell, World.size_drew]; omega))))
    · have X := Lib.hid (show parP p y c = false by simp [parP, e])
      clear e k
      go_enter Tryz.func265, Tryz.ntmps265
      go_wp2_with fail
      go_ret
      exact .mk (by rw [X.out]; rfl) (by (repeat (first | (with_reducible exact Below.refl _ _) | (with_reducible assumption) | (with_reducible refine Later.out _ ?_) | (with_reducible refine bel_alloc ?_ _) | (with_reducible refine bel_drew ?_) | (with_reducible refine bel_drewN ?_ _) | (with_reducible refine bel_set ?_ ?_ _) | (with_reducible refine After.out _ ?_ ?_) | (dsimp only; omega) | omega | (simp only [World.size_alloc, World.size_setCell, World.size_drew]; omega))))
  · have k1 : (c.kind == 1) = false := by simp [k]
    have X := Lib.hid (show parP p y c = false by simp [parP, k])
    clear k
    go_enter Tryz.func265, Tryz.ntmps265
    go_wp2_with fail
    go_ret
    exact .mk (by rw [X.out]; rfl) (by (repeat (first | (with_reducible exact Below.refl _ _) | (with_reducible assumption) | (with_reducible refine Later.out _ ?_) | (with_reducible refine bel_alloc ?_ _) | (with_reducible refine bel_drew ?_) | (with_reducible refine bel_drewN ?_ _) | (with_reducible refine bel_set ?_ ?_ _) | (with_reducible refine After.out _ ?_ ?_) | (dsimp only; omega) | omega | (simp only [World.size_alloc, World.size_setCell, World.size_drew]; omega))))
theorem enters_parent1 : ∀ args w, (callFunc 265 args).run Tryz.prog w = .ok (.enter 265 args) w := fun _ _ => by kernel_rfl
theorem tells_parent {L : List Clm} {p : ByteArray} {y : Int} {g1 g2 : Nat} {w : World} (h1 : w.cell? ⟨g1, 0, none⟩ = some (.string p)) (h2 : w.cell? ⟨g2, 0, none⟩ = some (.int .i64 y)) :
    Tells 265 #[] #[.pointer (some ⟨g1, 0, none⟩), .pointer (some ⟨g2, 0, none⟩)] (parP p y) L w :=
  fun c _ w' hb => by
    have := parent1_any c p y g1 g2 w' ((hb.cell (World.block_lt_of_cell? w _ h1)).trans h1) ((hb.cell (World.block_lt_of_cell? w _ h2)).trans h2)
    simpa using this
section
variable {L : List Clm} {p : ByteArray} {y : Int} {a : Option Addr} {n c : Nat} {w : World} (hn : L.length = n) (hm : n ≤ 1048576) (hr : Row w a (clmsCells L))
include hn hm hr
set_option maxHeartbeats 1000000 in
theorem parent_none (h : parOf L y p = none) : Calls Tryz.prog 245 #[.slice a n c, .string p, .int .i64 y] w (Ret w (.tuple #[.string ByteArray.empty, .bool false])) := by
  have C := fun lb w hr hp => indexFunc_any 265 #[] lb (parP p y) L a n c w enters_parent1 hn hm hr hp
  rcases idxP_par L y p with ⟨h1, h2⟩ | ⟨k, hk, h1, h2⟩
  · rw [h2] at C
    replace C := Lib.hid C
    replace hr := Lib.hid hr
    clear h h1 h2 hn
    go_enter Tryz.func245, Tryz.ntmps245
    go_wp2_with fail
    with_reducible refine (C.out _ _ (hr.out.bel (by (repeat (first | (with_reducible exact Below.refl _ _) | (with_reducible assumption) | (with_reducible refine Later.out _ ?_) | (with_reducible refine bel_alloc ?_ _) | (with_reducible refine bel_drew ?_) | (with_reducible refine bel_drewN ?_ _) | (with_reducible refine bel_set ?_ ?_ _) | (with_reducible refine After.out _ ?_ ?_) | (dsimp only; omega) | omega | (simp only [World.size_alloc, World.size_setCell, World.size_drew]; omega))))) (by refine tells_parent ?_ ?_ <;> simp [go_sem, ↓IntWalk.iteOmega, *])).mono ?_
    rintro e w' ⟨rfl, y1, rfl⟩
    have hsy1 := y1.bel.size
    (try simp only [World.size_alloc, World.size_setCell, World.size_drew] at hsy1)
    go_wp2_with fail
    refine bodyPost_ret (by simp [results, Tryz.results245, go_sem, ↓IntWalk.iteOmega, *]; try rfl) rfl ?_
    exact .mk rfl (by (repeat (first | (with_reducible exact Below.refl _ _) | (with_reducible assumption) | (with_reducible refine Later.out _ ?_) | (with_reducible refine bel_alloc ?_ _) | (with_reducible refine bel_drew ?_) | (with_reducible refine bel_drewN ?_ _) | (with_reducible refine bel_set ?_ ?_ _) | (with_reducible refine After.out _ ?_ ?_) | (dsimp only; omega) | omega | (simp only [World.size_alloc, World.size_setCell, World.size_drew]; omega))))
  · rw [h] at h1; cases h1
set_option maxHeartbeats 1000000 in
theorem parent_some {v : ByteArray} (h : parOf L y p = some v) : Calls Tryz.prog 245 #[.slice a n c, .string p, .int .i64 y] w (Ret w (.tuple #[.string v, .bool true])) := by
  have C := fun lb w hr hp => indexFunc_any 265 #[] lb (parP p y) L a n c w enters_parent1 hn hm hr hp
  rcases idxP_par L y p with ⟨h1, h2⟩ | ⟨k, hk, h1, h2⟩
  · rw [h] at h1; cases h1
  · rw [h] at h1
    have hv := Option.some.inj h1
    rw [h2] at C
    obtain ⟨b, o, rfl, hb, q0, q1, q2, q3, q4, q5, q6⟩ := hr.clm hk
    rw [← hv] at q3
    have hkn : (k : Int) < (n : Int) := by omega
    have hkn2 : k < n := by omega
    replace C := Lib.hid C
    replace hr := Lib.hid hr
    clear h h1 h2 hn hk hv q0 q1 q2 q4 q5 q6
    go_enter Tryz.func245, Tryz.ntmps245
    go_wp2_with fail
    with_reducible refine (C.out _ _ (hr.out.bel (by (repeat (first | (with_reducible exact Below.refl _ _) | (with_reducible assumption) | (with_reducible refine Later.out _ ?_) | (with_reducible refine bel_alloc ?_ _) | (with_reducible refine bel_drew ?_) | (with_reducible refine bel_drewN ?_ _) | (with_reducible refine bel_set ?_ ?_ _) | (with_reducible refine After.out _ ?_ ?_) | (dsimp only; omega) | omega | (simp only [World.size_alloc, World.size_setCell, World.size_drew]; omega))))) (by refine tells_parent ?_ ?_ <;> simp [go_sem, ↓IntWalk.iteOmega, *])).mono ?_
    rintro e w' ⟨rfl, y1, rfl⟩
    have hsy1 := y1.bel.size
    (try simp only [World.size_alloc, World.size_setCell, World.size_drew] at hsy1)
    go_wp2_with fail
    refine bodyPost_ret (by simp [results, Tryz.results245, go_sem, ↓IntWalk.iteOmega, *]; try rfl) rfl ?_
    exact .mk rfl (by (repeat (first | (with_reducible exact Below.refl _ _) | (with_reducible assumption) | (with_reducible refine Later.out _ ?_) | (with_reducible refine bel_alloc ?_ _) | (with_reducible refine bel_drew ?_) | (with_reducible refine bel_drewN ?_ _) | (with_reducible refine bel_set ?_ ?_ _) | (with_reducible refine After.out _ ?_ ?_) | (dsimp only; omega) | omega | (simp only [World.size_alloc, World.size_setCell, World.size_drew]; omega))))
end
/-! ### Texts in lists -/
/-- The first place of a text, -1 if there is none. -/
def idxS (x : ByteArray) (O : List ByteArray) : Int := match O.findIdx? (fun y => decide (y = x)) with
  | some i => i
  | none => -1
theorem idxS_none {x : ByteArray} {O : List ByteArray} (h : ∀ j (hj : j < O.length), O[j] ≠ x) : idxS x O = -1 := by
  have : O.findIdx? (fun y => decide (y = x)) = none := by
    rw [List.findIdx?_eq_none_iff]
    intro z hz
    obtain ⟨j, hj, rfl⟩ := List.mem_iff_getElem.1 hz
    simpa using h j hj
  simp [idxS, this]
theorem idxS_some {x : ByteArray} {O : List ByteArray} {k : Nat} (hk : k < O.length) (h1 : O[k] = x) (h : ∀ j (hj : j < O.length), j < k → O[j] ≠ x) : idxS x O = k := by
  have : O.findIdx? (fun y => decide (y = x)) = some k := by
    rw [List.findIdx?_eq_some_iff_getElem]
    exact ⟨hk, by simpa using h1, fun j hj => by simpa using h j (by omega) hj⟩
  simp [idxS, this]
theorem idxS_cases (x : ByteArray) (O : List ByteArray) : (x ∈ O ∧ 0 ≤ idxS x O) ∨ (¬ x ∈ O ∧ idxS x O = -1) := by
  unfold idxS
  cases h : O.findIdx? (fun y => decide (y = x)) with
  | none =>
    right
    rw [List.findIdx?_eq_none_iff] at h
    exact ⟨fun hx => by simpa using h x hx, rfl⟩
  | some i =>
    left
    rw [List.findIdx?_eq_some_iff_getElem] at h
    obtain ⟨hi, hp, _⟩ := h
    have : O[i] = x := by simpa using hp
    exact ⟨this ▸ List.getElem_mem hi, by simp⟩
theorem Row.str {w : World} {a : Option Addr} {O : List ByteArray} (h : Row w a (strCells O)) {k : Nat} (hk : k < O.length) : ∃ b o, a = some ⟨b, o, none⟩ ∧ b < w.heap.size ∧ w.cell? ⟨b, o + k, none⟩ = some (.string O[k]) := by
  obtain ⟨b, o, rfl, hc⟩ := h k _ (strCells_get hk)
  exact ⟨b, o, rfl, World.block_lt_of_cell? w _ hc, hc⟩
set_option maxRecDepth 4000 in
set_option maxHeartbeats 1000000 in
theorem indexStr_any (x : ByteArray) (O : List ByteArray) (a : Option Addr) (n c : Nat) (w : World) (hn : O.length = n) (hm : n ≤ 1048577) (hr : Row w a (strCells O)) :
    Calls Tryz.prog 221 #[.slice a n c, .string x] w (Ret w (.int .i64 (idxS x O))) := by
  subst hn
  replace hr := Lib.hid hr
  go_enter Tryz.func221, Tryz.ntmps221
  go_wp2_with fail
  go_loopw [8] (fun i wr => ∃ k : Nat, k ≤ O.length ∧ i = .int .i64 k ∧ (∀ j (hj : j < O.length), j < k → O[j] ≠ x) ∧ ∃ z : Later w, wr = z.w) (fun i _ => O.length - (intOf i).toNat)
  case atStart => exact ⟨0, Nat.zero_le _, rfl, fun j _ h => absurd h (by omega), ⟨_, Below.refl _ _⟩, rfl⟩
  case round =>
    obtain ⟨k, hk, rfl, hall, z, rfl⟩ := hrel
    replace hall := Lib.hid hall
    by_cases hlt : k < O.length
    · obtain ⟨b, o, rfl, hb, q⟩ := hr.out.str hlt
      rcases sameB x O[k] with ⟨e2, e1⟩ | ⟨e2, e1⟩
      · have X := Lib.hid (idxS_some hlt e2.symm hall.out)
        clear e2
        go_wp2_with fail
        go_ret
        exact .mk (by rw [X.out]; rfl) (by (repeat (first | (with_reducible exact Below.refl _ _) | (with_reducible assumption) | (with_reducible refine Later.out _ ?_) | (with_reducible refine bel_alloc ?_ _) | (with_reducible refine bel_drew ?_) | (with_reducible refine bel_drewN ?_ _) | (with_reducible refine bel_set ?_ ?_ _) | (with_reducible refine After.out _ ?_ ?_) | (dsimp only; omega) | omega | (simp only [World.size_alloc, World.size_setCell, World.size_drew]; omega))))
      · have X := Lib.hid (show ∀ j (hj : j < O.length), j < k + 1 → O[j] ≠ x from fun j hj h1 => by
          rcases Nat.lt_or_ge j k with h2 | h2
          · exact hall.out j hj h2
          · obtain rfl : j = k := by omega
            exact e2.symm)
        clear e2
        go_wp2_with fail
        go_roundw
        case rel => exact ⟨k + 1, by omega, by go_num, X.out, LaterC.mk (by (repeat (first | (with_reducible exact Below.refl _ _) | (with_reducible assumption) | (with_reducible refine Later.out _ ?_) | (with_reducible refine bel_alloc ?_ _) | (with_reducible refine bel_drew ?_) | (with_reducible refine bel_drewN ?_ _) | (with_reducible refine bel_set ?_ ?_ _) | (with_reducible refine After.out _ ?_ ?_) | (dsimp only; omega) | omega | (simp only [World.size_alloc, World.size_setCell, World.size_drew]; omega))))⟩
        case measure => first | (simp [intOf]; done) | (simp [intOf]; omega) | omega
    · obtain rfl : k = O.length := by omega
      have X := Lib.hid (idxS_none fun j hj => hall.out j hj hj)
      go_wp2_with fail
      go_ret
      exact .mk (by rw [X.out]; rfl) (by (repeat (first | (with_reducible exact Below.refl _ _) | (with_reducible assumption) | (with_reducible refine Later.out _ ?_) | (with_reducible refine bel_alloc ?_ _) | (with_reducible refine bel_drew ?_) | (with_reducible refine bel_drewN ?_ _) | (with_reducible refine bel_set ?_ ?_ _) | (with_reducible refine After.out _ ?_ ?_) | (dsimp only; omega) | omega | (simp only [World.size_alloc, World.size_setCell, World.size_drew]; omega))))
theorem containsStr_any (x : ByteArray) (O : List ByteArray) (a : Option Addr) (n c : Nat) (w : World) (hn : O.length = n) (hm : n ≤ 1048577) (hr : Row w a (strCells O)) :
    Calls Tryz.prog 188 #[.slice a n c, .string x] w (Ret w (.bool (decide (0 ≤ idxS x O)))) := by
  replace hr := Lib.hid hr
  replace hn := Lib.hid hn
  go_enter Tryz.func188, Tryz.ntmps188
  go_wp2_with fail
  with_reducible refine (indexStr_any x O _ _ _ _ hn.out hm hr.out).mono ?_
  rintro e w' ⟨rfl, y1, rfl⟩
  have hsy1 := y1.bel.size
  (try simp only [World.size_alloc, World.size_setCell, World.size_drew] at hsy1)
  go_wp2_with fail
  go_ret
  exact .mk rfl (by (repeat (first | (with_reducible exact Below.refl _ _) | (with_reducible assumption) | (with_reducible refine Later.out _ ?_) | (with_reducible refine bel_alloc ?_ _) | (with_reducible refine bel_drew ?_) | (with_reducible refine bel_drewN ?_ _) | (with_reducible refine bel_set ?_ ?_ _) | (with_reducible refine After.out _ ?_ ?_) | (dsimp only; omega) | omega | (simp only [World.size_alloc, World.size_setCell, World.size_drew]; omega))))
theorem containsStr_b {x : ByteArray} {O : List ByteArray} {a : Option Addr} {n c : Nat} {w : World} {b : Bool} (hn : O.length = n) (hm : n ≤ 1048577) (hr : Row w a (strCells O)) (h : decide (0 ≤ idxS x O) = b) :
    Calls Tryz.prog 188 #[.slice a n c, .string x] w (Ret w (.bool b)) := by subst h; exact containsStr_any x O a n c w hn hm hr
end Go.Proofs.YtflcfdiochohgaaGreatDoor

/- Circles by claims, both sides. -/
set_option linter.unusedSimpArgs false
set_option linter.unusedVariables false
namespace Go.Proofs.YtflcfdiochohgaaGreatDoor
open Go.RowKit
def sliceLen : Value → Nat
  | .slice _ n _ => n
  | _ => 0
theorem one_str1 (x : ByteArray) : ∀ u ∈ [Value.string x], u.oneCell' = true := by intro u hu; simp at hu; subst hu; rfl
/-- What the search for a circle hands back: the circle, or that there is none. -/
def CircRet (w : World) (Z : Option (List ByteArray)) (e : Ending) (w' : World) : Prop :=
  ∃ (a : Option Addr) (n c : Nat) (r : List ByteArray), e = .returned (.tuple #[.slice a n c, .bool Z.isSome]) ∧ n = r.length ∧ w'.ownsRow w.heap.size 9 1 (.slice a n c) n (strCells r) ∧ (∀ s, Z = some s → r = s) ∧ ∃ y : Later w, w' = y.w
theorem CircRet.mk {w w' : World} {Z : Option (List ByteArray)} {e : Ending} {b : Bool} (v : Value) (r : List ByteArray) (h : e = .returned (.tuple #[v, .bool b])) (hb : Z.isSome = b) (ho : w'.ownsRow w.heap.size 9 1 v r.length (strCells r)) (hz : ∀ s, Z = some s → r = s) (hw : Below w.heap.size w w') : CircRet w Z e w' := by
  subst hb
  obtain ⟨a, c, rfl⟩ := own_form ho
  exact ⟨a, r.length, c, r, h, rfl, ho, hz, ⟨w', hw⟩, rfl⟩
set_option maxRecDepth 4000 in
set_option maxHeartbeats 2000000 in
theorem circleIn_any (L : List Clm) (y : Int) (place : ByteArray) (a : Option Addr) (n c : Nat) (w : World) (hn : L.length = n) (hm : n ≤ 1048576) (hr : Row w a (clmsCells L)) :
    Calls Tryz.prog 215 #[.slice a n c, .string place, .int .i64 y] w (CircRet w (circZ L y place)) := by
  obtain ⟨ii, j1, j2, j3, j4⟩ := info_str'
  have Jii := Lib.hid (And.intro j1 (And.intro j2 (And.intro j3 j4)))
  clear j1 j2 j3 j4
  have PN := fun p w hr h => parent_none (L := L) (p := p) (y := y) (a := a) (n := n) (c := c) (w := w) hn hm hr h
  have PS := fun p v w hr h => parent_some (L := L) (p := p) (y := y) (a := a) (n := n) (c := c) (w := w) hn hm hr (v := v) h
  replace PN := Lib.hid PN
  replace PS := Lib.hid PS
  replace hr := Lib.hid hr
  subst hn
  have hown0 := World.ownsRow_lit (base := w.heap.size) (e := 9) (size := 1) w #[.string place] 1 (Nat.le_refl _) (by unfold maxLen; omega) rfl
  replace hown0 := Lib.hid hown0
  go_enter Tryz.func215, Tryz.ntmps215
  go_wp2_with fail
  go_loopw [8] (fun t8 wr => ∃ (out : List ByteArray) (p : ByteArray) (a8 : Option Addr) (c8 : Nat), t8 = .slice a8 (out.length + 1) c8 ∧ wr.ownsRow w.heap.size 9 1 (.slice a8 (out.length + 1) c8) (out.length + 1) (strCells (out ++ [p])) ∧ CInv L y place out p ∧ ∃ z : Later w, wr = z.w) (fun t8 _ => L.length + 2 - sliceLen t8)
  case atStart => exact ⟨[], place, _, _, rfl, hown0.out, CInv.start _ _ _, LaterC.mk (by (repeat (first | (with_reducible exact Below.refl _ _) | (with_reducible assumption) | (with_reducible refine Later.out _ ?_) | (with_reducible refine bel_alloc ?_ _) | (with_reducible refine bel_drew ?_) | (with_reducible refine bel_drewN ?_ _) | (with_reducible refine bel_set ?_ ?_ _) | (with_reducible refine After.out _ ?_ ?_) | (dsimp only; omega) | omega | (simp only [World.size_alloc, World.size_setCell, World.size_drew]; omega))))⟩
  case round =>
    obtain ⟨out, p, a8, c8, rfl, hown, hinv, z, rfl⟩ := hrel
    have hzz := z.bel.size
    have hl := hinv.len
    obtain ⟨m, hm8⟩ : ∃ m, out.length = m := ⟨_, rfl⟩
    have hrow : Row z.w a8 (strCells (out ++ [p])) := Row.of_own hown
    obtain ⟨b8, o8, rfl, hb8, hc8⟩ := hrow.str (k := m) (by simp; omega)
    have hp : (out ++ [p])[m]'(by simp; omega) = p := by subst hm8; simp
    rw [hp] at hc8
    rw [hm8] at hown hl
    have hlr : (out ++ [p]).length = m + 1 := by simp [hm8]
    obtain ⟨C, hC⟩ : ∃ C, out ++ [p] = C := ⟨_, rfl⟩
    have hINV := Lib.hid hinv
    rw [hC] at hrow hown hlr
    rw [hm8]
    replace hrow := Lib.hid hrow
    replace hown := Lib.hid hown
    replace hlr := Lib.hid hlr
    have hC' := Lib.hid hC
    have hm8' := Lib.hid hm8
    clear hinv hm8 hp hown0 hC
    cases hpar : parOf L y p with
    | none =>
      have X := Lib.hid (hINV.out.no hpar)
      go_wp2_with fail
      with_reducible refine (PN.out _ _ (hr.out.bel (by (repeat (first | (with_reducible exact Below.refl _ _) | (with_reducible assumption) | (with_reducible refine Later.out _ ?_) | (with_reducible refine bel_alloc ?_ _) | (with_reducible refine bel_drew ?_) | (with_reducible refine bel_drewN ?_ _) | (with_reducible refine bel_set ?_ ?_ _) | (with_reducible refine After.out _ ?_ ?_) | (dsimp only; omega) | omega | (simp only [World.size_alloc, World.size_setCell, World.size_drew]; omega))))) hpar).mono ?_
      rintro e w' ⟨rfl, y1, rfl⟩
      have hsy1 := y1.bel.size
      (try simp only [World.size_alloc, World.size_setCell, World.size_drew] at hsy1)
      go_wp2_with fail
      refine bodyPost_ret (by simp [results, Tryz.results215, go_sem, ↓IntWalk.iteOmega, *]; try rfl) rfl ?_
      exact CircRet.mk (.slice none 0 0) [] rfl (by rw [X.out]; rfl) (World.ownsRow_nil _ _ _ _) (by rw [X.out]; intro s h; cases h) (by (repeat (first | (with_reducible exact Below.refl _ _) | (with_reducible assumption) | (with_reducible refine Later.out _ ?_) | (with_reducible refine bel_alloc ?_ _) | (with_reducible refine bel_drew ?_) | (with_reducible refine bel_drewN ?_ _) | (with_reducible refine bel_set ?_ ?_ _) | (with_reducible refine After.out _ ?_ ?_) | (dsimp only; omega) | omega | (simp only [World.size_alloc, World.size_setCell, World.size_drew]; omega))))
    | some nx =>
      have hcall := fun w hr => PS.out _ _ w hr hpar
      rcases sameB nx place with ⟨e2, e1⟩ | ⟨e2, e1⟩
      · have X := Lib.hid (hINV.out.close (by rw [hpar, e2]))
        replace hcall := Lib.hid hcall
        clear e2 hpar
        go_wp2_with fail
        with_reducible refine (hcall.out _ (hr.out.bel (by (repeat (first | (with_reducible exact Below.refl _ _) | (with_reducible assumption) | (with_reducible refine Later.out _ ?_) | (with_reducible refine bel_alloc ?_ _) | (with_reducible refine bel_drew ?_) | (with_reducible refine bel_drewN ?_ _) | (with_reducible refine bel_set ?_ ?_ _) | (with_reducible refine After.out _ ?_ ?_) | (dsimp only; omega) | omega | (simp only [World.size_alloc, World.size_setCell, World.size_drew]; omega)))))).mono ?_
        rintro e w' ⟨rfl, y1, rfl⟩
        have hsy1 := y1.bel.size
        (try simp only [World.size_alloc, World.size_setCell, World.size_drew] at hsy1)
        go_wp2_with fail
        refine bodyPost_ret (by simp [results, Tryz.results215, go_sem, ↓IntWalk.iteOmega, *]; try rfl) rfl ?_
        exact CircRet.mk _ C rfl (by rw [X.out]; rfl) (by rw [hlr.out]; exact own_bel hown.out (by (repeat (first | (with_reducible exact Below.refl _ _) | (with_reducible assumption) | (with_reducible refine Later.out _ ?_) | (with_reducible refine bel_alloc ?_ _) | (with_reducible refine bel_drew ?_) | (with_reducible refine bel_drewN ?_ _) | (with_reducible refine bel_set ?_ ?_ _) | (with_reducible refine After.out _ ?_ ?_) | (dsimp only; omega) | omega | (simp only [World.size_alloc, World.size_setCell, World.size_drew]; omega))))) (by rw [X.out, hC'.out]; intro s h; exact Option.some.inj h) (by (repeat (first | (with_reducible exact Below.refl _ _) | (with_reducible assumption) | (with_reducible refine Later.out _ ?_) | (with_reducible refine bel_alloc ?_ _) | (with_reducible refine bel_drew ?_) | (with_reducible refine bel_drewN ?_ _) | (with_reducible refine bel_set ?_ ?_ _) | (with_reducible refine After.out _ ?_ ?_) | (dsimp only; omega) | omega | (simp only [World.size_alloc, World.size_setCell, World.size_drew]; omega))))
      · have hCt := fun w hr b h => containsStr_b (x := nx) (O := C) (a := some ⟨b8, o8, none⟩) (n := m + 1) (c := c8) (w := w) (b := b) hlr.out (by omega) hr h
        rcases idxS_cases nx C with ⟨hin, hd⟩ | ⟨hin, hd⟩
        · have X := Lib.hid (hINV.out.again hpar e2 (by rw [hC'.out]; exact hin))
          replace hcall := Lib.hid hcall
          replace hCt := Lib.hid (fun w hr => hCt w hr true (by simp [hd]))
          clear e2 hpar hd hin
          go_wp2_with fail
          with_reducible refine (hcall.out _ (hr.out.bel (by (repeat (first | (with_reducible exact Below.refl _ _) | (with_reducible assumption) | (with_reducible refine Later.out _ ?_) | (with_reducible refine bel_alloc ?_ _) | (with_reducible refine bel_drew ?_) | (with_reducible refine bel_drewN ?_ _) | (with_reducible refine bel_set ?_ ?_ _) | (with_reducible refine After.out _ ?_ ?_) | (dsimp only; omega) | omega | (simp only [World.size_alloc, World.size_setCell, World.size_drew]; omega)))))).mono ?_
          rintro e w' ⟨rfl, y1, rfl⟩
          have hsy1 := y1.bel.size
          (try simp only [World.size_alloc, World.size_setCell, World.size_drew] at hsy1)
          go_wp2_with fail
          with_reducible refine (hCt.out _ (hrow.out.bel (by (repeat (first | (with_reducible exact Below.refl _ _) | (with_reducible assumption) | (with_reducible refine Later.out _ ?_) | (with_reducible refine bel_alloc ?_ _) | (with_reducible refine bel_drew ?_) | (with_reducible refine bel_drewN ?_ _) | (with_reducible refine bel_set ?_ ?_ _) | (with_reducible refine After.out _ ?_ ?_) | (dsimp only; omega) | omega | (simp only [World.size_alloc, World.size_setCell, World.size_drew]; omega)))))).mono ?_
          rintro e w' ⟨rfl, y2, rfl⟩
          have hsy2 := y2.bel.size
          (try simp only [World.size_alloc, World.size_setCell, World.size_drew] at hsy2)
          go_wp2_with fail
          refine bodyPost_ret (by simp [results, Tryz.results215, go_sem, ↓IntWalk.iteOmega, *]; try rfl) rfl ?_
          exact CircRet.mk (.slice none 0 0) [] rfl (by rw [X.out]; rfl) (World.ownsRow_nil _ _ _ _) (by rw [X.out]; intro s h; cases h) (by (repeat (first | (with_reducible exact Below.refl _ _) | (with_reducible assumption) | (with_reducible refine Later.out _ ?_) | (with_reducible refine bel_alloc ?_ _) | (with_reducible refine bel_drew ?_) | (with_reducible refine bel_drewN ?_ _) | (with_reducible refine bel_set ?_ ?_ _) | (with_reducible refine After.out _ ?_ ?_) | (dsimp only; omega) | omega | (simp only [World.size_alloc, World.size_setCell, World.size_drew]; omega))))
        · have X := Lib.hid (hINV.out.on hpar e2 (by rw [hC'.out]; exact hin))
          replace hcall := Lib.hid hcall
          replace hCt := Lib.hid (fun w hr => hCt w hr false (by rw [hd]; rfl))
          clear e2 hpar hd hin
          have hXl := Lib.hid X.out.len
          go_wp2_with (first | (go_at_call 245; (with_reducible refine (hcall.out _ (hr.out.bel (by (repeat (first | (with_reducible exact Below.refl _ _) | (with_reducible assumption) | (with_reducible refine Later.out _ ?_) | (with_reducible refine bel_alloc ?_ _) | (with_reducible refine bel_drew ?_) | (with_reducible refine bel_drewN ?_ _) | (with_reducible refine bel_set ?_ ?_ _) | (with_reducible refine After.out _ ?_ ?_) | (dsimp only; omega) | omega | (simp only [World.size_alloc, World.size_setCell, World.size_drew]; omega)))))).mono ?_); rintro e w' ⟨rfl, y1, rfl⟩; have hs1 := y1.bel.size) | (go_at_call 188; (with_reducible refine (hCt.out _ (hrow.out.bel (by (repeat (first | (with_reducible exact Below.refl _ _) | (with_reducible assumption) | (with_reducible refine Later.out _ ?_) | (with_reducible refine bel_alloc ?_ _) | (with_reducible refine bel_drew ?_) | (with_reducible refine bel_drewN ?_ _) | (with_reducible refine bel_set ?_ ?_ _) | (with_reducible refine After.out _ ?_ ?_) | (dsimp only; omega) | omega | (simp only [World.size_alloc, World.size_setCell, World.size_drew]; omega)))))).mono ?_); rintro e w' ⟨rfl, y2, rfl⟩; have hs2 := y2.bel.size) | (at_builtin; (refine wpList_append_later _ rfl _ _ _ rfl 9 ii _ 1 16 Tryz.underlying63 Jii.out.1 Jii.out.2.1 Jii.out.2.2.1 Jii.out.2.2.2 rfl (by decide) (w) ?qa1 _ _ _ (strCells C) rfl ?qa2 _ _ _ ([.string nx]) rfl ?qa3 ?qa4 ?qa5 ?qa6 ?qa7 ?_); (case qa1 => (repeat (first | (with_reducible exact Below.refl _ _) | (with_reducible assumption) | (with_reducible refine Later.out _ ?_) | (with_reducible refine bel_alloc ?_ _) | (with_reducible refine bel_drew ?_) | (with_reducible refine bel_drewN ?_ _) | (with_reducible refine bel_set ?_ ?_ _) | (with_reducible refine After.out _ ?_ ?_) | (dsimp only; omega) | omega | (simp only [World.size_alloc, World.size_setCell, World.size_drew]; omega)))); (case qa2 => exact own_bel hown.out (by (repeat (first | (with_reducible exact Below.refl _ _) | (with_reducible assumption) | (with_reducible refine Later.out _ ?_) | (with_reducible refine bel_alloc ?_ _) | (with_reducible refine bel_drew ?_) | (with_reducible refine bel_drewN ?_ _) | (with_reducible refine bel_set ?_ ?_ _) | (with_reducible refine After.out _ ?_ ?_) | (dsimp only; omega) | omega | (simp only [World.size_alloc, World.size_setCell, World.size_drew]; omega))))); (case qa3 => (first | rfl | (simp [boolCells]; done) | (simp [intCells]; done) | (simp; done) | (first | omega | (simp only [List.length_append, List.length_cons, List.length_nil]; omega)))); (case qa4 => exact Row.made _ _ _); (case qa5 => exact one_str1 _); (case qa6 => (unfold maxLen; (first | omega | (simp only [List.length_append, List.length_cons, List.length_nil]; omega)))); (case qa7 => (first | omega | (simp only [List.length_append, List.length_cons, List.length_nil]; omega))); intro a9 c9 x9 hown9))
          replace hown9 := Lib.hid hown9
          go_roundw
          case rel =>
            refine ⟨C, nx, a9, c9, by rw [hlr.out], ?_, by rw [← hC'.out]; exact X.out, LaterC.mk x9.bel⟩
            rw [strCells_snoc, hlr.out]
            exact hown9.out
          case measure => simp only [sliceLen]; rw [hC'.out, hlr.out] at hXl; have := hXl.out; omega
end Go.Proofs.YtflcfdiochohgaaGreatDoor

/- append as one operation of a drawn region. -/
set_option linter.unusedSimpArgs false
set_option linter.unusedVariables false
namespace Go.Proofs.YtflcfdiochohgaaGreatDoor
open Go.RowKit
section
variable {P : Program} (w : World)
end
end Go.Proofs.YtflcfdiochohgaaGreatDoor
