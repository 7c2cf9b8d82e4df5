import Derived.Test.YtflcfdiochohgaaGreatDoorPackAb
import Derived.Test.YtflcfdiochohgaaGreatDoorShelf
import Derived.Shelf.SlSortCmp.NoneTotal
import Derived.Test.YtflcfdiochohgaaGreatDoorPackA
import Derived.Laws.BitsLemmas
import Derived.Test.YtflcfdiochohgaaGreatDoorPackAa
/- Several of my texts, one behind the other: Sort, Sub, Idx, Pick, Circ, Exist, Good, Wt, Few, TabC, About, Par, CirW, Oper. -/
/- A slice of slices of numbers, sorted by slices.SortFunc with slices.Compare. -/
set_option linter.unusedSimpArgs false
set_option linter.unusedVariables false
namespace Go.Proofs.YtflcfdiochohgaaGreatDoor
open Go.RowKit
end Go.Proofs.YtflcfdiochohgaaGreatDoor

/- The indices whose bits a number has: impl.subset. -/
set_option linter.unusedSimpArgs false
set_option linter.unusedVariables false
namespace Go.Proofs.YtflcfdiochohgaaGreatDoor
open Go.RowKit
end Go.Proofs.YtflcfdiochohgaaGreatDoor

/- The indices of those claims of which a function value tells true. -/
set_option linter.unusedSimpArgs false
set_option linter.unusedVariables false
namespace Go.Proofs.YtflcfdiochohgaaGreatDoor
open Go.RowKit
end Go.Proofs.YtflcfdiochohgaaGreatDoor

/- Claims with some indices, and indices that a list does not have: what both sides speak of. -/
set_option linter.unusedSimpArgs false
set_option linter.unusedVariables false
namespace Go.Proofs.YtflcfdiochohgaaGreatDoor
open Go.RowKit
/-- The claims with some indices. -/
def pick (L : List Clm) (S : List Int) : List Clm := S.filterMap fun i => L[i.toNat]?
/-- All are indices of a list of `n`. -/
def Within (n : Nat) (S : List Int) : Prop := ∀ x ∈ S, 0 ≤ x ∧ x < n
theorem Within.at_ {n : Nat} {S : List Int} (h : Within n S) {k : Nat} (hk : k < S.length) : 0 ≤ S[k] ∧ S[k] < n := h _ (List.getElem_mem hk)
theorem Within.sub {n : Nat} {S T : List Int} (h : Within n S) (hs : ∀ x ∈ T, x ∈ S) : Within n T := fun x hx => h x (hs x hx)
end Go.Proofs.YtflcfdiochohgaaGreatDoor

/- Circles of parents and consistency: the plain law. -/
set_option linter.unusedSimpArgs false
set_option linter.unusedVariables false
namespace Go.Proofs.YtflcfdiochohgaaGreatDoor
/-- A proposition as a truth value. -/
@[irreducible] noncomputable def bof (p : Prop) : Bool := @decide p (Classical.propDecidable p)
theorem bof_true {p : Prop} (h : p) : bof p = true := by unfold bof; exact @decide_eq_true p (Classical.propDecidable p) h
theorem bof_false {p : Prop} (h : ¬ p) : bof p = false := by unfold bof; exact @decide_eq_false p (Classical.propDecidable p) h
/-- `c` tells the parent of a place in a year. -/
def parP (place : ByteArray) (y : Int) (c : Clm) : Bool := decide (c.kind = 1) && decide (c.place = place) && hasB c y
theorem parP_iff {p : ByteArray} {y : Int} {c : Clm} : parP p y c = true ↔ c.kind = 1 ∧ c.place = p ∧ hasB c y = true := by simp [parP, and_assoc]
def parOf (L : List Clm) (y : Int) (p : ByteArray) : Option ByteArray := (L.find? (parP p y)).map (·.val)
theorem parOf_some {L : List Clm} {y : Int} {p v : ByteArray} (h : parOf L y p = some v) : ∃ c ∈ L, parP p y c = true ∧ c.val = v := by
  unfold parOf at h
  cases hf : L.find? (parP p y) with
  | none => rw [hf] at h; cases h
  | some c =>
    rw [hf] at h
    exact ⟨c, List.mem_of_find?_eq_some hf, List.find?_some hf, Option.some.inj h⟩
/-- Following the parents from `p` on, `out` behind it: the circle, if it leads back to `place`. -/
noncomputable def circ (f : ByteArray → Option ByteArray) (place : ByteArray) : Nat → List ByteArray → ByteArray → Option (List ByteArray)
  | 0, _, _ => none
  | n + 1, out, p => match f p with
    | none => none
    | some nx => if nx = place then some (out ++ [p]) else if bof (nx ∈ out ++ [p]) then none else circ f place n (out ++ [p]) nx
/-- The circle that begins with a place in a year. -/
noncomputable def circZ (L : List Clm) (y : Int) (place : ByteArray) : Option (List ByteArray) := circ (parOf L y) place (L.length + 1) [] place
structure CInv (L : List Clm) (y : Int) (place : ByteArray) (out : List ByteArray) (p : ByteArray) : Prop where
  nodup : (out ++ [p]).Nodup
  mem : ∀ x ∈ out ++ [p], x = place ∨ x ∈ L.map (·.val)
  head : place ∈ out ++ [p]
  eq : circZ L y place = circ (parOf L y) place (L.length + 1 - out.length) out p
theorem CInv.start (L : List Clm) (y : Int) (place : ByteArray) : CInv L y place [] place := ⟨by simp, fun x hx => by simp at hx; exact .inl hx, by simp, rfl⟩
theorem nodup_len {α : Type} [DecidableEq α] : ∀ (l m : List α), l.Nodup → (∀ x ∈ l, x ∈ m) → l.length ≤ m.length
  | [], m, _, _ => by simp
  | x :: l, m, hn, hs => by
    have hx := hs x (by simp)
    have h1 := List.nodup_cons.1 hn
    have ih := nodup_len l (m.erase x) h1.2 fun z hz => by
      have hne : z ≠ x := fun e => h1.1 (e ▸ hz)
      exact (List.mem_erase_of_ne hne).2 (hs z (by simp [hz]))
    have hl := List.length_erase_of_mem hx
    have hp := List.length_pos_of_mem hx
    simp only [List.length_cons]
    omega
theorem CInv.len {L : List Clm} {y : Int} {place p : ByteArray} {out : List ByteArray} (h : CInv L y place out p) : out.length ≤ L.length := by
  have := nodup_len (out ++ [p]) (place :: L.map (·.val)) h.nodup fun x hx => by
    rcases h.mem x hx with rfl | h
    · simp
    · simp only [List.mem_cons]; exact .inr h
  simp at this
  exact this
theorem CInv.unfold {L : List Clm} {y : Int} {place p : ByteArray} {out : List ByteArray} (h : CInv L y place out p) :
    circZ L y place = match parOf L y p with
    | Option.none => Option.none
    | some nx => if nx = place then some (out ++ [p]) else if bof (nx ∈ out ++ [p]) then Option.none else circ (parOf L y) place (L.length + 1 - (out ++ [p]).length) (out ++ [p]) nx := by
  have hl := h.len
  rw [h.eq, show L.length + 1 - out.length = (L.length - out.length) + 1 by omega, circ]
  simp only [List.length_append, List.length_cons, List.length_nil, show L.length + 1 - (out.length + (0 + 1)) = L.length - out.length by omega]
theorem CInv.again {L : List Clm} {y : Int} {place p nx : ByteArray} {out : List ByteArray} (h : CInv L y place out p) (h1 : parOf L y p = some nx) (h2 : nx ≠ place) (h3 : nx ∈ out ++ [p]) : circZ L y place = none := by rw [h.unfold, h1]; simp only [if_neg h2, bof_true h3, if_true]
theorem CInv.on {L : List Clm} {y : Int} {place p nx : ByteArray} {out : List ByteArray} (h : CInv L y place out p) (h1 : parOf L y p = some nx) (h2 : nx ≠ place) (h3 : ¬ nx ∈ out ++ [p]) : CInv L y place (out ++ [p]) nx := by
  refine ⟨?_, fun x hx => ?_, List.mem_append_left _ h.head, ?_⟩
  · rw [List.nodup_append]
    refine ⟨h.nodup, by simp [List.Nodup], fun a ha b hb => ?_⟩
    simp only [List.mem_cons, List.not_mem_nil, or_false] at hb
    subst hb
    intro e
    exact h3 (e ▸ ha)
  · rcases List.mem_append.1 hx with hx | hx
    · exact h.mem x hx
    · simp only [List.mem_cons, List.not_mem_nil, or_false] at hx
      subst hx
      obtain ⟨c, hc, _, hv⟩ := parOf_some h1
      exact .inr (List.mem_map.2 ⟨c, hc, hv⟩)
  · rw [h.unfold, h1]; simp only [if_neg h2, bof_false h3, Bool.false_eq_true, if_false]
theorem CInv.fresh {L : List Clm} {y : Int} {place p : ByteArray} {out : List ByteArray} (h : CInv L y place out p) : ¬ p ∈ out := fun hp => (List.nodup_append.1 h.nodup).2.2 p hp p (by simp) rfl
theorem circ_mono {f g : ByteArray → Option ByteArray} (hfg : ∀ x v, f x = some v → g x = some v) {place : ByteArray} : ∀ {n m : Nat} {out : List ByteArray} {p : ByteArray} {r : List ByteArray}, n ≤ m → circ f place n out p = some r → circ g place m out p = some r
  | 0, m, out, p, r, _, h => by cases h
  | n + 1, 0, out, p, r, hm, h => by omega
  | n + 1, m + 1, out, p, r, hm, h => by
    rw [circ] at h ⊢
    cases hf : f p with
    | none => rw [hf] at h; cases h
    | some v =>
      rw [hf] at h
      rw [hfg _ _ hf]
      simp only at h ⊢
      split
      · rename_i h1; rw [if_pos h1] at h; exact h
      · rename_i h1
        rw [if_neg h1] at h
        split
        · rename_i h2; rw [if_pos h2] at h; cases h
        · rename_i h2; rw [if_neg h2] at h; exact circ_mono hfg (by omega) h
/-! ### Consistency -/
def NoPair (L : List Clm) : Prop := L.Pairwise fun d c => contraB c d = false
theorem noPair_iff {L : List Clm} : NoPair L ↔ ∀ i k (hi : i < L.length) (hk : k < L.length), k < i → contraB L[i] L[k] = false := by
  unfold NoPair
  rw [List.pairwise_iff_getElem]
  exact ⟨fun h i k hi hk hki => h k i hk hi hki, fun h i k hi hk hik => h k i hk hi hik⟩
def NoCirc (L : List Clm) : Prop := ∀ c ∈ L, c.kind = 1 → ∀ d ∈ L, circZ L c.fr d.place = none
def Cons (L : List Clm) : Prop := NoPair L ∧ NoCirc L
theorem contra_val {c d : Clm} {y : Int} (h : contraB c d = false) (hc : c.kind = 1) (hd : d.kind = 1) (hp : c.place = d.place) (h1 : hasB c y = true) (h2 : hasB d y = true) : c.val = d.val := by
  simp only [hasB, Bool.and_eq_true, decide_eq_true_eq] at h1 h2
  have hm : meetsB c d = true := by simp only [meetsB, Bool.and_eq_true, decide_eq_true_eq]; omega
  apply Classical.byContradiction
  intro hv
  have : contraB c d = true := by
    unfold contraB
    rw [hm, hp, hc, hd]
    simp [hv]
  rw [h] at this
  cases this
theorem NoPair.val {L : List Clm} (h : NoPair L) {c d : Clm} (hc : c ∈ L) (hd : d ∈ L) {y : Int} {p : ByteArray} (h1 : parP p y c = true) (h2 : parP p y d = true) : c.val = d.val := by
  rw [noPair_iff] at h
  obtain ⟨i, hi, rfl⟩ := List.mem_iff_getElem.1 hc
  obtain ⟨k, hk, rfl⟩ := List.mem_iff_getElem.1 hd
  obtain ⟨a1, a2, a3⟩ := parP_iff.1 h1
  obtain ⟨b1, b2, b3⟩ := parP_iff.1 h2
  rcases Nat.lt_trichotomy i k with hlt | rfl | hlt
  · exact (contra_val (h k i hk hi hlt) b1 a1 (b2.trans a2.symm) b3 a3).symm
  · rfl
  · exact contra_val (h i k hi hk hlt) a1 b1 (a2.trans b2.symm) a3 b3
theorem parOf_sub {L L' : List Clm} (hs : L'.Sublist L) (h : NoPair L) {y : Int} {p v : ByteArray} (hv : parOf L' y p = some v) : parOf L y p = some v := by
  obtain ⟨c, hc, hp, rfl⟩ := parOf_some hv
  have hcL := hs.subset hc
  cases hf : parOf L y p with
  | none =>
    exfalso
    unfold parOf at hf
    rw [Option.map_eq_none_iff, List.find?_eq_none] at hf
    exact hf c hcL hp
  | some u =>
    obtain ⟨d, hd, hdp, rfl⟩ := parOf_some hf
    rw [h.val hd hcL hdp hp]
/-- What is left of consistent claims is consistent. -/
theorem Cons.sub {L L' : List Clm} (h : Cons L) (hs : L'.Sublist L) : Cons L' := by
  refine ⟨h.1.sublist hs, fun c hc hk d hd => ?_⟩
  cases hz : circZ L' c.fr d.place with
  | none => rfl
  | some r =>
    have h1 := h.2 c (hs.subset hc) hk d (hs.subset hd)
    have h2 := circ_mono (fun x v hx => parOf_sub hs h.1 hx) (m := L.length + 1) (by have := hs.length_le; omega) hz
    rw [circZ, h2] at h1
    cases h1
end Go.Proofs.YtflcfdiochohgaaGreatDoor

/- What consistent claims tell of the existence of a place: the first that tells is as good as the last. -/
set_option linter.unusedSimpArgs false
set_option linter.unusedVariables false
namespace Go.Proofs.YtflcfdiochohgaaGreatDoor
theorem contra_symm (c d : Clm) : contraB c d = contraB d c := by
  have h1 : meetsB c d = meetsB d c := by unfold meetsB; exact Bool.and_comm _ _
  have h2 : (withoutB c d || withoutB d c) = (withoutB d c || withoutB c d) := Bool.or_comm _ _
  have h3 : decide (c.place = d.place) = decide (d.place = c.place) := by rw [decide_eq_decide]; exact eq_comm
  have h4 : (decide (c.kind = 3) != decide (d.kind = 3)) = (decide (d.kind = 3) != decide (c.kind = 3)) := by cases decide (c.kind = 3) <;> cases decide (d.kind = 3) <;> rfl
  have h5 : (decide (c.kind = d.kind) && (decide (c.kind = 0) || decide (c.kind = 1)) && !(decide (c.val = d.val))) = (decide (d.kind = c.kind) && (decide (d.kind = 0) || decide (d.kind = 1)) && !(decide (d.val = c.val))) := by
    by_cases h : c.kind = d.kind
    · have e : decide (c.val = d.val) = decide (d.val = c.val) := by rw [decide_eq_decide]; exact eq_comm
      rw [h, e]
    · have h' : ¬ d.kind = c.kind := fun e => h e.symm
      simp [h, h']
  unfold contraB
  rw [h1, h2, h3, h4, h5]
theorem contra_self (c : Clm) : contraB c c = false := by
  have h1 : withoutB c c = false := by
    unfold withoutB
    by_cases hk : c.kind = 1
    · simp [hk]
    · simp [hk]
  unfold contraB
  rw [h1]
  simp
theorem NoPair.all {L : List Clm} (h : NoPair L) {c d : Clm} (hc : c ∈ L) (hd : d ∈ L) : contraB c d = false := by
  rw [noPair_iff] at h
  obtain ⟨i, hi, rfl⟩ := List.mem_iff_getElem.1 hc
  obtain ⟨k, hk, rfl⟩ := List.mem_iff_getElem.1 hd
  rcases Nat.lt_trichotomy i k with hlt | rfl | hlt
  · rw [contra_symm]; exact h k i hk hi hlt
  · exact contra_self _
  · exact h i k hi hk hlt
end Go.Proofs.YtflcfdiochohgaaGreatDoor

/- Repairs and cores as sets of indices: the plain law. -/
set_option linter.unusedSimpArgs false
set_option linter.unusedVariables false
namespace Go.Proofs.YtflcfdiochohgaaGreatDoor
end Go.Proofs.YtflcfdiochohgaaGreatDoor

/- The weight of chosen claims. -/
set_option linter.unusedSimpArgs false
set_option linter.unusedVariables false
namespace Go.Proofs.YtflcfdiochohgaaGreatDoor
open Go.RowKit
section
variable (L : List Clm) (l : List Int) (a a' : Option Addr) (n c n' c' : Nat) (w : World) (hn : L.length = n) (hn' : l.length = n') (hm : n ≤ 1048576) (hm' : n' ≤ 1048576) (hr : Row w a (clmsCells L)) (hr' : Row w a' (intCells l)) (ok : ∀ c ∈ L, ClmOk c)
include hn hn' hm hm' hr hr' ok
end
end Go.Proofs.YtflcfdiochohgaaGreatDoor

/- The first least one of a list; what the tables of repairs and cores are used for: the plain laws. -/
set_option linter.unusedSimpArgs false
set_option linter.unusedVariables false
namespace Go.Proofs.YtflcfdiochohgaaGreatDoor
end Go.Proofs.YtflcfdiochohgaaGreatDoor

/- The tables by number: the plain law of a table, the search in a list of numbers by a function value, the function values. -/
set_option linter.unusedSimpArgs false
set_option linter.unusedVariables false
namespace Go.Proofs.YtflcfdiochohgaaGreatDoor
open Go.RowKit
/-- What a function value must do for a list of numbers: tell `p` of each, whenever it is called later. -/
def TellsI (g : Nat) (lb : Array Value) (p : Int → Bool) (L : List Int) (w : World) : Prop :=
  ∀ x ∈ L, ∀ w' : World, Below w.heap.size w w' → Calls Tryz.prog g (#[.int .i64 x] ++ lb) w' (Ret w' (.bool (p x)))
theorem TellsI.bel {g : Nat} {lb : Array Value} {p : Int → Bool} {L : List Int} {w w1 : World} (h : TellsI g lb p L w) (hb : Below w.heap.size w w1) : TellsI g lb p L w1 :=
  fun c hc w' hb' => h c hc w' (hb.trans (hb'.mono hb.size))
end Go.Proofs.YtflcfdiochohgaaGreatDoor

/- ClaimsAbout, both sides. -/
set_option linter.unusedSimpArgs false
set_option linter.unusedVariables false
namespace Go.Proofs.YtflcfdiochohgaaGreatDoor
open Go.RowKit
section
variable (L : List Clm) (p : ByteArray) (y : Int) (a : Option Addr) (n c : Nat) (w : World) (hn : L.length = n) (hm : n ≤ 1048576) (hr : Row w a (clmsCells L)) (ok : ∀ c ∈ L, ClmOk c)
include hn hm hr ok
end
end Go.Proofs.YtflcfdiochohgaaGreatDoor

/- Parents and circles by claims, both sides. -/
set_option linter.unusedSimpArgs false
set_option linter.unusedVariables false
namespace Go.Proofs.YtflcfdiochohgaaGreatDoor
open Go.RowKit
section
variable {L : List Clm} {p : ByteArray} {y : Int} {a : Option Addr} {n c : Nat} {w : World} (hn : L.length = n) (hm : n ≤ 1048576) (hr : Row w a (clmsCells L))
include hn hm hr
end
end Go.Proofs.YtflcfdiochohgaaGreatDoor

/- Circles by claims, both sides. -/
set_option linter.unusedSimpArgs false
set_option linter.unusedVariables false
namespace Go.Proofs.YtflcfdiochohgaaGreatDoor
open Go.RowKit
/-- What the search for a circle hands back: the circle, or that there is none. -/
def CircRet (w : World) (Z : Option (List ByteArray)) (e : Ending) (w' : World) : Prop :=
  ∃ (a : Option Addr) (n c : Nat) (r : List ByteArray), e = .returned (.tuple #[.slice a n c, .bool Z.isSome]) ∧ n = r.length ∧ w'.ownsRow w.heap.size 9 1 (.slice a n c) n (strCells r) ∧ (∀ s, Z = some s → r = s) ∧ ∃ y : Later w, w' = y.w
theorem CircRet.mk {w w' : World} {Z : Option (List ByteArray)} {e : Ending} {b : Bool} (v : Value) (r : List ByteArray) (h : e = .returned (.tuple #[v, .bool b])) (hb : Z.isSome = b) (ho : w'.ownsRow w.heap.size 9 1 v r.length (strCells r)) (hz : ∀ s, Z = some s → r = s) (hw : Below w.heap.size w w') : CircRet w Z e w' := by
  subst hb
  obtain ⟨a, c, rfl⟩ := own_form ho
  exact ⟨a, r.length, c, r, h, rfl, ho, hz, ⟨w', hw⟩, rfl⟩
end Go.Proofs.YtflcfdiochohgaaGreatDoor

/- append as one operation of a drawn region. -/
set_option linter.unusedSimpArgs false
set_option linter.unusedVariables false
namespace Go.Proofs.YtflcfdiochohgaaGreatDoor
open Go.RowKit
section
variable {P : Program} (w : World)
end
end Go.Proofs.YtflcfdiochohgaaGreatDoor
