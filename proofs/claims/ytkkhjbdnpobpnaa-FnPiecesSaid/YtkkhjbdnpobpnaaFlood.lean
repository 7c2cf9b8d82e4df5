import Derived.Test.YtkkhjbdnpobpnaaMaskA
/- Pieces of a mask: the plain law. What a search keeps true, whichever cell it takes first, and that its end is the one piece. -/
namespace Go.Proofs.Ytkkhjbdnpobpnaa
/-- The cells that a search may come to from `s`, where `Nb k j` says that cell `j` lies beside cell `k`. -/
inductive Reach (m : List Bool) (Nb : Nat → Int → Prop) (s : Nat) : Nat → Prop
  | start : Reach m Nb s s
  | step {k k' : Nat} : Reach m Nb s k → Nb k k' → m[k']? = some true → Reach m Nb s k'
/-- What a search keeps true: `S` the cells seen, `Q` those still to be taken, `Ex k j` the looks that are still owed. -/
structure Inv (m : List Bool) (Nb : Nat → Int → Prop) (s : Nat) (Ex : Nat → Int → Prop) (S : List Bool) (Q : List Nat) : Prop where
  len : S.length = m.length
  start : S[s]? = some true
  sub : ∀ k, S[k]? = some true → Reach m Nb s k
  inq : ∀ q, q ∈ Q → S[q]? = some true
  closed : ∀ k, S[k]? = some true → k ∉ Q → ∀ k' : Nat, Nb k k' → ¬ Ex k k' → m[k']? = some true → S[k']? = some true
section
variable {m : List Bool} {Nb : Nat → Int → Prop} {s : Nat} {Ex : Nat → Int → Prop} {S : List Bool} {Q : List Nat}
theorem Inv.first (hs : s < m.length) : Inv m Nb s (fun _ _ => False) ((List.replicate m.length false).set s true) [s] := by
  have key : ∀ k, ((List.replicate m.length false).set s true)[k]? = some true → k = s := by
    intro k hk
    rw [List.getElem?_set] at hk
    split at hk
    · omega
    · simp [List.getElem?_replicate] at hk
  refine ⟨by simp, by simp [hs], fun k hk => by rw [key k hk]; exact .start, fun q hq => by simp at hq; subst hq; simp [hs], ?_⟩
  intro k hk hq
  have := key k hk
  simp [this] at hq
/-- A cell is taken out of the list. -/
theorem Inv.pop {p : Nat} {Q' : List Nat} (h : Inv m Nb s (fun _ _ => False) S Q) (hq : ∀ q, q ∈ Q ↔ q = p ∨ q ∈ Q') : Inv m Nb s (fun k _ => k = p) S Q' :=
  ⟨h.len, h.start, h.sub, fun q hq' => h.inq q ((hq q).2 (.inr hq')), fun k hk hk' k' hn hex hm => h.closed k hk (fun hc => by
    rcases (hq k).1 hc with h1 | h1
    · exact hex h1
    · exact hk' h1) k' hn (fun h => h) hm⟩
/-- All looks from the cell taken out are done. -/
theorem Inv.done (h : Inv m Nb s Ex S Q) (hex : ∀ k j, Nb k j → ¬ Ex k j) : Inv m Nb s (fun _ _ => False) S Q :=
  ⟨h.len, h.start, h.sub, h.inq, fun k hk hq k' hn _ hm => h.closed k hk hq k' hn (hex k k' hn) hm⟩
/-- A look at `j` that finds nothing new. -/
theorem Inv.pass {j : Int} (h : Inv m Nb s Ex S Q) (hj : ∀ k' : Nat, j = k' → m[k']? = some true → S[k']? = some true) : Inv m Nb s (fun k i => Ex k i ∧ i ≠ j) S Q :=
  ⟨h.len, h.start, h.sub, h.inq, fun k hk hq k' hn hex hm => by
    by_cases hk' : (k' : Int) = j
    · exact hj k' hk'.symm hm
    · exact h.closed k hk hq k' hn (fun he => hex ⟨he, hk'⟩) hm⟩
/-- A look at cell `k` from `p` that finds it new. -/
theorem Inv.take {p k : Nat} {Q' : List Nat} (h : Inv m Nb s Ex S Q) (hp : S[p]? = some true) (hn : Nb p k) (hm : m[k]? = some true) (hQ : ∀ q, q ∈ Q' ↔ q = k ∨ q ∈ Q) : Inv m Nb s (fun i j => Ex i j ∧ j ≠ k) (S.set k true) Q' := by
  have hk : k < S.length := by rw [h.len]; exact (List.getElem?_eq_some_iff.1 hm).1
  have up : ∀ i : Nat, S[i]? = some true → (S.set k true)[i]? = some true := by
    intro i hi
    rw [List.getElem?_set]
    split
    · simp [hk]
    · exact hi
  have down : ∀ i : Nat, (S.set k true)[i]? = some true → i = k ∨ S[i]? = some true := by
    intro i hi
    rw [List.getElem?_set] at hi
    split at hi
    · exact .inl (by omega)
    · exact .inr hi
  refine ⟨by simp [h.len], up _ h.start, fun i hi => ?_, fun q hq => ?_, fun i hi hq k' hn' hex hm' => ?_⟩
  · rcases down i hi with rfl | h1
    · exact .step (h.sub p hp) hn hm
    · exact h.sub i h1
  · rcases (hQ q).1 hq with rfl | h1
    · simp [hk]
    · exact up _ (h.inq q h1)
  · rcases down i hi with rfl | h1
    · exact absurd ((hQ i).2 (.inl rfl)) hq
    · by_cases hk' : (k' : Int) = k
      · obtain rfl : k' = k := by omega
        simp [hk]
      · exact up _ (h.closed i h1 (fun hc => hq ((hQ i).2 (.inr hc))) k' hn' (fun he => hex ⟨he, hk'⟩) hm')
open Classical in
/-- The piece with cell `s`. -/
noncomputable def pieceL (m : List Bool) (Nb : Nat → Int → Prop) (s : Nat) : List Bool := (List.range m.length).map fun k => decide (Reach m Nb s k)
theorem length_pieceL : (pieceL m Nb s).length = m.length := by simp [pieceL]
/-- The end of a search is the piece. -/
theorem Inv.piece (h : Inv m Nb s (fun _ _ => False) S []) : S = pieceL m Nb s := by
  have all : ∀ k, Reach m Nb s k → S[k]? = some true := by
    intro k hk
    induction hk with
    | start => exact h.start
    | step _ hn hm ih => exact h.closed _ ih (by simp) _ hn (fun x => x) hm
  apply List.ext_getElem?
  intro k
  by_cases hk : k < m.length
  · have hS : k < S.length := by rw [h.len]; exact hk
    simp only [pieceL, List.getElem?_map, List.getElem?_range hk, Option.map_some]
    rw [List.getElem?_eq_getElem hS]
    congr 1
    by_cases hr : Reach m Nb s k
    · have := all k hr
      rw [List.getElem?_eq_getElem hS] at this
      simp only [hr, decide_true]
      exact Option.some.inj this
    · cases hv : S[k] with
      | false => simp [hr]
      | true => exact absurd (h.sub k (by rw [List.getElem?_eq_getElem hS, hv])) hr
  · rw [List.getElem?_eq_none (by rw [h.len]; omega), List.getElem?_eq_none (by simp [pieceL]; omega)]
/-- How much of a search is left: twice the cells not seen and those still to be taken. -/
def owed (S : List Bool) (q : Nat) : Nat := 2 * S.count false + q
theorem count_set_false {S : List Bool} {k : Nat} (h : S[k]? = some false) : (S.set k true).count false + 1 = S.count false := by
  induction S generalizing k with
  | nil => simp at h
  | cons b S ih =>
    cases k with
    | zero => simp at h; subst h; simp
    | succ k =>
      simp at h
      have := ih h
      cases b <;> simp_all <;> omega
theorem owed_take {S : List Bool} {k q : Nat} (h : S[k]? = some false) : owed (S.set k true) (q + 1) < owed S q := by
  have := count_set_false h
  unfold owed
  omega
end
/-- The cell of a point, -1 outside of the box. -/
def cellB (x y W H px py : Int) : Int := if 0 ≤ px - x ∧ px - x ≤ W - 1 ∧ 0 ≤ py - y ∧ py - y ≤ H - 1 then (py - y) * W + (px - x) else -1
/-- Cell `j` lies beside cell `k` (or is -1). -/
def Beside (x y W H : Int) (k : Nat) (j : Int) : Prop :=
  j = cellB x y W H (x + (k : Int) % W + 1) (y + (k : Int) / W) ∨ j = cellB x y W H (x + (k : Int) % W) (y + (k : Int) / W + 1) ∨
  j = cellB x y W H (x + (k : Int) % W - 1) (y + (k : Int) / W) ∨ j = cellB x y W H (x + (k : Int) % W) (y + (k : Int) / W - 1)
end Go.Proofs.Ytkkhjbdnpobpnaa
