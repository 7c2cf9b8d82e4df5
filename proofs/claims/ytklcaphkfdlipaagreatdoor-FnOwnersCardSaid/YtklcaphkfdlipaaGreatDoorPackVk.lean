import Derived.Test.YtklcaphkfdlipaaGreatDoorPackVm
import Derived.Test.YtklcaphkfdlipaaGreatDoorPackVc
import Derived.Test.YtklcaphkfdlipaaGreatDoorPackVg
import Derived.Test.YtklcaphkfdlipaaGreatDoorPackVa
import Derived.StillTailTactics
/- Several of my texts, one behind the other: GRg, GVw, GVs, Tail, DrWd, Inv. -/
/- A drawn list of rings: the outer row is the draw's own. Printed by gtab2gen.py. -/
set_option linter.unusedSimpArgs false
set_option linter.unusedVariables false
namespace Go.Proofs.YtklcaphkfdlipaaGreatDoor
open Go.RowKit
/-- A small ring. -/
structure SmG (r : List Pt) : Prop where
  len : r.length ≤ 64
  pt : ∀ p ∈ r, SmP p
/-- The rules' values and signs in memory from `lo` on, outside the block of `a`. -/
def RowsG (w : World) (lo : Nat) (a : Option Addr) (T : List (List Pt)) (vs : List Value) : Prop :=
  ∀ i (h : i < T.length), ∃ ai ci, vs[i]? = some (.slice ai T[i].length ci) ∧ Row w ai (ptsCells T[i]) ∧ T[i].length ≤ ci ∧ ci ≤ maxLen ∧ ∀ p : Addr, ai = some p → lo ≤ p.block ∧ p.block < w.heap.size ∧ ∀ q : Addr, a = some q → p.block ≠ q.block
structure GRg (w : World) (lo : Nat) (T : List (List Pt)) (a : Option Addr) (n c : Nat) : Prop where
  len : T.length = n
  ok : ∀ r ∈ T, SmG r
  own : ∃ vs, w.ownsRow lo 83 1 (.slice a n c) n vs ∧ RowsG w lo a T vs
theorem GRg.cap {w : World} {lo n c : Nat} {T : List (List Pt)} {a : Option Addr} (h : GRg w lo T a n c) : n ≤ c ∧ c ≤ maxLen := by
  obtain ⟨vs, h1, _⟩ := h.own
  exact own_caps2 h1
theorem GRg.rings {w : World} {lo n c : Nat} {T : List (List Pt)} {a : Option Addr} (h : GRg w lo T a n c) : RingsR w a T := fun i hi => by
  obtain ⟨vs, h1, h2⟩ := h.own
  obtain ⟨ai, ci, e1, e3, e4, e5, _⟩ := h2 i hi
  have hr := Row.of_own h1
  obtain ⟨b, o, rfl, q0⟩ := hr i _ e1
  exact ⟨b, o, ai, ci, rfl, World.block_lt_of_cell? w _ q0, q0, e3, e4, e5⟩
theorem GRg.nil {w : World} {lo c : Nat} {a : Option Addr} (h : w.ownsRow lo 83 1 (.slice a 0 c) 0 []) : GRg w lo [] a 0 c := ⟨rfl, (fun r hr => by cases hr), [], h, fun i hi => absurd hi (by simp)⟩
theorem GRg.wide {w : World} {lo lo' n c : Nat} {T : List (List Pt)} {a : Option Addr} (h : GRg w lo T a n c) (hl : lo' ≤ lo) : GRg w lo' T a n c := by
  obtain ⟨h1, h2, vs, h3, h4⟩ := h
  refine ⟨h1, h2, vs, own_mono h3 hl, fun i hi => ?_⟩
  obtain ⟨ai, ci, e1, e3, e4, e5, e6⟩ := h4 i hi
  exact ⟨ai, ci, e1, e3, e4, e5, fun p hp => ⟨by have := (e6 p hp).1; omega, (e6 p hp).2⟩⟩
theorem GRg.keep {w w' : World} {lo g g' n c : Nat} {T : List (List Pt)} {a : Option Addr} (h : GRg w lo T a n c) (hb : Between g g' w w') (hg : g' ≤ lo) : GRg w' lo T a n c := by
  obtain ⟨h1, h2, vs, h3, h4⟩ := h
  refine ⟨h1, h2, vs, own_btw h3 hb fun k hk => .inr (by have := (h3.lt k hk).1; omega), fun i hi => ?_⟩
  obtain ⟨ai, ci, e1, e3, e4, e5, e6⟩ := h4 i hi
  exact ⟨ai, ci, e1, e3.btw hb (fun p hp => .inr (by have := (e6 p hp).1; omega)), e4, e5, fun p hp => ⟨(e6 p hp).1, by have := (e6 p hp).2.1; have := hb.size; omega, (e6 p hp).2.2⟩⟩
theorem GRg.bel {w w' : World} {lo n c : Nat} {T : List (List Pt)} {a : Option Addr} (h : GRg w lo T a n c) (hb : Below w.heap.size w w') : GRg w' lo T a n c := by
  obtain ⟨h1, h2, vs, h3, h4⟩ := h
  refine ⟨h1, h2, vs, own_bel h3 hb, fun i hi => ?_⟩
  obtain ⟨ai, ci, e1, e3, e4, e5, e6⟩ := h4 i hi
  exact ⟨ai, ci, e1, e3.bel hb, e4, e5, fun p hp => ⟨(e6 p hp).1, Nat.lt_of_lt_of_le (e6 p hp).2.1 hb.size, (e6 p hp).2.2⟩⟩
/-- A rule more, behind an append. -/
theorem GRg.snoc {w w' : World} {lo n c c' gg gg' : Nat} {T : List (List Pt)} {a a' : Option Addr} {vs : List Value} {r : List Pt} {ai : Option Addr} {ci : Nat} (hl : T.length = n) (hok : ∀ r ∈ T, SmG r) (hv : RowsG w lo a T vs) (hvl : vs.length = n)
    (hgo : ∀ k, gg ≤ k → k < gg' → ∃ p : Addr, a = some p ∧ p.block = k) (hb : Between gg gg' w w') (ho : w'.ownsRow gg 83 1 (.slice a' (n + 1) c') (n + 1) (vs ++ [.slice ai r.length ci])) (hlo : lo ≤ gg) (hat : ∀ p : Addr, a' = some p → p.block < gg' ∨ w.heap.size ≤ p.block)
    (hr : SmG r) (hrow : Row w ai (ptsCells r)) (h1 : r.length ≤ ci) (h2 : ci ≤ maxLen) (hai : ∀ p : Addr, ai = some p → lo ≤ p.block ∧ p.block < w.heap.size ∧ ∀ q : Addr, a = some q → p.block ≠ q.block) : GRg w' lo (T ++ [r]) a' (n + 1) c' := by
  have hfar : ∀ (x : Option Addr), (∀ p : Addr, x = some p → lo ≤ p.block ∧ p.block < w.heap.size ∧ ∀ q : Addr, a = some q → p.block ≠ q.block) → ∀ p : Addr, x = some p → (p.block < gg ∨ gg' ≤ p.block) ∧ lo ≤ p.block ∧ p.block < w'.heap.size ∧ ∀ q : Addr, a' = some q → p.block ≠ q.block := fun x hx p hp => by
    obtain ⟨k1, k2, k3⟩ := hx p hp
    have k4 : p.block < gg ∨ gg' ≤ p.block := by
      rcases Nat.lt_or_ge p.block gg with h | h
      · exact .inl h
      · rcases Nat.lt_or_ge p.block gg' with h' | h'
        · obtain ⟨q, e1, e2⟩ := hgo p.block h h'
          exact absurd e2.symm (k3 q e1)
        · exact .inr h'
    refine ⟨k4, k1, Nat.lt_of_lt_of_le k2 hb.size, fun q hq => ?_⟩
    have h5 := hat q hq
    subst hq
    have h6 := (ho.lt q.block rfl).1
    omega
  refine ⟨by simp [hl], fun x hx => ?_, vs ++ [.slice ai r.length ci], own_mono ho hlo, fun i hi => ?_⟩
  · rcases List.mem_append.1 hx with h | h
    · exact hok x h
    · rw [List.mem_singleton.1 h]; exact hr
  · simp only [List.length_append, List.length_cons, List.length_nil] at hi
    rcases Nat.lt_or_ge i T.length with h | h
    · obtain ⟨ax, cx, e1, e3, e4, e5, e6⟩ := hv i h
      rw [List.getElem_append_left h]
      have hf := hfar ax e6
      exact ⟨ax, cx, by rw [List.getElem?_append_left (by omega)]; exact e1, e3.btw hb fun p hp => (hf p hp).1, e4, e5, fun p hp => (hf p hp).2⟩
    · obtain rfl : i = T.length := by omega
      have e : (T ++ [r])[T.length] = r := by simp
      rw [e]
      have hf := hfar ai hai
      exact ⟨ai, ci, by rw [List.getElem?_append_right (by omega), hvl, hl, Nat.sub_self]; rfl, hrow.btw hb fun p hp => (hf p hp).1, h1, h2, fun p hp => (hf p hp).2⟩
theorem RowsG.bel {w w' : World} {lo : Nat} {a : Option Addr} {T : List (List Pt)} {vs : List Value} (h : RowsG w lo a T vs) (hb : Below w.heap.size w w') : RowsG w' lo a T vs := fun i hi => by
  obtain ⟨ai, ci, e1, e3, e4, e5, e6⟩ := h i hi
  exact ⟨ai, ci, e1, e3.bel hb, e4, e5, fun p hp => ⟨(e6 p hp).1, Nat.lt_of_lt_of_le (e6 p hp).2.1 hb.size, (e6 p hp).2.2⟩⟩
end Go.Proofs.YtklcaphkfdlipaaGreatDoor

/- A drawn list of views: the outer row is the draw's own. Began as a print of gtab2gen.py; the inner rows too are rows of its own. -/
set_option linter.unusedSimpArgs false
set_option linter.unusedVariables false
namespace Go.Proofs.YtklcaphkfdlipaaGreatDoor
open Go.RowKit
/-- A small view. -/
structure SmV (v : Vw) : Prop where
  hold : v.holder.size ≤ 64
  len : v.own.length ≤ 64
  one : ∀ s ∈ v.own, s.size ≤ 64
theorem SmV.ok {v : Vw} (h : SmV v) : VwOk v := by
  have h1 := h.hold
  have h2 := h.len
  exact ⟨by omega, by omega, fun s hs => by have := h.one s hs; omega⟩
def viewV (ai : Option Addr) (ci : Nat) (v : Vw) : List Value := [.string v.holder, .slice ai v.own.length ci]
/-- The rules' values and signs in memory from `lo` on, outside the block of `a`. -/
def RowsW (w : World) (lo : Nat) (a : Option Addr) (T : List Vw) (vs : List Value) : Prop :=
  ∀ i (h : i < T.length), ∃ ai ci, vs[i * 2]? = some (.string T[i].holder) ∧ vs[i * 2 + 1]? = some (.slice ai T[i].own.length ci) ∧ w.ownsRow lo 9 1 (.slice ai T[i].own.length ci) T[i].own.length (strCells T[i].own) ∧ ∀ p q : Addr, ai = some p → a = some q → p.block ≠ q.block
structure GVw (w : World) (lo : Nat) (T : List Vw) (a : Option Addr) (n c : Nat) : Prop where
  len : T.length = n
  ok : ∀ r ∈ T, SmV r
  own : ∃ vs, w.ownsRow lo 64 2 (.slice a n c) n vs ∧ RowsW w lo a T vs
theorem GVw.cap {w : World} {lo n c : Nat} {T : List Vw} {a : Option Addr} (h : GVw w lo T a n c) : n ≤ c ∧ c ≤ maxLen := by
  obtain ⟨vs, h1, _⟩ := h.own
  exact own_caps2 h1
theorem GVw.views {w : World} {lo n c : Nat} {T : List Vw} {a : Option Addr} (h : GVw w lo T a n c) : ViewsR w a T := fun i hi => by
  obtain ⟨vs, h1, h2⟩ := h.own
  obtain ⟨ai, ci, e1, e2, e3, _⟩ := h2 i hi
  obtain ⟨e4, e5⟩ := own_caps2 e3
  replace e3 := Row.of_own e3
  have hr := Row.of_own h1
  obtain ⟨b, o, rfl, q0⟩ := hr (i * 2) _ e1
  obtain ⟨b', o', e, q1⟩ := hr (i * 2 + 1) _ e2
  cases e
  exact ⟨b, o, ai, ci, rfl, World.block_lt_of_cell? w _ q0, q0, by rw [Nat.add_assoc]; exact q1, e3, e4, e5⟩
theorem GVw.nil {w : World} {lo c : Nat} {a : Option Addr} (h : w.ownsRow lo 64 2 (.slice a 0 c) 0 []) : GVw w lo [] a 0 c := ⟨rfl, (fun r hr => by cases hr), [], h, fun i hi => absurd hi (by simp)⟩
theorem GVw.wide {w : World} {lo lo' n c : Nat} {T : List Vw} {a : Option Addr} (h : GVw w lo T a n c) (hl : lo' ≤ lo) : GVw w lo' T a n c := by
  obtain ⟨h1, h2, vs, h3, h4⟩ := h
  refine ⟨h1, h2, vs, own_mono h3 hl, fun i hi => ?_⟩
  obtain ⟨ai, ci, e1, e2, e3, e6⟩ := h4 i hi
  exact ⟨ai, ci, e1, e2, own_mono e3 hl, e6⟩
theorem GVw.keep {w w' : World} {lo g g' n c : Nat} {T : List Vw} {a : Option Addr} (h : GVw w lo T a n c) (hb : Between g g' w w') (hg : g' ≤ lo) : GVw w' lo T a n c := by
  obtain ⟨h1, h2, vs, h3, h4⟩ := h
  refine ⟨h1, h2, vs, own_btw h3 hb fun k hk => .inr (by have := (h3.lt k hk).1; omega), fun i hi => ?_⟩
  obtain ⟨ai, ci, e1, e2, e3, e6⟩ := h4 i hi
  exact ⟨ai, ci, e1, e2, own_btw e3 hb (fun k hk => .inr (by have := (e3.lt k hk).1; omega)), e6⟩
theorem GVw.bel {w w' : World} {lo n c : Nat} {T : List Vw} {a : Option Addr} (h : GVw w lo T a n c) (hb : Below w.heap.size w w') : GVw w' lo T a n c := by
  obtain ⟨h1, h2, vs, h3, h4⟩ := h
  refine ⟨h1, h2, vs, own_bel h3 hb, fun i hi => ?_⟩
  obtain ⟨ai, ci, e1, e2, e3, e6⟩ := h4 i hi
  exact ⟨ai, ci, e1, e2, own_bel e3 hb, e6⟩
/-- A rule more, behind an append. -/
theorem GVw.snoc {w w' : World} {lo n c c' gg gg' : Nat} {T : List Vw} {a a' : Option Addr} {vs : List Value} {r : Vw} {ai : Option Addr} {ci : Nat} (hl : T.length = n) (hok : ∀ r ∈ T, SmV r) (hv : RowsW w lo a T vs) (hvl : vs.length = n * 2)
    (hgo : ∀ k, gg ≤ k → k < gg' → ∃ p : Addr, a = some p ∧ p.block = k) (hb : Between gg gg' w w') (ho : w'.ownsRow gg 64 2 (.slice a' (n + 1) c') (n + 1) (vs ++ viewV ai ci r)) (hlo : lo ≤ gg) (hat : ∀ p : Addr, a' = some p → p.block < gg' ∨ w.heap.size ≤ p.block)
    (hr : SmV r) (hrow : w.ownsRow lo 9 1 (.slice ai r.own.length ci) r.own.length (strCells r.own)) (hai : ∀ p q : Addr, ai = some p → a = some q → p.block ≠ q.block) : GVw w' lo (T ++ [r]) a' (n + 1) c' := by
  have hfar : ∀ (x : Option Addr) (m cx : Nat) (xs : List Value), w.ownsRow lo 9 1 (.slice x m cx) m xs → (∀ p q : Addr, x = some p → a = some q → p.block ≠ q.block) → w'.ownsRow lo 9 1 (.slice x m cx) m xs ∧ ∀ p q : Addr, x = some p → a' = some q → p.block ≠ q.block := fun x m cx xs hx k3 => by
    have k4 : ∀ p : Addr, x = some p → p.block < gg ∨ gg' ≤ p.block := fun p hp => by
      rcases Nat.lt_or_ge p.block gg with h | h
      · exact .inl h
      · rcases Nat.lt_or_ge p.block gg' with h' | h'
        · obtain ⟨q, e1, e2⟩ := hgo p.block h h'
          exact absurd e2.symm (k3 p q hp e1)
        · exact .inr h'
    refine ⟨own_btw hx hb fun k hk => ?_, fun p q hp hq => ?_⟩
    · obtain rfl := own_zero2 (Owns.of hx) hk
      exact k4 _ rfl
    · have h4 := k4 p hp
      have h5 := hat q hq
      subst hq hp
      have h6 := (ho.lt q.block rfl).1
      have h7 := (hx.lt p.block rfl).2
      omega
  refine ⟨by simp [hl], fun x hx => ?_, vs ++ viewV ai ci r, own_mono ho hlo, fun i hi => ?_⟩
  · rcases List.mem_append.1 hx with h | h
    · exact hok x h
    · rw [List.mem_singleton.1 h]; exact hr
  · simp only [List.length_append, List.length_cons, List.length_nil] at hi
    rcases Nat.lt_or_ge i T.length with h | h
    · obtain ⟨ax, cx, e1, e2, e3, e6⟩ := hv i h
      rw [List.getElem_append_left h]
      have hf := hfar ax _ cx _ e3 e6
      exact ⟨ax, cx, by rw [List.getElem?_append_left (by omega)]; exact e1, by rw [List.getElem?_append_left (by omega)]; exact e2, hf.1, hf.2⟩
    · obtain rfl : i = T.length := by omega
      have e : (T ++ [r])[T.length] = r := by simp
      rw [e]
      have hf := hfar ai _ ci _ hrow hai
      exact ⟨ai, ci, by rw [List.getElem?_append_right (by omega), hvl, hl, Nat.sub_self]; rfl, by rw [List.getElem?_append_right (by omega), hvl, hl, show n * 2 + 1 - n * 2 = 1 by omega]; rfl, hf.1, hf.2⟩
theorem RowsW.bel {w w' : World} {lo : Nat} {a : Option Addr} {T : List Vw} {vs : List Value} (h : RowsW w lo a T vs) (hb : Below w.heap.size w w') : RowsW w' lo a T vs := fun i hi => by
  obtain ⟨ai, ci, e1, e2, e3, e6⟩ := h i hi
  exact ⟨ai, ci, e1, e2, own_bel e3 hb, e6⟩
end Go.Proofs.YtklcaphkfdlipaaGreatDoor

/- Stores into a drawn list of views. -/
set_option linter.unusedSimpArgs false
set_option linter.unusedVariables false
namespace Go.Proofs.YtklcaphkfdlipaaGreatDoor
open Go.RowKit
theorem own_other {w : World} {lo b k n c : Nat} {v : Value} {x : Option Addr} {e s : Nat} {xs : List Value} (h : w.ownsRow lo e s (.slice x n c) n xs) (hx : ∀ p : Addr, x = some p → p.block ≠ b) : (w.setCell ⟨b, k, none⟩ v).ownsRow lo e s (.slice x n c) n xs :=
  own_btw h (Between.set (Between.refl b (b + 1) w) (p := ⟨b, k, none⟩) (Nat.le_refl _) (Nat.lt_succ_self _) v) fun j hj => by
    obtain rfl := own_zero2 (Owns.of h) hj
    have := hx _ rfl
    dsimp only at this
    omega
/-- The owners of the first view are others. -/
theorem GVw.setOwn {w : World} {lo n c b : Nat} {T : List Vw} (h : GVw w lo T (some ⟨b, 0, none⟩) n c) (hn : 0 < n) {O : List ByteArray} {ai : Option Addr} {ci : Nat} (hO : O.length ≤ 64) (hO1 : ∀ s ∈ O, s.size ≤ 64) (hr : w.ownsRow lo 9 1 (.slice ai O.length ci) O.length (strCells O))
    (hai : ∀ p : Addr, ai = some p → p.block ≠ b) :
    GVw (w.setCell ⟨b, 1, none⟩ (.slice ai O.length ci)) lo (T.set 0 ⟨(atV T 0).holder, O⟩) (some ⟨b, 0, none⟩) n c := by
  obtain ⟨h1, h2, vs, h3, h4⟩ := h
  have hl0 : 0 < T.length := by omega
  have hvl : vs.length = n * 2 := h3.1
  have h5 := (Owns.of h3).set (j := 1) (.slice ai O.length ci)
  refine ⟨by simp [h1], fun r hr => ?_, vs.set 1 (.slice ai O.length ci), h5.own, fun i hi => ?_⟩
  · rcases List.mem_or_eq_of_mem_set hr with hr | rfl
    · exact h2 r hr
    · have := h2 _ (List.getElem_mem hl0)
      exact ⟨by show (atV T 0).holder.size ≤ 64; rw [atV_get hl0]; exact this.hold, hO, hO1⟩
  · simp only [List.length_set] at hi
    obtain ⟨ax, cx, e1, e2, e3, e6⟩ := h4 i hi
    by_cases hi0 : i = 0
    · subst hi0
      rw [List.getElem_set_self]
      refine ⟨ai, ci, ?_, ?_, own_other hr hai, fun p q hp hq => ?_⟩
      · rw [List.getElem?_set_ne (by omega), e1]
        show _ = some (Value.string (atV T 0).holder)
        rw [atV_get hl0]
      · rw [Nat.zero_mul, Nat.zero_add, List.getElem?_set_self (by omega)]
      · cases hq; exact hai p hp
    · rw [List.getElem_set_ne (fun e => hi0 e.symm)]
      exact ⟨ax, cx, by rw [List.getElem?_set_ne (by omega)]; exact e1, by rw [List.getElem?_set_ne (by omega)]; exact e2, own_other e3 fun p hp => e6 p _ hp rfl, e6⟩
theorem list_choice {X : Type} {P : Nat → X → Prop} : ∀ n : Nat, (∀ i, i < n → ∃ x, P i x) → ∃ L : List X, L.length = n ∧ ∀ i (h : i < L.length), P i L[i]
  | 0, _ => ⟨[], rfl, fun i h => absurd h (by simp)⟩
  | n + 1, h => by
    obtain ⟨L, h1, h2⟩ := list_choice n fun i hi => h i (by omega)
    obtain ⟨x, hx⟩ := h n (by omega)
    refine ⟨L ++ [x], by simp [h1], fun i hi => ?_⟩
    simp only [List.length_append, List.length_cons, List.length_nil] at hi
    rcases Nat.lt_or_ge i L.length with h3 | h3
    · rw [List.getElem_append_left h3]; exact h2 i h3
    · obtain rfl : i = L.length := by omega
      have e : (L ++ [x])[L.length] = x := by simp
      rw [e, h1]; exact hx
/-- A text is stored into the owners of some view. -/
theorem GVw.storeIn {w : World} {lo n c b g k : Nat} {T : List Vw} (h : GVw w lo T (some ⟨b, 0, none⟩) n c) (hg : g ≠ b) (s : ByteArray) (hs : s.size ≤ 64) :
    ∃ T' : List Vw, T'.length = T.length ∧ GVw (w.setCell ⟨g, k, none⟩ (.string s)) lo T' (some ⟨b, 0, none⟩) n c := by
  obtain ⟨h1, h2, vs, h3, h4⟩ := h
  obtain ⟨T', t1, t2⟩ := list_choice (P := fun i (v : Vw) => ∃ h : i < T.length, v.holder = T[i].holder ∧ SmV v ∧ ∃ ai ci, vs[i * 2]? = some (.string v.holder) ∧ vs[i * 2 + 1]? = some (.slice ai v.own.length ci) ∧ (w.setCell ⟨g, k, none⟩ (.string s)).ownsRow lo 9 1 (.slice ai v.own.length ci) v.own.length (strCells v.own) ∧ ∀ p q : Addr, ai = some p → some (⟨b, 0, none⟩ : Addr) = some q → p.block ≠ q.block) T.length fun i hi => by
    obtain ⟨ax, cx, e1, e2, e3, e6⟩ := h4 i hi
    have hsm := h2 _ (List.getElem_mem hi)
    by_cases hax : ∃ p : Addr, ax = some p ∧ p.block = g
    · obtain ⟨p, hp, hpg⟩ := hax
      obtain rfl := own_zero2 (Owns.of e3) (k := g) (by rw [hp, ← hpg]; rfl)
      clear hp hpg
      refine ⟨⟨T[i].holder, T[i].own.set k s⟩, hi, rfl, ⟨hsm.hold, by simpa using hsm.len, fun t ht => ?_⟩, some ⟨g, 0, none⟩, cx, e1, by rw [List.length_set]; exact e2, ?_, e6⟩
      · rcases List.mem_or_eq_of_mem_set ht with ht | rfl
        · exact hsm.one t ht
        · exact hs
      · have h5 := ((Owns.of e3).set (j := k) (.string s)).own
        rw [show strCells (T[i].own.set k s) = (strCells T[i].own).set k (.string s) by simp [strCells, List.map_set], List.length_set]
        exact h5
    · exact ⟨T[i], hi, rfl, hsm, ax, cx, e1, e2, own_other e3 fun p hp hc => hax ⟨p, hp, hc⟩, e6⟩
  have hb := Between.set (Between.refl g (g + 1) w) (p := ⟨g, k, none⟩) (Nat.le_refl _) (Nat.lt_succ_self _) (.string s)
  refine ⟨T', t1, by omega, fun r hr => ?_, vs, own_btw h3 hb fun j hj => ?_, fun i hi => ?_⟩
  · obtain ⟨j, hj, rfl⟩ := List.mem_iff_getElem.1 hr
    obtain ⟨_, _, h5, _⟩ := t2 j hj
    exact h5
  · have e : b = j := by simpa [Value.ownBlock] using hj
    omega
  · obtain ⟨_, _, _, ai, ci, h6⟩ := t2 i hi
    exact ⟨ai, ci, h6⟩
end Go.Proofs.YtklcaphkfdlipaaGreatDoor

/- A drawn region that reads (no calls) before one writing operation. -/
set_option linter.unusedSimpArgs false
set_option linter.unusedVariables false
namespace Go.Proofs.YtklcaphkfdlipaaGreatDoor
open Go.RowKit
theorem Owns.drew {w : World} {lo hi e s n : Nat} {a : Option Addr} {c : Nat} {xs : List Value} (h : Owns w lo hi e s n a c xs) : Owns w.drew lo hi e s n a c xs := h.bel (B := hi) (Below.refl _ _).drew (Nat.le_refl _)
theorem wpStill_of_quiet {P : Program} {ops : Array Oper} {C : World → Prop} {Q : Act → Prop} {w : World} (hC : C w) : ∀ {l : List Oper} {a : Act}, (l.all fun o => opQuiet o.op) = true → wpQuiet P ops C Q l a → wpStill P ops w Q l a
  | [], a, _, h => h
  | o :: rest, a, hq, h => by
    simp only [List.all_cons, Bool.and_eq_true] at hq
    have h' : if Region.wanted o (yielded ops a.tmps) then o.quiet P a C (wpQuiet P ops C Q rest) else wpQuiet P ops C Q rest (a.put o.dst undef) := h
    show if Region.wanted o (yielded ops a.tmps) then o.still P a w (wpStill P ops w Q rest) else wpStill P ops w Q rest (a.put o.dst undef)
    split
    · rename_i hw
      rw [if_pos hw] at h'
      obtain ⟨v, hv, hn⟩ := h'
      have := hv w hC
      unfold Oper.quietAt at this
      unfold Oper.still
      generalize hr : (execOp a.eval o).run P w = res at this ⊢
      cases res with
      | halt x w1 => simp only [Oper.quietUpon] at this
      | ok n w1 =>
        obtain ⟨u, rfl⟩ := value_of_quiet hq.1 hr
        simp only [Oper.quietUpon] at this
        obtain ⟨rfl, rfl⟩ := this
        simp only [Oper.stillUpon]
        exact ⟨trivial, wpStill_of_quiet hC hq.2 hn⟩
    · rename_i hw
      rw [if_neg hw] at h'
      exact wpStill_of_quiet hC hq.2 h'
end Go.Proofs.YtklcaphkfdlipaaGreatDoor

/- The draws of words. -/
set_option linter.unusedSimpArgs false
set_option linter.unusedVariables false
namespace Go.Proofs.YtklcaphkfdlipaaGreatDoor
open Go.RowKit
/-- Texts of at most `z` bytes in a block. -/
def TxtZ (w : World) (b m z : Nat) : Prop := b < w.heap.size ∧ ∀ k, k < m → ∃ s : ByteArray, w.cell? ⟨b, k, none⟩ = some (.string s) ∧ s.size ≤ z
theorem TxtZ.keep {w w' : World} {g g' b m z : Nat} (h : TxtZ w b m z) (hb : Between g g' w w') (ho : b < g ∨ g' ≤ b) : TxtZ w' b m z := ⟨Nat.lt_of_lt_of_le h.1 hb.size, fun k hk => by
  obtain ⟨s, h1, h2⟩ := h.2 k hk
  exact ⟨s, (hb.cell (p := ⟨b, k, none⟩) h.1 ho).trans h1, h2⟩⟩
theorem TxtZ.bel {w w' : World} {b m z : Nat} (h : TxtZ w b m z) (hb : Below w.heap.size w w') : TxtZ w' b m z := ⟨Nat.lt_of_lt_of_le h.1 hb.size, fun k hk => by
  obtain ⟨s, h1, h2⟩ := h.2 k hk
  exact ⟨s, (hb.cell (p := ⟨b, k, none⟩) h.1).trans h1, h2⟩⟩
theorem TxtZ.alloc {w : World} {b m z : Nat} (h : TxtZ w b m z) (o : Obj) : TxtZ (w.alloc o) b m z := h.bel ((Below.refl _ _).alloc (Nat.le_refl _) o)
theorem TxtZ.after {w : World} {b m z g g' : Nat} (x : After w g g') (h : TxtZ w b m z) (ho : b < g ∨ g' ≤ b) : TxtZ x.w b m z := h.keep x.btw ho
def smallZ (z : Nat) : Value → Bool
  | .string s => decide (s.size ≤ z)
  | _ => false
theorem smallZ_of {z : Nat} {v : Value} (h : smallZ z v = true) : ∃ s : ByteArray, v = .string s ∧ s.size ≤ z := by
  cases v <;> simp [smallZ] at h
  exact ⟨_, rfl, h⟩
theorem TxtZ.made {w : World} {cs : Array Value} {e : TypeId} {n z : Nat} (hn : cs.size = n) (hs : cs.toList.all (smallZ z) = true) (h0 : 0 < n) : TxtZ (w.alloc (.cells cs e)) w.heap.size n z := by
  have hr : Row (w.alloc (.cells cs e)) (some ⟨w.heap.size, 0, none⟩) cs.toList := Row.madeAt (by first | rfl | simp only [World.size_alloc]) rfl
  refine ⟨by simp only [World.size_alloc]; omega, fun k hk => ?_⟩
  have hv : cs.toList[k]? = some cs[k] := by rw [Array.getElem?_toList, Array.getElem?_eq_getElem]
  obtain ⟨s, e1, e2⟩ := smallZ_of (List.all_eq_true.1 hs cs[k] (List.mem_of_getElem? hv))
  obtain ⟨b, o, he, hc⟩ := hr k _ hv
  cases he
  rw [Nat.zero_add, e1] at hc
  exact ⟨s, hc, e2⟩
/-- Some short text. -/
def RetTz (w : World) (g z : Nat) (e : Ending) (w' : World) : Prop :=
  ∃ s : ByteArray, s.size ≤ z ∧ e = .returned (.string s) ∧ ∃ z : After w g (g + 1), w' = z.w ∧ SrcOk z.w g
theorem RetTz.mk {w w' : World} {g z : Nat} {e : Ending} {s : ByteArray} (hc : s.size ≤ z) (he : e = .returned (.string s)) (hb : Between g (g + 1) w w') (hs : SrcOk w' g) : RetTz w g z e w' := ⟨s, hc, he, ⟨w', hb⟩, rfl, hs⟩
set_option maxRecDepth 8000 in
set_option maxHeartbeats 8000000 in
theorem wdGood_any (g : Nat) (w : World) (h : SrcOk w g) : Calls Tryz.prog 149 #[.pointer (some ⟨g, 0, none⟩)] w (RetTz w g 64) := by
  have hg := h.lt
  have hg' : g + 1 ≤ w.heap.size := hg
  have H0 := Lib.hid h
  clear h
  go_enter Tryz.func149, Tryz.ntmps149
  go_upto_region 1 with fail
  go_cut [3] from 1 to 22 (fun t3 wx => t3 = .slice (some ⟨w.heap.size, 0, none⟩) 16 16 ∧ TxtZ wx w.heap.size 16 4 ∧ Below w.heap.size w wx)
  case first =>
    go_wp2_with fail
    go_meet
    exact ⟨rfl, TxtZ.bel (TxtZ.made (w := w) (cs := #[.string ⟨#[97, 115, 104]⟩, .string ⟨#[102, 111, 114, 100]⟩, .string ⟨#[116, 111, 110]⟩, .string ⟨#[98, 121]⟩, .string ⟨#[107, 105, 114, 107]⟩, .string ⟨#[104, 97, 114]⟩, .string ⟨#[119, 105, 99, 107]⟩, .string ⟨#[101, 108, 121]⟩, .string ⟨#[111, 115]⟩, .string ⟨#[108, 111]⟩, .string ⟨#[98, 114, 105, 103]⟩, .string ⟨#[109, 97]⟩, .string ⟨#[114, 105]⟩, .string ⟨#[110, 97]⟩, .string ⟨#[115, 116]⟩, .string ⟨#[97, 101]⟩]) (e := 9) (n := 16) (z := 4) (by rfl) (by decide) (by decide)) bb, bb⟩
  case rest =>
    obtain ⟨rfl, hT, hbc⟩ := hcut
    have hcs := hbc.size
    have HW := Lib.hid (H0.out.below hbc hg)
    have hbl : Between g (g + 1) w wc := ⟨hbc.os, hbc.tape, hbc.output, hbc.size, fun k hk _ => hbc.block k hk⟩
    replace hbl := Lib.hid hbl
    have hTl := hT.1
    replace hT := Lib.hid hT
    clear hbc H0
    go_wp2_with fail
    with_reducible refine (next_any g 3 _ (by (repeat (first | (with_reducible exact HW.out) | (with_reducible refine SrcOk.alloc ?_ _) | (with_reducible refine SrcOk.set ?_ ?_ _) | (with_reducible refine SrcOk.drewN ?_ _) | (with_reducible refine SrcOk.drew ?_) | (with_reducible refine SrcOk.later _ ?_) | (with_reducible refine SrcOk.after _ ?_ ?_) | (dsimp only; omega) | omega | ((try simp only [World.size_alloc, World.size_setCell, World.size_drew]); omega))))).mono ?_
    rintro e w' ⟨t, hdraw, rfl, z1, rfl, hsrc⟩
    have hsz1 := z1.btw.size
    (try simp only [World.size_alloc, World.size_setCell, World.size_drew] at hsz1)
    have H1 := Lib.hid hsrc
    clear hsrc
    obtain ⟨t0, t1⟩ := hdraw
    obtain ⟨m0, rfl⟩ := Int.eq_ofNat_of_zero_le t0
    have hm3 : m0 < 3 := by omega
    have hT1 := Lib.hid (hT.out.after z1 (.inr hg'))
    go_wp2_with fail
    go_loopw [4, 5] (fun ov nv wr => ∃ (m : Nat) (o : ByteArray), o.size + 8 * m ≤ 64 ∧ nv = .int .i64 m ∧ ov = .string o ∧ TxtZ wr w.heap.size 16 4 ∧ SrcOk wr g ∧ Between g (g + 1) wc wr) (fun _ nv _ => (intOf nv).toNat)
    case atStart => exact ⟨m0 + 1, ⟨#[]⟩, by have : (ByteArray.mk #[]).size = 0 := rfl; omega, by go_num, rfl, hT1.out, H1.out, z1.btw⟩
    case round =>
      obtain ⟨m, o, hm, rfl, rfl, hT2, hs, hb⟩ := hrel
      obtain ⟨q, rfl⟩ := AfterC.mk hb
      have hqs := q.btw.size
      clear hb hT1 hT H1
      replace hs := Lib.hid hs
      replace hT2 := Lib.hid hT2
      by_cases hm0 : 0 < m
      · have hm1 : (0 : Int) < (m : Int) := by omega
        go_wp2_with fail
        with_reducible refine (next_any g 16 _ (by (repeat (first | (with_reducible exact hs.out) | (with_reducible refine SrcOk.alloc ?_ _) | (with_reducible refine SrcOk.set ?_ ?_ _) | (with_reducible refine SrcOk.drewN ?_ _) | (with_reducible refine SrcOk.drew ?_) | (with_reducible refine SrcOk.later _ ?_) | (with_reducible refine SrcOk.after _ ?_ ?_) | (dsimp only; omega) | omega | ((try simp only [World.size_alloc, World.size_setCell, World.size_drew]); omega))))).mono ?_
        rintro e w' ⟨x, hdraw, rfl, z3, rfl, hsrc⟩
        have hsz3 := z3.btw.size
        (try simp only [World.size_alloc, World.size_setCell, World.size_drew] at hsz3)
        have H3 := Lib.hid hsrc
        clear hsrc
        obtain ⟨x0, x1⟩ := hdraw
        obtain ⟨k, rfl⟩ := Int.eq_ofNat_of_zero_le x0
        have hk : k < 16 := by omega
        have hk1 : (k : Int) < 16 := by omega
        have hT3 := hT2.out.after z3 (.inr hg')
        obtain ⟨s, hsc, hs4⟩ := hT3.2 k hk
        have hov : o.size + s.size ≤ 9223372036854775807 := by omega
        have hov2 : o.size + s.size < 9223372036854775808 := by omega
        replace hT3 := Lib.hid hT3
        go_wp2_with fail
        go_roundw
        case rel => exact ⟨m - 1, o ++ s, by rw [ByteArray.size_append]; omega, by go_num, rfl, hT3.out, by (repeat (first | (with_reducible exact H3.out) | (with_reducible refine SrcOk.alloc ?_ _) | (with_reducible refine SrcOk.set ?_ ?_ _) | (with_reducible refine SrcOk.drewN ?_ _) | (with_reducible refine SrcOk.drew ?_) | (with_reducible refine SrcOk.later _ ?_) | (with_reducible refine SrcOk.after _ ?_ ?_) | (dsimp only; omega) | omega | ((try simp only [World.size_alloc, World.size_setCell, World.size_drew]); omega))), by (repeat (first | (with_reducible exact Between.refl _ _ _) | (with_reducible refine Between.drew ?_) | (with_reducible refine Between.drewN ?_ _) | (with_reducible refine btw_own ?_ ?_ _) | (with_reducible refine btw_later _ ?_) | (with_reducible refine btw_alloc ?_ _) | (with_reducible refine btw_after _ ?_) | (with_reducible refine btw_beyond _ ?_ ?_) | (with_reducible refine Aft.btw _ ?_ ?_) | (with_reducible assumption) | (dsimp only; omega) | omega | ((try simp only [World.size_alloc, World.size_setCell, World.size_drew]); omega)))⟩
        case measure => first | (simp [intOf]; done) | (simp [intOf]; omega) | omega
      · obtain rfl : m = 0 := by omega
        go_wp2_with fail
        go_ret
        exact RetTz.mk (by omega) rfl (hbl.out.trans q.btw) hs.out
set_option maxRecDepth 8000 in
set_option maxHeartbeats 8000000 in
theorem drawWord_any (g : Nat) (w : World) (h : SrcOk w g) : Calls Tryz.prog 122 #[.pointer (some ⟨g, 0, none⟩)] w (RetTz w g 64) := by
  have hg := h.lt
  have hg' : g + 1 ≤ w.heap.size := hg
  have H0 := Lib.hid h
  clear h
  go_enter Tryz.func122, Tryz.ntmps122
  go_wp2_with fail
  with_reducible refine (next_any g 30 _ (by (repeat (first | (with_reducible exact H0.out) | (with_reducible refine SrcOk.alloc ?_ _) | (with_reducible refine SrcOk.set ?_ ?_ _) | (with_reducible refine SrcOk.drewN ?_ _) | (with_reducible refine SrcOk.drew ?_) | (with_reducible refine SrcOk.later _ ?_) | (with_reducible refine SrcOk.after _ ?_ ?_) | (dsimp only; omega) | omega | ((try simp only [World.size_alloc, World.size_setCell, World.size_drew]); omega))))).mono ?_
  rintro e w' ⟨t, hdraw, rfl, z1, rfl, hsrc⟩
  have hsz1 := z1.btw.size
  (try simp only [World.size_alloc, World.size_setCell, World.size_drew] at hsz1)
  have H1 := Lib.hid hsrc
  clear hsrc
  obtain ⟨t0, t1⟩ := hdraw
  by_cases ht : t = 0
  · subst ht
    have hT := Lib.hid (TxtZ.made (w := z1.w) (cs := #[.string ⟨#[]⟩, .string ⟨#[70, 111, 114, 100]⟩, .string ⟨#[97, 49]⟩, .string ⟨#[97, 98, 99, 100, 101, 102, 103, 104, 105, 106, 107, 108, 109, 110, 111, 112]⟩, .string ⟨#[97, 98, 99, 100, 101, 102, 103, 104, 105, 106, 107, 108, 109, 110, 111, 112, 113]⟩, .string ⟨#[97, 32, 98]⟩]) (e := 9) (n := 6) (z := 64) (by rfl) (by decide) (by decide))
    go_wp2_with fail
    with_reducible refine (next_any g 6 _ (by (repeat (first | (with_reducible exact H1.out) | (with_reducible refine SrcOk.alloc ?_ _) | (with_reducible refine SrcOk.set ?_ ?_ _) | (with_reducible refine SrcOk.drewN ?_ _) | (with_reducible refine SrcOk.drew ?_) | (with_reducible refine SrcOk.later _ ?_) | (with_reducible refine SrcOk.after _ ?_ ?_) | (dsimp only; omega) | omega | ((try simp only [World.size_alloc, World.size_setCell, World.size_drew]); omega))))).mono ?_
    rintro e w' ⟨x, hdraw, rfl, z3, rfl, hsrc⟩
    have hsz3 := z3.btw.size
    (try simp only [World.size_alloc, World.size_setCell, World.size_drew] at hsz3)
    have H3 := Lib.hid hsrc
    clear hsrc
    obtain ⟨x0, x1⟩ := hdraw
    obtain ⟨k, rfl⟩ := Int.eq_ofNat_of_zero_le x0
    have hk : k < 6 := by omega
    have hk1 : (k : Int) < 6 := by omega
    have hT3 := hT.out.after z3 (.inr (by omega))
    obtain ⟨s, hsc, hs4⟩ := hT3.2 k hk
    have hlt := hT3.1
    clear hT
    go_wp2_with fail
    go_ret
    exact RetTz.mk hs4 rfl (by (repeat (first | (with_reducible exact Between.refl _ _ _) | (with_reducible refine Between.drew ?_) | (with_reducible refine Between.drewN ?_ _) | (with_reducible refine btw_own ?_ ?_ _) | (with_reducible refine btw_later _ ?_) | (with_reducible refine btw_alloc ?_ _) | (with_reducible refine btw_after _ ?_) | (with_reducible refine btw_beyond _ ?_ ?_) | (with_reducible refine Aft.btw _ ?_ ?_) | (with_reducible assumption) | (dsimp only; omega) | omega | ((try simp only [World.size_alloc, World.size_setCell, World.size_drew]); omega)))) (by (repeat (first | (with_reducible exact H3.out) | (with_reducible refine SrcOk.alloc ?_ _) | (with_reducible refine SrcOk.set ?_ ?_ _) | (with_reducible refine SrcOk.drewN ?_ _) | (with_reducible refine SrcOk.drew ?_) | (with_reducible refine SrcOk.later _ ?_) | (with_reducible refine SrcOk.after _ ?_ ?_) | (dsimp only; omega) | omega | ((try simp only [World.size_alloc, World.size_setCell, World.size_drew]); omega))))
  · have e0 : (t == 0) = false := by simpa using ht
    go_wp2_with fail
    with_reducible refine (wdGood_any g _ (by (repeat (first | (with_reducible exact H1.out) | (with_reducible refine SrcOk.alloc ?_ _) | (with_reducible refine SrcOk.set ?_ ?_ _) | (with_reducible refine SrcOk.drewN ?_ _) | (with_reducible refine SrcOk.drew ?_) | (with_reducible refine SrcOk.later _ ?_) | (with_reducible refine SrcOk.after _ ?_ ?_) | (dsimp only; omega) | omega | ((try simp only [World.size_alloc, World.size_setCell, World.size_drew]); omega))))).mono ?_
    rintro e w' ⟨s, hs, rfl, z3, rfl, hsrc⟩
    have H3 := Lib.hid hsrc
    have hs3 := z3.btw.size
    clear hsrc
    go_wp2_with fail
    go_ret
    exact RetTz.mk hs rfl (by (repeat (first | (with_reducible exact Between.refl _ _ _) | (with_reducible refine Between.drew ?_) | (with_reducible refine Between.drewN ?_ _) | (with_reducible refine btw_own ?_ ?_ _) | (with_reducible refine btw_later _ ?_) | (with_reducible refine btw_alloc ?_ _) | (with_reducible refine btw_after _ ?_) | (with_reducible refine btw_beyond _ ?_ ?_) | (with_reducible refine Aft.btw _ ?_ ?_) | (with_reducible assumption) | (dsimp only; omega) | omega | ((try simp only [World.size_alloc, World.size_setCell, World.size_drew]); omega)))) (by (repeat (first | (with_reducible exact H3.out) | (with_reducible refine SrcOk.alloc ?_ _) | (with_reducible refine SrcOk.set ?_ ?_ _) | (with_reducible refine SrcOk.drewN ?_ _) | (with_reducible refine SrcOk.drew ?_) | (with_reducible refine SrcOk.later _ ?_) | (with_reducible refine SrcOk.after _ ?_ ?_) | (dsimp only; omega) | omega | ((try simp only [World.size_alloc, World.size_setCell, World.size_drew]); omega))))
end Go.Proofs.YtklcaphkfdlipaaGreatDoor

/- A drawn region, whatever the order: an invariant in the place of the orders. Each operation is proved once, in every state in which it can come up. -/
set_option linter.unusedSimpArgs false
set_option linter.unusedVariables false
namespace Go.Proofs.YtklcaphkfdlipaaGreatDoor
open Go.RowKit
/-- The act once each operation has put what `x` says. -/
def putAll : List Oper → Nat → (Nat → Value) → Act → Act
  | [], _, _, a => a
  | o :: l, k, x, a => putAll l (k + 1) x (a.put o.dst (x k))
/-- No two operations write the same slot. -/
def apartI : List Oper → Bool
  | [] => true
  | o :: l => (match o.dst with | some d => l.all fun o' => o'.dst != some d | none => true) && apartI l
theorem put_put (a : Act) (d : Option Tmp) (u v : Value) : (a.put d u).put d v = a.put d v := by
  cases d with
  | none => rfl
  | some d => simp [Act.put]
theorem put_comm (a : Act) {d e : Option Tmp} (h : d ≠ e) (u v : Value) : (a.put d u).put e v = (a.put e v).put d u := by
  cases d with
  | none => rfl
  | some d =>
    cases e with
    | none => rfl
    | some e =>
      have hne : d ≠ e := fun he => h (by rw [he])
      simp only [Act.put]
      rw [Array.setIfInBounds_comm _ _ hne]
theorem put_self (a : Act) (d : Option Tmp) : ∃ v, a.put d v = a := by
  cases d with
  | none => exact ⟨undef, rfl⟩
  | some d =>
    refine ⟨a.tmps.getD d undef, ?_⟩
    simp only [Act.put]
    congr 1
    apply Array.ext
    · simp
    · intro i h1 h2
      rw [Array.getElem_setIfInBounds (by simpa using h1)]
      split
      · rename_i h; subst h; simp [Array.getD, h2]
      · rfl
theorem putAll_self (a : Act) : ∀ (l : List Oper) (k : Nat), ∃ x, putAll l k x a = a
  | [], k => ⟨fun _ => undef, rfl⟩
  | o :: l, k => by
    obtain ⟨v, hv⟩ := put_self a o.dst
    obtain ⟨x, hx⟩ := putAll_self a l (k + 1)
    refine ⟨fun j => if j = k then v else x j, ?_⟩
    have e : ∀ (l : List Oper) (k' : Nat) (b : Act), k < k' → putAll l k' (fun j => if j = k then v else x j) b = putAll l k' x b := by
      intro l
      induction l with
      | nil => intro k' b _; rfl
      | cons o l ih =>
        intro k' b hk
        simp only [putAll]
        rw [if_neg (by omega), ih _ _ (by omega)]
    simp only [putAll, if_true]
    rw [hv, e _ _ _ (by omega), hx]
theorem putAll_agree {x y : Nat → Value} : ∀ (l : List Oper) (k : Nat) (a : Act), (∀ j, k ≤ j → x j = y j) → putAll l k x a = putAll l k y a
  | [], _, _, _ => rfl
  | o :: l, k, a, h => by
    simp only [putAll]
    rw [h k (Nat.le_refl _), putAll_agree l (k + 1) _ fun j hj => h j (by omega)]
theorem putAll_put {d : Option Tmp} {v : Value} {x : Nat → Value} : ∀ (l : List Oper) (k : Nat) (a : Act), (∀ o ∈ l, o.dst ≠ d ∨ d = none) → (putAll l k x a).put d v = putAll l k x (a.put d v)
  | [], _, _, _ => rfl
  | o :: l, k, a, h => by
    simp only [putAll]
    rw [putAll_put l (k + 1) _ fun o' ho' => h o' (by simp [ho'])]
    rcases h o (by simp) with h1 | h1
    · rw [put_comm _ h1]
    · subst h1; rfl
theorem putAll_at {v : Value} {x : Nat → Value} : ∀ (l : List Oper) (k i : Nat) (o : Oper) (a : Act), apartI l = true → l[i]? = some o → (putAll l k x a).put o.dst v = putAll l k (fun j => if j = k + i then v else x j) a
  | [], _, _, _, _, _, h => by simp at h
  | o' :: l, k, 0, o, a, hap, h => by
    obtain rfl : o' = o := by simpa using h
    simp only [apartI, Bool.and_eq_true] at hap
    simp only [putAll, Nat.add_zero, if_true]
    rw [putAll_put, put_put]
    · exact putAll_agree _ _ _ fun j hj => by rw [if_neg (by omega)]
    · intro q hq
      cases hd : o'.dst with
      | none => exact .inr rfl
      | some d =>
        rw [hd] at hap
        have := List.all_eq_true.1 hap.1 q hq
        exact .inl (by simpa using this)
  | o' :: l, k, i + 1, o, a, hap, h => by
    simp only [apartI, Bool.and_eq_true] at hap
    simp only [putAll]
    rw [putAll_at l (k + 1) i o _ hap.2 (by simpa using h), if_neg (by omega)]
    congr 1
    funext j
    rw [show k + 1 + i = k + (i + 1) by omega]
section
variable {P : Program}
/-- What each operation owes. -/
def owesAll (P : Program) (ops : Array Oper) (Q : Exit → Act → World → Prop) (C : World → Prop) (Ev : World → World → Prop) (Φ : Nat → Value → World → Prop) (L J : Nat) (Ψ : Value → World → Prop) (A : (Nat → Value) → Act) : List Oper → Nat → Prop
  | [], _ => True
  | o :: l, k => (∀ x w, C w → (∀ e ∈ o.after, Region.binds .any e = true → Φ e.on (x e.on) w) → wpOp P ops Q k (fun a' w' => ∃ v, a' = (A x).put o.dst v ∧ C w' ∧ Ev w w' ∧ Φ k v w' ∧ (k = L → Ψ (x J) w')) (A x) w) ∧ owesAll P ops Q C Ev Φ L J Ψ A l (k + 1)
theorem owes_at {ops : Array Oper} {Q : Exit → Act → World → Prop} {C : World → Prop} {Ev : World → World → Prop} {Φ : Nat → Value → World → Prop} {L J : Nat} {Ψ : Value → World → Prop} {A : (Nat → Value) → Act} : ∀ (l : List Oper) (k i : Nat) (o : Oper), owesAll P ops Q C Ev Φ L J Ψ A l k → l[i]? = some o →
    ∀ x w, C w → (∀ e ∈ o.after, Region.binds .any e = true → Φ e.on (x e.on) w) → wpOp P ops Q (k + i) (fun a' w' => ∃ v, a' = (A x).put o.dst v ∧ C w' ∧ Ev w w' ∧ Φ (k + i) v w' ∧ (k + i = L → Ψ (x J) w')) (A x) w
  | [], _, _, _, _, h => by simp at h
  | o' :: l, k, 0, o, hw, h => by
    obtain rfl : o' = o := by simpa using h
    exact hw.1
  | o' :: l, k, i + 1, o, hw, h => by
    have := owes_at l (k + 1) i o hw.2 (by simpa using h)
    rwa [show k + 1 + i = k + (i + 1) by omega] at this
/-- Each operation waits for earlier ones only. -/
def backB : List Oper → Nat → Bool
  | [], _ => true
  | o :: l, k => (o.after.all fun e => !Region.binds .any e || decide (e.on < k)) && backB l (k + 1)
theorem back_at : ∀ (l : List Oper) (k i : Nat) (o : Oper), backB l k = true → l[i]? = some o → ∀ e ∈ o.after, Region.binds .any e = true → e.on < k + i
  | [], _, _, _, _, h => by simp at h
  | o' :: l, k, 0, o, hb, h => by
    obtain rfl : o' = o := by simpa using h
    intro e he hbi
    simp only [backB, Bool.and_eq_true, Array.all_eq_true_iff_forall_mem] at hb
    have := hb.1 e he
    rw [hbi] at this
    simpa using this
  | o' :: l, k, i + 1, o, hb, h => by
    simp only [backB, Bool.and_eq_true] at hb
    have := back_at l (k + 1) i o hb.2 (by simpa using h)
    rwa [show k + 1 + i = k + (i + 1) by omega] at this
theorem cnt_lt {p q : Nat → Bool} {i : Nat} (hp : p i = true) (hq : q i = false) (h : ∀ j, q j = true → p j = true) : ∀ (l : List Nat), i ∈ l → l.countP q < l.countP p
  | [], hi => by simp at hi
  | a :: l, hi => by
    have hle : l.countP q ≤ l.countP p := List.countP_mono_left fun x _ => h x
    rw [List.countP_cons, List.countP_cons]
    by_cases ha : a = i
    · subst ha
      rw [hp, hq]
      simp
      omega
    · have h1 := cnt_lt hp hq h l (by simpa [Ne.symm ha] using hi)
      have h2 := h a
      cases hqa : q a
      · cases hpa : p a <;> simp <;> omega
      · rw [h2 hqa]; simp; omega
theorem getD_in2 {listed : Array Bool} {j n : Nat} (hs : listed.size = n) (hj : j < n) (b : Bool) : listed.getD j b = listed[j]'(by omega) := by
  rw [Array.getD, dif_pos (by omega)]; rfl
/-- The operation L waits for J (or there is no L). -/
def waitsB (l : List Oper) (L J : Nat) : Bool := match l[L]? with | none => true | some o => J != L && o.after.any fun e => e.on == J && Region.binds .any e
set_option maxHeartbeats 1000000 in
/-- Each operation comes up, in whatever order, where those it waits for are done. -/
theorem wp_region_inv {id : Nat} {Q : Exit → Act → World → Prop} {a : Act} {W : World} {l : List Oper} (C : World → Prop) (Ev : World → World → Prop) (Φ : Nat → Value → World → Prop) (L J : Nat) (Ψ : Value → World → Prop) (hLJ : waitsB l L J = true) (hm : P.follows .mixedOrders = true) (hap : apartI l = true) (hbk : backB l 0 = true)
    (hC : C W.drew) (hst : ∀ i v w w', Ev w w' → Φ i v w → Φ i v w') (hstΨ : ∀ v w w', Ev w w' → Ψ v w → Ψ v w') (hop : owesAll P l.toArray Q C Ev Φ L J Ψ (fun x => putAll l 0 x a) l 0)
    (hend : ∀ x w, C w → (∀ i, i < l.length → Φ i (x i) w) → (L < l.length → Ψ (x J) w) → Q .normal (putAll l 0 x a) w) : (Code.region id l.toArray true).wp P Q a W := by
  have hfull : ∀ listed : Array Bool, listed.size = l.length → Region.ready .any l.toArray listed = [] → ∀ i, i < l.length → listed.getD i true = true := by
    intro listed hs h0 i
    induction i using Nat.strongRecOn with
    | _ i ih =>
      intro hi
      by_cases h1 : listed.getD i true = true
      · exact h1
      · exfalso
        have ho : l.toArray[i]? = some l[i] := by simp [hi]
        have hmem : i ∈ Region.ready .any l.toArray listed := mem_ready.2 ⟨by simpa using h1, l[i], ho, fun e he hb => by
          have h2 := back_at l 0 i l[i] hbk (by simp [hi]) e he hb
          rw [Nat.zero_add] at h2
          have h3 := ih e.on h2 (by omega)
          rw [getD_in2 hs (by omega)] at h3 ⊢
          exact h3⟩
        rw [h0] at hmem
        cases hmem
  have key : ∀ (f : Nat) (listed : Array Bool) (a' : Act) (w : World), listed.size = l.length → C w → (∃ x, a' = putAll l 0 x a ∧ (∀ i, i < l.length → listed.getD i true = true → Φ i (x i) w) ∧ (L < l.length → listed.getD L true = true → Ψ (x J) w ∧ listed.getD J true = true)) →
      (List.range l.length).countP (fun i => !listed.getD i true) ≤ f → wpAny P .any l.toArray Q f listed a' w := by
    intro f
    induction f with
    | zero =>
      rintro listed a' w hs hCw ⟨x, rfl, hx, hxL⟩ hf
      have hno : ∀ i, i < l.length → listed.getD i true = true := fun i hi => by
        have h0 := List.countP_eq_zero.1 (Nat.le_zero.1 hf) i (by simpa using hi)
        simpa using h0
      refine ⟨?_, hend x w hCw (fun i hi => hx i hi (hno i hi)) fun hL => (hxL hL (hno L hL)).1⟩
      unfold Region.ready
      rw [List.filter_eq_nil_iff]
      intro i hi
      rw [hno i (by simpa using hi)]
      simp
    | succ f ih =>
      rintro listed a' w hs hCw ⟨x, rfl, hx, hxL⟩ hf
      refine ⟨fun h0 => hend x w hCw (fun i hi => hx i hi (hfull listed hs h0 i hi)) (fun hL => (hxL hL (hfull listed hs h0 L hL)).1), fun i hi => ?_⟩
      obtain ⟨hun, o, ho, hdeps⟩ := mem_ready.1 hi
      have hil : i < l.length := by
        have := (Array.getElem?_eq_some_iff.1 ho).1
        simpa using this
      have ho' : l[i]? = some o := by simpa using ho
      have H := owes_at l 0 i o hop ho' x w hCw fun e he hb => by
        have h1 := hdeps e he hb
        have h2 : e.on < l.length := by
          rcases Nat.lt_or_ge e.on l.length with h3 | h3
          · exact h3
          · rw [Array.getD, dif_neg (by omega)] at h1; cases h1
        rw [getD_in2 hs h2] at h1
        exact hx _ h2 (by rw [getD_in2 hs h2]; exact h1)
      rw [Nat.zero_add] at H
      refine wpOp_mono ?_ H
      rintro a' w' ⟨v, rfl, hC', hEv, hv, hvL⟩
      refine ih _ _ _ (by simpa using hs) hC' ⟨fun j => if j = i then v else x j, ?_, fun j hj hlj => ?_, fun hL hlL => ?_⟩ ?_
      · have := putAll_at (v := v) (x := x) l 0 i o a hap ho'
        rw [Nat.zero_add] at this
        exact this
      · by_cases hji : j = i
        · subst hji; simpa using hv
        · simp only [if_neg hji]
          refine hst _ _ _ _ hEv (hx j hj ?_)
          rwa [getD_set_ne true (Ne.symm hji)] at hlj
      · have hJ : J ≠ L ∧ ∃ e ∈ (l[L]'hL).after, e.on = J ∧ Region.binds .any e = true := by
          unfold waitsB at hLJ
          rw [List.getElem?_eq_getElem hL] at hLJ
          simp only [Bool.and_eq_true, bne_iff_ne, ne_eq] at hLJ
          refine ⟨hLJ.1, ?_⟩
          have h9 := hLJ.2
          rw [← Array.any_toList, List.any_eq_true] at h9
          obtain ⟨e, he, hc⟩ := h9
          simp only [Bool.and_eq_true, beq_iff_eq] at hc
          exact ⟨e, by simpa using he, hc.1, hc.2⟩
        obtain ⟨hJL, e, he, heJ, heb⟩ := hJ
        by_cases hLi : L = i
        · subst hLi
          have ho2 : l[L]'hL = o := by
            rw [List.getElem?_eq_getElem hL] at ho'
            exact Option.some.inj ho'
          rw [ho2] at he
          have h1 := hdeps e he heb
          rw [heJ] at h1
          have h2 : J < l.length := by
            rcases Nat.lt_or_ge J l.length with h3 | h3
            · exact h3
            · rw [Array.getD, dif_neg (by omega)] at h1; cases h1
          simp only [if_neg hJL]
          refine ⟨hvL rfl, ?_⟩
          rw [getD_set_ne true (Ne.symm hJL)]
          rw [getD_in2 hs h2] at h1 ⊢
          exact h1
        · rw [getD_set_ne true (Ne.symm hLi)] at hlL
          obtain ⟨p1, p2⟩ := hxL hL hlL
          by_cases hJi : J = i
          · subst hJi
            have : listed.getD J true = false := by simpa using hun
            rw [this] at p2; cases p2
          · simp only [if_neg hJi]
            refine ⟨hstΨ _ _ _ hEv p1, ?_⟩
            rw [getD_set_ne true (Ne.symm hJi)]; exact p2
      · have h1 := cnt_lt (p := fun i => !listed.getD i true) (q := fun j => !(listed.setIfInBounds i true).getD j true) (i := i) (by simpa using hun) (by rw [getD_in2 (n := l.length) (by simpa using hs) hil]; simp) (fun j hj => by
          by_cases hji : j = i
          · subst hji; simpa using hun
          · rwa [getD_set_ne true (Ne.symm hji)] at hj) (List.range l.length) (by simpa using hil)
        omega
  have hlen : l.toArray.size = l.length := by simp
  obtain ⟨x0, hx0⟩ := putAll_self a l 0
  refine wp_region_any hm ?_
  rw [hlen]
  refine key _ _ _ _ (by simp) hC ⟨x0, hx0.symm, fun i hi hl => ?_, fun hL hl => ?_⟩ ?_
  · rw [getD_in2 (n := l.length) (by simp) hi] at hl
    simp at hl
  · rw [getD_in2 (n := l.length) (by simp) hL] at hl
    simp at hl
  · exact Nat.le_trans (List.countP_le_length) (by simp)
end
end Go.Proofs.YtklcaphkfdlipaaGreatDoor
