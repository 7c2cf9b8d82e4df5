import Derived.Test.YtemfhcmeeldngaaGreatDoorSgn
import Derived.Test.YtemfhcmeeldngaaGreatDoorPackPc
import Derived.Test.YtemfhcmeeldngaaGreatDoorPackPe
/- Tables that draws make: the rules in a row of one's own, their signs in other blocks. -/
set_option linter.unusedSimpArgs false
set_option linter.unusedVariables false
namespace Go.Proofs.YtemfhcmeeldngaaGreatDoor
open Go.RowKit
/-- A small rule. -/
structure SmR (r : Rul) : Prop where
  s : r.sg.length ≤ 64
  t : r.rom.size ≤ 64
theorem SmR.ok {r : Rul} (h : SmR r) : RulOk r := ⟨by have := h.s; omega, by have := h.t; omega⟩
def ruleV (ai : Option Addr) (ci : Nat) (r : Rul) : List Value := [.slice ai r.sg.length ci, .string r.rom]
theorem one_ruleV (ai : Option Addr) (ci : Nat) (r : Rul) : ∀ u ∈ ruleV ai ci r, u.oneCell' = true := by
  intro u hu
  simp only [ruleV, List.mem_cons, List.not_mem_nil, or_false] at hu
  rcases hu with rfl | rfl <;> rfl
/-- The rules' values and signs in memory from `lo` on, outside the block of `a`. -/
def RowsV (w : World) (lo : Nat) (a : Option Addr) (T : List Rul) (vs : List Value) : Prop :=
  ∀ i (h : i < T.length), ∃ ai ci, vs[i * 2]? = some (.slice ai T[i].sg.length ci) ∧ vs[i * 2 + 1]? = some (.string T[i].rom) ∧ Row w ai (intCells T[i].sg) ∧ T[i].sg.length ≤ ci ∧ ci ≤ maxLen ∧ ∀ p : Addr, ai = some p → lo ≤ p.block ∧ p.block < w.heap.size ∧ ∀ q : Addr, a = some q → p.block ≠ q.block
structure GTab (w : World) (lo : Nat) (T : List Rul) (a : Option Addr) (n c : Nat) : Prop where
  len : T.length = n
  ok : ∀ r ∈ T, SmR r
  own : ∃ vs, w.ownsRow lo 57 2 (.slice a n c) n vs ∧ RowsV w lo a T vs
theorem GTab.cap {w : World} {lo n c : Nat} {T : List Rul} {a : Option Addr} (h : GTab w lo T a n c) : n ≤ c ∧ c ≤ maxLen := by
  obtain ⟨vs, h1, _⟩ := h.own
  exact ownsRow_cap h1
theorem GTab.rules {w : World} {lo n c : Nat} {T : List Rul} {a : Option Addr} (h : GTab w lo T a n c) : RulesR w a T := fun i hi => by
  obtain ⟨vs, h1, h2⟩ := h.own
  obtain ⟨ai, ci, e1, e2, e3, e4, e5, _⟩ := h2 i hi
  have hr := Row.of_own h1
  obtain ⟨b, o, rfl, q0⟩ := hr (i * 2) _ e1
  obtain ⟨b', o', e, q1⟩ := hr (i * 2 + 1) _ e2
  cases e
  exact ⟨b, o, ai, ci, rfl, World.block_lt_of_cell? w _ q0, q0, by rw [Nat.add_assoc]; exact q1, e3, e4, e5⟩
theorem GTab.nil {w : World} {lo c : Nat} {a : Option Addr} (h : w.ownsRow lo 57 2 (.slice a 0 c) 0 []) : GTab w lo [] a 0 c := ⟨rfl, (fun r hr => by cases hr), [], h, fun i hi => absurd hi (by simp)⟩
theorem GTab.wide {w : World} {lo lo' n c : Nat} {T : List Rul} {a : Option Addr} (h : GTab w lo T a n c) (hl : lo' ≤ lo) : GTab w lo' T a n c := by
  obtain ⟨h1, h2, vs, h3, h4⟩ := h
  refine ⟨h1, h2, vs, own_mono h3 hl, fun i hi => ?_⟩
  obtain ⟨ai, ci, e1, e2, e3, e4, e5, e6⟩ := h4 i hi
  exact ⟨ai, ci, e1, e2, e3, e4, e5, fun p hp => ⟨by have := (e6 p hp).1; omega, (e6 p hp).2⟩⟩
theorem GTab.keep {w w' : World} {lo g g' n c : Nat} {T : List Rul} {a : Option Addr} (h : GTab w lo T a n c) (hb : Between g g' w w') (hg : g' ≤ lo) : GTab w' lo T a n c := by
  obtain ⟨h1, h2, vs, h3, h4⟩ := h
  refine ⟨h1, h2, vs, own_btw h3 hb fun k hk => .inr (by have := (h3.lt k hk).1; omega), fun i hi => ?_⟩
  obtain ⟨ai, ci, e1, e2, e3, e4, e5, e6⟩ := h4 i hi
  exact ⟨ai, ci, e1, e2, e3.btw hb (fun p hp => .inr (by have := (e6 p hp).1; omega)), e4, e5, fun p hp => ⟨(e6 p hp).1, by have := (e6 p hp).2.1; have := hb.size; omega, (e6 p hp).2.2⟩⟩
theorem GTab.bel {w w' : World} {lo n c : Nat} {T : List Rul} {a : Option Addr} (h : GTab w lo T a n c) (hb : Below w.heap.size w w') : GTab w' lo T a n c := by
  obtain ⟨h1, h2, vs, h3, h4⟩ := h
  refine ⟨h1, h2, vs, own_bel h3 hb, fun i hi => ?_⟩
  obtain ⟨ai, ci, e1, e2, e3, e4, e5, e6⟩ := h4 i hi
  exact ⟨ai, ci, e1, e2, e3.bel hb, e4, e5, fun p hp => ⟨(e6 p hp).1, Nat.lt_of_lt_of_le (e6 p hp).2.1 hb.size, (e6 p hp).2.2⟩⟩
/-- A rule more, behind an append. -/
theorem GTab.snoc {w w' : World} {lo n c c' gg gg' : Nat} {T : List Rul} {a a' : Option Addr} {vs : List Value} {r : Rul} {ai : Option Addr} {ci : Nat} (hl : T.length = n) (hok : ∀ r ∈ T, SmR r) (hv : RowsV w lo a T vs) (hvl : vs.length = n * 2)
    (hgo : ∀ k, gg ≤ k → k < gg' → ∃ p : Addr, a = some p ∧ p.block = k) (hb : Between gg gg' w w') (ho : w'.ownsRow gg 57 2 (.slice a' (n + 1) c') (n + 1) (vs ++ ruleV ai ci r)) (hlo : lo ≤ gg) (hat : ∀ p : Addr, a' = some p → p.block < gg' ∨ w.heap.size ≤ p.block)
    (hr : SmR r) (hrow : Row w ai (intCells r.sg)) (h1 : r.sg.length ≤ ci) (h2 : ci ≤ maxLen) (hai : ∀ p : Addr, ai = some p → lo ≤ p.block ∧ p.block < w.heap.size ∧ ∀ q : Addr, a = some q → p.block ≠ q.block) : GTab w' lo (T ++ [r]) a' (n + 1) c' := by
  have hfar : ∀ (x : Option Addr), (∀ p : Addr, x = some p → lo ≤ p.block ∧ p.block < w.heap.size ∧ ∀ q : Addr, a = some q → p.block ≠ q.block) → ∀ p : Addr, x = some p → (p.block < gg ∨ gg' ≤ p.block) ∧ lo ≤ p.block ∧ p.block < w'.heap.size ∧ ∀ q : Addr, a' = some q → p.block ≠ q.block := fun x hx p hp => by
    obtain ⟨k1, k2, k3⟩ := hx p hp
    have k4 : p.block < gg ∨ gg' ≤ p.block := by
      rcases Nat.lt_or_ge p.block gg with h | h
      · exact .inl h
      · rcases Nat.lt_or_ge p.block gg' with h' | h'
        · obtain ⟨q, e1, e2⟩ := hgo p.block h h'
          exact absurd e2.symm (k3 q e1)
        · exact .inr h'
    refine ⟨k4, k1, Nat.lt_of_lt_of_le k2 hb.size, fun q hq => ?_⟩
    have h5 := hat q hq
    subst hq
    have h6 := (ho.lt q.block rfl).1
    omega
  refine ⟨by simp [hl], fun x hx => ?_, vs ++ ruleV ai ci r, own_mono ho hlo, fun i hi => ?_⟩
  · rcases List.mem_append.1 hx with h | h
    · exact hok x h
    · rw [List.mem_singleton.1 h]; exact hr
  · simp only [List.length_append, List.length_cons, List.length_nil] at hi
    rcases Nat.lt_or_ge i T.length with h | h
    · obtain ⟨ax, cx, e1, e2, e3, e4, e5, e6⟩ := hv i h
      rw [List.getElem_append_left h]
      have hf := hfar ax e6
      exact ⟨ax, cx, by rw [List.getElem?_append_left (by omega)]; exact e1, by rw [List.getElem?_append_left (by omega)]; exact e2, e3.btw hb fun p hp => (hf p hp).1, e4, e5, fun p hp => (hf p hp).2⟩
    · obtain rfl : i = T.length := by omega
      have e : (T ++ [r])[T.length] = r := by simp
      rw [e]
      have hf := hfar ai hai
      exact ⟨ai, ci, by rw [List.getElem?_append_right (by omega), hvl, hl, Nat.sub_self]; rfl, by rw [List.getElem?_append_right (by omega), hvl, hl, show n * 2 + 1 - n * 2 = 1 by omega]; rfl, hrow.btw hb fun p hp => (hf p hp).1, h1, h2, fun p hp => (hf p hp).2⟩
/-- The values of a table for reading. -/
theorem RulesR.vals {w : World} {a : Option Addr} {T : List Rul} (h : RulesR w a T) : ∃ vs : List Value, vs.length = T.length * 2 ∧ Row w a vs ∧ (∀ u ∈ vs, u.oneCell' = true) ∧ ∀ i (hi : i < T.length), ∃ ai ci, vs[i * 2]? = some (.slice ai T[i].sg.length ci) ∧ vs[i * 2 + 1]? = some (.string T[i].rom) ∧ Row w ai (intCells T[i].sg) ∧ T[i].sg.length ≤ ci ∧ ci ≤ maxLen := by
  have key : ∀ k, k ≤ T.length → ∃ vs : List Value, vs.length = k * 2 ∧ Row w a vs ∧ (∀ u ∈ vs, u.oneCell' = true) ∧ ∀ i (hi : i < T.length), i < k → ∃ ai ci, vs[i * 2]? = some (.slice ai T[i].sg.length ci) ∧ vs[i * 2 + 1]? = some (.string T[i].rom) ∧ Row w ai (intCells T[i].sg) ∧ T[i].sg.length ≤ ci ∧ ci ≤ maxLen := by
    intro k
    induction k with
    | zero => exact fun _ => ⟨[], rfl, (fun j v hj => by simp at hj), (fun u hu => by cases hu), fun i _ h => absurd h (by omega)⟩
    | succ k ih =>
      intro hk
      obtain ⟨vs, h1, h2, h3, h4⟩ := ih (by omega)
      obtain ⟨b, o, ai, ci, rfl, hb, q0, q1, q2, q3, q4⟩ := h.at_ (show k < T.length by omega)
      refine ⟨vs ++ ruleV ai ci T[k], by simp [ruleV, h1]; omega, fun j v hj => ?_, fun u hu => ?_, fun i hi hik => ?_⟩
      · rcases Nat.lt_or_ge j vs.length with hlt | hge
        · rw [List.getElem?_append_left hlt] at hj
          exact h2 j v hj
        · rw [List.getElem?_append_right hge] at hj
          have hj2 : j - vs.length < 2 := (List.getElem?_eq_some_iff.1 hj).1
          rcases (show j - vs.length = 0 ∨ j - vs.length = 1 by omega) with e | e
          · rw [e] at hj
            have : v = .slice ai T[k].sg.length ci := by simpa [ruleV] using hj.symm
            subst this
            exact ⟨b, o, rfl, by rw [show j = k * 2 by omega]; exact q0⟩
          · rw [e] at hj
            have : v = .string T[k].rom := by simpa [ruleV] using hj.symm
            subst this
            exact ⟨b, o, rfl, by rw [show o + j = o + k * 2 + 1 by omega]; exact q1⟩
      · rcases List.mem_append.1 hu with hu | hu
        · exact h3 u hu
        · exact one_ruleV _ _ _ u hu
      · rcases Nat.lt_or_ge i k with h5 | h5
        · obtain ⟨ax, cx, e1, e2, e3⟩ := h4 i hi h5
          exact ⟨ax, cx, by rw [List.getElem?_append_left (by omega)]; exact e1, by rw [List.getElem?_append_left (by omega)]; exact e2, e3⟩
        · obtain rfl : i = k := by omega
          exact ⟨ai, ci, by rw [List.getElem?_append_right (by omega), h1, Nat.sub_self]; rfl, by rw [List.getElem?_append_right (by omega), h1, show i * 2 + 1 - i * 2 = 1 by omega]; rfl, q2, q3, q4⟩
  obtain ⟨vs, h1, h2, h3, h4⟩ := key T.length (Nat.le_refl _)
  exact ⟨vs, h1, h2, h3, fun i hi => h4 i hi hi⟩
theorem btw_below' {w W W' : World} {g g' : Nat} (h0 : Below w.heap.size w W) (h : Between g g' W W') (hg : w.heap.size ≤ g) : Below w.heap.size w W' :=
  h0.trans ⟨h.os, h.tape, h.output, h.size, fun k hk => h.block k (Nat.lt_of_lt_of_le hk h0.size) (.inl (by omega))⟩
theorem RowsV.bel {w w' : World} {lo : Nat} {a : Option Addr} {T : List Rul} {vs : List Value} (h : RowsV w lo a T vs) (hb : Below w.heap.size w w') : RowsV w' lo a T vs := fun i hi => by
  obtain ⟨ai, ci, e1, e2, e3, e4, e5, e6⟩ := h i hi
  exact ⟨ai, ci, e1, e2, e3.bel hb, e4, e5, fun p hp => ⟨(e6 p hp).1, Nat.lt_of_lt_of_le (e6 p hp).2.1 hb.size, (e6 p hp).2.2⟩⟩
/-- A table of the call's own. -/
def RetGT (w : World) (m : Nat) (e : Ending) (w' : World) : Prop :=
  ∃ (T : List Rul) (a : Option Addr) (n c : Nat), e = .returned (.slice a n c) ∧ n = m ∧ GTab w' w.heap.size T a n c ∧ ∃ y : Later w, w' = y.w
set_option maxRecDepth 8000 in
set_option maxHeartbeats 4000000 in
theorem ownI_any (l : List Int) (a : Option Addr) (n c : Nat) (w : World) (hn : l.length = n) (hm : n ≤ 4096) (hr : Row w a (intCells l)) :
    Calls Tryz.prog 102 #[.slice a n c] w (RetOwn w 2 1 n (intCells l) id) := by
  obtain ⟨ii, j1, j2, j3, j4⟩ := info_i64'
  have Jii := Lib.hid (And.intro j1 (And.intro j2 (And.intro j3 j4)))
  have HO := Lib.hid (World.ownsRow_lit (base := w.heap.size) (e := 2) (size := 1) w #[] 0 (Nat.le_refl _) (by unfold maxLen; omega) rfl)
  have hl : (intCells l).length = n * 1 := by rw [Nat.mul_one, ← hn]; simp [intCells]
  replace hr := Lib.hid hr
  clear j1 j2 j3 j4
  go_enter Tryz.func102, Tryz.ntmps102
  go_wp2_with (at_builtin; (refine wpList_append_later _ rfl _ _ _ rfl 2 ii _ 1 8 Tryz.underlying25 Jii.out.1 Jii.out.2.1 Jii.out.2.2.1 Jii.out.2.2.2 rfl (by decide) (w) ?qa1 _ _ _ ([]) rfl ?qa2 _ _ _ (intCells l) rfl ?qa3 ?qa4 ?qa5 ?qa6 ?qa7 ?_); (case qa1 => (repeat (first | (with_reducible exact Below.refl _ _) | (with_reducible assumption) | (with_reducible refine Later.out _ ?_) | (with_reducible refine bel_alloc ?_ _) | (with_reducible refine bel_drew ?_) | (with_reducible refine bel_drewN ?_ _) | (with_reducible refine bel_set ?_ ?_ _) | (with_reducible refine After.out _ ?_ ?_) | (dsimp only; omega) | omega | (simp only [World.size_alloc, World.size_setCell, World.size_drew]; omega)))); (case qa2 => exact HO.out); (case qa3 => (first | rfl | (simp [boolCells]; done) | (simp [intCells]; done) | (simp; done) | (first | omega | (simp only [List.length_append, List.length_cons, List.length_nil]; omega)))); (case qa4 => exact hr.out.bel (by (repeat (first | (with_reducible exact Below.refl _ _) | (with_reducible assumption) | (with_reducible refine Later.out _ ?_) | (with_reducible refine bel_alloc ?_ _) | (with_reducible refine bel_drew ?_) | (with_reducible refine bel_drewN ?_ _) | (with_reducible refine bel_set ?_ ?_ _) | (with_reducible refine After.out _ ?_ ?_) | (dsimp only; omega) | omega | (simp only [World.size_alloc, World.size_setCell, World.size_drew]; omega))))); (case qa5 => exact one_ints _); (case qa6 => (unfold maxLen; (first | omega | (simp only [List.length_append, List.length_cons, List.length_nil]; omega)))); (case qa7 => (first | omega | (simp only [List.length_append, List.length_cons, List.length_nil]; omega))); intro a9 c9 x9 hown9; replace hown9 := Lib.hid hown9; have hs9 := x9.bel.size; (try simp only [World.size_alloc] at hs9))
  go_ret
  have h := hown9.out
  rw [Nat.zero_add, List.nil_append] at h
  exact RetOwn.mk _ rfl h (by (repeat (first | (with_reducible exact Below.refl _ _) | (with_reducible assumption) | (with_reducible refine Later.out _ ?_) | (with_reducible refine bel_alloc ?_ _) | (with_reducible refine bel_drew ?_) | (with_reducible refine bel_drewN ?_ _) | (with_reducible refine bel_set ?_ ?_ _) | (with_reducible refine After.out _ ?_ ?_) | (dsimp only; omega) | omega | (simp only [World.size_alloc, World.size_setCell, World.size_drew]; omega))))
theorem info_rule' : ∃ i, Tryz.prog.info? 57 = some i ∧ i.zero = some (.agg #[.slice none 0 0, .string ByteArray.empty]) ∧ i.size = 2 ∧ i.bytes = 40 := by
  have h := info_rule
  cases hi : Tryz.prog.info? 57 with
  | none => rw [hi] at h; cases h
  | some i =>
    rw [hi] at h
    simp only [Option.map_some, Option.some.injEq, Prod.mk.injEq] at h
    exact ⟨i, rfl, h.1, h.2.1, h.2.2⟩
end Go.Proofs.YtemfhcmeeldngaaGreatDoor
