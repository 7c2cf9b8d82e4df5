import Derived.Test.YtemfhcmeeldngaaGreatDoorShelf
import Derived.Test.YtemfhcmeeldngaaGreatDoorPackPa
import Derived.Lib.SliceRun
/- Several of my texts, one behind the other: Text, TextS, Rul, Use, RulW, TabI, TabS, Way, Fit, TelI, Emp. -/
/- Words and phrases: the library's Trim and Split, what the program and the reference say of a word and of a phrase. -/
set_option linter.unusedSimpArgs false
set_option linter.unusedVariables false
namespace Go.Proofs.YtemfhcmeeldngaaGreatDoor
open Go.RowKit
/-- A string as its bytes. -/
def bytesOf (l : List UInt8) : ByteArray := ⟨l.toArray⟩
/-- The pieces of a string between the bytes `c`. -/
def piecesS (c : UInt8) (s : ByteArray) : List ByteArray := (splitL c s.data.toList).map bytesOf
def strCells (L : List ByteArray) : List Value := L.map Value.string
theorem strCells_get {L : List ByteArray} {k : Nat} (h : k < L.length) : (strCells L)[k]? = some (.string L[k]) := by simp [strCells, h]
theorem strCells_snoc (L : List ByteArray) (x : ByteArray) : strCells (L ++ [x]) = strCells L ++ [.string x] := by simp [strCells]
theorem info_str : (Tryz.prog.info? 9).map (fun i => (i.zero, i.size, i.bytes)) = some (some (.string ByteArray.empty), 1, 16) := by kernel_rfl
theorem info_str' : ∃ i, Tryz.prog.info? 9 = some i ∧ i.zero = some (.string ByteArray.empty) ∧ i.size = 1 ∧ i.bytes = 16 := by
  have h := info_str
  cases hi : Tryz.prog.info? 9 with
  | none => rw [hi] at h; cases h
  | some i =>
    rw [hi] at h
    simp only [Option.map_some, Option.some.injEq, Prod.mk.injEq] at h
    exact ⟨i, rfl, h.1, h.2.1, h.2.2⟩
/-- strings.Trim of all letters. -/
theorem trim_any (s : ByteArray) (w : World) (hs : s.size ≤ 1048576) :
    Calls Tryz.prog 85 #[.string s, .string ⟨#[97, 98, 99, 100, 101, 102, 103, 104, 105, 106, 107, 108, 109, 110, 111, 112, 113, 114, 115, 116, 117, 118, 119, 120, 121, 122]⟩] w (Ret w (.string (bytesOf (Lib.trimS s.data.toList letters)))) := by
  refine (Any.strings_Trim_laid Tryz.lays160 (by kernel_rfl) s ⟨#[97, 98, 99, 100, 101, 102, 103, 104, 105, 106, 107, 108, 109, 110, 111, 112, 113, 114, 115, 116, 117, 118, 119, 120, 121, 122]⟩ w (by omega) (by decide) (ascii_of_all (by decide))).mono ?_
  rintro e w' ⟨rfl, hb⟩
  exact .mk rfl hb
theorem isEmpty_bytesOf (l : List UInt8) : (bytesOf l).toList.isEmpty = l.isEmpty := by
  rw [← decide_eq_emptyBytes, Bool.eq_iff_iff, decide_eq_true_eq, List.isEmpty_iff]
  constructor
  · intro h
    have := congrArg (fun (x : ByteArray) => x.data.toList) h
    simpa [bytesOf] using this
  · rintro rfl
    rfl
def smallB (s : ByteArray) (lo hi : Int) : Bool := inB s.size lo hi && s.data.toList.all letterB
set_option maxHeartbeats 400000 in
theorem isSmall_any (s : ByteArray) (lo hi : Int) (w : World) (hs : s.size ≤ 1048576) :
    Calls Tryz.prog 53 #[.string s, .int .i64 lo, .int .i64 hi] w (Ret w (.bool (smallB s lo hi))) := by
  cases h1 : inB s.size lo hi
  · have X := Lib.hid (show smallB s lo hi = false by simp [smallB, h1])
    replace h1 := Lib.hid h1
    go_enter Tryz.func53, Tryz.ntmps53
    go_wp2_with fail
    with_reducible refine (within_b _ h1.out).mono ?_
    rintro e w' ⟨rfl, y1, rfl⟩
    have hsy1 := y1.bel.size
    (try simp only [World.size_alloc, World.size_setCell, World.size_drew] at hsy1)
    go_wp2_with fail
    go_ret
    exact .mk (by rw [X.out]; rfl) (by (repeat (first | (with_reducible exact Below.refl _ _) | (with_reducible assumption) | (with_reducible refine Later.out _ ?_) | (with_reducible refine bel_alloc ?_ _) | (with_reducible refine bel_drew ?_) | (with_reducible refine bel_drewN ?_ _) | (with_reducible refine bel_set ?_ ?_ _) | (with_reducible refine After.out _ ?_ ?_) | (dsimp only; omega) | omega | (simp only [World.size_alloc, World.size_setCell, World.size_drew]; omega))))
  · have ht := trim_letters s.data.toList
    have hc := fun w => trim_any s w hs
    obtain ⟨t, he⟩ : ∃ t, bytesOf (Lib.trimS s.data.toList letters) = t := ⟨_, rfl⟩
    simp only [he] at hc
    replace hc := Lib.hid hc
    have X := Lib.hid (show smallB s lo hi = t.toList.isEmpty by rw [← he, isEmpty_bytesOf, ht]; simp [smallB, h1])
    replace h1 := Lib.hid h1
    clear ht
    go_enter Tryz.func53, Tryz.ntmps53
    go_wp2_with fail
    with_reducible refine (within_b _ h1.out).mono ?_
    rintro e w' ⟨rfl, y1, rfl⟩
    have hsy1 := y1.bel.size
    (try simp only [World.size_alloc, World.size_setCell, World.size_drew] at hsy1)
    go_wp2_with fail
    with_reducible refine (hc.out _).mono ?_
    rintro e w' ⟨rfl, y2, rfl⟩
    have hsy2 := y2.bel.size
    (try simp only [World.size_alloc, World.size_setCell, World.size_drew] at hsy2)
    go_wp2_with fail
    go_ret
    exact .mk (by rw [X.out]; rfl) (by (repeat (first | (with_reducible exact Below.refl _ _) | (with_reducible assumption) | (with_reducible refine Later.out _ ?_) | (with_reducible refine bel_alloc ?_ _) | (with_reducible refine bel_drew ?_) | (with_reducible refine bel_drewN ?_ _) | (with_reducible refine bel_set ?_ ?_ _) | (with_reducible refine After.out _ ?_ ?_) | (dsimp only; omega) | omega | (simp only [World.size_alloc, World.size_setCell, World.size_drew]; omega))))
end Go.Proofs.YtemfhcmeeldngaaGreatDoor

/- Words and phrases, the reference's way. -/
set_option linter.unusedSimpArgs false
set_option linter.unusedVariables false
namespace Go.Proofs.YtemfhcmeeldngaaGreatDoor
open Go.RowKit
theorem byteAt {s : ByteArray} {k : Nat} (h : k < s.size) : s.data.toList[k]? = some s[k] := by
  rw [List.getElem?_eq_getElem (by rw [Array.length_toList]; exact h)]
  rfl
theorem all_take_succ {s : ByteArray} {k : Nat} {p : UInt8 → Bool} (h : k < s.size) (ha : (s.data.toList.take k).all p = true) (hp : p s[k] = true) : (s.data.toList.take (k + 1)).all p = true := by
  rw [List.take_add_one, byteAt h, List.all_append, ha]
  simp [hp]
theorem all_false_at {s : ByteArray} {k : Nat} {p : UInt8 → Bool} (h : k < s.size) (hp : p s[k] = false) : s.data.toList.all p = false := by
  rw [Bool.eq_false_iff]
  intro hh
  have := List.all_eq_true.1 hh s[k] (List.mem_of_getElem? (byteAt h))
  rw [hp] at this
  cases this
theorem extract_list (s : ByteArray) (f i : Nat) (h : i ≤ s.size) : (s.extract f i).data.toList = (s.data.toList.drop f).take (i - f) := by
  rw [Lib.extract_data]
/-- What a cut at every `c` keeps true: `O` the pieces so far, `f` where the next begins. -/
def Cut (c : UInt8) (s : ByteArray) (i f : Nat) (O : List ByteArray) : Prop :=
  (i ≤ s.size ∧ f ≤ i ∧ c ∉ (s.data.toList.drop f).take (i - f) ∧ O.map (·.data.toList) ++ splitL c (s.data.toList.drop f) = splitL c s.data.toList) ∨ (i = s.size + 1 ∧ f = s.size + 1 ∧ O = piecesS c s)
theorem Cut.start (c : UInt8) (s : ByteArray) : Cut c s 0 0 [] := .inl ⟨Nat.zero_le _, Nat.le_refl _, by simp, by simp⟩
/-- The call returned `f v` for some `v`. -/
def RetSome (w : World) (f : Value → Value) (e : Ending) (w' : World) : Prop := ∃ v, e = .returned (f v) ∧ ∃ y : Later w, w' = y.w
theorem RetSome.mk {w w' : World} {f : Value → Value} {e : Ending} (v : Value) (h : e = .returned (f v)) (hb : Below w.heap.size w w') : RetSome w f e w' := ⟨v, h, ⟨w', hb⟩, rfl⟩
end Go.Proofs.YtemfhcmeeldngaaGreatDoor

/- Rules and tables: what they are in plain terms, rows for reading, rows of one's own. -/
set_option linter.unusedSimpArgs false
set_option linter.unusedVariables false
namespace Go.Proofs.YtemfhcmeeldngaaGreatDoor
open Go.RowKit
structure Rul where
  sg : List Int
  rom : ByteArray
/-- Numbers that are signs, at most so many. -/
def signsB (l : List Int) (most : Int) : Bool := inB l.length 1 most && l.all fun x => inB x 0 19
def ruleB (r : Rul) : Bool := signsB r.sg 3 && smallB r.rom 0 4
/-- The first place at which `p` holds, -1 if none. -/
def idxU (p : Rul → Bool) (T : List Rul) : Int := match T.findIdx? p with
  | some i => i
  | none => -1
theorem idxU_none {p : Rul → Bool} {L : List Rul} (h : ∀ j (hj : j < L.length), p L[j] = false) : idxU p L = -1 := by
  have : L.findIdx? p = none := by
    rw [List.findIdx?_eq_none_iff]
    intro x hx
    obtain ⟨j, hj, rfl⟩ := List.mem_iff_getElem.1 hx
    exact h j hj
  simp [idxU, this]
theorem idxU_some {p : Rul → Bool} {L : List Rul} {k : Nat} (hk : k < L.length) (h1 : p L[k] = true) (h : ∀ j (hj : j < L.length), j < k → p L[j] = false) : idxU p L = k := by
  have : L.findIdx? p = some k := by
    rw [List.findIdx?_eq_some_iff_getElem]
    exact ⟨hk, h1, fun j hj => by rw [h j (by omega) hj]; simp⟩
  simp [idxU, this]
theorem idxU_nonneg (p : Rul → Bool) (L : List Rul) : decide (0 ≤ idxU p L) = L.any p := by
  unfold idxU
  cases h : L.findIdx? p with
  | none =>
    rw [List.findIdx?_eq_none_iff] at h
    have : L.any p = false := by rw [Bool.eq_false_iff]; intro hh; obtain ⟨x, hx, hp⟩ := List.any_eq_true.1 hh; rw [h x hx] at hp; cases hp
    simp [this]
  | some i =>
    rw [List.findIdx?_eq_some_iff_getElem] at h
    obtain ⟨hi, hp, _⟩ := h
    have : L.any p = true := List.any_eq_true.2 ⟨L[i], List.getElem_mem hi, hp⟩
    simp [this]
/-- What an index that a search tells is. -/
theorem idxU_cases (p : Rul → Bool) (L : List Rul) : (idxU p L = -1 ∧ ∀ j (hj : j < L.length), p L[j] = false) ∨ (∃ k : Nat, ∃ hk : k < L.length, idxU p L = k ∧ p L[k] = true ∧ ∀ j (hj : j < L.length), j < k → p L[j] = false) := by
  unfold idxU
  cases h : L.findIdx? p with
  | none =>
    rw [List.findIdx?_eq_none_iff] at h
    exact .inl ⟨rfl, fun j hj => by simpa using h _ (List.getElem_mem hj)⟩
  | some i =>
    rw [List.findIdx?_eq_some_iff_getElem] at h
    obtain ⟨hi, hp, h3⟩ := h
    exact .inr ⟨i, hi, rfl, hp, fun j hj hji => by simpa using h3 j hji⟩
/-- The index of the rule with these signs, -1 if there is none. -/
def findR (T : List Rul) (s : List Int) : Int := idxU (fun r => r.sg == s) T
/-- The rule at `i` is as described, and none ahead of it has its signs. -/
def tabAt (T : List Rul) (i : Nat) : Bool := match T[i]? with
  | some r => ruleB r && !decide (0 ≤ findR (T.take i) r.sg)
  | none => true
theorem tabAt_get {T : List Rul} {i : Nat} (h : i < T.length) : tabAt T i = (ruleB T[i] && !decide (0 ≤ findR (T.take i) T[i].sg)) := by simp [tabAt, h]
def tableB (T : List Rul) : Bool := decide (T.length ≤ 30) && (List.range T.length).all (tabAt T)
theorem tableB_bad {T : List Rul} {i : Nat} (h : i < T.length) (hf : tabAt T i = false) : tableB T = false := by
  unfold tableB
  rw [Bool.and_eq_false_iff]
  refine .inr ?_
  rw [Bool.eq_false_iff]
  intro hh
  rw [List.all_eq_true] at hh
  rw [hh i (List.mem_range.2 h)] at hf
  cases hf
theorem tableB_all {T : List Rul} (h : ∀ i, i < T.length → tabAt T i = true) : tableB T = decide (T.length ≤ 30) := by
  unfold tableB
  rw [List.all_eq_true.2 fun i hi => h i (List.mem_range.1 hi), Bool.and_true]
theorem tableB_at {T : List Rul} (h : tableB T = true) {i : Nat} (hi : i < T.length) : tabAt T i = true := by
  unfold tableB at h
  rw [Bool.and_eq_true] at h
  exact List.all_eq_true.1 h.2 i (List.mem_range.2 hi)
theorem tableB_len {T : List Rul} (h : tableB T = true) : T.length ≤ 30 := by
  unfold tableB at h
  rw [Bool.and_eq_true, decide_eq_true_eq] at h
  exact h.1
theorem tableB_rule {T : List Rul} (h : tableB T = true) {i : Nat} (hi : i < T.length) : ruleB T[i] = true := by
  have := tableB_at h hi
  rw [tabAt_get hi, Bool.and_eq_true] at this
  exact this.1
/-- The search in the whole table tells the rule itself exactly if none ahead of it has its signs. -/
theorem findR_self {T : List Rul} {i : Nat} (h : i < T.length) : decide (findR T T[i].sg = i) = !decide (0 ≤ findR (T.take i) T[i].sg) := by
  have hlt : (T.take i).length = i := by rw [List.length_take]; omega
  rcases idxU_cases (fun r => r.sg == T[i].sg) (T.take i) with ⟨e, h1⟩ | ⟨k, hk, e, h1, h2⟩
  · have : findR T T[i].sg = i := idxU_some h (by simp) fun j hj hji => by
      have := h1 j (by omega)
      rwa [List.getElem_take] at this
    rw [this]
    unfold findR
    rw [e]
    simp
  · rw [List.getElem_take] at h1
    have : findR T T[i].sg = k := idxU_some (by omega) h1 fun j hj hji => by
      have := h2 j (by omega) hji
      rwa [List.getElem_take] at this
    rw [this]
    unfold findR
    rw [e]
    have : ¬ ((k : Int) = i) := by omega
    simp [this]
/-- Sizes that a rule in a table has: its text is short, its signs few. -/
theorem ruleB_sizes {r : Rul} (h : ruleB r = true) : 1 ≤ r.sg.length ∧ r.sg.length ≤ 3 ∧ r.rom.size ≤ 4 := by
  unfold ruleB signsB smallB at h
  simp only [Bool.and_eq_true, inB_iff] at h
  omega
/-! ### Rows -/
/-- A table for reading. -/
def RulesR (w : World) (a : Option Addr) (T : List Rul) : Prop :=
  ∀ i (h : i < T.length), ∃ b o ai ci, a = some ⟨b, o, none⟩ ∧ b < w.heap.size ∧ w.cell? ⟨b, o + i * 2, none⟩ = some (.slice ai T[i].sg.length ci) ∧ w.cell? ⟨b, o + i * 2 + 1, none⟩ = some (.string T[i].rom) ∧ Row w ai (intCells T[i].sg) ∧ T[i].sg.length ≤ ci ∧ ci ≤ maxLen
theorem RulesR.bel {w w' : World} {a : Option Addr} {T : List Rul} (h : RulesR w a T) (hb : Below w.heap.size w w') : RulesR w' a T := fun i hi => by
  obtain ⟨b, o, ai, ci, h1, h2, h3, h4, h5, h6⟩ := h i hi
  exact ⟨b, o, ai, ci, h1, Nat.lt_of_lt_of_le h2 hb.size, (hb.cell h2).trans h3, (hb.cell h2).trans h4, h5.bel hb, h6⟩
theorem RulesR.take {w : World} {a : Option Addr} {T : List Rul} (h : RulesR w a T) (k : Nat) : RulesR w a (T.take k) := fun i hi => by
  have hi' : i < T.length := by rw [List.length_take] at hi; omega
  obtain ⟨b, o, ai, ci, h1, h2, h3⟩ := h i hi'
  exact ⟨b, o, ai, ci, h1, h2, by rw [List.getElem_take]; exact h3⟩
theorem RulesR.at_ {w : World} {a : Option Addr} {T : List Rul} (h : RulesR w a T) {i : Nat} (hi : i < T.length) :
    ∃ b o ai ci, a = some ⟨b, o, none⟩ ∧ b < w.heap.size ∧ w.cell? ⟨b, o + i * 2, none⟩ = some (.slice ai T[i].sg.length ci) ∧ w.cell? ⟨b, o + i * 2 + 1, none⟩ = some (.string T[i].rom) ∧ Row w ai (intCells T[i].sg) ∧ T[i].sg.length ≤ ci ∧ ci ≤ maxLen := h i hi
/-- A table of one's own: the rules in the block `g`, their signs in later ones. -/
structure OTab (w : World) (g hi n c : Nat) (T : List Rul) (vs : List Value) : Prop where
  own : Owns w g (g + 1) 57 2 n (some ⟨g, 0, none⟩) c vs
  len : T.length ≤ n
  lt : g < w.heap.size
  at_ : ∀ i (h : i < T.length), ∃ ai ci, vs[i * 2]? = some (.slice ai T[i].sg.length ci) ∧ vs[i * 2 + 1]? = some (.string T[i].rom) ∧ Owns w (g + 1) hi 2 1 T[i].sg.length ai ci (intCells T[i].sg) ∧ T[i].sg.length ≤ ci ∧ ci ≤ maxLen
  sep : ∀ i j gi gj ni nj ci cj, i < j → j < T.length → vs[i * 2]? = some (.slice (some ⟨gi, 0, none⟩) ni ci) → vs[j * 2]? = some (.slice (some ⟨gj, 0, none⟩) nj cj) → gi ≠ gj
theorem OTab.bel {w w' : World} {g hi n c : Nat} {T : List Rul} {vs : List Value} (h : OTab w g hi n c T vs) (hb : Below w.heap.size w w') (hh : hi ≤ w.heap.size) : OTab w' g hi n c T vs :=
  ⟨h.own.bel hb h.lt, h.len, Nat.lt_of_lt_of_le h.lt hb.size, fun i hi' => by
    obtain ⟨ai, ci, h1, h2, h3, h4⟩ := h.at_ i hi'
    exact ⟨ai, ci, h1, h2, h3.bel hb hh, h4⟩, h.sep⟩
theorem OTab.wide {w : World} {g hi hi' n c : Nat} {T : List Rul} {vs : List Value} (h : OTab w g hi n c T vs) (hh : hi ≤ hi') : OTab w g hi' n c T vs :=
  ⟨h.own, h.len, h.lt, fun i hi0 => by
    obtain ⟨ai, ci, h1, h2, h3, h4⟩ := h.at_ i hi0
    exact ⟨ai, ci, h1, h2, ⟨h3.own, fun p hp => Nat.lt_of_lt_of_le (h3.lt p hp) hh⟩, h4⟩, h.sep⟩
theorem OTab.rules {w : World} {g hi n c : Nat} {T : List Rul} {vs : List Value} (h : OTab w g hi n c T vs) : RulesR w (some ⟨g, 0, none⟩) T := fun i hi' => by
  obtain ⟨ai, ci, h1, h2, h3, h4, h5⟩ := h.at_ i hi'
  have hl := h.len
  have hv := h.own.own.1
  have c1 := h.own.own.cellAt (i * 2) (by omega)
  have c2 := h.own.own.cellAt (i * 2 + 1) (by omega)
  exact ⟨g, 0, ai, ci, rfl, h.lt, by rw [Nat.zero_add, c1]; exact h1, by rw [Nat.zero_add, c2]; exact h2, h3.row, h4, h5⟩
end Go.Proofs.YtemfhcmeeldngaaGreatDoor

/- Which rules are used for signs: the longest beginning for which there is a rule, again and again. -/
set_option linter.unusedSimpArgs false
set_option linter.unusedVariables false
namespace Go.Proofs.YtemfhcmeeldngaaGreatDoor
open Go.RowKit
theorem findR_cases (T : List Rul) (s : List Int) : findR T s = -1 ∨ ∃ k : Nat, ∃ hk : k < T.length, findR T s = k ∧ T[k].sg = s := by
  rcases idxU_cases (fun r => r.sg == s) T with ⟨h, -⟩ | ⟨k, hk, h, h2, -⟩
  · exact .inl h
  · exact .inr ⟨k, hk, h, by simpa using h2⟩
/-- The rule with the longest of the first `m` beginnings of the signs; -1 if there is none. -/
def bestR (T : List Rul) (s : List Int) : Nat → Int
  | 0 => -1
  | m + 1 => if 0 ≤ findR T (s.take (m + 1)) then findR T (s.take (m + 1)) else bestR T s m
theorem bestR_yes {T : List Rul} {s : List Int} {m : Nat} (h : 0 ≤ findR T (s.take (m + 1))) : bestR T s (m + 1) = findR T (s.take (m + 1)) := by simp [bestR, h]
theorem bestR_no {T : List Rul} {s : List Int} {m : Nat} (h : ¬ 0 ≤ findR T (s.take (m + 1))) : bestR T s (m + 1) = bestR T s m := by simp [bestR, h]
theorem bestR_cases (T : List Rul) (s : List Int) : ∀ m, bestR T s m = -1 ∨ ∃ k : Nat, ∃ hk : k < T.length, bestR T s m = k ∧ ∃ n, 1 ≤ n ∧ n ≤ m ∧ T[k].sg = s.take n
  | 0 => .inl rfl
  | m + 1 => by
    by_cases h : 0 ≤ findR T (s.take (m + 1))
    · rw [bestR_yes h]
      rcases findR_cases T (s.take (m + 1)) with h1 | ⟨k, hk, h1, h2⟩
      · exact .inl h1
      · exact .inr ⟨k, hk, h1, m + 1, by omega, Nat.le_refl _, h2⟩
    · rw [bestR_no h]
      rcases bestR_cases T s m with h1 | ⟨k, hk, h1, n, h2, h3, h4⟩
      · exact .inl h1
      · exact .inr ⟨k, hk, h1, n, h2, by omega, h4⟩
/-- The rule for the beginning of the signs. -/
def headR (T : List Rul) (s : List Int) : Int := bestR T s (min 3 s.length)
theorem headR_cases {T : List Rul} {s : List Int} (hs : 0 < s.length) : headR T s = -1 ∨ ∃ k : Nat, ∃ hk : k < T.length, headR T s = k ∧ 1 ≤ T[k].sg.length ∧ T[k].sg.length ≤ s.length ∧ T[k].sg = s.take T[k].sg.length := by
  rcases bestR_cases T s (min 3 s.length) with h | ⟨k, hk, h, n, h1, h2, h3⟩
  · exact .inl h
  · have hl : T[k].sg.length = n := by rw [h3, List.length_take]; omega
    exact .inr ⟨k, hk, h, by omega, by omega, by rw [hl]; exact h3⟩
def usedF (T : List Rul) : Nat → List Int → Option (List Int)
  | 0, s => if s.length = 0 then some [] else none
  | f + 1, s => if s.length = 0 then some [] else
    match T[(headR T s).toNat]? with
    | some r => if headR T s < 0 then none else (usedF T f (s.drop r.sg.length)).map (headR T s :: ·)
    | none => none
theorem usedF_nil (T : List Rul) {s : List Int} (h : s.length = 0) : ∀ f, usedF T f s = some []
  | 0 => by simp [usedF, h]
  | f + 1 => by simp only [usedF]; rw [if_pos h]
theorem usedF_no {T : List Rul} {s : List Int} (hs : 0 < s.length) (h : headR T s = -1) : ∀ f, usedF T f s = none
  | 0 => by simp only [usedF]; rw [if_neg (by omega)]
  | f + 1 => by
    simp only [usedF]
    rw [if_neg (by omega)]
    cases T[(headR T s).toNat]? with
    | none => rfl
    | some r => dsimp only; rw [if_pos (by omega)]
theorem usedF_step {T : List Rul} {s : List Int} {k f : Nat} (hs : 0 < s.length) (hk : k < T.length) (h : headR T s = k) : usedF T (f + 1) s = (usedF T f (s.drop T[k].sg.length)).map ((k : Int) :: ·) := by
  have e : (headR T s).toNat = k := by omega
  simp only [usedF]
  rw [if_neg (by omega), e, List.getElem?_eq_getElem hk]
  dsimp only
  rw [if_neg (by omega), h]
/-- The rules that are used; none if there is no rule for some signs. -/
def used (T : List Rul) (s : List Int) : Option (List Int) := usedF T s.length s
theorem usedF_len {T : List Rul} : ∀ {f : Nat} {s l : List Int}, usedF T f s = some l → l.length ≤ f ∧ l.length ≤ s.length ∧ ∀ x ∈ l, 0 ≤ x ∧ x < T.length
  | 0, s, l, h => by
    simp only [usedF] at h
    split at h
    · cases h; simp
    · cases h
  | f + 1, s, l, h => by
    by_cases hs : s.length = 0
    · rw [usedF_nil T hs] at h; cases h; simp
    · rcases headR_cases (T := T) (s := s) (by omega) with h1 | ⟨k, hk, h1, h2, h3, -⟩
      · rw [usedF_no (by omega) h1] at h; cases h
      · rw [usedF_step (by omega) hk h1] at h
        obtain ⟨l', h4, rfl⟩ := Option.map_eq_some_iff.1 h
        obtain ⟨h5, h6, h7⟩ := usedF_len h4
        rw [List.length_drop] at h6
        refine ⟨by simp; omega, by simp; omega, fun x hx => ?_⟩
        rcases List.mem_cons.1 hx with rfl | hx
        · omega
        · exact h7 x hx
/-- The signs of the rules at these places, one behind the other. -/
def signsL (T : List Rul) (l : List Int) : List Int := l.flatMap fun i => match T[i.toNat]? with
  | some r => r.sg
  | none => []
theorem signsL_take {T : List Rul} {l : List Int} {i : Nat} (h : i < l.length) {k : Nat} (e : l[i] = k) (hk : k < T.length) : signsL T (l.take (i + 1)) = signsL T (l.take i) ++ T[k].sg := by
  rw [List.take_succ_eq_append_getElem h]
  unfold signsL
  rw [List.flatMap_append, List.flatMap_cons, List.flatMap_nil, List.append_nil, e, Int.toNat_natCast, List.getElem?_eq_getElem hk]
theorem usedF_signs {T : List Rul} : ∀ {f : Nat} {s l : List Int}, usedF T f s = some l → signsL T l = s
  | 0, s, l, h => by
    simp only [usedF] at h
    split at h
    · rename_i h0
      cases h
      exact (List.eq_nil_of_length_eq_zero h0).symm
    · cases h
  | f + 1, s, l, h => by
    by_cases hs : s.length = 0
    · rw [usedF_nil T hs] at h; cases h
      exact (List.eq_nil_of_length_eq_zero hs).symm
    · rcases headR_cases (T := T) (s := s) (by omega) with h1 | ⟨k, hk, h1, h2, h3, h8⟩
      · rw [usedF_no (by omega) h1] at h; cases h
      · rw [usedF_step (by omega) hk h1] at h
        obtain ⟨l', h4, rfl⟩ := Option.map_eq_some_iff.1 h
        have h5 := usedF_signs h4
        have e : signsL T ((k : Int) :: l') = T[k].sg ++ signsL T l' := by
          unfold signsL
          rw [List.flatMap_cons, Int.toNat_natCast, List.getElem?_eq_getElem hk]
        rw [e, h5]
        rw (occs := .pos [1]) [h8]
        rw [List.take_append_drop]
/-- The texts of the rules at these places, one behind the other. -/
def romL (T : List Rul) (l : List Int) : ByteArray := l.foldl (fun t i => match T[i.toNat]? with
  | some r => t ++ r.rom
  | none => t) ByteArray.empty
theorem romL_take {T : List Rul} {l : List Int} {i : Nat} (h : i < l.length) {k : Nat} (e : l[i] = k) (hk : k < T.length) : romL T (l.take (i + 1)) = romL T (l.take i) ++ T[k].rom := by
  rw [List.take_succ_eq_append_getElem h]
  unfold romL
  rw [List.foldl_append]
  simp only [List.foldl_cons, List.foldl_nil]
  rw [e, Int.toNat_natCast, List.getElem?_eq_getElem hk]
end Go.Proofs.YtemfhcmeeldngaaGreatDoor

/- Tables: sizes, copies and comparison for the laws. -/
set_option linter.unusedSimpArgs false
set_option linter.unusedVariables false
namespace Go.Proofs.YtemfhcmeeldngaaGreatDoor
open Go.RowKit
/-- Rules whose sizes fit the laws. -/
structure RulOk (r : Rul) : Prop where
  s : r.sg.length ≤ 1048576
  t : r.rom.size ≤ 1048576
theorem info_rule : (Tryz.prog.info? 57).map (fun i => (i.zero, i.size, i.bytes)) = some (some (.agg #[.slice none 0 0, .string ByteArray.empty]), 2, 40) := by kernel_rfl
theorem ownsRow_cap {w : World} {base e s n c : Nat} {a : Option Addr} {xs : List Value} (h : w.ownsRow base e s (.slice a n c) n xs) : n ≤ c ∧ c ≤ maxLen := by
  rcases h.2 with ⟨h1, h2⟩ | ⟨g, cap, cur, hv, _, _, h1, h2, _⟩
  · injection h1 with _ _ h3
    subst h3
    exact ⟨by omega, by unfold maxLen; omega⟩
  · injection hv with _ _ h3
    subst h3
    exact ⟨h1, h2⟩
theorem OTab.zero (w : World) (g n c : Nat) (T : List Rul) (vs : List Value) (h : Owns w g (g + 1) 57 2 n (some ⟨g, 0, none⟩) c vs) (hg : g < w.heap.size) (hn : T.length = n) : OTab w g w.heap.size n c (T.take 0) vs :=
  ⟨h, by simp only [List.take_zero, List.length_nil]; omega, hg, fun i hi => absurd hi (by simp), fun i j gi gj ni nj ci cj _ hj => absurd hj (by simp)⟩
end Go.Proofs.YtemfhcmeeldngaaGreatDoor

/- The program's side of rules and tables. -/
set_option linter.unusedSimpArgs false
set_option linter.unusedVariables false
namespace Go.Proofs.YtemfhcmeeldngaaGreatDoor
open Go.RowKit
theorem all_at_false {α : Type} {l : List α} {p : α → Bool} {k : Nat} (h : k < l.length) (hp : p l[k] = false) : l.all p = false := by
  rw [Bool.eq_false_iff]
  intro hh
  rw [List.all_eq_true.1 hh _ (List.getElem_mem h)] at hp
  cases hp
theorem all_take_step {α : Type} {l : List α} {p : α → Bool} {k : Nat} (h : k < l.length) (ha : (l.take k).all p = true) (hp : p l[k] = true) : (l.take (k + 1)).all p = true := by
  rw [List.take_succ_eq_append_getElem h, List.all_append, ha]
  simp [hp]
set_option maxHeartbeats 1000000 in
theorem areWithin_any (l : List Int) (lo hi : Int) (a : Option Addr) (n c : Nat) (w : World) (hn : l.length = n) (hm : n ≤ 1048576) (hr : Row w a (intCells l)) :
    Calls Tryz.prog 57 #[.slice a n c, .int .i64 lo, .int .i64 hi] w (Ret w (.bool (l.all fun x => inB x lo hi))) := by
  subst hn
  replace hr := Lib.hid hr
  go_enter Tryz.func57, Tryz.ntmps57
  go_wp2_with fail
  go_loopw [11] (fun i wr => ∃ k : Nat, k ≤ l.length ∧ i = .int .i64 k ∧ (l.take k).all (fun x => inB x lo hi) = true ∧ ∃ z : Later w, wr = z.w) (fun i _ => l.length - (intOf i).toNat)
  case atStart => exact ⟨0, Nat.zero_le _, rfl, rfl, ⟨_, Below.refl _ _⟩, rfl⟩
  case round =>
    obtain ⟨k, hk, rfl, hall, z, rfl⟩ := hrel
    replace hall := Lib.hid hall
    have hzz := z.bel.size
    by_cases hlt : k < l.length
    · obtain ⟨b, o, rfl, hb, hc⟩ := hr.out.int hlt
      cases hv : inB l[k] lo hi
      · have X := Lib.hid (all_at_false (p := fun x => inB x lo hi) hlt hv)
        replace hv := Lib.hid hv
        go_wp2_with (first | (go_at_call 84; first | ((with_reducible refine (Calls.later (within_b _ hv.out)).mono ?_); rintro e w' ⟨rfl, xl, rfl⟩; have hsz := xl.bel.size; (try simp only [World.size_alloc, World.size_setCell, World.size_drew] at hsz); (try have hz0 : w.heap.size < xl.w.heap.size := (by omega)); (try have hz1 : w.heap.size + 1 < xl.w.heap.size := (by omega)); (try have hz2 : w.heap.size + 1 + 1 < xl.w.heap.size := (by omega))) | ((with_reducible refine (within_b _ hv.out).mono ?_); rintro e w' ⟨rfl, xl, rfl⟩; have hsz := xl.bel.size; (try simp only [World.size_alloc, World.size_setCell, World.size_drew] at hsz); (try have hz0 : w.heap.size < xl.w.heap.size := (by omega)); (try have hz1 : w.heap.size + 1 < xl.w.heap.size := (by omega)); (try have hz2 : w.heap.size + 1 + 1 < xl.w.heap.size := (by omega)))))
        go_ret
        exact .mk (by rw [X.out]; rfl) (by (repeat (first | (with_reducible exact Below.refl _ _) | (with_reducible assumption) | (with_reducible refine Later.out _ ?_) | (with_reducible refine bel_alloc ?_ _) | (with_reducible refine bel_drew ?_) | (with_reducible refine bel_drewN ?_ _) | (with_reducible refine bel_set ?_ ?_ _) | (with_reducible refine After.out _ ?_ ?_) | (dsimp only; omega) | omega | (simp only [World.size_alloc, World.size_setCell, World.size_drew]; omega))))
      · have X := Lib.hid (all_take_step (p := fun x => inB x lo hi) hlt hall.out hv)
        replace hv := Lib.hid hv
        go_wp2_with (first | (go_at_call 84; first | ((with_reducible refine (Calls.later (within_b _ hv.out)).mono ?_); rintro e w' ⟨rfl, xl, rfl⟩; have hsz := xl.bel.size; (try simp only [World.size_alloc, World.size_setCell, World.size_drew] at hsz); (try have hz0 : w.heap.size < xl.w.heap.size := (by omega)); (try have hz1 : w.heap.size + 1 < xl.w.heap.size := (by omega)); (try have hz2 : w.heap.size + 1 + 1 < xl.w.heap.size := (by omega))) | ((with_reducible refine (within_b _ hv.out).mono ?_); rintro e w' ⟨rfl, xl, rfl⟩; have hsz := xl.bel.size; (try simp only [World.size_alloc, World.size_setCell, World.size_drew] at hsz); (try have hz0 : w.heap.size < xl.w.heap.size := (by omega)); (try have hz1 : w.heap.size + 1 < xl.w.heap.size := (by omega)); (try have hz2 : w.heap.size + 1 + 1 < xl.w.heap.size := (by omega)))))
        go_roundw
        case rel => exact ⟨k + 1, by omega, by go_num, X.out, ⟨_, by (repeat (first | (with_reducible exact Below.refl _ _) | (with_reducible assumption) | (with_reducible refine Later.out _ ?_) | (with_reducible refine bel_alloc ?_ _) | (with_reducible refine bel_drew ?_) | (with_reducible refine bel_drewN ?_ _) | (with_reducible refine bel_set ?_ ?_ _) | (with_reducible refine After.out _ ?_ ?_) | (dsimp only; omega) | omega | (simp only [World.size_alloc, World.size_setCell, World.size_drew]; omega)))⟩, rfl⟩
        case measure => first | (simp [intOf]; done) | (simp [intOf]; omega) | omega
    · obtain rfl : k = l.length := by omega
      have X := Lib.hid (show l.all (fun x => inB x lo hi) = true by have := hall.out; rwa [List.take_length] at this)
      go_wp2_with fail
      go_ret
      exact .mk (by rw [X.out]; rfl) (by (repeat (first | (with_reducible exact Below.refl _ _) | (with_reducible assumption) | (with_reducible refine Later.out _ ?_) | (with_reducible refine bel_alloc ?_ _) | (with_reducible refine bel_drew ?_) | (with_reducible refine bel_drewN ?_ _) | (with_reducible refine bel_set ?_ ?_ _) | (with_reducible refine After.out _ ?_ ?_) | (dsimp only; omega) | omega | (simp only [World.size_alloc, World.size_setCell, World.size_drew]; omega))))
theorem lengthI_any (a : Option Addr) (n c : Nat) (w : World) : Calls Tryz.prog 89 #[.slice a n c] w (Ret w (.int .i64 n)) := by
  go_enter Tryz.func89, Tryz.ntmps89
  go_wp2_with fail
  go_ret
  exact .mk rfl (by (repeat (first | (with_reducible exact Below.refl _ _) | (with_reducible assumption) | (with_reducible refine Later.out _ ?_) | (with_reducible refine bel_alloc ?_ _) | (with_reducible refine bel_drew ?_) | (with_reducible refine bel_drewN ?_ _) | (with_reducible refine bel_set ?_ ?_ _) | (with_reducible refine After.out _ ?_ ?_) | (dsimp only; omega) | omega | (simp only [World.size_alloc, World.size_setCell, World.size_drew]; omega))))
set_option maxHeartbeats 1000000 in
theorem areSigns_any (l : List Int) (m : Int) (a : Option Addr) (n c : Nat) (w : World) (hn : l.length = n) (hm : n ≤ 1048576) (hr : Row w a (intCells l)) :
    Calls Tryz.prog 64 #[.slice a n c, .int .i64 m] w (Ret w (.bool (signsB l m))) := by
  subst hn
  have C := Lib.hid (fun (w : World) (hr : Row w a (intCells l)) => areWithin_any l 0 19 a l.length c w rfl hm hr)
  replace hr := Lib.hid hr
  cases h1 : inB l.length 1 m
  · have X := Lib.hid (show signsB l m = false by simp [signsB, h1])
    replace h1 := Lib.hid h1
    clear C
    go_enter Tryz.func64, Tryz.ntmps64
    go_wp2_with (first | (go_at_call 89; first | ((with_reducible refine (Calls.later (lengthI_any _ _ _ _)).mono ?_); rintro e w' ⟨rfl, xl, rfl⟩; have hsz := xl.bel.size; (try simp only [World.size_alloc, World.size_setCell, World.size_drew] at hsz); (try have hz0 : w.heap.size < xl.w.heap.size := (by omega)); (try have hz1 : w.heap.size + 1 < xl.w.heap.size := (by omega)); (try have hz2 : w.heap.size + 1 + 1 < xl.w.heap.size := (by omega))) | ((with_reducible refine (lengthI_any _ _ _ _).mono ?_); rintro e w' ⟨rfl, xl, rfl⟩; have hsz := xl.bel.size; (try simp only [World.size_alloc, World.size_setCell, World.size_drew] at hsz); (try have hz0 : w.heap.size < xl.w.heap.size := (by omega)); (try have hz1 : w.heap.size + 1 < xl.w.heap.size := (by omega)); (try have hz2 : w.heap.size + 1 + 1 < xl.w.heap.size := (by omega)))) | (go_at_call 84; first | ((with_reducible refine (Calls.later (within_b _ h1.out)).mono ?_); rintro e w' ⟨rfl, xl, rfl⟩; have hsz := xl.bel.size; (try simp only [World.size_alloc, World.size_setCell, World.size_drew] at hsz); (try have hz0 : w.heap.size < xl.w.heap.size := (by omega)); (try have hz1 : w.heap.size + 1 < xl.w.heap.size := (by omega)); (try have hz2 : w.heap.size + 1 + 1 < xl.w.heap.size := (by omega))) | ((with_reducible refine (within_b _ h1.out).mono ?_); rintro e w' ⟨rfl, xl, rfl⟩; have hsz := xl.bel.size; (try simp only [World.size_alloc, World.size_setCell, World.size_drew] at hsz); (try have hz0 : w.heap.size < xl.w.heap.size := (by omega)); (try have hz1 : w.heap.size + 1 < xl.w.heap.size := (by omega)); (try have hz2 : w.heap.size + 1 + 1 < xl.w.heap.size := (by omega)))))
    go_ret
    exact .mk (by rw [X.out]; rfl) (by (repeat (first | (with_reducible exact Below.refl _ _) | (with_reducible assumption) | (with_reducible refine Later.out _ ?_) | (with_reducible refine bel_alloc ?_ _) | (with_reducible refine bel_drew ?_) | (with_reducible refine bel_drewN ?_ _) | (with_reducible refine bel_set ?_ ?_ _) | (with_reducible refine After.out _ ?_ ?_) | (dsimp only; omega) | omega | (simp only [World.size_alloc, World.size_setCell, World.size_drew]; omega))))
  · have X := Lib.hid (show signsB l m = l.all (fun x => inB x 0 19) by simp [signsB, h1])
    obtain ⟨v, hv⟩ : ∃ v, (l.all fun x => inB x 0 19) = v := ⟨_, rfl⟩
    simp only [hv] at C X
    replace h1 := Lib.hid h1
    clear hv
    go_enter Tryz.func64, Tryz.ntmps64
    go_wp2_with (first | (go_at_call 89; first | ((with_reducible refine (Calls.later (lengthI_any _ _ _ _)).mono ?_); rintro e w' ⟨rfl, xl, rfl⟩; have hsz := xl.bel.size; (try simp only [World.size_alloc, World.size_setCell, World.size_drew] at hsz); (try have hz0 : w.heap.size < xl.w.heap.size := (by omega)); (try have hz1 : w.heap.size + 1 < xl.w.heap.size := (by omega)); (try have hz2 : w.heap.size + 1 + 1 < xl.w.heap.size := (by omega))) | ((with_reducible refine (lengthI_any _ _ _ _).mono ?_); rintro e w' ⟨rfl, xl, rfl⟩; have hsz := xl.bel.size; (try simp only [World.size_alloc, World.size_setCell, World.size_drew] at hsz); (try have hz0 : w.heap.size < xl.w.heap.size := (by omega)); (try have hz1 : w.heap.size + 1 < xl.w.heap.size := (by omega)); (try have hz2 : w.heap.size + 1 + 1 < xl.w.heap.size := (by omega)))) | (go_at_call 84; first | ((with_reducible refine (Calls.later (within_b _ h1.out)).mono ?_); rintro e w' ⟨rfl, xl, rfl⟩; have hsz := xl.bel.size; (try simp only [World.size_alloc, World.size_setCell, World.size_drew] at hsz); (try have hz0 : w.heap.size < xl.w.heap.size := (by omega)); (try have hz1 : w.heap.size + 1 < xl.w.heap.size := (by omega)); (try have hz2 : w.heap.size + 1 + 1 < xl.w.heap.size := (by omega))) | ((with_reducible refine (within_b _ h1.out).mono ?_); rintro e w' ⟨rfl, xl, rfl⟩; have hsz := xl.bel.size; (try simp only [World.size_alloc, World.size_setCell, World.size_drew] at hsz); (try have hz0 : w.heap.size < xl.w.heap.size := (by omega)); (try have hz1 : w.heap.size + 1 < xl.w.heap.size := (by omega)); (try have hz2 : w.heap.size + 1 + 1 < xl.w.heap.size := (by omega)))) | (go_at_call 57; first | ((with_reducible refine (Calls.later (C.out _ (hr.out.bel (by (repeat (first | (with_reducible exact Below.refl _ _) | (with_reducible assumption) | (with_reducible refine Later.out _ ?_) | (with_reducible refine bel_alloc ?_ _) | (with_reducible refine bel_drew ?_) | (with_reducible refine bel_drewN ?_ _) | (with_reducible refine bel_set ?_ ?_ _) | (with_reducible refine After.out _ ?_ ?_) | (dsimp only; omega) | omega | (simp only [World.size_alloc, World.size_setCell, World.size_drew]; omega))))))).mono ?_); rintro e w' ⟨rfl, xl, rfl⟩; have hsz := xl.bel.size; (try simp only [World.size_alloc, World.size_setCell, World.size_drew] at hsz); (try have hz0 : w.heap.size < xl.w.heap.size := (by omega)); (try have hz1 : w.heap.size + 1 < xl.w.heap.size := (by omega)); (try have hz2 : w.heap.size + 1 + 1 < xl.w.heap.size := (by omega))) | ((with_reducible refine (C.out _ (hr.out.bel (by (repeat (first | (with_reducible exact Below.refl _ _) | (with_reducible assumption) | (with_reducible refine Later.out _ ?_) | (with_reducible refine bel_alloc ?_ _) | (with_reducible refine bel_drew ?_) | (with_reducible refine bel_drewN ?_ _) | (with_reducible refine bel_set ?_ ?_ _) | (with_reducible refine After.out _ ?_ ?_) | (dsimp only; omega) | omega | (simp only [World.size_alloc, World.size_setCell, World.size_drew]; omega)))))).mono ?_); rintro e w' ⟨rfl, xl, rfl⟩; have hsz := xl.bel.size; (try simp only [World.size_alloc, World.size_setCell, World.size_drew] at hsz); (try have hz0 : w.heap.size < xl.w.heap.size := (by omega)); (try have hz1 : w.heap.size + 1 < xl.w.heap.size := (by omega)); (try have hz2 : w.heap.size + 1 + 1 < xl.w.heap.size := (by omega)))))
    go_ret
    exact .mk (by rw [X.out]; rfl) (by (repeat (first | (with_reducible exact Below.refl _ _) | (with_reducible assumption) | (with_reducible refine Later.out _ ?_) | (with_reducible refine bel_alloc ?_ _) | (with_reducible refine bel_drew ?_) | (with_reducible refine bel_drewN ?_ _) | (with_reducible refine bel_set ?_ ?_ _) | (with_reducible refine After.out _ ?_ ?_) | (dsimp only; omega) | omega | (simp only [World.size_alloc, World.size_setCell, World.size_drew]; omega))))
set_option maxHeartbeats 1000000 in
theorem isRule_any (r : Rul) (a : Option Addr) (c : Nat) (w : World) (ok : RulOk r) (hr : Row w a (intCells r.sg)) :
    Calls Tryz.prog 82 #[.agg #[.slice a r.sg.length c, .string r.rom]] w (Ret w (.bool (ruleB r))) := by
  have C := Lib.hid (fun (w : World) (hr : Row w a (intCells r.sg)) => areSigns_any r.sg 3 a r.sg.length c w rfl ok.s hr)
  have D := Lib.hid (fun (w : World) => isSmall_any r.rom 0 4 w ok.t)
  replace hr := Lib.hid hr
  have X := Lib.hid (show ruleB r = (signsB r.sg 3 && smallB r.rom 0 4) from rfl)
  obtain ⟨u, hu⟩ : ∃ v, signsB r.sg 3 = v := ⟨_, rfl⟩
  obtain ⟨v, hv⟩ : ∃ v, smallB r.rom 0 4 = v := ⟨_, rfl⟩
  simp only [hu] at C X
  simp only [hv] at D X
  clear hu hv
  cases u
  · go_enter Tryz.func82, Tryz.ntmps82
    go_wp2_with (first | (go_at_call 64; first | ((with_reducible refine (Calls.later (C.out _ (hr.out.bel (by (repeat (first | (with_reducible exact Below.refl _ _) | (with_reducible assumption) | (with_reducible refine Later.out _ ?_) | (with_reducible refine bel_alloc ?_ _) | (with_reducible refine bel_drew ?_) | (with_reducible refine bel_drewN ?_ _) | (with_reducible refine bel_set ?_ ?_ _) | (with_reducible refine After.out _ ?_ ?_) | (dsimp only; omega) | omega | (simp only [World.size_alloc, World.size_setCell, World.size_drew]; omega))))))).mono ?_); rintro e w' ⟨rfl, xl, rfl⟩; have hsz := xl.bel.size; (try simp only [World.size_alloc, World.size_setCell, World.size_drew] at hsz); (try have hz0 : w.heap.size < xl.w.heap.size := (by omega)); (try have hz1 : w.heap.size + 1 < xl.w.heap.size := (by omega)); (try have hz2 : w.heap.size + 1 + 1 < xl.w.heap.size := (by omega))) | ((with_reducible refine (C.out _ (hr.out.bel (by (repeat (first | (with_reducible exact Below.refl _ _) | (with_reducible assumption) | (with_reducible refine Later.out _ ?_) | (with_reducible refine bel_alloc ?_ _) | (with_reducible refine bel_drew ?_) | (with_reducible refine bel_drewN ?_ _) | (with_reducible refine bel_set ?_ ?_ _) | (with_reducible refine After.out _ ?_ ?_) | (dsimp only; omega) | omega | (simp only [World.size_alloc, World.size_setCell, World.size_drew]; omega)))))).mono ?_); rintro e w' ⟨rfl, xl, rfl⟩; have hsz := xl.bel.size; (try simp only [World.size_alloc, World.size_setCell, World.size_drew] at hsz); (try have hz0 : w.heap.size < xl.w.heap.size := (by omega)); (try have hz1 : w.heap.size + 1 < xl.w.heap.size := (by omega)); (try have hz2 : w.heap.size + 1 + 1 < xl.w.heap.size := (by omega)))))
    go_ret
    exact .mk (by rw [X.out]; rfl) (by (repeat (first | (with_reducible exact Below.refl _ _) | (with_reducible assumption) | (with_reducible refine Later.out _ ?_) | (with_reducible refine bel_alloc ?_ _) | (with_reducible refine bel_drew ?_) | (with_reducible refine bel_drewN ?_ _) | (with_reducible refine bel_set ?_ ?_ _) | (with_reducible refine After.out _ ?_ ?_) | (dsimp only; omega) | omega | (simp only [World.size_alloc, World.size_setCell, World.size_drew]; omega))))
  · go_enter Tryz.func82, Tryz.ntmps82
    go_wp2_with (first | (go_at_call 64; first | ((with_reducible refine (Calls.later (C.out _ (hr.out.bel (by (repeat (first | (with_reducible exact Below.refl _ _) | (with_reducible assumption) | (with_reducible refine Later.out _ ?_) | (with_reducible refine bel_alloc ?_ _) | (with_reducible refine bel_drew ?_) | (with_reducible refine bel_drewN ?_ _) | (with_reducible refine bel_set ?_ ?_ _) | (with_reducible refine After.out _ ?_ ?_) | (dsimp only; omega) | omega | (simp only [World.size_alloc, World.size_setCell, World.size_drew]; omega))))))).mono ?_); rintro e w' ⟨rfl, xl, rfl⟩; have hsz := xl.bel.size; (try simp only [World.size_alloc, World.size_setCell, World.size_drew] at hsz); (try have hz0 : w.heap.size < xl.w.heap.size := (by omega)); (try have hz1 : w.heap.size + 1 < xl.w.heap.size := (by omega)); (try have hz2 : w.heap.size + 1 + 1 < xl.w.heap.size := (by omega))) | ((with_reducible refine (C.out _ (hr.out.bel (by (repeat (first | (with_reducible exact Below.refl _ _) | (with_reducible assumption) | (with_reducible refine Later.out _ ?_) | (with_reducible refine bel_alloc ?_ _) | (with_reducible refine bel_drew ?_) | (with_reducible refine bel_drewN ?_ _) | (with_reducible refine bel_set ?_ ?_ _) | (with_reducible refine After.out _ ?_ ?_) | (dsimp only; omega) | omega | (simp only [World.size_alloc, World.size_setCell, World.size_drew]; omega)))))).mono ?_); rintro e w' ⟨rfl, xl, rfl⟩; have hsz := xl.bel.size; (try simp only [World.size_alloc, World.size_setCell, World.size_drew] at hsz); (try have hz0 : w.heap.size < xl.w.heap.size := (by omega)); (try have hz1 : w.heap.size + 1 < xl.w.heap.size := (by omega)); (try have hz2 : w.heap.size + 1 + 1 < xl.w.heap.size := (by omega)))) | (go_at_call 53; first | ((with_reducible refine (Calls.later (D.out _)).mono ?_); rintro e w' ⟨rfl, xl, rfl⟩; have hsz := xl.bel.size; (try simp only [World.size_alloc, World.size_setCell, World.size_drew] at hsz); (try have hz0 : w.heap.size < xl.w.heap.size := (by omega)); (try have hz1 : w.heap.size + 1 < xl.w.heap.size := (by omega)); (try have hz2 : w.heap.size + 1 + 1 < xl.w.heap.size := (by omega))) | ((with_reducible refine (D.out _).mono ?_); rintro e w' ⟨rfl, xl, rfl⟩; have hsz := xl.bel.size; (try simp only [World.size_alloc, World.size_setCell, World.size_drew] at hsz); (try have hz0 : w.heap.size < xl.w.heap.size := (by omega)); (try have hz1 : w.heap.size + 1 < xl.w.heap.size := (by omega)); (try have hz2 : w.heap.size + 1 + 1 < xl.w.heap.size := (by omega)))))
    go_ret
    exact .mk (by rw [X.out]; rfl) (by (repeat (first | (with_reducible exact Below.refl _ _) | (with_reducible assumption) | (with_reducible refine Later.out _ ?_) | (with_reducible refine bel_alloc ?_ _) | (with_reducible refine bel_drew ?_) | (with_reducible refine bel_drewN ?_ _) | (with_reducible refine bel_set ?_ ?_ _) | (with_reducible refine After.out _ ?_ ?_) | (dsimp only; omega) | omega | (simp only [World.size_alloc, World.size_setCell, World.size_drew]; omega))))
/-- What a function value must do for a table: tell `p` of each of its rules, whenever it is called later. -/
def TellsU (g : Nat) (pre lb : Array Value) (p : Rul → Bool) (L : List Rul) (w : World) : Prop :=
  ∀ r ∈ L, ∀ (ax : Option Addr) (cx : Nat) (w' : World), Below w.heap.size w w' → Row w' ax (intCells r.sg) → r.sg.length ≤ cx → cx ≤ maxLen → Calls Tryz.prog g (pre.push (.agg #[.slice ax r.sg.length cx, .string r.rom]) ++ lb) w' (Ret w' (.bool (p r)))
set_option maxHeartbeats 1000000 in
theorem indexFuncU_any (g : Nat) (pre lb : Array Value) (p : Rul → Bool) (L : List Rul) (a : Option Addr) (n c : Nat) (w : World) (eg : ∀ args w, (callFunc g args).run Tryz.prog w = .ok (.enter g args) w)
    (hn : L.length = n) (hm : n ≤ 1048576) (hr : RulesR w a L) (hp : TellsU g pre lb p L w) :
    Calls Tryz.prog 73 #[.slice a n c, .func (.func g) pre lb] w (Ret w (.int .i64 (idxU p L))) := by
  subst hn
  replace hr := Lib.hid hr
  replace hp := Lib.hid hp
  go_enter Tryz.func73, Tryz.ntmps73
  go_wp2_with fail
  go_loopw [8] (fun i wr => ∃ k : Nat, k ≤ L.length ∧ i = .int .i64 k ∧ (∀ j (hj : j < L.length), j < k → p L[j] = false) ∧ ∃ z : Later w, wr = z.w) (fun i _ => L.length - (intOf i).toNat)
  case atStart => exact ⟨0, Nat.zero_le _, rfl, fun j _ h => absurd h (by omega), ⟨_, Below.refl _ _⟩, rfl⟩
  case round =>
    obtain ⟨k, hk, rfl, hall, z, rfl⟩ := hrel
    replace hall := Lib.hid hall
    by_cases hlt : k < L.length
    · obtain ⟨b, o, ai, ci, rfl, hb, q0, q1, q2, q3, q4⟩ := hr.out.at_ hlt
      have hc := hp.out L[k] (List.getElem_mem hlt) ai ci z.w z.bel (q2.bel z.bel) q3 q4
      clear q2 q3 q4
      cases hv : p L[k]
      · rw [hv] at hc
        replace hc := Lib.hid hc
        have X := Lib.hid (show ∀ j (hj : j < L.length), j < k + 1 → p L[j] = false from fun j hj h => by
          rcases Nat.lt_or_ge j k with h1 | h1
          · exact hall.out j hj h1
          · obtain rfl : j = k := by omega
            exact hv)
        clear hv
        go_wp2_with (go_at_fn g; (with_reducible refine hc.out.mono ?_); rintro e w' ⟨rfl, y1, rfl⟩)
        go_roundw
        case rel => exact ⟨k + 1, by omega, by go_num, X.out, ⟨_, by (repeat (first | (with_reducible exact Below.refl _ _) | (with_reducible assumption) | (with_reducible refine Later.out _ ?_) | (with_reducible refine bel_alloc ?_ _) | (with_reducible refine bel_drew ?_) | (with_reducible refine bel_drewN ?_ _) | (with_reducible refine bel_set ?_ ?_ _) | (with_reducible refine After.out _ ?_ ?_) | (dsimp only; omega) | omega | (simp only [World.size_alloc, World.size_setCell, World.size_drew]; omega)))⟩, rfl⟩
        case measure => first | (simp [intOf]; done) | (simp [intOf]; omega) | omega
      · rw [hv] at hc
        replace hc := Lib.hid hc
        have X := Lib.hid (idxU_some hlt hv fun j hj h => hall.out j hj h)
        clear hv
        go_wp2_with (go_at_fn g; (with_reducible refine hc.out.mono ?_); rintro e w' ⟨rfl, y1, rfl⟩)
        go_ret
        exact .mk (by rw [X.out]; rfl) (by (repeat (first | (with_reducible exact Below.refl _ _) | (with_reducible assumption) | (with_reducible refine Later.out _ ?_) | (with_reducible refine bel_alloc ?_ _) | (with_reducible refine bel_drew ?_) | (with_reducible refine bel_drewN ?_ _) | (with_reducible refine bel_set ?_ ?_ _) | (with_reducible refine After.out _ ?_ ?_) | (dsimp only; omega) | omega | (simp only [World.size_alloc, World.size_setCell, World.size_drew]; omega))))
    · obtain rfl : k = L.length := by omega
      have X := Lib.hid (idxU_none fun j hj => hall.out j hj hj)
      go_wp2_with fail
      go_ret
      exact .mk (by rw [X.out]; rfl) (by (repeat (first | (with_reducible exact Below.refl _ _) | (with_reducible assumption) | (with_reducible refine Later.out _ ?_) | (with_reducible refine bel_alloc ?_ _) | (with_reducible refine bel_drew ?_) | (with_reducible refine bel_drewN ?_ _) | (with_reducible refine bel_set ?_ ?_ _) | (with_reducible refine After.out _ ?_ ?_) | (dsimp only; omega) | omega | (simp only [World.size_alloc, World.size_setCell, World.size_drew]; omega))))
set_option maxHeartbeats 1000000 in
theorem equalI_any (l l' : List Int) (a a' : Option Addr) (n c n' c' : Nat) (w : World) (hn : l.length = n) (hn' : l'.length = n') (hm : n ≤ 1048576) (hm' : n' ≤ 1048576) (hr : Row w a (intCells l)) (hr' : Row w a' (intCells l')) :
    Calls Tryz.prog 24 #[.slice a n c, .slice a' n' c'] w (Ret w (.bool (l == l'))) := by
  subst hn hn'
  by_cases hl : l.length = l'.length
  · replace hr := Lib.hid hr
    replace hr' := Lib.hid hr'
    have e1 : ((l.length : Int) != (l'.length : Int)) = false := by simp [hl]
    have HL := Lib.hid hl
    clear hl
    go_enter Tryz.func24, Tryz.ntmps24
    go_wp2_with fail
    go_loopw [13] (fun i wr => ∃ k : Nat, k ≤ l.length ∧ i = .int .i64 k ∧ (∀ j (h1 : j < l.length) (h2 : j < l'.length), j < k → l[j] = l'[j]) ∧ ∃ z : Later w, wr = z.w) (fun i _ => l.length - (intOf i).toNat)
    case atStart => exact ⟨0, Nat.zero_le _, rfl, fun j _ _ h => absurd h (by omega), LaterC.mk (by (repeat (first | (with_reducible exact Below.refl _ _) | (with_reducible assumption) | (with_reducible refine Later.out _ ?_) | (with_reducible refine bel_alloc ?_ _) | (with_reducible refine bel_drew ?_) | (with_reducible refine bel_drewN ?_ _) | (with_reducible refine bel_set ?_ ?_ _) | (with_reducible refine After.out _ ?_ ?_) | (dsimp only; omega) | omega | (simp only [World.size_alloc, World.size_setCell, World.size_drew]; omega))))⟩
    case round =>
      obtain ⟨k, hk, rfl, hsame, z, rfl⟩ := hrel
      have hzz := z.bel.size
      by_cases hlt : k < l.length
      · have hlt' : k < l'.length := by have := HL.out; omega
        have hi1 : (k : Int) < (l.length : Int) := by omega
        have hi2 : (k : Int) < (l'.length : Int) := by omega
        obtain ⟨b, o, rfl, hb, hc⟩ := hr.out.int hlt
        obtain ⟨b', o', rfl, hb', hc'⟩ := hr'.out.int hlt'
        by_cases hd : l[k] = l'[k]
        · have X := Lib.hid (show ∀ j (h1 : j < l.length) (h2 : j < l'.length), j < k + 1 → l[j] = l'[j] from fun j h1 h2 h => by
            rcases Nat.lt_or_ge j k with h3 | h3
            · exact hsame j h1 h2 h3
            · obtain rfl : j = k := by omega
              exact hd)
          rw [← hd] at hc'
          clear hsame hd
          go_wp2_with fail
          refine wp_region_later (by kernel_rfl) (by kernel_rfl) ?_
          repeat (go_big_quiet_step (fail))
          refine wpQuiet_nil ?_
          rintro _ ⟨xq, rfl⟩
          go_wp2_with fail
          go_roundw
          case rel => exact ⟨k + 1, by omega, by go_num, X.out, LaterC.mk (by (repeat (first | (with_reducible exact Below.refl _ _) | (with_reducible assumption) | (with_reducible refine Later.out _ ?_) | (with_reducible refine bel_alloc ?_ _) | (with_reducible refine bel_drew ?_) | (with_reducible refine bel_drewN ?_ _) | (with_reducible refine bel_set ?_ ?_ _) | (with_reducible refine After.out _ ?_ ?_) | (dsimp only; omega) | omega | (simp only [World.size_alloc, World.size_setCell, World.size_drew]; omega))))⟩
          case measure => first | (simp [intOf]; done) | (simp [intOf]; omega) | omega
        · have X := Lib.hid (beq_of_diff hlt hlt' hd)
          have hd' : (l[k] == l'[k]) = false := by simpa using hd
          clear hsame hd
          go_wp2_with fail
          refine wp_region_later (by kernel_rfl) (by kernel_rfl) ?_
          repeat (go_big_quiet_step (fail))
          refine wpQuiet_nil ?_
          rintro _ ⟨xq, rfl⟩
          go_wp2_with fail
          go_ret
          exact .mk (by rw [X.out]; rfl) (by (repeat (first | (with_reducible exact Below.refl _ _) | (with_reducible assumption) | (with_reducible refine Later.out _ ?_) | (with_reducible refine bel_alloc ?_ _) | (with_reducible refine bel_drew ?_) | (with_reducible refine bel_drewN ?_ _) | (with_reducible refine bel_set ?_ ?_ _) | (with_reducible refine After.out _ ?_ ?_) | (dsimp only; omega) | omega | (simp only [World.size_alloc, World.size_setCell, World.size_drew]; omega))))
      · obtain rfl : k = l.length := by omega
        have X := Lib.hid (beq_of_all HL.out fun j h1 h2 => hsame j h1 h2 h1)
        clear hsame
        go_wp2_with fail
        go_ret
        exact .mk (by rw [X.out]; rfl) (by (repeat (first | (with_reducible exact Below.refl _ _) | (with_reducible assumption) | (with_reducible refine Later.out _ ?_) | (with_reducible refine bel_alloc ?_ _) | (with_reducible refine bel_drew ?_) | (with_reducible refine bel_drewN ?_ _) | (with_reducible refine bel_set ?_ ?_ _) | (with_reducible refine After.out _ ?_ ?_) | (dsimp only; omega) | omega | (simp only [World.size_alloc, World.size_setCell, World.size_drew]; omega))))
  · have X := Lib.hid (beq_of_len hl)
    have e1 : ((l.length : Int) != (l'.length : Int)) = true := by simp; omega
    clear hr hr'
    go_enter Tryz.func24, Tryz.ntmps24
    go_wp2_with fail
    go_ret
    exact .mk (by rw [X.out]; rfl) (by (repeat (first | (with_reducible exact Below.refl _ _) | (with_reducible assumption) | (with_reducible refine Later.out _ ?_) | (with_reducible refine bel_alloc ?_ _) | (with_reducible refine bel_drew ?_) | (with_reducible refine bel_drewN ?_ _) | (with_reducible refine bel_set ?_ ?_ _) | (with_reducible refine After.out _ ?_ ?_) | (dsimp only; omega) | omega | (simp only [World.size_alloc, World.size_setCell, World.size_drew]; omega))))
set_option maxHeartbeats 1000000 in
theorem findRule1_any (r : Rul) (s : List Int) (ar a : Option Addr) (cr n c b : Nat) (w : World) (hn : s.length = n) (hm : n ≤ 1048576) (hs : r.sg.length ≤ 1048576) (hr : Row w ar (intCells r.sg)) (hr' : Row w a (intCells s)) (hb : w.cell? ⟨b, 0, none⟩ = some (.slice a n c)) (hbl : b < w.heap.size) :
    Calls Tryz.prog 94 #[.agg #[.slice ar r.sg.length cr, .string r.rom], .pointer (some ⟨b, 0, none⟩)] w (Ret w (.bool (r.sg == s))) := by
  have C := Lib.hid (fun (w : World) (hr : Row w ar (intCells r.sg)) (hr' : Row w a (intCells s)) => equalI_any r.sg s ar a r.sg.length cr n c w rfl hn hs hm hr hr')
  replace hr := Lib.hid hr
  replace hr' := Lib.hid hr'
  go_enter Tryz.func94, Tryz.ntmps94
  go_wp2_with fail
  with_reducible refine (C.out _ (hr.out.bel (by (repeat (first | (with_reducible exact Below.refl _ _) | (with_reducible assumption) | (with_reducible refine Later.out _ ?_) | (with_reducible refine bel_alloc ?_ _) | (with_reducible refine bel_drew ?_) | (with_reducible refine bel_drewN ?_ _) | (with_reducible refine bel_set ?_ ?_ _) | (with_reducible refine After.out _ ?_ ?_) | (dsimp only; omega) | omega | (simp only [World.size_alloc, World.size_setCell, World.size_drew]; omega))))) (hr'.out.bel (by (repeat (first | (with_reducible exact Below.refl _ _) | (with_reducible assumption) | (with_reducible refine Later.out _ ?_) | (with_reducible refine bel_alloc ?_ _) | (with_reducible refine bel_drew ?_) | (with_reducible refine bel_drewN ?_ _) | (with_reducible refine bel_set ?_ ?_ _) | (with_reducible refine After.out _ ?_ ?_) | (dsimp only; omega) | omega | (simp only [World.size_alloc, World.size_setCell, World.size_drew]; omega)))))).mono ?_
  rintro e w' ⟨rfl, y1, rfl⟩
  have hsy1 := y1.bel.size
  (try simp only [World.size_alloc, World.size_setCell, World.size_drew] at hsy1)
  go_wp2_with fail
  go_ret
  exact .mk rfl (by (repeat (first | (with_reducible exact Below.refl _ _) | (with_reducible assumption) | (with_reducible refine Later.out _ ?_) | (with_reducible refine bel_alloc ?_ _) | (with_reducible refine bel_drew ?_) | (with_reducible refine bel_drewN ?_ _) | (with_reducible refine bel_set ?_ ?_ _) | (with_reducible refine After.out _ ?_ ?_) | (dsimp only; omega) | omega | (simp only [World.size_alloc, World.size_setCell, World.size_drew]; omega))))
theorem enters_findRule1 : ∀ args w, (callFunc 94 args).run Tryz.prog w = .ok (.enter 94 args) w := fun _ _ => by kernel_rfl
theorem tells_findRule {T : List Rul} {s : List Int} {a : Option Addr} {n c b : Nat} {w : World} (hok : ∀ r ∈ T, RulOk r) (hn : s.length = n) (hm : n ≤ 1048576) (hr' : Row w a (intCells s)) (hb : w.cell? ⟨b, 0, none⟩ = some (.slice a n c)) (hbl : b < w.heap.size) :
    TellsU 94 #[] #[.pointer (some ⟨b, 0, none⟩)] (fun r => r.sg == s) T w :=
  fun r hr ax cx w' hbel hrow _ _ => by simpa using findRule1_any r s ax a cx n c b w' hn hm (hok r hr).s hrow (hr'.bel hbel) ((hbel.cell hbl).trans hb) (Nat.lt_of_lt_of_le hbl hbel.size)
set_option maxHeartbeats 1000000 in
theorem findRule_any (T : List Rul) (s : List Int) (aT a : Option Addr) (nT cT n c : Nat) (w : World) (hnT : T.length = nT) (hmT : nT ≤ 1048576) (hok : ∀ r ∈ T, RulOk r) (hn : s.length = n) (hm : n ≤ 1048576) (hr : RulesR w aT T) (hr' : Row w a (intCells s)) :
    Calls Tryz.prog 83 #[.slice aT nT cT, .slice a n c] w (Ret w (.int .i64 (findR T s))) := by
  have C := Lib.hid (fun (w : World) (b : Nat) (hr : RulesR w aT T) (hr' : Row w a (intCells s)) (hb : w.cell? ⟨b, 0, none⟩ = some (.slice a n c)) (hbl : b < w.heap.size) =>
    indexFuncU_any 94 #[] #[.pointer (some ⟨b, 0, none⟩)] (fun r => r.sg == s) T aT nT cT w enters_findRule1 hnT hmT hr (tells_findRule hok hn hm hr' hb hbl))
  replace hr := Lib.hid hr
  replace hr' := Lib.hid hr'
  replace hok := Lib.hid hok
  go_enter Tryz.func83, Tryz.ntmps83
  go_wp2_with fail
  with_reducible refine (C.out _ _ (hr.out.bel (by (repeat (first | (with_reducible exact Below.refl _ _) | (with_reducible assumption) | (with_reducible refine Later.out _ ?_) | (with_reducible refine bel_alloc ?_ _) | (with_reducible refine bel_drew ?_) | (with_reducible refine bel_drewN ?_ _) | (with_reducible refine bel_set ?_ ?_ _) | (with_reducible refine After.out _ ?_ ?_) | (dsimp only; omega) | omega | (simp only [World.size_alloc, World.size_setCell, World.size_drew]; omega))))) (hr'.out.bel (by (repeat (first | (with_reducible exact Below.refl _ _) | (with_reducible assumption) | (with_reducible refine Later.out _ ?_) | (with_reducible refine bel_alloc ?_ _) | (with_reducible refine bel_drew ?_) | (with_reducible refine bel_drewN ?_ _) | (with_reducible refine bel_set ?_ ?_ _) | (with_reducible refine After.out _ ?_ ?_) | (dsimp only; omega) | omega | (simp only [World.size_alloc, World.size_setCell, World.size_drew]; omega))))) (by simp [go_sem, ↓IntWalk.iteOmega]) (by simp only [World.size_alloc]; omega)).mono ?_
  rintro e w' ⟨rfl, y1, rfl⟩
  have hsy1 := y1.bel.size
  (try simp only [World.size_alloc] at hsy1)
  go_wp2_with fail
  go_ret
  exact .mk rfl (by (repeat (first | (with_reducible exact Below.refl _ _) | (with_reducible assumption) | (with_reducible refine Later.out _ ?_) | (with_reducible refine bel_alloc ?_ _) | (with_reducible refine bel_drew ?_) | (with_reducible refine bel_drewN ?_ _) | (with_reducible refine bel_set ?_ ?_ _) | (with_reducible refine After.out _ ?_ ?_) | (dsimp only; omega) | omega | (simp only [World.size_alloc, World.size_setCell, World.size_drew]; omega))))
set_option maxHeartbeats 1000000 in
theorem isTable_any (T : List Rul) (a : Option Addr) (n c : Nat) (w : World) (hn : T.length = n) (hm : n ≤ 1048576) (hnc : n ≤ c) (hcm : c ≤ maxLen) (hok : ∀ r ∈ T, RulOk r) (hr : RulesR w a T) :
    Calls Tryz.prog 52 #[.slice a n c] w (Ret w (.bool (tableB T))) := by
  subst hn
  unfold maxLen at hcm
  replace hr := Lib.hid hr
  replace hok := Lib.hid hok
  go_enter Tryz.func52, Tryz.ntmps52
  go_wp2_with fail
  go_loopw [7] (fun i wr => ∃ k : Nat, k ≤ T.length ∧ i = .int .i64 k ∧ (∀ j, j < k → tabAt T j = true) ∧ ∃ z : Later w, wr = z.w) (fun i _ => T.length - (intOf i).toNat)
  case atStart => exact ⟨0, Nat.zero_le _, rfl, fun j h => absurd h (by omega), ⟨_, Below.refl _ _⟩, rfl⟩
  case round =>
    obtain ⟨k, hk, rfl, hall, z, rfl⟩ := hrel
    replace hall := Lib.hid hall
    have hzz := z.bel.size
    by_cases hlt : k < T.length
    · obtain ⟨b, o, ai, ci, rfl, hb, q0, q1, q2, q3, q4⟩ := hr.out.at_ hlt
      have hok1 := hok.out _ (List.getElem_mem hlt)
      have HT := tabAt_get hlt
      have C := fun (w : World) (hr : Row w ai (intCells T[k].sg)) => isRule_any T[k] ai ci w hok1 hr
      have F := fun (cT : Nat) (w : World) (hr : RulesR w (some ⟨b, o, none⟩) (T.take k)) (hr' : Row w ai (intCells T[k].sg)) => findRule_any (T.take k) T[k].sg (some ⟨b, o, none⟩) ai k cT T[k].sg.length ci w (by rw [List.length_take]; omega) (by omega) (fun r hr => hok.out r (List.mem_of_mem_take hr)) rfl hok1.s hr hr'
      have hrk := Lib.hid (hr.out.take k)
      replace q2 := Lib.hid q2
      obtain ⟨v, hv⟩ : ∃ v, ruleB T[k] = v := ⟨_, rfl⟩
      obtain ⟨u, hu⟩ : ∃ v, findR (T.take k) T[k].sg = v := ⟨_, rfl⟩
      simp only [hv] at C HT
      simp only [hu] at F HT
      replace C := Lib.hid C
      replace F := Lib.hid F
      clear hv hu q3 q4
      cases v
      · have X := Lib.hid (tableB_bad hlt (by rw [HT]; rfl))
        clear HT
        go_wp2_with fail
        refine wp_region_later (by kernel_rfl) (by kernel_rfl) ?_
        repeat (go_big_quiet_step ((first | (go_at_call 82; exact Calls.later (C.out _ (q2.out.bel (by (repeat (first | (with_reducible exact Below.refl _ _) | (with_reducible assumption) | (with_reducible refine Later.out _ ?_) | (with_reducible refine bel_alloc ?_ _) | (with_reducible refine bel_drew ?_) | (with_reducible refine bel_drewN ?_ _) | (with_reducible refine bel_set ?_ ?_ _) | (with_reducible refine After.out _ ?_ ?_) | (dsimp only; omega) | omega | (simp only [World.size_alloc, World.size_setCell, World.size_drew]; omega))))))))))
        refine wpQuiet_nil ?_
        rintro _ ⟨xq, rfl⟩
        go_wp2_with fail
        go_ret
        exact .mk (by rw [X.out]; rfl) (by (repeat (first | (with_reducible exact Below.refl _ _) | (with_reducible assumption) | (with_reducible refine Later.out _ ?_) | (with_reducible refine bel_alloc ?_ _) | (with_reducible refine bel_drew ?_) | (with_reducible refine bel_drewN ?_ _) | (with_reducible refine bel_set ?_ ?_ _) | (with_reducible refine After.out _ ?_ ?_) | (dsimp only; omega) | omega | (simp only [World.size_alloc, World.size_setCell, World.size_drew]; omega))))
      · by_cases h0 : 0 ≤ u
        · have X := Lib.hid (tableB_bad hlt (by rw [HT]; simp [h0]))
          clear HT
          go_wp2_with fail
          refine wp_region_later (by kernel_rfl) (by kernel_rfl) ?_
          repeat (go_big_quiet_step ((first | (go_at_call 82; exact Calls.later (C.out _ (q2.out.bel (by (repeat (first | (with_reducible exact Below.refl _ _) | (with_reducible assumption) | (with_reducible refine Later.out _ ?_) | (with_reducible refine bel_alloc ?_ _) | (with_reducible refine bel_drew ?_) | (with_reducible refine bel_drewN ?_ _) | (with_reducible refine bel_set ?_ ?_ _) | (with_reducible refine After.out _ ?_ ?_) | (dsimp only; omega) | omega | (simp only [World.size_alloc, World.size_setCell, World.size_drew]; omega))))))) | (go_at_call 83; exact Calls.later (F.out _ _ (hrk.out.bel (by (repeat (first | (with_reducible exact Below.refl _ _) | (with_reducible assumption) | (with_reducible refine Later.out _ ?_) | (with_reducible refine bel_alloc ?_ _) | (with_reducible refine bel_drew ?_) | (with_reducible refine bel_drewN ?_ _) | (with_reducible refine bel_set ?_ ?_ _) | (with_reducible refine After.out _ ?_ ?_) | (dsimp only; omega) | omega | (simp only [World.size_alloc, World.size_setCell, World.size_drew]; omega))))) (q2.out.bel (by (repeat (first | (with_reducible exact Below.refl _ _) | (with_reducible assumption) | (with_reducible refine Later.out _ ?_) | (with_reducible refine bel_alloc ?_ _) | (with_reducible refine bel_drew ?_) | (with_reducible refine bel_drewN ?_ _) | (with_reducible refine bel_set ?_ ?_ _) | (with_reducible refine After.out _ ?_ ?_) | (dsimp only; omega) | omega | (simp only [World.size_alloc, World.size_setCell, World.size_drew]; omega))))))))))
          refine wpQuiet_nil ?_
          rintro _ ⟨xq, rfl⟩
          go_wp2_with fail
          go_ret
          exact .mk (by rw [X.out]; rfl) (by (repeat (first | (with_reducible exact Below.refl _ _) | (with_reducible assumption) | (with_reducible refine Later.out _ ?_) | (with_reducible refine bel_alloc ?_ _) | (with_reducible refine bel_drew ?_) | (with_reducible refine bel_drewN ?_ _) | (with_reducible refine bel_set ?_ ?_ _) | (with_reducible refine After.out _ ?_ ?_) | (dsimp only; omega) | omega | (simp only [World.size_alloc, World.size_setCell, World.size_drew]; omega))))
        · have X := Lib.hid (show ∀ j, j < k + 1 → tabAt T j = true from fun j hj => by
            rcases Nat.lt_or_ge j k with h1 | h1
            · exact hall.out j h1
            · obtain rfl : j = k := by omega
              rw [HT]; simp [h0])
          clear HT
          go_wp2_with fail
          refine wp_region_later (by kernel_rfl) (by kernel_rfl) ?_
          repeat (go_big_quiet_step ((first | (go_at_call 82; exact Calls.later (C.out _ (q2.out.bel (by (repeat (first | (with_reducible exact Below.refl _ _) | (with_reducible assumption) | (with_reducible refine Later.out _ ?_) | (with_reducible refine bel_alloc ?_ _) | (with_reducible refine bel_drew ?_) | (with_reducible refine bel_drewN ?_ _) | (with_reducible refine bel_set ?_ ?_ _) | (with_reducible refine After.out _ ?_ ?_) | (dsimp only; omega) | omega | (simp only [World.size_alloc, World.size_setCell, World.size_drew]; omega))))))) | (go_at_call 83; exact Calls.later (F.out _ _ (hrk.out.bel (by (repeat (first | (with_reducible exact Below.refl _ _) | (with_reducible assumption) | (with_reducible refine Later.out _ ?_) | (with_reducible refine bel_alloc ?_ _) | (with_reducible refine bel_drew ?_) | (with_reducible refine bel_drewN ?_ _) | (with_reducible refine bel_set ?_ ?_ _) | (with_reducible refine After.out _ ?_ ?_) | (dsimp only; omega) | omega | (simp only [World.size_alloc, World.size_setCell, World.size_drew]; omega))))) (q2.out.bel (by (repeat (first | (with_reducible exact Below.refl _ _) | (with_reducible assumption) | (with_reducible refine Later.out _ ?_) | (with_reducible refine bel_alloc ?_ _) | (with_reducible refine bel_drew ?_) | (with_reducible refine bel_drewN ?_ _) | (with_reducible refine bel_set ?_ ?_ _) | (with_reducible refine After.out _ ?_ ?_) | (dsimp only; omega) | omega | (simp only [World.size_alloc, World.size_setCell, World.size_drew]; omega))))))))))
          refine wpQuiet_nil ?_
          rintro _ ⟨xq, rfl⟩
          go_wp2_with fail
          go_roundw
          case rel => exact ⟨k + 1, by omega, by go_num, X.out, LaterC.mk (by (repeat (first | (with_reducible exact Below.refl _ _) | (with_reducible assumption) | (with_reducible refine Later.out _ ?_) | (with_reducible refine bel_alloc ?_ _) | (with_reducible refine bel_drew ?_) | (with_reducible refine bel_drewN ?_ _) | (with_reducible refine bel_set ?_ ?_ _) | (with_reducible refine After.out _ ?_ ?_) | (dsimp only; omega) | omega | (simp only [World.size_alloc, World.size_setCell, World.size_drew]; omega))))⟩
          case measure => first | (simp [intOf]; done) | (simp [intOf]; omega) | omega
    · obtain rfl : k = T.length := by omega
      have X := Lib.hid (tableB_all fun j hj => hall.out j hj)
      go_wp2_with fail
      go_ret
      exact .mk (by rw [X.out]; simp [go_sem]; try omega) (by (repeat (first | (with_reducible exact Below.refl _ _) | (with_reducible assumption) | (with_reducible refine Later.out _ ?_) | (with_reducible refine bel_alloc ?_ _) | (with_reducible refine bel_drew ?_) | (with_reducible refine bel_drewN ?_ _) | (with_reducible refine bel_set ?_ ?_ _) | (with_reducible refine After.out _ ?_ ?_) | (dsimp only; omega) | omega | (simp only [World.size_alloc, World.size_setCell, World.size_drew]; omega))))
end Go.Proofs.YtemfhcmeeldngaaGreatDoor

/- The reference's side of rules and tables. -/
set_option linter.unusedSimpArgs false
set_option linter.unusedVariables false
namespace Go.Proofs.YtemfhcmeeldngaaGreatDoor
open Go.RowKit
set_option maxHeartbeats 1000000 in
theorem sSigns_any (l : List Int) (m : Int) (a : Option Addr) (n c : Nat) (w : World) (hn : l.length = n) (hm : n ≤ 1048576) (hr : Row w a (intCells l)) :
    Calls Tryz.prog 76 #[.slice a n c, .int .i64 m] w (Ret w (.bool (signsB l m))) := by
  subst hn
  replace hr := Lib.hid hr
  go_enter Tryz.func76, Tryz.ntmps76
  go_wp2_with fail
  go_loopw [5] (fun i wr => ∃ k : Nat, k ≤ l.length ∧ i = .int .i64 k ∧ (l.take k).all (fun x => inB x 0 19) = true ∧ ∃ z : Later w, wr = z.w) (fun i _ => l.length - (intOf i).toNat)
  case atStart => exact ⟨0, Nat.zero_le _, rfl, rfl, ⟨_, Below.refl _ _⟩, rfl⟩
  case round =>
    obtain ⟨k, hk, rfl, hall, z, rfl⟩ := hrel
    replace hall := Lib.hid hall
    have hzz := z.bel.size
    by_cases hlt : k < l.length
    · obtain ⟨b, o, rfl, hb, hc⟩ := hr.out.int hlt
      cases hv : inB l[k] 0 19
      · have X := Lib.hid (show signsB l m = false by simp [signsB, all_at_false (p := fun x => inB x 0 19) hlt hv])
        replace hv := Lib.hid hv
        go_wp2_with (first | (go_at_call 62; first | ((with_reducible refine (Calls.later (l01In_b _ hv.out)).mono ?_); rintro e w' ⟨rfl, xl, rfl⟩; have hsz := xl.bel.size; (try simp only [World.size_alloc, World.size_setCell, World.size_drew] at hsz); (try have hz0 : w.heap.size < xl.w.heap.size := (by omega)); (try have hz1 : w.heap.size + 1 < xl.w.heap.size := (by omega)); (try have hz2 : w.heap.size + 1 + 1 < xl.w.heap.size := (by omega))) | ((with_reducible refine (l01In_b _ hv.out).mono ?_); rintro e w' ⟨rfl, xl, rfl⟩; have hsz := xl.bel.size; (try simp only [World.size_alloc, World.size_setCell, World.size_drew] at hsz); (try have hz0 : w.heap.size < xl.w.heap.size := (by omega)); (try have hz1 : w.heap.size + 1 < xl.w.heap.size := (by omega)); (try have hz2 : w.heap.size + 1 + 1 < xl.w.heap.size := (by omega)))))
        go_ret
        exact .mk (by rw [X.out]; rfl) (by (repeat (first | (with_reducible exact Below.refl _ _) | (with_reducible assumption) | (with_reducible refine Later.out _ ?_) | (with_reducible refine bel_alloc ?_ _) | (with_reducible refine bel_drew ?_) | (with_reducible refine bel_drewN ?_ _) | (with_reducible refine bel_set ?_ ?_ _) | (with_reducible refine After.out _ ?_ ?_) | (dsimp only; omega) | omega | (simp only [World.size_alloc, World.size_setCell, World.size_drew]; omega))))
      · have X := Lib.hid (all_take_step (p := fun x => inB x 0 19) hlt hall.out hv)
        replace hv := Lib.hid hv
        go_wp2_with (first | (go_at_call 62; first | ((with_reducible refine (Calls.later (l01In_b _ hv.out)).mono ?_); rintro e w' ⟨rfl, xl, rfl⟩; have hsz := xl.bel.size; (try simp only [World.size_alloc, World.size_setCell, World.size_drew] at hsz); (try have hz0 : w.heap.size < xl.w.heap.size := (by omega)); (try have hz1 : w.heap.size + 1 < xl.w.heap.size := (by omega)); (try have hz2 : w.heap.size + 1 + 1 < xl.w.heap.size := (by omega))) | ((with_reducible refine (l01In_b _ hv.out).mono ?_); rintro e w' ⟨rfl, xl, rfl⟩; have hsz := xl.bel.size; (try simp only [World.size_alloc, World.size_setCell, World.size_drew] at hsz); (try have hz0 : w.heap.size < xl.w.heap.size := (by omega)); (try have hz1 : w.heap.size + 1 < xl.w.heap.size := (by omega)); (try have hz2 : w.heap.size + 1 + 1 < xl.w.heap.size := (by omega)))))
        go_roundw
        case rel => exact ⟨k + 1, by omega, by go_num, X.out, ⟨_, by (repeat (first | (with_reducible exact Below.refl _ _) | (with_reducible assumption) | (with_reducible refine Later.out _ ?_) | (with_reducible refine bel_alloc ?_ _) | (with_reducible refine bel_drew ?_) | (with_reducible refine bel_drewN ?_ _) | (with_reducible refine bel_set ?_ ?_ _) | (with_reducible refine After.out _ ?_ ?_) | (dsimp only; omega) | omega | (simp only [World.size_alloc, World.size_setCell, World.size_drew]; omega)))⟩, rfl⟩
        case measure => first | (simp [intOf]; done) | (simp [intOf]; omega) | omega
    · obtain rfl : k = l.length := by omega
      have X := Lib.hid (show signsB l m = inB l.length 1 m by have := hall.out; rw [List.take_length] at this; simp [signsB, this])
      go_wp2_with fail
      go_wp2_with fail
      with_reducible refine (l01In_any _ _ _ _).mono ?_
      rintro e w' ⟨rfl, y1, rfl⟩
      have hsy1 := y1.bel.size
      (try simp only [World.size_alloc, World.size_setCell, World.size_drew] at hsy1)
      go_wp2_with fail
      go_ret
      exact .mk (by rw [X.out]; rfl) (by (repeat (first | (with_reducible exact Below.refl _ _) | (with_reducible assumption) | (with_reducible refine Later.out _ ?_) | (with_reducible refine bel_alloc ?_ _) | (with_reducible refine bel_drew ?_) | (with_reducible refine bel_drewN ?_ _) | (with_reducible refine bel_set ?_ ?_ _) | (with_reducible refine After.out _ ?_ ?_) | (dsimp only; omega) | omega | (simp only [World.size_alloc, World.size_setCell, World.size_drew]; omega))))
theorem smallB_not {s : ByteArray} {lo hi : Int} (h : s.data.toList.all letterB = false) : smallB s lo hi = false := by simp [smallB, h]
theorem smallB_all {s : ByteArray} {lo hi : Int} (h : s.data.toList.all letterB = true) : smallB s lo hi = inB s.size lo hi := by simp [smallB, h]
set_option maxHeartbeats 400000 in
theorem sLower_any (s : ByteArray) (lo hi : Int) (w : World) (hs : s.size ≤ 1048576) : Calls Tryz.prog 55 #[.string s, .int .i64 lo, .int .i64 hi] w (Ret w (.bool (smallB s lo hi))) := by
  go_enter Tryz.func55, Tryz.ntmps55
  go_wp2_with fail
  go_loopw [7] (fun i wr => ∃ k : Nat, k ≤ s.size ∧ i = .int .i64 k ∧ (s.data.toList.take k).all letterB = true ∧ wr = w) (fun i _ => s.size - (intOf i).toNat)
  case atStart => exact ⟨0, Nat.zero_le _, rfl, rfl, rfl⟩
  case round =>
    obtain ⟨k, hk, rfl, hall, rfl⟩ := hrel
    replace hall := Lib.hid hall
    by_cases hlt : k < s.size
    · cases hl : letterB s[k]
      · have X := Lib.hid (smallB_not (lo := lo) (hi := hi) (all_false_at hlt hl))
        have hor : (s[k].toNat : Int) < 97 ∨ (97 ≤ (s[k].toNat : Int) ∧ 122 < (s[k].toNat : Int)) := by
          simp [letterB] at hl
          omega
        replace hl := Lib.hid hl
        rcases hor with h1 | ⟨h1, h2⟩
        all_goals
          go_wp2_with fail
          go_ret
          exact .mk (by rw [X.out]; rfl) (by (repeat (first | (with_reducible exact Below.refl _ _) | (with_reducible assumption) | (with_reducible refine Later.out _ ?_) | (with_reducible refine bel_alloc ?_ _) | (with_reducible refine bel_drew ?_) | (with_reducible refine bel_drewN ?_ _) | (with_reducible refine bel_set ?_ ?_ _) | (with_reducible refine After.out _ ?_ ?_) | (dsimp only; omega) | omega | (simp only [World.size_alloc, World.size_setCell, World.size_drew]; omega))))
      · have X := Lib.hid (all_take_succ hlt hall.out hl)
        have h1 : 97 ≤ (s[k].toNat : Int) ∧ (s[k].toNat : Int) ≤ 122 := by
          simp [letterB] at hl
          omega
        obtain ⟨h1, h2⟩ := h1
        replace hl := Lib.hid hl
        go_wp2_with fail
        go_roundw
        case rel => exact ⟨k + 1, by omega, by go_num, X.out, by first | rfl | trivial⟩
        case measure => first | (simp [intOf]; done) | (simp [intOf]; omega) | omega
    · obtain rfl : k = s.size := by omega
      have X := Lib.hid (smallB_all (s := s) (lo := lo) (hi := hi) (by have h := hall.out; rwa [List.take_of_length_le (by rw [Array.length_toList]; exact Nat.le_refl _)] at h))
      go_wp2_with fail
      with_reducible refine (l01In_any _ _ _ _).mono ?_
      rintro e w' ⟨rfl, y1, rfl⟩
      have hsy1 := y1.bel.size
      (try simp only [World.size_alloc, World.size_setCell, World.size_drew] at hsy1)
      go_wp2_with fail
      go_ret
      exact .mk (by rw [X.out]; rfl) (by (repeat (first | (with_reducible exact Below.refl _ _) | (with_reducible assumption) | (with_reducible refine Later.out _ ?_) | (with_reducible refine bel_alloc ?_ _) | (with_reducible refine bel_drew ?_) | (with_reducible refine bel_drewN ?_ _) | (with_reducible refine bel_set ?_ ?_ _) | (with_reducible refine After.out _ ?_ ?_) | (dsimp only; omega) | omega | (simp only [World.size_alloc, World.size_setCell, World.size_drew]; omega))))
set_option maxHeartbeats 1000000 in
theorem sIsRule_any (r : Rul) (a : Option Addr) (c : Nat) (w : World) (ok : RulOk r) (hr : Row w a (intCells r.sg)) :
    Calls Tryz.prog 86 #[.agg #[.slice a r.sg.length c, .string r.rom]] w (Ret w (.bool (ruleB r))) := by
  have C := Lib.hid (fun (w : World) (hr : Row w a (intCells r.sg)) => sSigns_any r.sg 3 a r.sg.length c w rfl ok.s hr)
  have D := Lib.hid (fun (w : World) => sLower_any r.rom 0 4 w ok.t)
  replace hr := Lib.hid hr
  have X := Lib.hid (show ruleB r = (signsB r.sg 3 && smallB r.rom 0 4) from rfl)
  obtain ⟨u, hu⟩ : ∃ v, signsB r.sg 3 = v := ⟨_, rfl⟩
  obtain ⟨v, hv⟩ : ∃ v, smallB r.rom 0 4 = v := ⟨_, rfl⟩
  simp only [hu] at C X
  simp only [hv] at D X
  clear hu hv
  cases u
  · go_enter Tryz.func86, Tryz.ntmps86
    go_wp2_with (first | (go_at_call 76; first | ((with_reducible refine (Calls.later (C.out _ (hr.out.bel (by (repeat (first | (with_reducible exact Below.refl _ _) | (with_reducible assumption) | (with_reducible refine Later.out _ ?_) | (with_reducible refine bel_alloc ?_ _) | (with_reducible refine bel_drew ?_) | (with_reducible refine bel_drewN ?_ _) | (with_reducible refine bel_set ?_ ?_ _) | (with_reducible refine After.out _ ?_ ?_) | (dsimp only; omega) | omega | (simp only [World.size_alloc, World.size_setCell, World.size_drew]; omega))))))).mono ?_); rintro e w' ⟨rfl, xl, rfl⟩; have hsz := xl.bel.size; (try simp only [World.size_alloc, World.size_setCell, World.size_drew] at hsz); (try have hz0 : w.heap.size < xl.w.heap.size := (by omega)); (try have hz1 : w.heap.size + 1 < xl.w.heap.size := (by omega)); (try have hz2 : w.heap.size + 1 + 1 < xl.w.heap.size := (by omega))) | ((with_reducible refine (C.out _ (hr.out.bel (by (repeat (first | (with_reducible exact Below.refl _ _) | (with_reducible assumption) | (with_reducible refine Later.out _ ?_) | (with_reducible refine bel_alloc ?_ _) | (with_reducible refine bel_drew ?_) | (with_reducible refine bel_drewN ?_ _) | (with_reducible refine bel_set ?_ ?_ _) | (with_reducible refine After.out _ ?_ ?_) | (dsimp only; omega) | omega | (simp only [World.size_alloc, World.size_setCell, World.size_drew]; omega)))))).mono ?_); rintro e w' ⟨rfl, xl, rfl⟩; have hsz := xl.bel.size; (try simp only [World.size_alloc, World.size_setCell, World.size_drew] at hsz); (try have hz0 : w.heap.size < xl.w.heap.size := (by omega)); (try have hz1 : w.heap.size + 1 < xl.w.heap.size := (by omega)); (try have hz2 : w.heap.size + 1 + 1 < xl.w.heap.size := (by omega)))))
    go_ret
    exact .mk (by rw [X.out]; rfl) (by (repeat (first | (with_reducible exact Below.refl _ _) | (with_reducible assumption) | (with_reducible refine Later.out _ ?_) | (with_reducible refine bel_alloc ?_ _) | (with_reducible refine bel_drew ?_) | (with_reducible refine bel_drewN ?_ _) | (with_reducible refine bel_set ?_ ?_ _) | (with_reducible refine After.out _ ?_ ?_) | (dsimp only; omega) | omega | (simp only [World.size_alloc, World.size_setCell, World.size_drew]; omega))))
  · go_enter Tryz.func86, Tryz.ntmps86
    go_wp2_with (first | (go_at_call 76; first | ((with_reducible refine (Calls.later (C.out _ (hr.out.bel (by (repeat (first | (with_reducible exact Below.refl _ _) | (with_reducible assumption) | (with_reducible refine Later.out _ ?_) | (with_reducible refine bel_alloc ?_ _) | (with_reducible refine bel_drew ?_) | (with_reducible refine bel_drewN ?_ _) | (with_reducible refine bel_set ?_ ?_ _) | (with_reducible refine After.out _ ?_ ?_) | (dsimp only; omega) | omega | (simp only [World.size_alloc, World.size_setCell, World.size_drew]; omega))))))).mono ?_); rintro e w' ⟨rfl, xl, rfl⟩; have hsz := xl.bel.size; (try simp only [World.size_alloc, World.size_setCell, World.size_drew] at hsz); (try have hz0 : w.heap.size < xl.w.heap.size := (by omega)); (try have hz1 : w.heap.size + 1 < xl.w.heap.size := (by omega)); (try have hz2 : w.heap.size + 1 + 1 < xl.w.heap.size := (by omega))) | ((with_reducible refine (C.out _ (hr.out.bel (by (repeat (first | (with_reducible exact Below.refl _ _) | (with_reducible assumption) | (with_reducible refine Later.out _ ?_) | (with_reducible refine bel_alloc ?_ _) | (with_reducible refine bel_drew ?_) | (with_reducible refine bel_drewN ?_ _) | (with_reducible refine bel_set ?_ ?_ _) | (with_reducible refine After.out _ ?_ ?_) | (dsimp only; omega) | omega | (simp only [World.size_alloc, World.size_setCell, World.size_drew]; omega)))))).mono ?_); rintro e w' ⟨rfl, xl, rfl⟩; have hsz := xl.bel.size; (try simp only [World.size_alloc, World.size_setCell, World.size_drew] at hsz); (try have hz0 : w.heap.size < xl.w.heap.size := (by omega)); (try have hz1 : w.heap.size + 1 < xl.w.heap.size := (by omega)); (try have hz2 : w.heap.size + 1 + 1 < xl.w.heap.size := (by omega)))) | (go_at_call 55; first | ((with_reducible refine (Calls.later (D.out _)).mono ?_); rintro e w' ⟨rfl, xl, rfl⟩; have hsz := xl.bel.size; (try simp only [World.size_alloc, World.size_setCell, World.size_drew] at hsz); (try have hz0 : w.heap.size < xl.w.heap.size := (by omega)); (try have hz1 : w.heap.size + 1 < xl.w.heap.size := (by omega)); (try have hz2 : w.heap.size + 1 + 1 < xl.w.heap.size := (by omega))) | ((with_reducible refine (D.out _).mono ?_); rintro e w' ⟨rfl, xl, rfl⟩; have hsz := xl.bel.size; (try simp only [World.size_alloc, World.size_setCell, World.size_drew] at hsz); (try have hz0 : w.heap.size < xl.w.heap.size := (by omega)); (try have hz1 : w.heap.size + 1 < xl.w.heap.size := (by omega)); (try have hz2 : w.heap.size + 1 + 1 < xl.w.heap.size := (by omega)))))
    go_ret
    exact .mk (by rw [X.out]; rfl) (by (repeat (first | (with_reducible exact Below.refl _ _) | (with_reducible assumption) | (with_reducible refine Later.out _ ?_) | (with_reducible refine bel_alloc ?_ _) | (with_reducible refine bel_drew ?_) | (with_reducible refine bel_drewN ?_ _) | (with_reducible refine bel_set ?_ ?_ _) | (with_reducible refine After.out _ ?_ ?_) | (dsimp only; omega) | omega | (simp only [World.size_alloc, World.size_setCell, World.size_drew]; omega))))
set_option maxHeartbeats 1000000 in
theorem sSame_any (l l' : List Int) (a a' : Option Addr) (n c n' c' : Nat) (w : World) (hn : l.length = n) (hn' : l'.length = n') (hm : n ≤ 1048576) (hm' : n' ≤ 1048576) (hr : Row w a (intCells l)) (hr' : Row w a' (intCells l')) :
    Calls Tryz.prog 28 #[.slice a n c, .slice a' n' c'] w (Ret w (.bool (l == l'))) := by
  subst hn hn'
  by_cases hl : l.length = l'.length
  · replace hr := Lib.hid hr
    replace hr' := Lib.hid hr'
    have e1 : ((l.length : Int) != (l'.length : Int)) = false := by simp [hl]
    have HL := Lib.hid hl
    clear hl
    go_enter Tryz.func28, Tryz.ntmps28
    go_wp2_with fail
    go_loopw [5] (fun i wr => ∃ k : Nat, k ≤ l.length ∧ i = .int .i64 k ∧ (∀ j (h1 : j < l.length) (h2 : j < l'.length), j < k → l[j] = l'[j]) ∧ ∃ z : Later w, wr = z.w) (fun i _ => l.length - (intOf i).toNat)
    case atStart => exact ⟨0, Nat.zero_le _, rfl, fun j _ _ h => absurd h (by omega), LaterC.mk (by (repeat (first | (with_reducible exact Below.refl _ _) | (with_reducible assumption) | (with_reducible refine Later.out _ ?_) | (with_reducible refine bel_alloc ?_ _) | (with_reducible refine bel_drew ?_) | (with_reducible refine bel_drewN ?_ _) | (with_reducible refine bel_set ?_ ?_ _) | (with_reducible refine After.out _ ?_ ?_) | (dsimp only; omega) | omega | (simp only [World.size_alloc, World.size_setCell, World.size_drew]; omega))))⟩
    case round =>
      obtain ⟨k, hk, rfl, hsame, z, rfl⟩ := hrel
      have hzz := z.bel.size
      by_cases hlt : k < l.length
      · have hlt' : k < l'.length := by have := HL.out; omega
        have hi1 : (k : Int) < (l.length : Int) := by omega
        have hi2 : (k : Int) < (l'.length : Int) := by omega
        obtain ⟨b, o, rfl, hb, hc⟩ := hr.out.int hlt
        obtain ⟨b', o', rfl, hb', hc'⟩ := hr'.out.int hlt'
        by_cases hd : l[k] = l'[k]
        · have X := Lib.hid (show ∀ j (h1 : j < l.length) (h2 : j < l'.length), j < k + 1 → l[j] = l'[j] from fun j h1 h2 h => by
            rcases Nat.lt_or_ge j k with h3 | h3
            · exact hsame j h1 h2 h3
            · obtain rfl : j = k := by omega
              exact hd)
          rw [← hd] at hc'
          clear hsame hd
          go_wp2_with fail
          refine wp_region_later (by kernel_rfl) (by kernel_rfl) ?_
          repeat (go_big_quiet_step (fail))
          refine wpQuiet_nil ?_
          rintro _ ⟨xq, rfl⟩
          go_wp2_with fail
          go_roundw
          case rel => exact ⟨k + 1, by omega, by go_num, X.out, LaterC.mk (by (repeat (first | (with_reducible exact Below.refl _ _) | (with_reducible assumption) | (with_reducible refine Later.out _ ?_) | (with_reducible refine bel_alloc ?_ _) | (with_reducible refine bel_drew ?_) | (with_reducible refine bel_drewN ?_ _) | (with_reducible refine bel_set ?_ ?_ _) | (with_reducible refine After.out _ ?_ ?_) | (dsimp only; omega) | omega | (simp only [World.size_alloc, World.size_setCell, World.size_drew]; omega))))⟩
          case measure => first | (simp [intOf]; done) | (simp [intOf]; omega) | omega
        · have X := Lib.hid (beq_of_diff hlt hlt' hd)
          have hd' : (l[k] == l'[k]) = false := by simpa using hd
          clear hsame hd
          go_wp2_with fail
          refine wp_region_later (by kernel_rfl) (by kernel_rfl) ?_
          repeat (go_big_quiet_step (fail))
          refine wpQuiet_nil ?_
          rintro _ ⟨xq, rfl⟩
          go_wp2_with fail
          go_ret
          exact .mk (by rw [X.out]; rfl) (by (repeat (first | (with_reducible exact Below.refl _ _) | (with_reducible assumption) | (with_reducible refine Later.out _ ?_) | (with_reducible refine bel_alloc ?_ _) | (with_reducible refine bel_drew ?_) | (with_reducible refine bel_drewN ?_ _) | (with_reducible refine bel_set ?_ ?_ _) | (with_reducible refine After.out _ ?_ ?_) | (dsimp only; omega) | omega | (simp only [World.size_alloc, World.size_setCell, World.size_drew]; omega))))
      · obtain rfl : k = l.length := by omega
        have X := Lib.hid (beq_of_all HL.out fun j h1 h2 => hsame j h1 h2 h1)
        clear hsame
        go_wp2_with fail
        go_ret
        exact .mk (by rw [X.out]; rfl) (by (repeat (first | (with_reducible exact Below.refl _ _) | (with_reducible assumption) | (with_reducible refine Later.out _ ?_) | (with_reducible refine bel_alloc ?_ _) | (with_reducible refine bel_drew ?_) | (with_reducible refine bel_drewN ?_ _) | (with_reducible refine bel_set ?_ ?_ _) | (with_reducible refine After.out _ ?_ ?_) | (dsimp only; omega) | omega | (simp only [World.size_alloc, World.size_setCell, World.size_drew]; omega))))
  · have X := Lib.hid (beq_of_len hl)
    have e1 : ((l.length : Int) != (l'.length : Int)) = true := by simp; omega
    clear hr hr'
    go_enter Tryz.func28, Tryz.ntmps28
    go_wp2_with fail
    go_ret
    exact .mk (by rw [X.out]; rfl) (by (repeat (first | (with_reducible exact Below.refl _ _) | (with_reducible assumption) | (with_reducible refine Later.out _ ?_) | (with_reducible refine bel_alloc ?_ _) | (with_reducible refine bel_drew ?_) | (with_reducible refine bel_drewN ?_ _) | (with_reducible refine bel_set ?_ ?_ _) | (with_reducible refine After.out _ ?_ ?_) | (dsimp only; omega) | omega | (simp only [World.size_alloc, World.size_setCell, World.size_drew]; omega))))
set_option maxHeartbeats 1000000 in
theorem sFind_any (T : List Rul) (s : List Int) (aT a : Option Addr) (nT cT n c : Nat) (w : World) (hnT : T.length = nT) (hmT : nT ≤ 1048576) (hok : ∀ r ∈ T, RulOk r) (hn : s.length = n) (hm : n ≤ 1048576) (hr : RulesR w aT T) (hr' : Row w a (intCells s)) :
    Calls Tryz.prog 87 #[.slice aT nT cT, .slice a n c] w (Ret w (.int .i64 (findR T s))) := by
  subst hnT
  replace hr := Lib.hid hr
  replace hr' := Lib.hid hr'
  replace hok := Lib.hid hok
  go_enter Tryz.func87, Tryz.ntmps87
  go_wp2_with fail
  go_loopw [5] (fun i wr => ∃ k : Nat, k ≤ T.length ∧ i = .int .i64 k ∧ (∀ j (hj : j < T.length), j < k → (T[j].sg == s) = false) ∧ ∃ z : Later w, wr = z.w) (fun i _ => T.length - (intOf i).toNat)
  case atStart => exact ⟨0, Nat.zero_le _, rfl, fun j _ h => absurd h (by omega), ⟨_, Below.refl _ _⟩, rfl⟩
  case round =>
    obtain ⟨k, hk, rfl, hall, z, rfl⟩ := hrel
    replace hall := Lib.hid hall
    have hzz := z.bel.size
    by_cases hlt : k < T.length
    · obtain ⟨b, o, ai, ci, rfl, hb, q0, q1, q2, q3, q4⟩ := hr.out.at_ hlt
      have hok1 := hok.out _ (List.getElem_mem hlt)
      have hi1 : (k : Int) < (T.length : Int) := by omega
      have C := fun (w : World) (hr : Row w ai (intCells T[k].sg)) (hr' : Row w a (intCells s)) => sSame_any T[k].sg s ai a T[k].sg.length ci n c w rfl hn hok1.s hm hr hr'
      replace q2 := Lib.hid q2
      clear q3 q4
      cases hv : T[k].sg == s
      · simp only [hv] at C
        replace C := Lib.hid C
        have X := Lib.hid (show ∀ j (hj : j < T.length), j < k + 1 → (T[j].sg == s) = false from fun j hj h => by
          rcases Nat.lt_or_ge j k with h1 | h1
          · exact hall.out j hj h1
          · obtain rfl : j = k := by omega
            exact hv)
        clear hv
        go_wp2_with fail
        with_reducible refine (C.out _ (q2.out.bel (by (repeat (first | (with_reducible exact Below.refl _ _) | (with_reducible assumption) | (with_reducible refine Later.out _ ?_) | (with_reducible refine bel_alloc ?_ _) | (with_reducible refine bel_drew ?_) | (with_reducible refine bel_drewN ?_ _) | (with_reducible refine bel_set ?_ ?_ _) | (with_reducible refine After.out _ ?_ ?_) | (dsimp only; omega) | omega | (simp only [World.size_alloc, World.size_setCell, World.size_drew]; omega))))) (hr'.out.bel (by (repeat (first | (with_reducible exact Below.refl _ _) | (with_reducible assumption) | (with_reducible refine Later.out _ ?_) | (with_reducible refine bel_alloc ?_ _) | (with_reducible refine bel_drew ?_) | (with_reducible refine bel_drewN ?_ _) | (with_reducible refine bel_set ?_ ?_ _) | (with_reducible refine After.out _ ?_ ?_) | (dsimp only; omega) | omega | (simp only [World.size_alloc, World.size_setCell, World.size_drew]; omega)))))).mono ?_
        rintro e w' ⟨rfl, y1, rfl⟩
        have hsy1 := y1.bel.size
        (try simp only [World.size_alloc, World.size_setCell, World.size_drew] at hsy1)
        go_wp2_with fail
        go_roundw
        case rel => exact ⟨k + 1, by omega, by go_num, X.out, LaterC.mk (by (repeat (first | (with_reducible exact Below.refl _ _) | (with_reducible assumption) | (with_reducible refine Later.out _ ?_) | (with_reducible refine bel_alloc ?_ _) | (with_reducible refine bel_drew ?_) | (with_reducible refine bel_drewN ?_ _) | (with_reducible refine bel_set ?_ ?_ _) | (with_reducible refine After.out _ ?_ ?_) | (dsimp only; omega) | omega | (simp only [World.size_alloc, World.size_setCell, World.size_drew]; omega))))⟩
        case measure => first | (simp [intOf]; done) | (simp [intOf]; omega) | omega
      · simp only [hv] at C
        replace C := Lib.hid C
        have X := Lib.hid (show findR T s = k from idxU_some hlt hv fun j hj h => hall.out j hj h)
        clear hv
        go_wp2_with fail
        with_reducible refine (C.out _ (q2.out.bel (by (repeat (first | (with_reducible exact Below.refl _ _) | (with_reducible assumption) | (with_reducible refine Later.out _ ?_) | (with_reducible refine bel_alloc ?_ _) | (with_reducible refine bel_drew ?_) | (with_reducible refine bel_drewN ?_ _) | (with_reducible refine bel_set ?_ ?_ _) | (with_reducible refine After.out _ ?_ ?_) | (dsimp only; omega) | omega | (simp only [World.size_alloc, World.size_setCell, World.size_drew]; omega))))) (hr'.out.bel (by (repeat (first | (with_reducible exact Below.refl _ _) | (with_reducible assumption) | (with_reducible refine Later.out _ ?_) | (with_reducible refine bel_alloc ?_ _) | (with_reducible refine bel_drew ?_) | (with_reducible refine bel_drewN ?_ _) | (with_reducible refine bel_set ?_ ?_ _) | (with_reducible refine After.out _ ?_ ?_) | (dsimp only; omega) | omega | (simp only [World.size_alloc, World.size_setCell, World.size_drew]; omega)))))).mono ?_
        rintro e w' ⟨rfl, y1, rfl⟩
        have hsy1 := y1.bel.size
        (try simp only [World.size_alloc, World.size_setCell, World.size_drew] at hsy1)
        go_wp2_with fail
        go_ret
        exact .mk (by rw [X.out]; rfl) (by (repeat (first | (with_reducible exact Below.refl _ _) | (with_reducible assumption) | (with_reducible refine Later.out _ ?_) | (with_reducible refine bel_alloc ?_ _) | (with_reducible refine bel_drew ?_) | (with_reducible refine bel_drewN ?_ _) | (with_reducible refine bel_set ?_ ?_ _) | (with_reducible refine After.out _ ?_ ?_) | (dsimp only; omega) | omega | (simp only [World.size_alloc, World.size_setCell, World.size_drew]; omega))))
    · obtain rfl : k = T.length := by omega
      have X := Lib.hid (show findR T s = -1 from idxU_none fun j hj => hall.out j hj hj)
      go_wp2_with fail
      go_ret
      exact .mk (by rw [X.out]; rfl) (by (repeat (first | (with_reducible exact Below.refl _ _) | (with_reducible assumption) | (with_reducible refine Later.out _ ?_) | (with_reducible refine bel_alloc ?_ _) | (with_reducible refine bel_drew ?_) | (with_reducible refine bel_drewN ?_ _) | (with_reducible refine bel_set ?_ ?_ _) | (with_reducible refine After.out _ ?_ ?_) | (dsimp only; omega) | omega | (simp only [World.size_alloc, World.size_setCell, World.size_drew]; omega))))
set_option maxHeartbeats 1000000 in
theorem sIsTable_any (T : List Rul) (a : Option Addr) (n c : Nat) (w : World) (hn : T.length = n) (hm : n ≤ 1048576) (hok : ∀ r ∈ T, RulOk r) (hr : RulesR w a T) :
    Calls Tryz.prog 54 #[.slice a n c] w (Ret w (.bool (tableB T))) := by
  subst hn
  replace hr := Lib.hid hr
  replace hok := Lib.hid hok
  go_enter Tryz.func54, Tryz.ntmps54
  go_wp2_with fail
  go_loopw [3] (fun i wr => ∃ k : Nat, k ≤ T.length ∧ i = .int .i64 k ∧ (∀ j, j < k → tabAt T j = true) ∧ ∃ z : Later w, wr = z.w) (fun i _ => T.length - (intOf i).toNat)
  case atStart => exact ⟨0, Nat.zero_le _, rfl, fun j h => absurd h (by omega), ⟨_, Below.refl _ _⟩, rfl⟩
  case round =>
    obtain ⟨k, hk, rfl, hall, z, rfl⟩ := hrel
    replace hall := Lib.hid hall
    have hzz := z.bel.size
    by_cases hlt : k < T.length
    · obtain ⟨b, o, ai, ci, rfl, hb, q0, q1, q2, q3, q4⟩ := hr.out.at_ hlt
      have hok1 := hok.out _ (List.getElem_mem hlt)
      have hi1 : (k : Int) < (T.length : Int) := by omega
      have HT := tabAt_get hlt
      rw [← findR_self hlt] at HT
      have C := fun (w : World) (hr : Row w ai (intCells T[k].sg)) => sIsRule_any T[k] ai ci w hok1 hr
      have F := fun (w : World) (hr : RulesR w (some ⟨b, o, none⟩) T) (hr' : Row w ai (intCells T[k].sg)) => sFind_any T T[k].sg (some ⟨b, o, none⟩) ai T.length c T[k].sg.length ci w rfl hm hok.out rfl hok1.s hr hr'
      replace q2 := Lib.hid q2
      obtain ⟨v, hv⟩ : ∃ v, ruleB T[k] = v := ⟨_, rfl⟩
      obtain ⟨u, hu⟩ : ∃ v, findR T T[k].sg = v := ⟨_, rfl⟩
      simp only [hv] at C HT
      simp only [hu] at F HT
      replace C := Lib.hid C
      replace F := Lib.hid F
      clear hv hu q3 q4
      cases v
      · have X := Lib.hid (tableB_bad hlt (by rw [HT]; rfl))
        clear HT
        go_wp2_with (first | (go_at_call 86; first | ((with_reducible refine (Calls.later (C.out _ (q2.out.bel (by (repeat (first | (with_reducible exact Below.refl _ _) | (with_reducible assumption) | (with_reducible refine Later.out _ ?_) | (with_reducible refine bel_alloc ?_ _) | (with_reducible refine bel_drew ?_) | (with_reducible refine bel_drewN ?_ _) | (with_reducible refine bel_set ?_ ?_ _) | (with_reducible refine After.out _ ?_ ?_) | (dsimp only; omega) | omega | (simp only [World.size_alloc, World.size_setCell, World.size_drew]; omega))))))).mono ?_); rintro e w' ⟨rfl, xl, rfl⟩; have hsz := xl.bel.size; (try simp only [World.size_alloc, World.size_setCell, World.size_drew] at hsz); (try have hz0 : w.heap.size < xl.w.heap.size := (by omega)); (try have hz1 : w.heap.size + 1 < xl.w.heap.size := (by omega)); (try have hz2 : w.heap.size + 1 + 1 < xl.w.heap.size := (by omega))) | ((with_reducible refine (C.out _ (q2.out.bel (by (repeat (first | (with_reducible exact Below.refl _ _) | (with_reducible assumption) | (with_reducible refine Later.out _ ?_) | (with_reducible refine bel_alloc ?_ _) | (with_reducible refine bel_drew ?_) | (with_reducible refine bel_drewN ?_ _) | (with_reducible refine bel_set ?_ ?_ _) | (with_reducible refine After.out _ ?_ ?_) | (dsimp only; omega) | omega | (simp only [World.size_alloc, World.size_setCell, World.size_drew]; omega)))))).mono ?_); rintro e w' ⟨rfl, xl, rfl⟩; have hsz := xl.bel.size; (try simp only [World.size_alloc, World.size_setCell, World.size_drew] at hsz); (try have hz0 : w.heap.size < xl.w.heap.size := (by omega)); (try have hz1 : w.heap.size + 1 < xl.w.heap.size := (by omega)); (try have hz2 : w.heap.size + 1 + 1 < xl.w.heap.size := (by omega)))))
        go_ret
        exact .mk (by rw [X.out]; rfl) (by (repeat (first | (with_reducible exact Below.refl _ _) | (with_reducible assumption) | (with_reducible refine Later.out _ ?_) | (with_reducible refine bel_alloc ?_ _) | (with_reducible refine bel_drew ?_) | (with_reducible refine bel_drewN ?_ _) | (with_reducible refine bel_set ?_ ?_ _) | (with_reducible refine After.out _ ?_ ?_) | (dsimp only; omega) | omega | (simp only [World.size_alloc, World.size_setCell, World.size_drew]; omega))))
      · by_cases h0 : u = k
        · have X := Lib.hid (show ∀ j, j < k + 1 → tabAt T j = true from fun j hj => by
            rcases Nat.lt_or_ge j k with h1 | h1
            · exact hall.out j h1
            · obtain rfl : j = k := by omega
              rw [HT]; simp [h0])
          subst h0
          clear HT
          go_wp2_with (first | (go_at_call 86; first | ((with_reducible refine (Calls.later (C.out _ (q2.out.bel (by (repeat (first | (with_reducible exact Below.refl _ _) | (with_reducible assumption) | (with_reducible refine Later.out _ ?_) | (with_reducible refine bel_alloc ?_ _) | (with_reducible refine bel_drew ?_) | (with_reducible refine bel_drewN ?_ _) | (with_reducible refine bel_set ?_ ?_ _) | (with_reducible refine After.out _ ?_ ?_) | (dsimp only; omega) | omega | (simp only [World.size_alloc, World.size_setCell, World.size_drew]; omega))))))).mono ?_); rintro e w' ⟨rfl, xl, rfl⟩; have hsz := xl.bel.size; (try simp only [World.size_alloc, World.size_setCell, World.size_drew] at hsz); (try have hz0 : w.heap.size < xl.w.heap.size := (by omega)); (try have hz1 : w.heap.size + 1 < xl.w.heap.size := (by omega)); (try have hz2 : w.heap.size + 1 + 1 < xl.w.heap.size := (by omega))) | ((with_reducible refine (C.out _ (q2.out.bel (by (repeat (first | (with_reducible exact Below.refl _ _) | (with_reducible assumption) | (with_reducible refine Later.out _ ?_) | (with_reducible refine bel_alloc ?_ _) | (with_reducible refine bel_drew ?_) | (with_reducible refine bel_drewN ?_ _) | (with_reducible refine bel_set ?_ ?_ _) | (with_reducible refine After.out _ ?_ ?_) | (dsimp only; omega) | omega | (simp only [World.size_alloc, World.size_setCell, World.size_drew]; omega)))))).mono ?_); rintro e w' ⟨rfl, xl, rfl⟩; have hsz := xl.bel.size; (try simp only [World.size_alloc, World.size_setCell, World.size_drew] at hsz); (try have hz0 : w.heap.size < xl.w.heap.size := (by omega)); (try have hz1 : w.heap.size + 1 < xl.w.heap.size := (by omega)); (try have hz2 : w.heap.size + 1 + 1 < xl.w.heap.size := (by omega)))) | (go_at_call 87; first | ((with_reducible refine (Calls.later (F.out _ (hr.out.bel (by (repeat (first | (with_reducible exact Below.refl _ _) | (with_reducible assumption) | (with_reducible refine Later.out _ ?_) | (with_reducible refine bel_alloc ?_ _) | (with_reducible refine bel_drew ?_) | (with_reducible refine bel_drewN ?_ _) | (with_reducible refine bel_set ?_ ?_ _) | (with_reducible refine After.out _ ?_ ?_) | (dsimp only; omega) | omega | (simp only [World.size_alloc, World.size_setCell, World.size_drew]; omega))))) (q2.out.bel (by (repeat (first | (with_reducible exact Below.refl _ _) | (with_reducible assumption) | (with_reducible refine Later.out _ ?_) | (with_reducible refine bel_alloc ?_ _) | (with_reducible refine bel_drew ?_) | (with_reducible refine bel_drewN ?_ _) | (with_reducible refine bel_set ?_ ?_ _) | (with_reducible refine After.out _ ?_ ?_) | (dsimp only; omega) | omega | (simp only [World.size_alloc, World.size_setCell, World.size_drew]; omega))))))).mono ?_); rintro e w' ⟨rfl, xl, rfl⟩; have hsz := xl.bel.size; (try simp only [World.size_alloc, World.size_setCell, World.size_drew] at hsz); (try have hz0 : w.heap.size < xl.w.heap.size := (by omega)); (try have hz1 : w.heap.size + 1 < xl.w.heap.size := (by omega)); (try have hz2 : w.heap.size + 1 + 1 < xl.w.heap.size := (by omega))) | ((with_reducible refine (F.out _ (hr.out.bel (by (repeat (first | (with_reducible exact Below.refl _ _) | (with_reducible assumption) | (with_reducible refine Later.out _ ?_) | (with_reducible refine bel_alloc ?_ _) | (with_reducible refine bel_drew ?_) | (with_reducible refine bel_drewN ?_ _) | (with_reducible refine bel_set ?_ ?_ _) | (with_reducible refine After.out _ ?_ ?_) | (dsimp only; omega) | omega | (simp only [World.size_alloc, World.size_setCell, World.size_drew]; omega))))) (q2.out.bel (by (repeat (first | (with_reducible exact Below.refl _ _) | (with_reducible assumption) | (with_reducible refine Later.out _ ?_) | (with_reducible refine bel_alloc ?_ _) | (with_reducible refine bel_drew ?_) | (with_reducible refine bel_drewN ?_ _) | (with_reducible refine bel_set ?_ ?_ _) | (with_reducible refine After.out _ ?_ ?_) | (dsimp only; omega) | omega | (simp only [World.size_alloc, World.size_setCell, World.size_drew]; omega)))))).mono ?_); rintro e w' ⟨rfl, xl, rfl⟩; have hsz := xl.bel.size; (try simp only [World.size_alloc, World.size_setCell, World.size_drew] at hsz); (try have hz0 : w.heap.size < xl.w.heap.size := (by omega)); (try have hz1 : w.heap.size + 1 < xl.w.heap.size := (by omega)); (try have hz2 : w.heap.size + 1 + 1 < xl.w.heap.size := (by omega)))))
          go_roundw
          case rel => exact ⟨k + 1, by omega, by go_num, X.out, LaterC.mk (by (repeat (first | (with_reducible exact Below.refl _ _) | (with_reducible assumption) | (with_reducible refine Later.out _ ?_) | (with_reducible refine bel_alloc ?_ _) | (with_reducible refine bel_drew ?_) | (with_reducible refine bel_drewN ?_ _) | (with_reducible refine bel_set ?_ ?_ _) | (with_reducible refine After.out _ ?_ ?_) | (dsimp only; omega) | omega | (simp only [World.size_alloc, World.size_setCell, World.size_drew]; omega))))⟩
          case measure => first | (simp [intOf]; done) | (simp [intOf]; omega) | omega
        · have X := Lib.hid (tableB_bad hlt (by rw [HT]; simp [h0]))
          have h1 : (u == (k : Int)) = false := by simpa using h0
          clear HT h0
          go_wp2_with (first | (go_at_call 86; first | ((with_reducible refine (Calls.later (C.out _ (q2.out.bel (by (repeat (first | (with_reducible exact Below.refl _ _) | (with_reducible assumption) | (with_reducible refine Later.out _ ?_) | (with_reducible refine bel_alloc ?_ _) | (with_reducible refine bel_drew ?_) | (with_reducible refine bel_drewN ?_ _) | (with_reducible refine bel_set ?_ ?_ _) | (with_reducible refine After.out _ ?_ ?_) | (dsimp only; omega) | omega | (simp only [World.size_alloc, World.size_setCell, World.size_drew]; omega))))))).mono ?_); rintro e w' ⟨rfl, xl, rfl⟩; have hsz := xl.bel.size; (try simp only [World.size_alloc, World.size_setCell, World.size_drew] at hsz); (try have hz0 : w.heap.size < xl.w.heap.size := (by omega)); (try have hz1 : w.heap.size + 1 < xl.w.heap.size := (by omega)); (try have hz2 : w.heap.size + 1 + 1 < xl.w.heap.size := (by omega))) | ((with_reducible refine (C.out _ (q2.out.bel (by (repeat (first | (with_reducible exact Below.refl _ _) | (with_reducible assumption) | (with_reducible refine Later.out _ ?_) | (with_reducible refine bel_alloc ?_ _) | (with_reducible refine bel_drew ?_) | (with_reducible refine bel_drewN ?_ _) | (with_reducible refine bel_set ?_ ?_ _) | (with_reducible refine After.out _ ?_ ?_) | (dsimp only; omega) | omega | (simp only [World.size_alloc, World.size_setCell, World.size_drew]; omega)))))).mono ?_); rintro e w' ⟨rfl, xl, rfl⟩; have hsz := xl.bel.size; (try simp only [World.size_alloc, World.size_setCell, World.size_drew] at hsz); (try have hz0 : w.heap.size < xl.w.heap.size := (by omega)); (try have hz1 : w.heap.size + 1 < xl.w.heap.size := (by omega)); (try have hz2 : w.heap.size + 1 + 1 < xl.w.heap.size := (by omega)))) | (go_at_call 87; first | ((with_reducible refine (Calls.later (F.out _ (hr.out.bel (by (repeat (first | (with_reducible exact Below.refl _ _) | (with_reducible assumption) | (with_reducible refine Later.out _ ?_) | (with_reducible refine bel_alloc ?_ _) | (with_reducible refine bel_drew ?_) | (with_reducible refine bel_drewN ?_ _) | (with_reducible refine bel_set ?_ ?_ _) | (with_reducible refine After.out _ ?_ ?_) | (dsimp only; omega) | omega | (simp only [World.size_alloc, World.size_setCell, World.size_drew]; omega))))) (q2.out.bel (by (repeat (first | (with_reducible exact Below.refl _ _) | (with_reducible assumption) | (with_reducible refine Later.out _ ?_) | (with_reducible refine bel_alloc ?_ _) | (with_reducible refine bel_drew ?_) | (with_reducible refine bel_drewN ?_ _) | (with_reducible refine bel_set ?_ ?_ _) | (with_reducible refine After.out _ ?_ ?_) | (dsimp only; omega) | omega | (simp only [World.size_alloc, World.size_setCell, World.size_drew]; omega))))))).mono ?_); rintro e w' ⟨rfl, xl, rfl⟩; have hsz := xl.bel.size; (try simp only [World.size_alloc, World.size_setCell, World.size_drew] at hsz); (try have hz0 : w.heap.size < xl.w.heap.size := (by omega)); (try have hz1 : w.heap.size + 1 < xl.w.heap.size := (by omega)); (try have hz2 : w.heap.size + 1 + 1 < xl.w.heap.size := (by omega))) | ((with_reducible refine (F.out _ (hr.out.bel (by (repeat (first | (with_reducible exact Below.refl _ _) | (with_reducible assumption) | (with_reducible refine Later.out _ ?_) | (with_reducible refine bel_alloc ?_ _) | (with_reducible refine bel_drew ?_) | (with_reducible refine bel_drewN ?_ _) | (with_reducible refine bel_set ?_ ?_ _) | (with_reducible refine After.out _ ?_ ?_) | (dsimp only; omega) | omega | (simp only [World.size_alloc, World.size_setCell, World.size_drew]; omega))))) (q2.out.bel (by (repeat (first | (with_reducible exact Below.refl _ _) | (with_reducible assumption) | (with_reducible refine Later.out _ ?_) | (with_reducible refine bel_alloc ?_ _) | (with_reducible refine bel_drew ?_) | (with_reducible refine bel_drewN ?_ _) | (with_reducible refine bel_set ?_ ?_ _) | (with_reducible refine After.out _ ?_ ?_) | (dsimp only; omega) | omega | (simp only [World.size_alloc, World.size_setCell, World.size_drew]; omega)))))).mono ?_); rintro e w' ⟨rfl, xl, rfl⟩; have hsz := xl.bel.size; (try simp only [World.size_alloc, World.size_setCell, World.size_drew] at hsz); (try have hz0 : w.heap.size < xl.w.heap.size := (by omega)); (try have hz1 : w.heap.size + 1 < xl.w.heap.size := (by omega)); (try have hz2 : w.heap.size + 1 + 1 < xl.w.heap.size := (by omega)))))
          go_ret
          exact .mk (by rw [X.out]; rfl) (by (repeat (first | (with_reducible exact Below.refl _ _) | (with_reducible assumption) | (with_reducible refine Later.out _ ?_) | (with_reducible refine bel_alloc ?_ _) | (with_reducible refine bel_drew ?_) | (with_reducible refine bel_drewN ?_ _) | (with_reducible refine bel_set ?_ ?_ _) | (with_reducible refine After.out _ ?_ ?_) | (dsimp only; omega) | omega | (simp only [World.size_alloc, World.size_setCell, World.size_drew]; omega))))
    · obtain rfl : k = T.length := by omega
      have X := Lib.hid (tableB_all fun j hj => hall.out j hj)
      go_wp2_with fail
      go_ret
      exact .mk (by rw [X.out]; simp [go_sem]; try omega) (by (repeat (first | (with_reducible exact Below.refl _ _) | (with_reducible assumption) | (with_reducible refine Later.out _ ?_) | (with_reducible refine bel_alloc ?_ _) | (with_reducible refine bel_drew ?_) | (with_reducible refine bel_drewN ?_ _) | (with_reducible refine bel_set ?_ ?_ _) | (with_reducible refine After.out _ ?_ ?_) | (dsimp only; omega) | omega | (simp only [World.size_alloc, World.size_setCell, World.size_drew]; omega))))
end Go.Proofs.YtemfhcmeeldngaaGreatDoor

/- How many parsings a text has, and the first one: the plain law. -/
set_option linter.unusedSimpArgs false
set_option linter.unusedVariables false
namespace Go.Proofs.YtemfhcmeeldngaaGreatDoor
open Go.RowKit
def M1 : Int := 1000000000001
/-- The rule has a text that is not empty and stands at `i`. -/
def fitsAt (r : Rul) (s : ByteArray) (i : Nat) : Bool := decide (0 < r.rom.size) && decide (i + r.rom.size ≤ s.size) && decide (s.extract i (i + r.rom.size) = r.rom)
theorem fitsAt_iff {r : Rul} {s : ByteArray} {i : Nat} : fitsAt r s i = true ↔ 0 < r.rom.size ∧ i + r.rom.size ≤ s.size ∧ s.extract i (i + r.rom.size) = r.rom := by
  simp only [fitsAt, Bool.and_eq_true, decide_eq_true_eq, and_assoc]
/-- One rule's share. -/
def wayS (s : ByteArray) (W : Nat → Int) (i : Nat) (acc : Int) (r : Rul) : Int := if fitsAt r s i then min (acc + W (i + r.rom.size)) M1 else acc
def wayF (T : List Rul) (s : ByteArray) (W : Nat → Int) (i : Nat) : Int := T.foldl (wayS s W i) 0
theorem wayF_succ {T : List Rul} {s : ByteArray} {W : Nat → Int} {i k : Nat} (h : k < T.length) : wayF (T.take (k + 1)) s W i = wayS s W i (wayF (T.take k) s W i) T[k] := by
  unfold wayF
  rw [List.take_succ_eq_append_getElem h, List.foldl_append]
  rfl
/-- The counts when the last `n` places of the text are done. -/
def wayN (T : List Rul) (s : ByteArray) : Nat → Nat → Int
  | 0, i => if i = s.size then 1 else 0
  | n + 1, i => if i + (n + 1) = s.size then wayF T s (wayN T s n) i else wayN T s n i
theorem wayS_bd {s : ByteArray} {W : Nat → Int} {i : Nat} {acc : Int} {r : Rul} (h0 : 0 ≤ acc) (h1 : acc ≤ M1) (hW : ∀ j, 0 ≤ W j) : 0 ≤ wayS s W i acc r ∧ wayS s W i acc r ≤ M1 := by
  unfold wayS
  split
  · have := hW (i + r.rom.size)
    unfold M1 at *
    omega
  · exact ⟨h0, h1⟩
theorem wayF_bd {s : ByteArray} {W : Nat → Int} {i : Nat} (hW : ∀ j, 0 ≤ W j) : ∀ (T : List Rul) (acc : Int), 0 ≤ acc → acc ≤ M1 → 0 ≤ T.foldl (wayS s W i) acc ∧ T.foldl (wayS s W i) acc ≤ M1
  | [], acc, h0, h1 => ⟨h0, h1⟩
  | r :: T, acc, h0, h1 => by
    obtain ⟨h2, h3⟩ := wayS_bd (r := r) (i := i) (s := s) h0 h1 hW
    exact wayF_bd hW T _ h2 h3
theorem wayN_bd (T : List Rul) (s : ByteArray) : ∀ n i, 0 ≤ wayN T s n i ∧ wayN T s n i ≤ M1
  | 0, i => by unfold wayN M1; split <;> omega
  | n + 1, i => by
    unfold wayN
    split
    · exact wayF_bd (fun j => (wayN_bd T s n j).1) T 0 (by omega) (by unfold M1; omega)
    · exact wayN_bd T s n i
theorem wayN_far (T : List Rul) (s : ByteArray) : ∀ n i, i + n < s.size → wayN T s n i = 0
  | 0, i, h => by unfold wayN; rw [if_neg (by omega)]
  | n + 1, i, h => by unfold wayN; rw [if_neg (by omega)]; exact wayN_far T s n i (by omega)
/-- What is done stays. -/
theorem wayN_done (T : List Rul) (s : ByteArray) {n i : Nat} (h : s.size ≤ i + n) : ∀ m, wayN T s (n + m) i = wayN T s n i
  | 0 => rfl
  | m + 1 => by
    rw [show wayN T s (n + (m + 1)) i = if i + (n + m + 1) = s.size then wayF T s (wayN T s (n + m)) i else wayN T s (n + m) i from rfl, if_neg (by omega)]
    exact wayN_done T s h m
/-- The counts of all places. -/
def ways (T : List Rul) (s : ByteArray) (i : Nat) : Int := wayN T s s.size i
theorem ways_eq {T : List Rul} {s : ByteArray} {i : Nat} (h : i < s.size) : ways T s i = wayF T s (ways T s) i := by
  have hn : s.size = (s.size - i - 1 + 1) + i := by omega
  have e1 : ways T s i = wayF T s (wayN T s (s.size - i - 1)) i := by
    unfold ways
    rw [hn, wayN_done T s (by omega) i]
    conv => lhs; unfold wayN
    rw [if_pos (by omega)]
    congr 2
    omega
  rw [e1]
  have key : ∀ (T' : List Rul) (acc : Int), T'.foldl (wayS s (wayN T s (s.size - i - 1)) i) acc = T'.foldl (wayS s (ways T s) i) acc := by
    intro T'
    induction T' with
    | nil => intro acc; rfl
    | cons r T' ih =>
      intro acc
      simp only [List.foldl_cons]
      rw [ih]
      congr 1
      unfold wayS
      split
      · rename_i hf
        have hf := fitsAt_iff.1 hf
        have e : ways T s (i + r.rom.size) = wayN T s (s.size - i - 1) (i + r.rom.size) := by
          have := wayN_done T s (n := s.size - i - 1) (i := i + r.rom.size) (by omega) (i + 1)
          unfold ways
          rw [← this]
          congr 1
          omega
        rw [e]
      · rfl
  exact key T 0
theorem ways_end (T : List Rul) (s : ByteArray) : ways T s s.size = 1 := by
  have := wayN_done T s (n := 0) (i := s.size) (by omega) s.size
  unfold ways
  rw [Nat.zero_add] at this
  rw [this]
  unfold wayN
  rw [if_pos rfl]
theorem ways_nonneg (T : List Rul) (s : ByteArray) (i : Nat) : 0 ≤ ways T s i := (wayN_bd T s _ i).1
theorem foldl_pos {s : ByteArray} {W : Nat → Int} {i : Nat} (hW : ∀ j, 0 ≤ W j) : ∀ (T : List Rul) (acc : Int), 0 ≤ acc → acc ≤ M1 → (0 < T.foldl (wayS s W i) acc ↔ 0 < acc ∨ ∃ k, ∃ h : k < T.length, fitsAt T[k] s i = true ∧ 0 < W (i + T[k].rom.size))
  | [], acc, _, _ => by simp
  | r :: T, acc, h0, h1 => by
    obtain ⟨h2, h3⟩ := wayS_bd (r := r) (i := i) (s := s) h0 h1 hW
    simp only [List.foldl_cons]
    rw [foldl_pos hW T _ h2 h3]
    have hs : 0 < wayS s W i acc r ↔ 0 < acc ∨ (fitsAt r s i = true ∧ 0 < W (i + r.rom.size)) := by
      have := hW (i + r.rom.size)
      unfold wayS
      split
      · rename_i hf
        simp only [hf, true_and]
        unfold M1 at *
        omega
      · rename_i hf
        simp [hf]
    rw [hs, or_assoc]
    constructor
    · rintro (h | h | ⟨k, hk, h⟩)
      · exact .inl h
      · exact .inr ⟨0, by simp, h⟩
      · exact .inr ⟨k + 1, by simpa using hk, by simpa using h⟩
    · rintro (h | ⟨k, hk, h⟩)
      · exact .inl h
      · cases k with
        | zero => exact .inr (.inl h)
        | succ k => exact .inr (.inr ⟨k, by simpa using hk, by simpa using h⟩)
theorem ways_pos {T : List Rul} {s : ByteArray} {i : Nat} (h : i < s.size) : 0 < ways T s i ↔ ∃ k, ∃ h : k < T.length, fitsAt T[k] s i = true ∧ 0 < ways T s (i + T[k].rom.size) := by
  rw [ways_eq h]
  unfold wayF
  rw [foldl_pos (ways_nonneg T s) T 0 (by omega) (by unfold M1; omega)]
  simp
/-- A rule that the first parsing takes at `i`. -/
def goesB (T : List Rul) (s : ByteArray) (i : Nat) (r : Rul) : Bool := fitsAt r s i && decide (0 < ways T s (i + r.rom.size))
def firstL (T : List Rul) (s : ByteArray) : Nat → Nat → List Int
  | 0, _ => []
  | f + 1, i => if i < s.size then (match T.findIdx? (goesB T s i) with | some k => (k : Int) :: firstL T s f (i + (T.getD k ⟨[], ByteArray.empty⟩).rom.size) | none => []) else []
theorem firstL_end {T : List Rul} {s : ByteArray} {f i : Nat} (h : s.size ≤ i) : firstL T s f i = [] := by
  cases f with
  | zero => rfl
  | succ f => unfold firstL; rw [if_neg (by omega)]
/-- One step of the first parsing. -/
theorem first_step {T : List Rul} {s : ByteArray} {f i : Nat} (hi : i < s.size) (hw : 0 < ways T s i) (hf : s.size - i ≤ f) :
    ∃ k, ∃ hk : k < T.length, idxU (goesB T s i) T = k ∧ fitsAt T[k] s i = true ∧ 0 < ways T s (i + T[k].rom.size) ∧ (∀ j (hj : j < T.length), j < k → goesB T s i T[j] = false) ∧ firstL T s f i = (k : Int) :: firstL T s (f - 1) (i + T[k].rom.size) := by
  obtain ⟨k0, hk0, h1, h2⟩ := (ways_pos hi).1 hw
  rcases idxU_cases (goesB T s i) T with ⟨e, h⟩ | ⟨k, hk, e, h3, h4⟩
  · have := h k0 hk0
    unfold goesB at this
    rw [h1] at this
    simp [h2] at this
  · have h5 : T.findIdx? (goesB T s i) = some k := by
      rw [List.findIdx?_eq_some_iff_getElem]
      exact ⟨hk, h3, fun j hj => by simpa using h4 j (by omega) hj⟩
    have h3' := h3
    unfold goesB at h3'
    rw [Bool.and_eq_true, decide_eq_true_eq] at h3'
    refine ⟨k, hk, e, h3'.1, h3'.2, h4, ?_⟩
    obtain ⟨f', rfl⟩ : ∃ f', f = f' + 1 := ⟨f - 1, by omega⟩
    conv => lhs; unfold firstL
    rw [if_pos hi, h5]
    simp [hk]
end Go.Proofs.YtemfhcmeeldngaaGreatDoor

/- Where a rule stands in a text, both sides; the code of a table and a text. -/
set_option linter.unusedSimpArgs false
set_option linter.unusedVariables false
namespace Go.Proofs.YtemfhcmeeldngaaGreatDoor
open Go.RowKit
/-- The text begins with the other one. -/
def prefB (s p : ByteArray) : Bool := decide (p.size ≤ s.size) && decide (s.extract 0 p.size = p)
theorem extract_extract (s : ByteArray) {i n : Nat} (h : i + n ≤ s.size) : (s.extract i s.size).extract 0 n = s.extract i (i + n) := by
  apply ByteArray.ext
  apply Array.ext'
  rw [extract_list _ _ _ (by rw [ByteArray.size_extract]; omega), extract_list _ _ _ (Nat.le_refl _), extract_list _ _ _ h]
  have hl : s.data.toList.length = s.size := by rw [Array.length_toList]; rfl
  rw [List.drop_zero, Nat.sub_zero, Nat.add_sub_cancel_left, List.take_take, Nat.min_eq_left (by omega)]
theorem fits_pref {r : Rul} {s : ByteArray} {i : Nat} (h : i ≤ s.size) : (decide (0 < r.rom.size) && prefB (s.extract i s.size) r.rom) = fitsAt r s i := by
  have hs : (s.extract i s.size).size = s.size - i := by rw [ByteArray.size_extract]; omega
  unfold fitsAt prefB
  rw [hs]
  by_cases h1 : i + r.rom.size ≤ s.size
  · rw [extract_extract s h1]
    have : r.rom.size ≤ s.size - i := by omega
    simp [h1, this]
  · have : ¬ r.rom.size ≤ s.size - i := by omega
    simp [h1, this]
theorem isEmpty_size (t : ByteArray) : t.toList.isEmpty = !decide (0 < t.size) := by
  rw [← decide_eq_emptyBytes]
  by_cases h : t = ByteArray.empty
  · subst h; rfl
  · have : 0 < t.size := by
      rcases Nat.eq_zero_or_pos t.size with h0 | h0
      · exact absurd (ByteArray.size_eq_zero_iff.1 h0) h
      · exact h0
    simp [h, this]
set_option maxHeartbeats 1000000 in
theorem hasPrefix_any (s p : ByteArray) (w : World) (hs : s.size ≤ 1048576) (hp : p.size ≤ 1048576) : Calls Tryz.prog 69 #[.string s, .string p] w (Ret w (.bool (prefB s p))) := by
  have C : ∀ w, Calls Tryz.prog 91 #[.string s, .string p] w (Ret w (.bool (prefB s p))) := by
    intro w
    by_cases h1 : p.size ≤ s.size
    · have X := Lib.hid (show prefB s p = ((s.extract 0 p.size).toList == p.toList) by rw [toList_eq]; simp [prefB, h1])
      have h2 : (p.size : Int) ≤ (s.size : Int) := by omega
      go_enter Tryz.func91, Tryz.ntmps91
      go_wp2_with fail
      go_ret
      exact .mk (by rw [X.out]; rfl) (by (repeat (first | (with_reducible exact Below.refl _ _) | (with_reducible assumption) | (with_reducible refine Later.out _ ?_) | (with_reducible refine bel_alloc ?_ _) | (with_reducible refine bel_drew ?_) | (with_reducible refine bel_drewN ?_ _) | (with_reducible refine bel_set ?_ ?_ _) | (with_reducible refine After.out _ ?_ ?_) | (dsimp only; omega) | omega | (simp only [World.size_alloc, World.size_setCell, World.size_drew]; omega))))
    · have X := Lib.hid (show prefB s p = false by simp [prefB, h1])
      have h2 : ¬ ((p.size : Int) ≤ (s.size : Int)) := by omega
      go_enter Tryz.func91, Tryz.ntmps91
      go_wp2_with fail
      go_ret
      exact .mk (by rw [X.out]; rfl) (by (repeat (first | (with_reducible exact Below.refl _ _) | (with_reducible assumption) | (with_reducible refine Later.out _ ?_) | (with_reducible refine bel_alloc ?_ _) | (with_reducible refine bel_drew ?_) | (with_reducible refine bel_drewN ?_ _) | (with_reducible refine bel_set ?_ ?_ _) | (with_reducible refine After.out _ ?_ ?_) | (dsimp only; omega) | omega | (simp only [World.size_alloc, World.size_setCell, World.size_drew]; omega))))
  replace C := Lib.hid C
  go_enter Tryz.func69, Tryz.ntmps69
  go_wp2_with fail
  with_reducible refine (C.out _).mono ?_
  rintro e w' ⟨rfl, y1, rfl⟩
  have hsy1 := y1.bel.size
  (try simp only [World.size_alloc, World.size_setCell, World.size_drew] at hsy1)
  go_wp2_with fail
  go_ret
  exact .mk rfl (by (repeat (first | (with_reducible exact Below.refl _ _) | (with_reducible assumption) | (with_reducible refine Later.out _ ?_) | (with_reducible refine bel_alloc ?_ _) | (with_reducible refine bel_drew ?_) | (with_reducible refine bel_drewN ?_ _) | (with_reducible refine bel_set ?_ ?_ _) | (with_reducible refine After.out _ ?_ ?_) | (dsimp only; omega) | omega | (simp only [World.size_alloc, World.size_setCell, World.size_drew]; omega))))
set_option maxHeartbeats 1000000 in
theorem fits_any (r : Rul) (s : ByteArray) (i : Nat) (a : Option Addr) (c : Nat) (w : World) (hs : s.size ≤ 1048576) (hr : r.rom.size ≤ 1048576) (hi : i ≤ s.size) :
    Calls Tryz.prog 75 #[.agg #[.slice a r.sg.length c, .string r.rom], .string (s.extract i s.size)] w (Ret w (.bool (fitsAt r s i))) := by
  have hsz : (s.extract i s.size).size ≤ 1048576 := by rw [ByteArray.size_extract]; omega
  rw [← fits_pref hi]
  generalize s.extract i s.size = t at hsz ⊢
  have E := isEmpty_size r.rom
  have C := Lib.hid (fun (w : World) => hasPrefix_any t r.rom w hsz hr)
  by_cases h0 : 0 < r.rom.size
  · have X := Lib.hid (show (decide (0 < r.rom.size) && prefB t r.rom) = prefB t r.rom by simp [h0])
    have E2 : r.rom.toList.isEmpty = false := by rw [E]; simp [h0]
    clear E
    go_enter Tryz.func75, Tryz.ntmps75
    go_wp2_with (first | (go_at_call 69; first | ((with_reducible refine (Calls.later (C.out _)).mono ?_); rintro e w' ⟨rfl, xl, rfl⟩; have hsz := xl.bel.size; (try simp only [World.size_alloc, World.size_setCell, World.size_drew] at hsz); (try have hz0 : w.heap.size < xl.w.heap.size := (by omega)); (try have hz1 : w.heap.size + 1 < xl.w.heap.size := (by omega)); (try have hz2 : w.heap.size + 1 + 1 < xl.w.heap.size := (by omega))) | ((with_reducible refine (C.out _).mono ?_); rintro e w' ⟨rfl, xl, rfl⟩; have hsz := xl.bel.size; (try simp only [World.size_alloc, World.size_setCell, World.size_drew] at hsz); (try have hz0 : w.heap.size < xl.w.heap.size := (by omega)); (try have hz1 : w.heap.size + 1 < xl.w.heap.size := (by omega)); (try have hz2 : w.heap.size + 1 + 1 < xl.w.heap.size := (by omega)))))
    go_ret
    exact .mk (by rw [X.out]; rfl) (by (repeat (first | (with_reducible exact Below.refl _ _) | (with_reducible assumption) | (with_reducible refine Later.out _ ?_) | (with_reducible refine bel_alloc ?_ _) | (with_reducible refine bel_drew ?_) | (with_reducible refine bel_drewN ?_ _) | (with_reducible refine bel_set ?_ ?_ _) | (with_reducible refine After.out _ ?_ ?_) | (dsimp only; omega) | omega | (simp only [World.size_alloc, World.size_setCell, World.size_drew]; omega))))
  · have X := Lib.hid (show (decide (0 < r.rom.size) && prefB t r.rom) = false by simp [h0])
    have E2 : r.rom.toList.isEmpty = true := by rw [E]; simp [h0]
    clear E
    go_enter Tryz.func75, Tryz.ntmps75
    go_wp2_with fail
    go_ret
    exact .mk (by rw [X.out]; rfl) (by (repeat (first | (with_reducible exact Below.refl _ _) | (with_reducible assumption) | (with_reducible refine Later.out _ ?_) | (with_reducible refine bel_alloc ?_ _) | (with_reducible refine bel_drew ?_) | (with_reducible refine bel_drewN ?_ _) | (with_reducible refine bel_set ?_ ?_ _) | (with_reducible refine After.out _ ?_ ?_) | (dsimp only; omega) | omega | (simp only [World.size_alloc, World.size_setCell, World.size_drew]; omega))))
set_option maxHeartbeats 1000000 in
theorem sFits_any (r : Rul) (s : ByteArray) (i : Nat) (a : Option Addr) (c : Nat) (w : World) (hs : s.size ≤ 1048576) (hr : r.rom.size ≤ 1048576) (hi : i ≤ s.size) :
    Calls Tryz.prog 80 #[.agg #[.slice a r.sg.length c, .string r.rom], .string s, .int .i64 i] w (Ret w (.bool (fitsAt r s i))) := by
  by_cases h0 : 0 < r.rom.size
  · have h0' : 0 < (r.rom.size : Int) := by omega
    by_cases h1 : i + r.rom.size ≤ s.size
    · have X := Lib.hid (show fitsAt r s i = ((s.extract i (i + r.rom.size)).toList == r.rom.toList) by rw [toList_eq]; simp [fitsAt, h0, h1])
      have h1' : decide ((r.rom.size : Int) ≤ (s.size : Int) - (i : Int)) = true := by rw [decide_eq_true_eq]; omega
      have h2' : ((i : Int) + (r.rom.size : Int)).toNat = i + r.rom.size := by omega
      go_enter Tryz.func80, Tryz.ntmps80
      go_wp2_with fail
      refine wp_region_later (by kernel_rfl) (by kernel_rfl) ?_
      repeat (go_big_quiet_step (fail))
      refine wpQuiet_nil ?_
      rintro _ ⟨xq, rfl⟩
      go_wp2_with fail
      go_ret
      exact .mk (by rw [X.out]; rfl) (by (repeat (first | (with_reducible exact Below.refl _ _) | (with_reducible assumption) | (with_reducible refine Later.out _ ?_) | (with_reducible refine bel_alloc ?_ _) | (with_reducible refine bel_drew ?_) | (with_reducible refine bel_drewN ?_ _) | (with_reducible refine bel_set ?_ ?_ _) | (with_reducible refine After.out _ ?_ ?_) | (dsimp only; omega) | omega | (simp only [World.size_alloc, World.size_setCell, World.size_drew]; omega))))
    · have X := Lib.hid (show fitsAt r s i = false by simp [fitsAt, h1])
      have h1' : decide ((r.rom.size : Int) ≤ (s.size : Int) - (i : Int)) = false := by rw [decide_eq_false_iff_not]; omega
      go_enter Tryz.func80, Tryz.ntmps80
      go_wp2_with fail
      refine wp_region_later (by kernel_rfl) (by kernel_rfl) ?_
      repeat (go_big_quiet_step (fail))
      refine wpQuiet_nil ?_
      rintro _ ⟨xq, rfl⟩
      go_wp2_with fail
      go_ret
      exact .mk (by rw [X.out]; rfl) (by (repeat (first | (with_reducible exact Below.refl _ _) | (with_reducible assumption) | (with_reducible refine Later.out _ ?_) | (with_reducible refine bel_alloc ?_ _) | (with_reducible refine bel_drew ?_) | (with_reducible refine bel_drewN ?_ _) | (with_reducible refine bel_set ?_ ?_ _) | (with_reducible refine After.out _ ?_ ?_) | (dsimp only; omega) | omega | (simp only [World.size_alloc, World.size_setCell, World.size_drew]; omega))))
  · have X := Lib.hid (show fitsAt r s i = false by simp [fitsAt, h0])
    have h0' : ¬ 0 < (r.rom.size : Int) := by omega
    go_enter Tryz.func80, Tryz.ntmps80
    go_wp2_with fail
    refine wp_region_later (by kernel_rfl) (by kernel_rfl) ?_
    repeat (go_big_quiet_step (fail))
    refine wpQuiet_nil ?_
    rintro _ ⟨xq, rfl⟩
    go_wp2_with fail
    go_ret
    exact .mk (by rw [X.out]; rfl) (by (repeat (first | (with_reducible exact Below.refl _ _) | (with_reducible assumption) | (with_reducible refine Later.out _ ?_) | (with_reducible refine bel_alloc ?_ _) | (with_reducible refine bel_drew ?_) | (with_reducible refine bel_drewN ?_ _) | (with_reducible refine bel_set ?_ ?_ _) | (with_reducible refine After.out _ ?_ ?_) | (dsimp only; omega) | omega | (simp only [World.size_alloc, World.size_setCell, World.size_drew]; omega))))
/-- A table and a text of which the number of parsings is asked. -/
def textB (T : List Rul) (s : ByteArray) : Bool := tableB T && smallB s 0 48
set_option maxHeartbeats 1000000 in
theorem textCode_any (T : List Rul) (s : ByteArray) (a : Option Addr) (n c : Nat) (w : World) (hn : T.length = n) (hm : n ≤ 1048576) (hnc : n ≤ c) (hcm : c ≤ maxLen) (hok : ∀ r ∈ T, RulOk r) (hs : s.size ≤ 1048576) (hr : RulesR w a T) :
    Calls Tryz.prog 30 #[.slice a n c, .string s] w (Ret w (.int .i64 (if textB T s then 0 else 1))) := by
  have C := fun (w : World) (hr : RulesR w a T) => isTable_any T a n c w hn hm hnc hcm hok hr
  have D := fun (w : World) => isSmall_any s 0 48 w hs
  have X := Lib.hid (show textB T s = (tableB T && smallB s 0 48) from rfl)
  obtain ⟨u, hu⟩ : ∃ v, tableB T = v := ⟨_, rfl⟩
  obtain ⟨v, hv⟩ : ∃ v, smallB s 0 48 = v := ⟨_, rfl⟩
  simp only [hu] at C X
  simp only [hv] at D X
  replace C := Lib.hid C
  replace D := Lib.hid D
  replace hr := Lib.hid hr
  clear hu hv hok
  cases u
  · rw [show (if textB T s = true then (0 : Int) else 1) = 1 by rw [X.out]; rfl]
    go_enter Tryz.func30, Tryz.ntmps30
    go_wp2_with (first | (go_at_call 52; first | ((with_reducible refine (Calls.later (C.out _ (hr.out.bel (by (repeat (first | (with_reducible exact Below.refl _ _) | (with_reducible assumption) | (with_reducible refine Later.out _ ?_) | (with_reducible refine bel_alloc ?_ _) | (with_reducible refine bel_drew ?_) | (with_reducible refine bel_drewN ?_ _) | (with_reducible refine bel_set ?_ ?_ _) | (with_reducible refine After.out _ ?_ ?_) | (dsimp only; omega) | omega | (simp only [World.size_alloc, World.size_setCell, World.size_drew]; omega))))))).mono ?_); rintro e w' ⟨rfl, xl, rfl⟩; have hsz := xl.bel.size; (try simp only [World.size_alloc, World.size_setCell, World.size_drew] at hsz); (try have hz0 : w.heap.size < xl.w.heap.size := (by omega)); (try have hz1 : w.heap.size + 1 < xl.w.heap.size := (by omega)); (try have hz2 : w.heap.size + 1 + 1 < xl.w.heap.size := (by omega))) | ((with_reducible refine (C.out _ (hr.out.bel (by (repeat (first | (with_reducible exact Below.refl _ _) | (with_reducible assumption) | (with_reducible refine Later.out _ ?_) | (with_reducible refine bel_alloc ?_ _) | (with_reducible refine bel_drew ?_) | (with_reducible refine bel_drewN ?_ _) | (with_reducible refine bel_set ?_ ?_ _) | (with_reducible refine After.out _ ?_ ?_) | (dsimp only; omega) | omega | (simp only [World.size_alloc, World.size_setCell, World.size_drew]; omega)))))).mono ?_); rintro e w' ⟨rfl, xl, rfl⟩; have hsz := xl.bel.size; (try simp only [World.size_alloc, World.size_setCell, World.size_drew] at hsz); (try have hz0 : w.heap.size < xl.w.heap.size := (by omega)); (try have hz1 : w.heap.size + 1 < xl.w.heap.size := (by omega)); (try have hz2 : w.heap.size + 1 + 1 < xl.w.heap.size := (by omega)))))
    go_ret
    exact .mk rfl (by (repeat (first | (with_reducible exact Below.refl _ _) | (with_reducible assumption) | (with_reducible refine Later.out _ ?_) | (with_reducible refine bel_alloc ?_ _) | (with_reducible refine bel_drew ?_) | (with_reducible refine bel_drewN ?_ _) | (with_reducible refine bel_set ?_ ?_ _) | (with_reducible refine After.out _ ?_ ?_) | (dsimp only; omega) | omega | (simp only [World.size_alloc, World.size_setCell, World.size_drew]; omega))))
  · cases v
    rw [show (if textB T s = true then (0 : Int) else 1) = 1 by rw [X.out]; rfl]
    rotate_left
    rw [show (if textB T s = true then (0 : Int) else 1) = 0 by rw [X.out]; rfl]
    all_goals
      go_enter Tryz.func30, Tryz.ntmps30
      go_wp2_with (first | (go_at_call 52; first | ((with_reducible refine (Calls.later (C.out _ (hr.out.bel (by (repeat (first | (with_reducible exact Below.refl _ _) | (with_reducible assumption) | (with_reducible refine Later.out _ ?_) | (with_reducible refine bel_alloc ?_ _) | (with_reducible refine bel_drew ?_) | (with_reducible refine bel_drewN ?_ _) | (with_reducible refine bel_set ?_ ?_ _) | (with_reducible refine After.out _ ?_ ?_) | (dsimp only; omega) | omega | (simp only [World.size_alloc, World.size_setCell, World.size_drew]; omega))))))).mono ?_); rintro e w' ⟨rfl, xl, rfl⟩; have hsz := xl.bel.size; (try simp only [World.size_alloc, World.size_setCell, World.size_drew] at hsz); (try have hz0 : w.heap.size < xl.w.heap.size := (by omega)); (try have hz1 : w.heap.size + 1 < xl.w.heap.size := (by omega)); (try have hz2 : w.heap.size + 1 + 1 < xl.w.heap.size := (by omega))) | ((with_reducible refine (C.out _ (hr.out.bel (by (repeat (first | (with_reducible exact Below.refl _ _) | (with_reducible assumption) | (with_reducible refine Later.out _ ?_) | (with_reducible refine bel_alloc ?_ _) | (with_reducible refine bel_drew ?_) | (with_reducible refine bel_drewN ?_ _) | (with_reducible refine bel_set ?_ ?_ _) | (with_reducible refine After.out _ ?_ ?_) | (dsimp only; omega) | omega | (simp only [World.size_alloc, World.size_setCell, World.size_drew]; omega)))))).mono ?_); rintro e w' ⟨rfl, xl, rfl⟩; have hsz := xl.bel.size; (try simp only [World.size_alloc, World.size_setCell, World.size_drew] at hsz); (try have hz0 : w.heap.size < xl.w.heap.size := (by omega)); (try have hz1 : w.heap.size + 1 < xl.w.heap.size := (by omega)); (try have hz2 : w.heap.size + 1 + 1 < xl.w.heap.size := (by omega)))) | (go_at_call 53; first | ((with_reducible refine (Calls.later (D.out _)).mono ?_); rintro e w' ⟨rfl, xl, rfl⟩; have hsz := xl.bel.size; (try simp only [World.size_alloc, World.size_setCell, World.size_drew] at hsz); (try have hz0 : w.heap.size < xl.w.heap.size := (by omega)); (try have hz1 : w.heap.size + 1 < xl.w.heap.size := (by omega)); (try have hz2 : w.heap.size + 1 + 1 < xl.w.heap.size := (by omega))) | ((with_reducible refine (D.out _).mono ?_); rintro e w' ⟨rfl, xl, rfl⟩; have hsz := xl.bel.size; (try simp only [World.size_alloc, World.size_setCell, World.size_drew] at hsz); (try have hz0 : w.heap.size < xl.w.heap.size := (by omega)); (try have hz1 : w.heap.size + 1 < xl.w.heap.size := (by omega)); (try have hz2 : w.heap.size + 1 + 1 < xl.w.heap.size := (by omega)))))
      go_ret
      exact .mk rfl (by (repeat (first | (with_reducible exact Below.refl _ _) | (with_reducible assumption) | (with_reducible refine Later.out _ ?_) | (with_reducible refine bel_alloc ?_ _) | (with_reducible refine bel_drew ?_) | (with_reducible refine bel_drewN ?_ _) | (with_reducible refine bel_set ?_ ?_ _) | (with_reducible refine After.out _ ?_ ?_) | (dsimp only; omega) | omega | (simp only [World.size_alloc, World.size_setCell, World.size_drew]; omega))))
set_option maxHeartbeats 1000000 in
theorem sCode_any (T : List Rul) (s : ByteArray) (a : Option Addr) (n c : Nat) (w : World) (hn : T.length = n) (hm : n ≤ 1048576) (hok : ∀ r ∈ T, RulOk r) (hs : s.size ≤ 1048576) (hr : RulesR w a T) :
    Calls Tryz.prog 31 #[.slice a n c, .string s] w (Ret w (.int .i64 (if textB T s then 0 else 1))) := by
  have C := fun (w : World) (hr : RulesR w a T) => sIsTable_any T a n c w hn hm hok hr
  have D := fun (w : World) => sLower_any s 0 48 w hs
  have X := Lib.hid (show textB T s = (tableB T && smallB s 0 48) from rfl)
  obtain ⟨u, hu⟩ : ∃ v, tableB T = v := ⟨_, rfl⟩
  obtain ⟨v, hv⟩ : ∃ v, smallB s 0 48 = v := ⟨_, rfl⟩
  simp only [hu] at C X
  simp only [hv] at D X
  replace C := Lib.hid C
  replace D := Lib.hid D
  replace hr := Lib.hid hr
  clear hu hv hok
  cases u
  · rw [show (if textB T s = true then (0 : Int) else 1) = 1 by rw [X.out]; rfl]
    go_enter Tryz.func31, Tryz.ntmps31
    go_wp2_with (first | (go_at_call 54; first | ((with_reducible refine (Calls.later (C.out _ (hr.out.bel (by (repeat (first | (with_reducible exact Below.refl _ _) | (with_reducible assumption) | (with_reducible refine Later.out _ ?_) | (with_reducible refine bel_alloc ?_ _) | (with_reducible refine bel_drew ?_) | (with_reducible refine bel_drewN ?_ _) | (with_reducible refine bel_set ?_ ?_ _) | (with_reducible refine After.out _ ?_ ?_) | (dsimp only; omega) | omega | (simp only [World.size_alloc, World.size_setCell, World.size_drew]; omega))))))).mono ?_); rintro e w' ⟨rfl, xl, rfl⟩; have hsz := xl.bel.size; (try simp only [World.size_alloc, World.size_setCell, World.size_drew] at hsz); (try have hz0 : w.heap.size < xl.w.heap.size := (by omega)); (try have hz1 : w.heap.size + 1 < xl.w.heap.size := (by omega)); (try have hz2 : w.heap.size + 1 + 1 < xl.w.heap.size := (by omega))) | ((with_reducible refine (C.out _ (hr.out.bel (by (repeat (first | (with_reducible exact Below.refl _ _) | (with_reducible assumption) | (with_reducible refine Later.out _ ?_) | (with_reducible refine bel_alloc ?_ _) | (with_reducible refine bel_drew ?_) | (with_reducible refine bel_drewN ?_ _) | (with_reducible refine bel_set ?_ ?_ _) | (with_reducible refine After.out _ ?_ ?_) | (dsimp only; omega) | omega | (simp only [World.size_alloc, World.size_setCell, World.size_drew]; omega)))))).mono ?_); rintro e w' ⟨rfl, xl, rfl⟩; have hsz := xl.bel.size; (try simp only [World.size_alloc, World.size_setCell, World.size_drew] at hsz); (try have hz0 : w.heap.size < xl.w.heap.size := (by omega)); (try have hz1 : w.heap.size + 1 < xl.w.heap.size := (by omega)); (try have hz2 : w.heap.size + 1 + 1 < xl.w.heap.size := (by omega)))))
    go_ret
    exact .mk rfl (by (repeat (first | (with_reducible exact Below.refl _ _) | (with_reducible assumption) | (with_reducible refine Later.out _ ?_) | (with_reducible refine bel_alloc ?_ _) | (with_reducible refine bel_drew ?_) | (with_reducible refine bel_drewN ?_ _) | (with_reducible refine bel_set ?_ ?_ _) | (with_reducible refine After.out _ ?_ ?_) | (dsimp only; omega) | omega | (simp only [World.size_alloc, World.size_setCell, World.size_drew]; omega))))
  · cases v
    rw [show (if textB T s = true then (0 : Int) else 1) = 1 by rw [X.out]; rfl]
    rotate_left
    rw [show (if textB T s = true then (0 : Int) else 1) = 0 by rw [X.out]; rfl]
    all_goals
      go_enter Tryz.func31, Tryz.ntmps31
      go_wp2_with (first | (go_at_call 54; first | ((with_reducible refine (Calls.later (C.out _ (hr.out.bel (by (repeat (first | (with_reducible exact Below.refl _ _) | (with_reducible assumption) | (with_reducible refine Later.out _ ?_) | (with_reducible refine bel_alloc ?_ _) | (with_reducible refine bel_drew ?_) | (with_reducible refine bel_drewN ?_ _) | (with_reducible refine bel_set ?_ ?_ _) | (with_reducible refine After.out _ ?_ ?_) | (dsimp only; omega) | omega | (simp only [World.size_alloc, World.size_setCell, World.size_drew]; omega))))))).mono ?_); rintro e w' ⟨rfl, xl, rfl⟩; have hsz := xl.bel.size; (try simp only [World.size_alloc, World.size_setCell, World.size_drew] at hsz); (try have hz0 : w.heap.size < xl.w.heap.size := (by omega)); (try have hz1 : w.heap.size + 1 < xl.w.heap.size := (by omega)); (try have hz2 : w.heap.size + 1 + 1 < xl.w.heap.size := (by omega))) | ((with_reducible refine (C.out _ (hr.out.bel (by (repeat (first | (with_reducible exact Below.refl _ _) | (with_reducible assumption) | (with_reducible refine Later.out _ ?_) | (with_reducible refine bel_alloc ?_ _) | (with_reducible refine bel_drew ?_) | (with_reducible refine bel_drewN ?_ _) | (with_reducible refine bel_set ?_ ?_ _) | (with_reducible refine After.out _ ?_ ?_) | (dsimp only; omega) | omega | (simp only [World.size_alloc, World.size_setCell, World.size_drew]; omega)))))).mono ?_); rintro e w' ⟨rfl, xl, rfl⟩; have hsz := xl.bel.size; (try simp only [World.size_alloc, World.size_setCell, World.size_drew] at hsz); (try have hz0 : w.heap.size < xl.w.heap.size := (by omega)); (try have hz1 : w.heap.size + 1 < xl.w.heap.size := (by omega)); (try have hz2 : w.heap.size + 1 + 1 < xl.w.heap.size := (by omega)))) | (go_at_call 55; first | ((with_reducible refine (Calls.later (D.out _)).mono ?_); rintro e w' ⟨rfl, xl, rfl⟩; have hsz := xl.bel.size; (try simp only [World.size_alloc, World.size_setCell, World.size_drew] at hsz); (try have hz0 : w.heap.size < xl.w.heap.size := (by omega)); (try have hz1 : w.heap.size + 1 < xl.w.heap.size := (by omega)); (try have hz2 : w.heap.size + 1 + 1 < xl.w.heap.size := (by omega))) | ((with_reducible refine (D.out _).mono ?_); rintro e w' ⟨rfl, xl, rfl⟩; have hsz := xl.bel.size; (try simp only [World.size_alloc, World.size_setCell, World.size_drew] at hsz); (try have hz0 : w.heap.size < xl.w.heap.size := (by omega)); (try have hz1 : w.heap.size + 1 < xl.w.heap.size := (by omega)); (try have hz2 : w.heap.size + 1 + 1 < xl.w.heap.size := (by omega)))))
      go_ret
      exact .mk rfl (by (repeat (first | (with_reducible exact Below.refl _ _) | (with_reducible assumption) | (with_reducible refine Later.out _ ?_) | (with_reducible refine bel_alloc ?_ _) | (with_reducible refine bel_drew ?_) | (with_reducible refine bel_drewN ?_ _) | (with_reducible refine bel_set ?_ ?_ _) | (with_reducible refine After.out _ ?_ ?_) | (dsimp only; omega) | omega | (simp only [World.size_alloc, World.size_setCell, World.size_drew]; omega))))
end Go.Proofs.YtemfhcmeeldngaaGreatDoor

/- Searches in rows of numbers with a predicate. -/
set_option linter.unusedSimpArgs false
set_option linter.unusedVariables false
namespace Go.Proofs.YtemfhcmeeldngaaGreatDoor
open Go.RowKit
def idxPI (p : Int → Bool) (L : List Int) : Int := match L.findIdx? p with
  | some i => i
  | none => -1
theorem idxPI_none {p : Int → Bool} {L : List Int} (h : ∀ j (hj : j < L.length), p L[j] = false) : idxPI p L = -1 := by
  have : L.findIdx? p = none := by
    rw [List.findIdx?_eq_none_iff]
    intro x hx
    obtain ⟨j, hj, rfl⟩ := List.mem_iff_getElem.1 hx
    exact h j hj
  simp [idxPI, this]
theorem idxPI_some {p : Int → Bool} {L : List Int} {k : Nat} (hk : k < L.length) (h1 : p L[k] = true) (h : ∀ j (hj : j < L.length), j < k → p L[j] = false) : idxPI p L = k := by
  have : L.findIdx? p = some k := by
    rw [List.findIdx?_eq_some_iff_getElem]
    exact ⟨hk, h1, fun j hj => by rw [h j (by omega) hj]; simp⟩
  simp [idxPI, this]
theorem idxPI_nonneg (p : Int → Bool) (L : List Int) : decide (0 ≤ idxPI p L) = L.any p := by
  unfold idxPI
  cases h : L.findIdx? p with
  | none =>
    rw [List.findIdx?_eq_none_iff] at h
    have : L.any p = false := by rw [Bool.eq_false_iff]; intro hh; obtain ⟨x, hx, hp⟩ := List.any_eq_true.1 hh; rw [h x hx] at hp; cases hp
    simp [this]
  | some i =>
    rw [List.findIdx?_eq_some_iff_getElem] at h
    obtain ⟨hi, hp, _⟩ := h
    have : L.any p = true := List.any_eq_true.2 ⟨L[i], List.getElem_mem hi, hp⟩
    simp [this]
/-- What a function value must do for a list of numbers: tell `p` of each, whenever it is called later. -/
def TellsI (g : Nat) (lb : Array Value) (p : Int → Bool) (L : List Int) (w : World) : Prop :=
  ∀ x ∈ L, ∀ w' : World, Below w.heap.size w w' → Calls Tryz.prog g (#[.int .i64 x] ++ lb) w' (Ret w' (.bool (p x)))
theorem TellsI.bel {g : Nat} {lb : Array Value} {p : Int → Bool} {L : List Int} {w w1 : World} (h : TellsI g lb p L w) (hb : Below w.heap.size w w1) : TellsI g lb p L w1 :=
  fun c hc w' hb' => h c hc w' (hb.trans (hb'.mono hb.size))
set_option maxHeartbeats 1000000 in
theorem indexFuncI_any (g : Nat) (lb : Array Value) (p : Int → Bool) (L : List Int) (a : Option Addr) (n c : Nat) (w : World) (eg : ∀ args w, (callFunc g args).run Tryz.prog w = .ok (.enter g args) w)
    (hn : L.length = n) (hm : n ≤ 1048576) (hr : Row w a (intCells L)) (hp : TellsI g lb p L w) :
    Calls Tryz.prog 88 #[.slice a n c, .func (.func g) #[] lb] w (Ret w (.int .i64 (idxPI p L))) := by
  subst hn
  replace hr := Lib.hid hr
  replace hp := Lib.hid hp
  go_enter Tryz.func88, Tryz.ntmps88
  go_wp2_with fail
  go_loopw [8] (fun i wr => ∃ k : Nat, k ≤ L.length ∧ i = .int .i64 k ∧ (∀ j (hj : j < L.length), j < k → p L[j] = false) ∧ ∃ z : Later w, wr = z.w) (fun i _ => L.length - (intOf i).toNat)
  case atStart => exact ⟨0, Nat.zero_le _, rfl, fun j _ h => absurd h (by omega), ⟨_, Below.refl _ _⟩, rfl⟩
  case round =>
    obtain ⟨k, hk, rfl, hall, z, rfl⟩ := hrel
    replace hall := Lib.hid hall
    by_cases hlt : k < L.length
    · have hi1 : (k : Int) < (L.length : Int) := by omega
      obtain ⟨b, o, rfl, hb, hcell⟩ := hr.out.int hlt
      have hc := hp.out L[k] (List.getElem_mem hlt) z.w z.bel
      cases hv : p L[k]
      · rw [hv] at hc
        replace hc := Lib.hid hc
        have X := Lib.hid (show ∀ j (hj : j < L.length), j < k + 1 → p L[j] = false from fun j hj h => by
          rcases Nat.lt_or_ge j k with h1 | h1
          · exact hall.out j hj h1
          · obtain rfl : j = k := by omega
            exact hv)
        clear hv
        go_wp2_with (go_at_fn g; (with_reducible refine hc.out.mono ?_); rintro e w' ⟨rfl, y1, rfl⟩)
        go_roundw
        case rel => exact ⟨k + 1, by omega, by go_num, X.out, ⟨_, by (repeat (first | (with_reducible exact Below.refl _ _) | (with_reducible assumption) | (with_reducible refine Later.out _ ?_) | (with_reducible refine bel_alloc ?_ _) | (with_reducible refine bel_drew ?_) | (with_reducible refine bel_drewN ?_ _) | (with_reducible refine bel_set ?_ ?_ _) | (with_reducible refine After.out _ ?_ ?_) | (dsimp only; omega) | omega | (simp only [World.size_alloc, World.size_setCell, World.size_drew]; omega)))⟩, rfl⟩
        case measure => first | (simp [intOf]; done) | (simp [intOf]; omega) | omega
      · rw [hv] at hc
        replace hc := Lib.hid hc
        have X := Lib.hid (idxPI_some hlt hv fun j hj h => hall.out j hj h)
        clear hv
        go_wp2_with (go_at_fn g; (with_reducible refine hc.out.mono ?_); rintro e w' ⟨rfl, y1, rfl⟩)
        go_ret
        exact .mk (by rw [X.out]; rfl) (by (repeat (first | (with_reducible exact Below.refl _ _) | (with_reducible assumption) | (with_reducible refine Later.out _ ?_) | (with_reducible refine bel_alloc ?_ _) | (with_reducible refine bel_drew ?_) | (with_reducible refine bel_drewN ?_ _) | (with_reducible refine bel_set ?_ ?_ _) | (with_reducible refine After.out _ ?_ ?_) | (dsimp only; omega) | omega | (simp only [World.size_alloc, World.size_setCell, World.size_drew]; omega))))
    · obtain rfl : k = L.length := by omega
      have X := Lib.hid (idxPI_none fun j hj => hall.out j hj hj)
      go_wp2_with fail
      go_ret
      exact .mk (by rw [X.out]; rfl) (by (repeat (first | (with_reducible exact Below.refl _ _) | (with_reducible assumption) | (with_reducible refine Later.out _ ?_) | (with_reducible refine bel_alloc ?_ _) | (with_reducible refine bel_drew ?_) | (with_reducible refine bel_drewN ?_ _) | (with_reducible refine bel_set ?_ ?_ _) | (with_reducible refine After.out _ ?_ ?_) | (dsimp only; omega) | omega | (simp only [World.size_alloc, World.size_setCell, World.size_drew]; omega))))
theorem containsFuncI_any (g : Nat) (lb : Array Value) (p : Int → Bool) (L : List Int) (a : Option Addr) (n c : Nat) (w : World) (eg : ∀ args w, (callFunc g args).run Tryz.prog w = .ok (.enter g args) w)
    (hn : L.length = n) (hm : n ≤ 1048576) (hr : Row w a (intCells L)) (hp : TellsI g lb p L w) :
    Calls Tryz.prog 60 #[.slice a n c, .func (.func g) #[] lb] w (Ret w (.bool (L.any p))) := by
  have X := Lib.hid (idxPI_nonneg p L)
  replace hr := Lib.hid hr
  replace hp := Lib.hid hp
  replace hn := Lib.hid hn
  have EG := Lib.hid eg
  clear eg
  go_enter Tryz.func60, Tryz.ntmps60
  go_wp2_with fail
  with_reducible refine (indexFuncI_any g lb p L _ _ _ _ EG.out hn.out hm hr.out hp.out).mono ?_
  rintro e w' ⟨rfl, y1, rfl⟩
  have hsy1 := y1.bel.size
  (try simp only [World.size_alloc, World.size_setCell, World.size_drew] at hsy1)
  go_wp2_with fail
  go_ret
  exact .mk (by rw [← X.out]; rfl) (by (repeat (first | (with_reducible exact Below.refl _ _) | (with_reducible assumption) | (with_reducible refine Later.out _ ?_) | (with_reducible refine bel_alloc ?_ _) | (with_reducible refine bel_drew ?_) | (with_reducible refine bel_drewN ?_ _) | (with_reducible refine bel_set ?_ ?_ _) | (with_reducible refine After.out _ ?_ ?_) | (dsimp only; omega) | omega | (simp only [World.size_alloc, World.size_setCell, World.size_drew]; omega))))
end Go.Proofs.YtemfhcmeeldngaaGreatDoor

/- Rules without a text, both sides. -/
set_option linter.unusedSimpArgs false
set_option linter.unusedVariables false
namespace Go.Proofs.YtemfhcmeeldngaaGreatDoor
open Go.RowKit
def noRom (r : Rul) : Bool := r.rom.toList.isEmpty
theorem noRom_iff (r : Rul) : noRom r = true ↔ r.rom.size = 0 := by unfold noRom; rw [isEmpty_size]; simp
def emptyB (T : List Rul) : Bool := T.any noRom
theorem emptyB_no {T : List Rul} (h : emptyB T = false) : ∀ i (hi : i < T.length), 0 < T[i].rom.size := fun i hi => by
  unfold emptyB at h
  rcases Nat.eq_zero_or_pos T[i].rom.size with h0 | h0
  · have : T.any noRom = true := List.any_eq_true.2 ⟨T[i], List.getElem_mem hi, (noRom_iff _).2 h0⟩
    rw [h] at this; cases this
  · exact h0
theorem containsU_any (g : Nat) (pre lb : Array Value) (p : Rul → Bool) (L : List Rul) (a : Option Addr) (n c : Nat) (w : World) (eg : ∀ args w, (callFunc g args).run Tryz.prog w = .ok (.enter g args) w)
    (hn : L.length = n) (hm : n ≤ 1048576) (hr : RulesR w a L) (hp : TellsU g pre lb p L w) :
    Calls Tryz.prog 67 #[.slice a n c, .func (.func g) pre lb] w (Ret w (.bool (L.any p))) := by
  have X := Lib.hid (idxU_nonneg p L)
  replace hr := Lib.hid hr
  replace hp := Lib.hid hp
  replace hn := Lib.hid hn
  have EG := Lib.hid eg
  clear eg
  go_enter Tryz.func67, Tryz.ntmps67
  go_wp2_with fail
  with_reducible refine (indexFuncU_any g pre lb p L _ _ _ _ EG.out hn.out hm hr.out hp.out).mono ?_
  rintro e w' ⟨rfl, y1, rfl⟩
  have hsy1 := y1.bel.size
  (try simp only [World.size_alloc, World.size_setCell, World.size_drew] at hsy1)
  go_wp2_with fail
  go_ret
  exact .mk (by rw [← X.out]; rfl) (by (repeat (first | (with_reducible exact Below.refl _ _) | (with_reducible assumption) | (with_reducible refine Later.out _ ?_) | (with_reducible refine bel_alloc ?_ _) | (with_reducible refine bel_drew ?_) | (with_reducible refine bel_drewN ?_ _) | (with_reducible refine bel_set ?_ ?_ _) | (with_reducible refine After.out _ ?_ ?_) | (dsimp only; omega) | omega | (simp only [World.size_alloc, World.size_setCell, World.size_drew]; omega))))
theorem enters_hasEmpty1 : ∀ args w, (callFunc 68 args).run Tryz.prog w = .ok (.enter 68 args) w := fun _ _ => by kernel_rfl
theorem hasEmpty1_any (r : Rul) (a : Option Addr) (n c : Nat) (w : World) :
    Calls Tryz.prog 68 #[.agg #[.slice a n c, .string r.rom]] w (Ret w (.bool (noRom r))) := by
  go_enter Tryz.func68, Tryz.ntmps68
  go_wp2_with fail
  go_ret
  exact .mk rfl (by (repeat (first | (with_reducible exact Below.refl _ _) | (with_reducible assumption) | (with_reducible refine Later.out _ ?_) | (with_reducible refine bel_alloc ?_ _) | (with_reducible refine bel_drew ?_) | (with_reducible refine bel_drewN ?_ _) | (with_reducible refine bel_set ?_ ?_ _) | (with_reducible refine After.out _ ?_ ?_) | (dsimp only; omega) | omega | (simp only [World.size_alloc, World.size_setCell, World.size_drew]; omega))))
set_option maxHeartbeats 1000000 in
theorem hasEmpty_any (T : List Rul) (a : Option Addr) (n c : Nat) (w : World) (hn : T.length = n) (hm : n ≤ 1048576) (hr : RulesR w a T) :
    Calls Tryz.prog 43 #[.slice a n c] w (Ret w (.bool (emptyB T))) := by
  have C := Lib.hid (fun (w : World) (hr : RulesR w a T) => containsU_any 68 #[] #[] noRom T a n c w enters_hasEmpty1 hn hm hr (fun r _ ax cx w' _ _ _ _ => by simpa using hasEmpty1_any r ax r.sg.length cx w'))
  replace hr := Lib.hid hr
  go_enter Tryz.func43, Tryz.ntmps43
  go_wp2_with fail
  with_reducible refine (C.out _ (hr.out.bel (by (repeat (first | (with_reducible exact Below.refl _ _) | (with_reducible assumption) | (with_reducible refine Later.out _ ?_) | (with_reducible refine bel_alloc ?_ _) | (with_reducible refine bel_drew ?_) | (with_reducible refine bel_drewN ?_ _) | (with_reducible refine bel_set ?_ ?_ _) | (with_reducible refine After.out _ ?_ ?_) | (dsimp only; omega) | omega | (simp only [World.size_alloc, World.size_setCell, World.size_drew]; omega)))))).mono ?_
  rintro e w' ⟨rfl, y1, rfl⟩
  have hsy1 := y1.bel.size
  (try simp only [World.size_alloc, World.size_setCell, World.size_drew] at hsy1)
  go_wp2_with fail
  go_ret
  exact .mk rfl (by (repeat (first | (with_reducible exact Below.refl _ _) | (with_reducible assumption) | (with_reducible refine Later.out _ ?_) | (with_reducible refine bel_alloc ?_ _) | (with_reducible refine bel_drew ?_) | (with_reducible refine bel_drewN ?_ _) | (with_reducible refine bel_set ?_ ?_ _) | (with_reducible refine After.out _ ?_ ?_) | (dsimp only; omega) | omega | (simp only [World.size_alloc, World.size_setCell, World.size_drew]; omega))))
set_option maxHeartbeats 1000000 in
theorem sEmpty_any (T : List Rul) (a : Option Addr) (n c : Nat) (w : World) (hn : T.length = n) (hm : n ≤ 1048576) (hr : RulesR w a T) :
    Calls Tryz.prog 48 #[.slice a n c] w (Ret w (.bool (emptyB T))) := by
  subst hn
  replace hr := Lib.hid hr
  go_enter Tryz.func48, Tryz.ntmps48
  go_wp2_with fail
  go_loopw [3] (fun i wr => ∃ k : Nat, k ≤ T.length ∧ i = .int .i64 k ∧ (∀ j (hj : j < T.length), j < k → noRom T[j] = false) ∧ ∃ z : Later w, wr = z.w) (fun i _ => T.length - (intOf i).toNat)
  case atStart => exact ⟨0, Nat.zero_le _, rfl, fun j _ h => absurd h (by omega), ⟨_, Below.refl _ _⟩, rfl⟩
  case round =>
    obtain ⟨k, hk, rfl, hall, z, rfl⟩ := hrel
    replace hall := Lib.hid hall
    have hzz := z.bel.size
    by_cases hlt : k < T.length
    · obtain ⟨b, o, ai, ci, rfl, hb, q0, q1, -, -, -⟩ := hr.out.at_ hlt
      have hi1 : (k : Int) < (T.length : Int) := by omega
      cases hv : noRom T[k]
      · have X := Lib.hid (show ∀ j (hj : j < T.length), j < k + 1 → noRom T[j] = false from fun j hj h => by
          rcases Nat.lt_or_ge j k with h1 | h1
          · exact hall.out j hj h1
          · obtain rfl : j = k := by omega
            exact hv)
        unfold noRom at hv
        go_wp2_with fail
        go_roundw
        case rel => exact ⟨k + 1, by omega, by go_num, X.out, LaterC.mk (by (repeat (first | (with_reducible exact Below.refl _ _) | (with_reducible assumption) | (with_reducible refine Later.out _ ?_) | (with_reducible refine bel_alloc ?_ _) | (with_reducible refine bel_drew ?_) | (with_reducible refine bel_drewN ?_ _) | (with_reducible refine bel_set ?_ ?_ _) | (with_reducible refine After.out _ ?_ ?_) | (dsimp only; omega) | omega | (simp only [World.size_alloc, World.size_setCell, World.size_drew]; omega))))⟩
        case measure => first | (simp [intOf]; done) | (simp [intOf]; omega) | omega
      · have X := Lib.hid (show emptyB T = true from List.any_eq_true.2 ⟨T[k], List.getElem_mem hlt, hv⟩)
        unfold noRom at hv
        go_wp2_with fail
        go_ret
        exact .mk (by rw [X.out]; rfl) (by (repeat (first | (with_reducible exact Below.refl _ _) | (with_reducible assumption) | (with_reducible refine Later.out _ ?_) | (with_reducible refine bel_alloc ?_ _) | (with_reducible refine bel_drew ?_) | (with_reducible refine bel_drewN ?_ _) | (with_reducible refine bel_set ?_ ?_ _) | (with_reducible refine After.out _ ?_ ?_) | (dsimp only; omega) | omega | (simp only [World.size_alloc, World.size_setCell, World.size_drew]; omega))))
    · obtain rfl : k = T.length := by omega
      have X := Lib.hid (show emptyB T = false by
        unfold emptyB
        rw [Bool.eq_false_iff]
        intro hh
        obtain ⟨x, hx, hp⟩ := List.any_eq_true.1 hh
        obtain ⟨j, hj, rfl⟩ := List.mem_iff_getElem.1 hx
        rw [hall.out j hj hj] at hp
        cases hp)
      go_wp2_with fail
      go_ret
      exact .mk (by rw [X.out]; rfl) (by (repeat (first | (with_reducible exact Below.refl _ _) | (with_reducible assumption) | (with_reducible refine Later.out _ ?_) | (with_reducible refine bel_alloc ?_ _) | (with_reducible refine bel_drew ?_) | (with_reducible refine bel_drewN ?_ _) | (with_reducible refine bel_set ?_ ?_ _) | (with_reducible refine After.out _ ?_ ?_) | (dsimp only; omega) | omega | (simp only [World.size_alloc, World.size_setCell, World.size_drew]; omega))))
end Go.Proofs.YtemfhcmeeldngaaGreatDoor
