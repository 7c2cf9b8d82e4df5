import Derived.Test.YtklcaphkfdlipaaGreatDoorPackVa
import Derived.Test.YtklcaphkfdlipaaGreatDoorShelf
import Derived.Lib.SliceRun
/- Several of my texts, one behind the other: Text, StrT, OwnV. -/
/- Words and phrases: the library's Trim and Split, what the program and the reference say of a word and of a phrase. -/
set_option linter.unusedSimpArgs false
set_option linter.unusedVariables false
namespace Go.Proofs.YtklcaphkfdlipaaGreatDoor
open Go.RowKit
/-- A string as its bytes. -/
def bytesOf (l : List UInt8) : ByteArray := ⟨l.toArray⟩
def strCells (L : List ByteArray) : List Value := L.map Value.string
theorem length_strCells (L : List ByteArray) : (strCells L).length = L.length := by simp [strCells]
theorem strCells_get {L : List ByteArray} {k : Nat} (h : k < L.length) : (strCells L)[k]? = some (.string L[k]) := by simp [strCells, h]
theorem info_str : (Tryz.prog.info? 9).map (fun i => (i.zero, i.size, i.bytes)) = some (some (.string ByteArray.empty), 1, 16) := by kernel_rfl
theorem info_str' : ∃ i, Tryz.prog.info? 9 = some i ∧ i.zero = some (.string ByteArray.empty) ∧ i.size = 1 ∧ i.bytes = 16 := by
  have h := info_str
  cases hi : Tryz.prog.info? 9 with
  | none => rw [hi] at h; cases h
  | some i =>
    rw [hi] at h
    simp only [Option.map_some, Option.some.injEq, Prod.mk.injEq] at h
    exact ⟨i, rfl, h.1, h.2.1, h.2.2⟩
theorem one_str (L : List ByteArray) : ∀ u ∈ strCells L, u.oneCell' = true := by
  intro u hu
  simp only [strCells, List.mem_map] at hu
  obtain ⟨b, _, rfl⟩ := hu
  rfl
/-- strings.Trim of all letters. -/
theorem trim_any (s : ByteArray) (w : World) (hs : s.size ≤ 1048576) :
    Calls Tryz.prog 176 #[.string s, .string ⟨#[97, 98, 99, 100, 101, 102, 103, 104, 105, 106, 107, 108, 109, 110, 111, 112, 113, 114, 115, 116, 117, 118, 119, 120, 121, 122]⟩] w (Ret w (.string (bytesOf (Lib.trimS s.data.toList letters)))) := by
  refine (Any.strings_Trim_laid Tryz.lays160 (by kernel_rfl) s ⟨#[97, 98, 99, 100, 101, 102, 103, 104, 105, 106, 107, 108, 109, 110, 111, 112, 113, 114, 115, 116, 117, 118, 119, 120, 121, 122]⟩ w (by omega) (by decide) (ascii_of_all (by decide))).mono ?_
  rintro e w' ⟨rfl, hb⟩
  exact .mk rfl hb
theorem isEmpty_bytesOf (l : List UInt8) : (bytesOf l).toList.isEmpty = l.isEmpty := by
  rw [← decide_eq_emptyBytes, Bool.eq_iff_iff, decide_eq_true_eq, List.isEmpty_iff]
  constructor
  · intro h
    have := congrArg (fun (x : ByteArray) => x.data.toList) h
    simpa [bytesOf] using this
  · rintro rfl
    rfl
def smallB (s : ByteArray) (lo hi : Int) : Bool := inB s.size lo hi && s.data.toList.all letterB
set_option maxHeartbeats 400000 in
theorem isSmall_any (s : ByteArray) (lo hi : Int) (w : World) (hs : s.size ≤ 1048576) :
    Calls Tryz.prog 150 #[.string s, .int .i64 lo, .int .i64 hi] w (Ret w (.bool (smallB s lo hi))) := by
  cases h1 : inB s.size lo hi
  · have X := Lib.hid (show smallB s lo hi = false by simp [smallB, h1])
    replace h1 := Lib.hid h1
    go_enter Tryz.func150, Tryz.ntmps150
    go_wp2_with fail
    with_reducible refine (within_b _ h1.out).mono ?_
    rintro e w' ⟨rfl, y1, rfl⟩
    have hsy1 := y1.bel.size
    (try simp only [World.size_alloc, World.size_setCell, World.size_drew] at hsy1)
    go_wp2_with fail
    go_ret
    exact .mk (by rw [X.out]; rfl) bb
  · have ht := trim_letters s.data.toList
    have hc := fun w => trim_any s w hs
    obtain ⟨t, he⟩ : ∃ t, bytesOf (Lib.trimS s.data.toList letters) = t := ⟨_, rfl⟩
    simp only [he] at hc
    replace hc := Lib.hid hc
    have X := Lib.hid (show smallB s lo hi = t.toList.isEmpty by rw [← he, isEmpty_bytesOf, ht]; simp [smallB, h1])
    replace h1 := Lib.hid h1
    clear ht
    go_enter Tryz.func150, Tryz.ntmps150
    go_wp2_with fail
    with_reducible refine (within_b _ h1.out).mono ?_
    rintro e w' ⟨rfl, y1, rfl⟩
    have hsy1 := y1.bel.size
    (try simp only [World.size_alloc, World.size_setCell, World.size_drew] at hsy1)
    go_wp2_with fail
    with_reducible refine (hc.out _).mono ?_
    rintro e w' ⟨rfl, y2, rfl⟩
    have hsy2 := y2.bel.size
    (try simp only [World.size_alloc, World.size_setCell, World.size_drew] at hsy2)
    go_wp2_with fail
    go_ret
    exact .mk (by rw [X.out]; rfl) bb
theorem smallB_word (s : ByteArray) : smallB s 1 16 = wordB s := by
  have : (s.size : Int) = (s.data.toList.length : Int) := by rw [Array.length_toList]; rfl
  unfold smallB wordB wordL inB
  rw [this, Bool.eq_iff_iff]
  simp only [Bool.and_eq_true, decide_eq_true_eq]
  constructor
  · rintro ⟨⟨h1, h2⟩, h3⟩
    exact ⟨⟨by omega, by omega⟩, h3⟩
  · rintro ⟨⟨h1, h2⟩, h3⟩
    exact ⟨⟨by omega, by omega⟩, h3⟩
set_option maxHeartbeats 400000 in
theorem isWord_any (s : ByteArray) (w : World) (hs : s.size ≤ 1048576) : Calls Tryz.prog 124 #[.string s] w (Ret w (.bool (wordB s))) := by
  rw [← smallB_word]
  go_enter Tryz.func124, Tryz.ntmps124
  go_wp2_with fail
  with_reducible refine (isSmall_any _ _ _ _ hs).mono ?_
  rintro e w' ⟨rfl, y1, rfl⟩
  have hsy1 := y1.bel.size
  (try simp only [World.size_alloc, World.size_setCell, World.size_drew] at hsy1)
  go_wp2_with fail
  go_ret
  exact .mk rfl bb
end Go.Proofs.YtklcaphkfdlipaaGreatDoor

/- Slices of texts for the laws of seats without claims: sizes, copies, comparison, marks. -/
set_option linter.unusedSimpArgs false
set_option linter.unusedVariables false
namespace Go.Proofs.YtklcaphkfdlipaaGreatDoor
open Go.RowKit
/-! ### Texts -/
theorem Row.str {w : World} {a : Option Addr} {O : List ByteArray} (h : Row w a (strCells O)) {k : Nat} (hk : k < O.length) : ∃ b o, a = some ⟨b, o, none⟩ ∧ b < w.heap.size ∧ w.cell? ⟨b, o + k, none⟩ = some (.string O[k]) := by
  obtain ⟨b, o, rfl, hc⟩ := h k (.string O[k]) (by simp [strCells, hk])
  exact ⟨b, o, rfl, World.block_lt_of_cell? w _ hc, hc⟩
/-- A row of texts of which the first `k` are copied. -/
def strPart (l : List ByteArray) (k : Nat) : List Value := strCells (l.take k) ++ List.replicate (l.length - k) (.string ByteArray.empty)
theorem strPart_full (l : List ByteArray) : strPart l l.length = strCells l := by simp [strPart]
theorem length_strPart (l : List ByteArray) (k : Nat) (h : k ≤ l.length) : (strPart l k).length = l.length := by
  simp [strPart, strCells]; omega
theorem strPart_step (l : List ByteArray) (k : Nat) (h : k < l.length) : (strPart l k).set k (.string l[k]) = strPart l (k + 1) := by
  have e : l.length - k = (l.length - (k + 1)) + 1 := by omega
  have hk : (strCells (l.take k)).length = k := by simp [strCells]; omega
  unfold strPart
  rw [e, List.replicate_succ, List.set_append_right _ _ (by omega), hk, Nat.sub_self, List.set_cons_zero, List.take_succ_eq_append_getElem h]
  simp only [strCells, List.map_append, List.map_cons, List.map_nil, List.append_assoc, List.cons_append, List.nil_append]
end Go.Proofs.YtklcaphkfdlipaaGreatDoor

/- Tables of views: rows for reading, tables of one's own; sizes, copies, comparison, marks. -/
set_option linter.unusedSimpArgs false
set_option linter.unusedVariables false
namespace Go.Proofs.YtklcaphkfdlipaaGreatDoor
open Go.RowKit
/-- A view: its holder, an owner for each ring. -/
structure Vw where
  holder : ByteArray
  own : List ByteArray
/-- The block in which a slice of one's own lies. -/
theorem own_tight {w : World} {lo hi e s n : Nat} {a : Option Addr} {c : Nat} {xs : List Value} (h : Owns w lo hi e s n a c xs) (hlh : lo ≤ hi) :
    ∃ g g', lo ≤ g ∧ g ≤ g' ∧ g' ≤ hi ∧ Owns w g g' e s n a c xs ∧ (∀ k, g ≤ k → k < g' → (Value.slice a n c).ownBlock = some k) := by
  rcases h.own.2 with ⟨hv, hn⟩ | ⟨g, cap, cur, hv, hg, hh, r⟩
  · have ha : a = none := by injection hv
    have hc : c = 0 := by injection hv
    subst ha hn hc
    exact ⟨hi, hi, hlh, Nat.le_refl _, Nat.le_refl _, ⟨⟨h.own.1, .inl ⟨rfl, rfl⟩⟩, fun p hp => by cases hp⟩, fun k h1 h2 => absurd h2 (by omega)⟩
  · have ha : a = some ⟨g, 0, none⟩ := by injection hv
    subst ha
    have h1 := h.lt _ rfl
    simp only at h1
    refine ⟨g, g + 1, hg, by omega, h1, ⟨⟨h.own.1, .inr ⟨g, cap, cur, hv, Nat.le_refl _, hh, r⟩⟩, fun p hp => by cases hp; exact Nat.lt_succ_self _⟩, fun k h1 h2 => ?_⟩
    obtain rfl : k = g := by omega
    rfl
theorem own_zero2 {w : World} {lo hi e s n c k : Nat} {a : Option Addr} {xs : List Value} (h : Owns w lo hi e s n a c xs) (hk : (Value.slice a n c).ownBlock = some k) : a = some ⟨k, 0, none⟩ := by
  rcases h.own.2 with ⟨hv, hn⟩ | ⟨g, cap, cur, hv, _⟩
  · rw [hv] at hk; simp [Value.ownBlock] at hk
  · rw [hv] at hk
    simp only [Value.ownBlock, Option.some.injEq] at hk
    subst hk
    injection hv
theorem own_caps2 {w : World} {base e s n c : Nat} {a : Option Addr} {xs : List Value} (h : w.ownsRow base e s (.slice a n c) n xs) : n ≤ c ∧ c ≤ maxLen := by
  rcases h.2 with ⟨h1, h2⟩ | ⟨g, cap, cur, hv, _, _, h1, h2, _⟩
  · injection h1 with _ _ h3
    subst h3
    exact ⟨by omega, by unfold maxLen; omega⟩
  · injection hv with _ _ h3
    subst h3
    exact ⟨h1, h2⟩
def ViewsR (w : World) (a : Option Addr) (T : List (Vw)) : Prop :=
  ∀ i (h : i < T.length), ∃ b o ai ci, a = some ⟨b, o, none⟩ ∧ b < w.heap.size ∧ w.cell? ⟨b, o + i * 2, none⟩ = some (.string T[i].holder) ∧ w.cell? ⟨b, o + i * 2 + 1, none⟩ = some (.slice ai T[i].own.length ci) ∧ Row w ai (strCells T[i].own) ∧ T[i].own.length ≤ ci ∧ ci ≤ maxLen
theorem ViewsR.bel {w w' : World} {a : Option Addr} {T : List (Vw)} (h : ViewsR w a T) (hb : Below w.heap.size w w') : ViewsR w' a T := fun i hi => by
  obtain ⟨b, o, ai, ci, h1, h2, h3, h4, h5, h6⟩ := h i hi
  exact ⟨b, o, ai, ci, h1, Nat.lt_of_lt_of_le h2 hb.size, (hb.cell h2).trans h3, (hb.cell h2).trans h4, h5.bel hb, h6⟩
theorem ViewsR.take {w : World} {a : Option Addr} {T : List (Vw)} (h : ViewsR w a T) (k : Nat) : ViewsR w a (T.take k) := fun i hi => by
  have hi' : i < T.length := by rw [List.length_take] at hi; omega
  obtain ⟨b, o, ai, ci, h1, h2, h3⟩ := h i hi'
  exact ⟨b, o, ai, ci, h1, h2, by rw [List.getElem_take]; exact h3⟩
theorem ViewsR.at_ {w : World} {a : Option Addr} {T : List (Vw)} (h : ViewsR w a T) {i : Nat} (hi : i < T.length) :
    ∃ b o ai ci, a = some ⟨b, o, none⟩ ∧ b < w.heap.size ∧ w.cell? ⟨b, o + i * 2, none⟩ = some (.string T[i].holder) ∧ w.cell? ⟨b, o + i * 2 + 1, none⟩ = some (.slice ai T[i].own.length ci) ∧ Row w ai (strCells T[i].own) ∧ T[i].own.length ≤ ci ∧ ci ≤ maxLen := h i hi
theorem ViewsR.nil (w : World) (a : Option Addr) : ViewsR w a [] := fun i h => absurd h (by simp)
/-- A list of one's own: its elements in the block `g`, their slices in later ones. -/
structure OV (w : World) (g hi n c : Nat) (T : List (Vw)) (vs : List Value) : Prop where
  own : Owns w g (g + 1) 64 2 n (some ⟨g, 0, none⟩) c vs
  len : T.length ≤ n
  lt : g < w.heap.size
  at_ : ∀ i (h : i < T.length), ∃ ai ci, vs[i * 2 + 1]? = some (.slice ai T[i].own.length ci) ∧ vs[i * 2]? = some (.string T[i].holder) ∧ Owns w (g + 1) hi 9 1 T[i].own.length ai ci (strCells T[i].own) ∧ T[i].own.length ≤ ci ∧ ci ≤ maxLen
  sep : ∀ i j gi gj ni nj ci cj, i < j → j < T.length → vs[i * 2 + 1]? = some (.slice (some ⟨gi, 0, none⟩) ni ci) → vs[j * 2 + 1]? = some (.slice (some ⟨gj, 0, none⟩) nj cj) → gi ≠ gj
theorem OV.bel {w w' : World} {g hi n c : Nat} {T : List (Vw)} {vs : List Value} (h : OV w g hi n c T vs) (hb : Below w.heap.size w w') (hh : hi ≤ w.heap.size) : OV w' g hi n c T vs :=
  ⟨h.own.bel hb h.lt, h.len, Nat.lt_of_lt_of_le h.lt hb.size, fun i hi' => by
    obtain ⟨ai, ci, h1, h2, h3, h4⟩ := h.at_ i hi'
    exact ⟨ai, ci, h1, h2, h3.bel hb hh, h4⟩, h.sep⟩
theorem OV.btw {w w' : World} {g hi n c lo' hi2 : Nat} {T : List (Vw)} {vs : List Value} (h : OV w g hi n c T vs) (hb : Between lo' hi2 w w') (hh : hi2 ≤ g) : OV w' g hi n c T vs :=
  ⟨h.own.btw hb (.inr hh), h.len, Nat.lt_of_lt_of_le h.lt hb.size, fun i hi' => by
    obtain ⟨ai, ci, h1, h2, h3, h4⟩ := h.at_ i hi'
    exact ⟨ai, ci, h1, h2, h3.btw hb (.inr (by omega)), h4⟩, h.sep⟩
theorem OV.zero (w : World) (g n c : Nat) (T : List (Vw)) (vs : List Value) (h : Owns w g (g + 1) 64 2 n (some ⟨g, 0, none⟩) c vs) (hg : g < w.heap.size) (hn : T.length = n) : OV w g w.heap.size n c (T.take 0) vs :=
  ⟨h, by simp only [List.take_zero, List.length_nil]; omega, hg, fun i hi => absurd hi (by simp), fun i j gi gj ni nj ci cj _ hj => absurd hj (by simp)⟩
theorem OV.step {w y : World} {g n c k : Nat} {T : List (Vw)} {vs : List Value} (h : OV w g w.heap.size n c (T.take k) vs) (hk : k < T.length) (hkn : k < n) (hb : Below w.heap.size w y) {ai : Option Addr} {ci : Nat}
    (ho : y.ownsRow w.heap.size 9 1 (.slice ai T[k].own.length ci) T[k].own.length (strCells T[k].own)) :
    OV ((y.setCell ⟨g, k * 2, none⟩ (.string T[k].holder)).setCell ⟨g, k * 2 + 1, none⟩ (.slice ai T[k].own.length ci)) g y.heap.size n c (T.take (k + 1)) ((vs.set (k * 2) (.string T[k].holder)).set (k * 2 + 1) (.slice ai T[k].own.length ci)) := by
  have hv := h.own.own.1
  have hg := h.lt
  have hs := hb.size
  have htk : (T.take k).length = k := by rw [List.length_take]; omega
  have htk1 : (T.take (k + 1)).length = k + 1 := by rw [List.length_take]; omega
  have hcap := own_caps2 ho
  have hO := Owns.of ho
  have hset : ∀ {lo hi n c : Nat} {a : Option Addr} {xs : List Value}, Owns y lo hi 9 1 n a c xs → g < lo → Owns ((y.setCell ⟨g, k * 2, none⟩ (.string T[k].holder)).setCell ⟨g, k * 2 + 1, none⟩ (.slice ai T[k].own.length ci)) lo hi 9 1 n a c xs := fun h1 h2 =>
    ⟨own_set (own_set h1.own (p := ⟨g, k * 2, none⟩) h2 _) (p := ⟨g, k * 2 + 1, none⟩) h2 _, h1.lt⟩
  refine ⟨((h.own.bel hb hg).set _).set _, by omega, by simp only [World.size_setCell]; omega, fun i hi => ?_, fun i j gi gj ni nj ci' cj hij hj h1 h2 => ?_⟩
  · rw [htk1] at hi
    by_cases hik : i = k
    · subst hik
      refine ⟨ai, ci, ?_, ?_, ?_, ?_⟩
      · rw [List.getElem?_set_self (by simp; omega)]
        simp
      · rw [List.getElem?_set_ne (by omega), List.getElem?_set_self (by omega)]
        simp
      · simp only [List.getElem_take]
        exact ⟨own_mono (hset hO (by omega)).own (by omega), fun p hp => hO.lt p hp⟩
      · simpa using hcap
    · obtain ⟨aj, cj, e1, e2, e3, e4⟩ := h.at_ i (by omega)
      simp only [List.getElem_take] at e1 e2 e3 e4 ⊢
      refine ⟨aj, cj, ?_, ?_, ?_, e4⟩
      · rw [List.getElem?_set_ne (by omega), List.getElem?_set_ne (by omega)]
        exact e1
      · rw [List.getElem?_set_ne (by omega), List.getElem?_set_ne (by omega)]
        exact e2
      · have := hset (e3.bel hb (Nat.le_refl _)) (by omega)
        exact ⟨this.own, fun p hp => Nat.lt_of_lt_of_le (this.lt p hp) hs⟩
  · rw [htk1] at hj
    rw [List.getElem?_set_ne (by omega), List.getElem?_set_ne (by omega)] at h1
    obtain ⟨a1, c1, e1, _, e3, _⟩ := h.at_ i (by omega)
    have hgi : gi < w.heap.size := by
      rw [e1] at h1
      injection h1 with h1
      injection h1 with h1
      exact e3.lt _ h1
    by_cases hjk : j = k
    · subst hjk
      rw [List.getElem?_set_self (by simp; omega)] at h2
      injection h2 with h2
      injection h2 with h2
      have := hO.ge _ h2
      simp only at this
      omega
    · rw [List.getElem?_set_ne (by omega), List.getElem?_set_ne (by omega)] at h2
      exact h.sep i j gi gj ni nj ci' cj hij (by omega) h1 h2
/-- Such a list of which some is marked: its slices are as they were, what they hold is one's own. -/
structure MV (w : World) (g hi n c : Nat) (T : List (Vw)) (vs : List Value) : Prop where
  own : ∃ vs', Owns w g (g + 1) 64 2 n (some ⟨g, 0, none⟩) c vs' ∧ ∀ i, i < T.length → vs'[i * 2 + 1]? = vs[i * 2 + 1]?
  at_ : ∀ i (h : i < T.length), ∃ ai ci xs, vs[i * 2 + 1]? = some (.slice ai T[i].own.length ci) ∧ Owns w (g + 1) hi 9 1 T[i].own.length ai ci xs
theorem MV.of {w : World} {g hi n c : Nat} {T : List (Vw)} {vs : List Value} (h : OV w g hi n c T vs) : MV w g hi n c T vs :=
  ⟨⟨vs, h.own, fun _ _ => rfl⟩, fun i hi => by
    obtain ⟨ai, ci, h1, _, h3, h4⟩ := h.at_ i hi
    exact ⟨ai, ci, _, h1, h3⟩⟩
theorem MV.bel {w w' : World} {g hi n c : Nat} {T : List (Vw)} {vs : List Value} (h : MV w g hi n c T vs) (hb : Below w.heap.size w w') (hg : g < w.heap.size) (hh : hi ≤ w.heap.size) : MV w' g hi n c T vs := by
  obtain ⟨⟨vs', h1, h2⟩, h3⟩ := h
  refine ⟨⟨vs', h1.bel hb hg, h2⟩, fun i hi => ?_⟩
  obtain ⟨ai, ci, ys, e1, e2⟩ := h3 i hi
  exact ⟨ai, ci, ys, e1, e2.bel hb hh⟩
theorem MV.holder {w : World} {g hi n c j : Nat} {T : List (Vw)} {vs : List Value} (h : MV w g hi n c T vs) (v : Value) : MV (w.setCell ⟨g, j * 2, none⟩ v) g hi n c T vs := by
  obtain ⟨⟨vs', h1, h2⟩, h3⟩ := h
  refine ⟨⟨_, h1.set (j := j * 2) v, fun i hi => by rw [List.getElem?_set_ne (by omega)]; exact h2 i hi⟩, fun i hi => ?_⟩
  obtain ⟨ai, ci, ys, e1, e2⟩ := h3 i hi
  exact ⟨ai, ci, ys, e1, ⟨own_set e2.own (p := ⟨g, j * 2, none⟩) (Nat.lt_succ_self _) _, e2.lt⟩⟩
end Go.Proofs.YtklcaphkfdlipaaGreatDoor
