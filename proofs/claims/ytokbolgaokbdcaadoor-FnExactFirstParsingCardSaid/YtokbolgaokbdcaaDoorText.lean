import Derived.Test.YtokbolgaokbdcaaDoorShelf
import Derived.Test.YtokbolgaokbdcaaDoorWords
import Derived.Test.YtokbolgaokbdcaaDoorIn
import Derived.Test.YtokbolgaokbdcaaDoorAfter
import Derived.Lib.SliceRun
/- Words and phrases: the library's Trim and Split, what the program and the reference say of a word and of a phrase. -/
set_option linter.unusedSimpArgs false
set_option linter.unusedVariables false
namespace Go.Proofs.YtokbolgaokbdcaaDoor
open Go.RowKit
/-- A string as its bytes. -/
def bytesOf (l : List UInt8) : ByteArray := ⟨l.toArray⟩
theorem bytesOf_data (s : ByteArray) : bytesOf s.data.toList = s := by cases s; simp [bytesOf]
theorem data_bytesOf (l : List UInt8) : (bytesOf l).data.toList = l := by simp [bytesOf]
theorem size_bytesOf (l : List UInt8) : (bytesOf l).size = l.length := by simp [bytesOf, ByteArray.size]
/-- The pieces of a string between the bytes `c`. -/
def piecesS (c : UInt8) (s : ByteArray) : List ByteArray := (splitL c s.data.toList).map bytesOf
theorem splitB_pieces (c : UInt8) (s : ByteArray) : Lib.splitB ⟨#[c]⟩ 0 (Lib.countB s ⟨#[c]⟩) s = piecesS c s := by
  have h := Lib.splitB_data ⟨#[c]⟩ 0 (Lib.countB s ⟨#[c]⟩) s
  have e : Lib.splitK [c] 0 (Lib.countB s ⟨#[c]⟩) s.data.toList = splitL c s.data.toList := splitK_one c _ _ rfl
  have h2 : (Lib.splitB ⟨#[c]⟩ 0 (Lib.countB s ⟨#[c]⟩) s).map (·.data.toList) = splitL c s.data.toList := h.trans e
  unfold piecesS
  rw [← h2, List.map_map]
  have : (bytesOf ∘ fun (x : ByteArray) => x.data.toList) = id := by funext x; exact bytesOf_data x
  rw [this, List.map_id]
theorem countB_pieces (c : UInt8) (s : ByteArray) : Lib.countB s ⟨#[c]⟩ + 1 = (piecesS c s).length := by
  rw [← splitB_pieces]
  exact (Lib.splitB_all ⟨#[c]⟩ (show 1 ≤ (⟨#[c]⟩ : ByteArray).size from Nat.le_refl 1) 0 _ s rfl).symm
theorem splitL_length_le (c : UInt8) : ∀ l, (splitL c l).length ≤ l.length + 1
  | [] => by simp [splitL]
  | b :: l => by
    have ih := splitL_length_le c l
    unfold splitL
    split
    · simp; omega
    · split
      · simp
      · rename_i h; rw [h] at ih; simp at ih ⊢; omega
theorem piecesS_length_le (c : UInt8) (s : ByteArray) : (piecesS c s).length ≤ s.size + 1 := by
  have h := splitL_length_le c s.data.toList
  rw [Array.length_toList] at h
  unfold piecesS
  rw [List.length_map]
  exact h
def strCells (L : List ByteArray) : List Value := L.map Value.string
theorem length_strCells (L : List ByteArray) : (strCells L).length = L.length := by simp [strCells]
theorem strCells_get {L : List ByteArray} {k : Nat} (h : k < L.length) : (strCells L)[k]? = some (.string L[k]) := by simp [strCells, h]
theorem strCells_snoc (L : List ByteArray) (x : ByteArray) : strCells (L ++ [x]) = strCells L ++ [.string x] := by simp [strCells]
theorem info_str : (Tryd.prog.info? 9).map (fun i => (i.zero, i.size, i.bytes)) = some (some (.string ByteArray.empty), 1, 16) := by kernel_rfl
theorem info_str' : ∃ i, Tryd.prog.info? 9 = some i ∧ i.zero = some (.string ByteArray.empty) ∧ i.size = 1 ∧ i.bytes = 16 := by
  have h := info_str
  cases hi : Tryd.prog.info? 9 with
  | none => rw [hi] at h; cases h
  | some i =>
    rw [hi] at h
    simp only [Option.map_some, Option.some.injEq, Prod.mk.injEq] at h
    exact ⟨i, rfl, h.1, h.2.1, h.2.2⟩
theorem one_str (L : List ByteArray) : ∀ u ∈ strCells L, u.oneCell' = true := by
  intro u hu
  simp only [strCells, List.mem_map] at hu
  obtain ⟨b, _, rfl⟩ := hu
  rfl
/-- strings.Trim of all letters. -/
theorem trim_any (s : ByteArray) (w : World) (hs : s.size ≤ 1048576) :
    Calls Tryd.prog 90 #[.string s, .string ⟨#[97, 98, 99, 100, 101, 102, 103, 104, 105, 106, 107, 108, 109, 110, 111, 112, 113, 114, 115, 116, 117, 118, 119, 120, 121, 122]⟩] w (Ret w (.string (bytesOf (Lib.trimS s.data.toList letters)))) := by
  refine (Any.strings_Trim_laid Tryd.lays160 (by kernel_rfl) s ⟨#[97, 98, 99, 100, 101, 102, 103, 104, 105, 106, 107, 108, 109, 110, 111, 112, 113, 114, 115, 116, 117, 118, 119, 120, 121, 122]⟩ w (by omega) (by decide) (ascii_of_all (by decide))).mono ?_
  rintro e w' ⟨rfl, hb⟩
  exact .mk rfl hb
theorem isEmpty_bytesOf (l : List UInt8) : (bytesOf l).toList.isEmpty = l.isEmpty := by
  rw [← decide_eq_emptyBytes, Bool.eq_iff_iff, decide_eq_true_eq, List.isEmpty_iff]
  constructor
  · intro h
    have := congrArg (fun (x : ByteArray) => x.data.toList) h
    simpa [bytesOf] using this
  · rintro rfl
    rfl
def smallB (s : ByteArray) (lo hi : Int) : Bool := inB s.size lo hi && s.data.toList.all letterB
set_option maxHeartbeats 400000 in
theorem isSmall_any (s : ByteArray) (lo hi : Int) (w : World) (hs : s.size ≤ 1048576) :
    Calls Tryd.prog 62 #[.string s, .int .i64 lo, .int .i64 hi] w (Ret w (.bool (smallB s lo hi))) := by
  cases h1 : inB s.size lo hi
  · have X := Lib.hid (show smallB s lo hi = false by simp [smallB, h1])
    replace h1 := Lib.hid h1
    go_enter Tryd.func62, Tryd.ntmps62
    go_wp2_with fail
    with_reducible refine (within_b _ h1.out).mono ?_
    rintro e w' ⟨rfl, y1, rfl⟩
    have hsy1 := y1.bel.size
    (try simp only [World.size_alloc, World.size_setCell, World.size_drew] at hsy1)
    go_wp2_with fail
    go_ret
    exact .mk (by rw [X.out]; rfl) (by (repeat (first | (with_reducible exact Below.refl _ _) | (with_reducible assumption) | (with_reducible refine Later.out _ ?_) | (with_reducible refine bel_alloc ?_ _) | (with_reducible refine bel_drew ?_) | (with_reducible refine bel_drewN ?_ _) | (with_reducible refine bel_set ?_ ?_ _) | (with_reducible refine After.out _ ?_ ?_) | (dsimp only; omega) | omega | (simp only [World.size_alloc, World.size_setCell, World.size_drew]; omega))))
  · have ht := trim_letters s.data.toList
    have hc := fun w => trim_any s w hs
    obtain ⟨t, he⟩ : ∃ t, bytesOf (Lib.trimS s.data.toList letters) = t := ⟨_, rfl⟩
    simp only [he] at hc
    replace hc := Lib.hid hc
    have X := Lib.hid (show smallB s lo hi = t.toList.isEmpty by rw [← he, isEmpty_bytesOf, ht]; simp [smallB, h1])
    replace h1 := Lib.hid h1
    clear ht
    go_enter Tryd.func62, Tryd.ntmps62
    go_wp2_with fail
    with_reducible refine (within_b _ h1.out).mono ?_
    rintro e w' ⟨rfl, y1, rfl⟩
    have hsy1 := y1.bel.size
    (try simp only [World.size_alloc, World.size_setCell, World.size_drew] at hsy1)
    go_wp2_with fail
    with_reducible refine (hc.out _).mono ?_
    rintro e w' ⟨rfl, y2, rfl⟩
    have hsy2 := y2.bel.size
    (try simp only [World.size_alloc, World.size_setCell, World.size_drew] at hsy2)
    go_wp2_with fail
    go_ret
    exact .mk (by rw [X.out]; rfl) (by (repeat (first | (with_reducible exact Below.refl _ _) | (with_reducible assumption) | (with_reducible refine Later.out _ ?_) | (with_reducible refine bel_alloc ?_ _) | (with_reducible refine bel_drew ?_) | (with_reducible refine bel_drewN ?_ _) | (with_reducible refine bel_set ?_ ?_ _) | (with_reducible refine After.out _ ?_ ?_) | (dsimp only; omega) | omega | (simp only [World.size_alloc, World.size_setCell, World.size_drew]; omega))))
theorem smallB_word (s : ByteArray) : smallB s 1 16 = wordB s := by
  have : (s.size : Int) = (s.data.toList.length : Int) := by rw [Array.length_toList]; rfl
  unfold smallB wordB wordL inB
  rw [this, Bool.eq_iff_iff]
  simp only [Bool.and_eq_true, decide_eq_true_eq]
  constructor
  · rintro ⟨⟨h1, h2⟩, h3⟩
    exact ⟨⟨by omega, by omega⟩, h3⟩
  · rintro ⟨⟨h1, h2⟩, h3⟩
    exact ⟨⟨by omega, by omega⟩, h3⟩
/-- Are all of them words? -/
def wordsB (L : List ByteArray) : Bool := L.all wordB
theorem mem_splitL {c : UInt8} : ∀ {l x : List UInt8}, x ∈ splitL c l → x.length ≤ l.length
  | [], x, h => by simp [splitL] at h; subst h; simp
  | b :: l, x, h => by
    unfold splitL at h
    split at h
    · rcases List.mem_cons.1 h with rfl | h
      · simp
      · have := mem_splitL h; simp; omega
    · split at h
      · simp at h; subst h; simp
      · rename_i y r hy
        rcases List.mem_cons.1 h with rfl | h
        · have := mem_splitL (c := c) (l := l) (x := y) (by rw [hy]; simp); simp; omega
        · have := mem_splitL (c := c) (l := l) (x := x) (by rw [hy]; simp [h]); simp; omega
theorem piecesS_size {c : UInt8} {s t : ByteArray} (h : t ∈ piecesS c s) : t.size ≤ s.size := by
  obtain ⟨l, hl, rfl⟩ := List.mem_map.1 h
  have := mem_splitL hl
  rw [size_bytesOf]
  rw [Array.length_toList] at this
  exact this
theorem phraseB_pieces (s : ByteArray) : phraseB s = (decide ((piecesS 32 s).length ≤ 8) && wordsB (piecesS 32 s)) := by
  unfold phraseB phraseL piecesS wordsB
  rw [List.length_map, List.all_map]
  congr 1
end Go.Proofs.YtokbolgaokbdcaaDoor
