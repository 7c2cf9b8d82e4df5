import Derived.Test.YtklcaphkfdlipaaGreatDoorShelf
import Derived.Test.YtklcaphkfdlipaaGreatDoorPackVa
import Derived.Lib.SliceRun
/- Several of my texts, one behind the other: Text, StrT, OwnV. -/
/- Words and phrases: the library's Trim and Split, what the program and the reference say of a word and of a phrase. -/
set_option linter.unusedSimpArgs false
set_option linter.unusedVariables false
namespace Go.Proofs.YtklcaphkfdlipaaGreatDoor
open Go.RowKit
/-- A string as its bytes. -/
def bytesOf (l : List UInt8) : ByteArray := ⟨l.toArray⟩
def strCells (L : List ByteArray) : List Value := L.map Value.string
theorem length_strCells (L : List ByteArray) : (strCells L).length = L.length := by simp [strCells]
theorem strCells_get {L : List ByteArray} {k : Nat} (h : k < L.length) : (strCells L)[k]? = some (.string L[k]) := by simp [strCells, h]
theorem info_str : (Tryz.prog.info? 9).map (fun i => (i.zero, i.size, i.bytes)) = some (some (.string ByteArray.empty), 1, 16) := by kernel_rfl
theorem info_str' : ∃ i, Tryz.prog.info? 9 = some i ∧ i.zero = some (.string ByteArray.empty) ∧ i.size = 1 ∧ i.bytes = 16 := by
  have h := info_str
  cases hi : Tryz.prog.info? 9 with
  | none => rw [hi] at h; cases h
  | some i =>
    rw [hi] at h
    simp only [Option.map_some, Option.some.injEq, Prod.mk.injEq] at h
    exact ⟨i, rfl, h.1, h.2.1, h.2.2⟩
theorem one_str (L : List ByteArray) : ∀ u ∈ strCells L, u.oneCell' = true := by
  intro u hu
  simp only [strCells, List.mem_map] at hu
  obtain ⟨b, _, rfl⟩ := hu
  rfl
/-- strings.Trim of all letters. -/
theorem trim_any (s : ByteArray) (w : World) (hs : s.size ≤ 1048576) :
    Calls Tryz.prog 176 #[.string s, .string ⟨#[97, 98, 99, 100, 101, 102, 103, 104, 105, 106, 107, 108, 109, 110, 111, 112, 113, 114, 115, 116, 117, 118, 119, 120, 121, 122]⟩] w (Ret w (.string (bytesOf (Lib.trimS s.data.toList letters)))) := by
  refine (Any.strings_Trim_laid Tryz.lays160 (by kernel_rfl) s ⟨#[97, 98, 99, 100, 101, 102, 103, 104, 105, 106, 107, 108, 109, 110, 111, 112, 113, 114, 115, 116, 117, 118, 119, 120, 121, 122]⟩ w (by omega) (by decide) (ascii_of_all (by decide))).mono ?_
  rintro e w' ⟨rfl, hb⟩
  exact .mk rfl hb
theorem isEmpty_bytesOf (l : List UInt8) : (bytesOf l).toList.isEmpty = l.isEmpty := by
  rw [← decide_eq_emptyBytes, Bool.eq_iff_iff, decide_eq_true_eq, List.isEmpty_iff]
  constructor
  · intro h
    have := congrArg (fun (x : ByteArray) => x.data.toList) h
    simpa [bytesOf] using this
  · rintro rfl
    rfl
def smallB (s : ByteArray) (lo hi : Int) : Bool := inB s.size lo hi && s.data.toList.all letterB
set_option maxHeartbeats 400000 in
theorem isSmall_any (s : ByteArray) (lo hi : Int) (w : World) (hs : s.size ≤ 1048576) :
    Calls Tryz.prog 150 #[.string s, .int .i64 lo, .int .i64 hi] w (Ret w (.bool (smallB s lo hi))) := by
  cases h1 : inB s.size lo hi
  · have X := Lib.hid (show smallB s lo hi = false by simp [smallB, h1])
    replace h1 := Lib.hid h1
    go_enter Tryz.func150, Tryz.ntmps150
    go_wp2_with fail
    with_reducible refine (within_b _ h1.out).mono ?_
    rintro e w' ⟨rfl, y1, rfl⟩
    have hsy1 := y1.bel.size
    (try simp only [World.size_alloc, World.size_setCell, World.size_drew] at hsy1)
    go_wp2_with fail
    go_ret
    exact .mk (by rw [X.out]; rfl) (by (repeat (first | (with_reducible exact Below.refl _ _) | (with_reducible assumption) | (with_reducible refine Later.out _ ?_) | (with_reducible refine bel_alloc ?_ _) | (with_reducible refine bel_drew ?_) | (with_reducible refine bel_drewN ?_ _) | (with_reducible refine bel_set ?_ ?_ _) | (with_reducible refine After.out _ ?_ ?_) | (dsimp only; omega) | omega | (simp only [World.size_alloc, World.size_setCell, World.size_drew]; omega))))
  · have ht := trim_letters s.data.toList
    have hc := fun w => trim_any s w hs
    obtain ⟨t, he⟩ : ∃ t, bytesOf (Lib.trimS s.data.toList letters) = t := ⟨_, rfl⟩
    simp only [he] at hc
    replace hc := Lib.hid hc
    have X := Lib.hid (show smallB s lo hi = t.toList.isEmpty by rw [← he, isEmpty_bytesOf, ht]; simp [smallB, h1])
    replace h1 := Lib.hid h1
    clear ht
    go_enter Tryz.func150, Tryz.ntmps150
    go_wp2_with fail
    with_reducible refine (within_b _ h1.out).mono ?_
    rintro e w' ⟨rfl, y1, rfl⟩
    have hsy1 := y1.bel.size
    (try simp only [World.size_alloc, World.size_setCell, World.size_drew] at hsy1)
    go_wp2_with fail
    with_reducible refine (hc.out _).mono ?_
    rintro e w' ⟨rfl, y2, rfl⟩
    have hsy2 := y2.bel.size
    (try simp only [World.size_alloc, World.size_setCell, World.size_drew] at hsy2)
    go_wp2_with fail
    go_ret
    exact .mk (by rw [X.out]; rfl) (by (repeat (first | (with_reducible exact Below.refl _ _) | (with_reducible assumption) | (with_reducible refine Later.out _ ?_) | (with_reducible refine bel_alloc ?_ _) | (with_reducible refine bel_drew ?_) | (with_reducible refine bel_drewN ?_ _) | (with_reducible refine bel_set ?_ ?_ _) | (with_reducible refine After.out _ ?_ ?_) | (dsimp only; omega) | omega | (simp only [World.size_alloc, World.size_setCell, World.size_drew]; omega))))
theorem smallB_word (s : ByteArray) : smallB s 1 16 = wordB s := by
  have : (s.size : Int) = (s.data.toList.length : Int) := by rw [Array.length_toList]; rfl
  unfold smallB wordB wordL inB
  rw [this, Bool.eq_iff_iff]
  simp only [Bool.and_eq_true, decide_eq_true_eq]
  constructor
  · rintro ⟨⟨h1, h2⟩, h3⟩
    exact ⟨⟨by omega, by omega⟩, h3⟩
  · rintro ⟨⟨h1, h2⟩, h3⟩
    exact ⟨⟨by omega, by omega⟩, h3⟩
set_option maxHeartbeats 400000 in
theorem isWord_any (s : ByteArray) (w : World) (hs : s.size ≤ 1048576) : Calls Tryz.prog 124 #[.string s] w (Ret w (.bool (wordB s))) := by
  rw [← smallB_word]
  go_enter Tryz.func124, Tryz.ntmps124
  go_wp2_with fail
  with_reducible refine (isSmall_any _ _ _ _ hs).mono ?_
  rintro e w' ⟨rfl, y1, rfl⟩
  have hsy1 := y1.bel.size
  (try simp only [World.size_alloc, World.size_setCell, World.size_drew] at hsy1)
  go_wp2_with fail
  go_ret
  exact .mk rfl (by (repeat (first | (with_reducible exact Below.refl _ _) | (with_reducible assumption) | (with_reducible refine Later.out _ ?_) | (with_reducible refine bel_alloc ?_ _) | (with_reducible refine bel_drew ?_) | (with_reducible refine bel_drewN ?_ _) | (with_reducible refine bel_set ?_ ?_ _) | (with_reducible refine After.out _ ?_ ?_) | (dsimp only; omega) | omega | (simp only [World.size_alloc, World.size_setCell, World.size_drew]; omega))))
end Go.Proofs.YtklcaphkfdlipaaGreatDoor

/- Slices of texts for the laws of seats without claims: sizes, copies, comparison, marks. -/
set_option linter.unusedSimpArgs false
set_option linter.unusedVariables false
namespace Go.Proofs.YtklcaphkfdlipaaGreatDoor
open Go.RowKit
/-! ### Sums of weights -/
def wSum {α : Type} (f : α → Int) (L : List α) : Int := (L.map f).sum
theorem wSum_cons {α : Type} (f : α → Int) (x : α) (L : List α) : wSum f (x :: L) = f x + wSum f L := by simp [wSum]
theorem wSum_append {α : Type} (f : α → Int) (L M : List α) : wSum f (L ++ M) = wSum f L + wSum f M := by simp [wSum]
theorem wSum_succ {α : Type} (f : α → Int) {L : List α} {k : Nat} (h : k < L.length) : wSum f (L.take (k + 1)) = wSum f (L.take k) + f L[k] := by
  rw [List.take_succ_eq_append_getElem h, wSum_append]
  simp [wSum]
theorem wSum_nonneg {α : Type} {f : α → Int} (hf : ∀ x, 0 ≤ f x) : ∀ L : List α, 0 ≤ wSum f L
  | [] => by simp [wSum]
  | c :: L => by
    have h1 := wSum_nonneg hf L
    have h2 := hf c
    rw [wSum_cons]
    omega
theorem wSum_take {α : Type} {f : α → Int} (hf : ∀ x, 0 ≤ f x) (L : List α) (k : Nat) : wSum f (L.take k) ≤ wSum f L := by
  have h : wSum f L = wSum f (L.take k) + wSum f (L.drop k) := by rw [← wSum_append, List.take_append_drop]
  have := wSum_nonneg hf (L.drop k)
  omega
theorem wSum_mem {α : Type} {f : α → Int} (hf : ∀ x, 0 ≤ f x) : ∀ {L : List α} {c : α}, c ∈ L → f c ≤ wSum f L
  | d :: L, c, h => by
    have h1 := wSum_nonneg hf L
    have h2 := hf d
    rw [wSum_cons]
    rcases List.mem_cons.1 h with rfl | h
    · omega
    · have := wSum_mem hf h
      omega
/-- What a list weighs for the laws: its length and its elements. -/
def wSz {α : Type} (f : α → Int) (L : List α) : Int := L.length + wSum f L
theorem wSz_nonneg {α : Type} {f : α → Int} (hf : ∀ x, 0 ≤ f x) (L : List α) : 0 ≤ wSz f L := by have := wSum_nonneg hf L; unfold wSz; omega
theorem wSz_mem {α : Type} {f : α → Int} (hf : ∀ x, 0 ≤ f x) {L : List α} {c : α} (h : c ∈ L) : f c ≤ wSz f L := by have := wSum_mem hf h; unfold wSz; omega
theorem wSz_len {α : Type} {f : α → Int} (hf : ∀ x, 0 ≤ f x) (L : List α) : (L.length : Int) ≤ wSz f L := by have := wSum_nonneg hf L; unfold wSz; omega
/-! ### Texts -/
theorem Row.str {w : World} {a : Option Addr} {O : List ByteArray} (h : Row w a (strCells O)) {k : Nat} (hk : k < O.length) : ∃ b o, a = some ⟨b, o, none⟩ ∧ b < w.heap.size ∧ w.cell? ⟨b, o + k, none⟩ = some (.string O[k]) := by
  obtain ⟨b, o, rfl, hc⟩ := h k (.string O[k]) (by simp [strCells, hk])
  exact ⟨b, o, rfl, World.block_lt_of_cell? w _ hc, hc⟩
def bsz (s : ByteArray) : Int := s.size
theorem bsz_nonneg (s : ByteArray) : 0 ≤ bsz s := by unfold bsz; omega
def strSz (l : List ByteArray) : Int := wSz bsz l
theorem strSz_nonneg (l : List ByteArray) : 0 ≤ strSz l := wSz_nonneg bsz_nonneg l
theorem strSz_len (l : List ByteArray) : (l.length : Int) ≤ strSz l := wSz_len bsz_nonneg l
theorem strSz_mem {l : List ByteArray} {s : ByteArray} (h : s ∈ l) : (s.size : Int) ≤ strSz l := wSz_mem bsz_nonneg h
set_option maxHeartbeats 1000000 in
theorem szStringS_any (L : List ByteArray) (a : Option Addr) (n c : Nat) (left : Int) (w : World) (hn : L.length = n) (hm : n ≤ maxLen) (hr : Row w a (strCells L)) (hmx : ∀ s ∈ L, s.size ≤ maxLen) (h3 : 0 ≤ left) (h4 : left ≤ 1048576) :
    Calls Tryz.prog 102 #[.slice a n c, .int .i64 left] w (Ret w (.int .i64 (szR (strSz L) left))) := by
  subst hn
  unfold maxLen at hm hmx
  have hnn := wSum_nonneg bsz_nonneg L
  have hL : strSz L = L.length + wSum bsz L := rfl
  by_cases c1 : left - L.length < 0
  · have X := Lib.hid (szR_no (S := strSz L) (left := left) (by omega))
    clear hr hmx hL
    go_enter Tryz.func102, Tryz.ntmps102
    go_wp2_with fail
    go_ret
    exact .mk (by rw [X.out]; rfl) (by (repeat (first | (with_reducible exact Below.refl _ _) | (with_reducible assumption) | (with_reducible refine Later.out _ ?_) | (with_reducible refine bel_alloc ?_ _) | (with_reducible refine bel_drew ?_) | (with_reducible refine bel_drewN ?_ _) | (with_reducible refine bel_set ?_ ?_ _) | (with_reducible refine After.out _ ?_ ?_) | (dsimp only; omega) | omega | (simp only [World.size_alloc, World.size_setCell, World.size_drew]; omega))))
  replace hr := Lib.hid hr
  replace hmx := Lib.hid hmx
  replace hL := Lib.hid hL
  go_enter Tryz.func102, Tryz.ntmps102
  go_wp2_with fail
  go_loopw [1, 5] (fun t1 t5 wr => ∃ k : Nat, k ≤ L.length ∧ t5 = .int .i64 k ∧ t1 = .int .i64 (left - L.length - wSum bsz (L.take k)) ∧ 0 ≤ left - L.length - wSum bsz (L.take k) ∧ ∃ z : Later w, wr = z.w) (fun _ t5 _ => L.length - (intOf t5).toNat)
  case atStart => exact ⟨0, Nat.zero_le _, rfl, by simp [wSum], by simp [wSum]; omega, ⟨_, Below.refl _ _⟩, rfl⟩
  case round =>
    obtain ⟨k, hk, rfl, rfl, hp, z, rfl⟩ := hrel
    have hk0 := wSum_nonneg bsz_nonneg (L.take k)
    by_cases hlt : k < L.length
    · obtain ⟨b, o, rfl, hb, q0⟩ := hr.out.str hlt
      have hmx1 := hmx.out _ (List.getElem_mem hlt)
      have hsucc := wSum_succ bsz hlt
      have hle := wSum_take bsz_nonneg L (k + 1)
      have hbz : bsz L[k] = (L[k].size : Int) := rfl
      obtain ⟨p, hpe⟩ : ∃ p, left - L.length - wSum bsz (L.take k) = p := ⟨_, rfl⟩
      rw [hpe] at hp
      simp only [hpe]
      have hp9 : p ≤ 1048576 := by omega
      by_cases hs : p - (L[k].size : Int) < 0
      · have X := Lib.hid (szR_no (S := strSz L) (left := left) (by have := hL.out; omega))
        clear hpe hsucc hle hbz
        go_wp2_with fail
        go_ret
        exact .mk (by rw [X.out]; rfl) (by (repeat (first | (with_reducible exact Below.refl _ _) | (with_reducible assumption) | (with_reducible refine Later.out _ ?_) | (with_reducible refine bel_alloc ?_ _) | (with_reducible refine bel_drew ?_) | (with_reducible refine bel_drewN ?_ _) | (with_reducible refine bel_set ?_ ?_ _) | (with_reducible refine After.out _ ?_ ?_) | (dsimp only; omega) | omega | (simp only [World.size_alloc, World.size_setCell, World.size_drew]; omega))))
      · have X := Lib.hid (show left - L.length - wSum bsz (L.take (k + 1)) = p - (L[k].size : Int) by omega)
        clear hpe hsucc hle hbz
        go_wp2_with fail
        go_roundw
        case rel => exact ⟨k + 1, by omega, by go_num, by rw [X.out], by rw [X.out]; omega, ⟨_, by (repeat (first | (with_reducible exact Below.refl _ _) | (with_reducible assumption) | (with_reducible refine Later.out _ ?_) | (with_reducible refine bel_alloc ?_ _) | (with_reducible refine bel_drew ?_) | (with_reducible refine bel_drewN ?_ _) | (with_reducible refine bel_set ?_ ?_ _) | (with_reducible refine After.out _ ?_ ?_) | (dsimp only; omega) | omega | (simp only [World.size_alloc, World.size_setCell, World.size_drew]; omega)))⟩, rfl⟩
        case measure => first | (simp [intOf]; done) | (simp [intOf]; omega) | omega
    · obtain rfl : k = L.length := by omega
      rw [List.take_length] at hp ⊢
      have X := Lib.hid (show szR (strSz L) left = left - L.length - wSum bsz L by have := hL.out; rw [szR_yes (by omega)]; omega)
      go_wp2_with fail
      go_ret
      exact .mk (by rw [X.out]; rfl) (by (repeat (first | (with_reducible exact Below.refl _ _) | (with_reducible assumption) | (with_reducible refine Later.out _ ?_) | (with_reducible refine bel_alloc ?_ _) | (with_reducible refine bel_drew ?_) | (with_reducible refine bel_drewN ?_ _) | (with_reducible refine bel_set ?_ ?_ _) | (with_reducible refine After.out _ ?_ ?_) | (dsimp only; omega) | omega | (simp only [World.size_alloc, World.size_setCell, World.size_drew]; omega))))
/-- A row of texts of which the first `k` are copied. -/
def strPart (l : List ByteArray) (k : Nat) : List Value := strCells (l.take k) ++ List.replicate (l.length - k) (.string ByteArray.empty)
theorem strPart_full (l : List ByteArray) : strPart l l.length = strCells l := by simp [strPart]
theorem length_strPart (l : List ByteArray) (k : Nat) (h : k ≤ l.length) : (strPart l k).length = l.length := by
  simp [strPart, strCells]; omega
theorem strPart_step (l : List ByteArray) (k : Nat) (h : k < l.length) : (strPart l k).set k (.string l[k]) = strPart l (k + 1) := by
  have e : l.length - k = (l.length - (k + 1)) + 1 := by omega
  have hk : (strCells (l.take k)).length = k := by simp [strCells]; omega
  unfold strPart
  rw [e, List.replicate_succ, List.set_append_right _ _ (by omega), hk, Nat.sub_self, List.set_cons_zero, List.take_succ_eq_append_getElem h]
  simp only [strCells, List.map_append, List.map_cons, List.map_nil, List.append_assoc, List.cons_append, List.nil_append]
set_option maxRecDepth 4000 in
set_option maxHeartbeats 1000000 in
theorem toStringS_any (l : List ByteArray) (a : Option Addr) (n c : Nat) (w : World) (hn : l.length = n) (hm : n ≤ 1048576) (hr : Row w a (strCells l)) :
    Calls Tryz.prog 106 #[.slice a n c] w (RetOwn w 9 1 n (strCells l) id) := by
  subst hn
  have hmk := run_make_row' (P := Tryz.prog) 46 9 (.string ByteArray.empty) 16 Tryz.underlying46 info_str rfl .i64 .i64 l.length (by omega) (by omega)
  have hown0 := World.ownsRow_lit (base := w.heap.size) (e := 9) (size := 1) w (madeCells #[.string ByteArray.empty] l.length) l.length (Nat.le_refl _) (by unfold maxLen; omega) (by simp [size_madeCells])
  rw [toList_madeCells_one] at hown0
  rw [show List.replicate l.length (Value.string ByteArray.empty) = strPart l 0 by simp [strPart, strCells]] at hown0
  replace hr := Lib.hid hr
  have HO := Lib.hid hown0
  clear hown0
  go_enter Tryz.func106, Tryz.ntmps106
  go_wp2_with fail
  clear hmk
  go_loopw [4] (fun i wr => ∃ k : Nat, k ≤ l.length ∧ i = .int .i64 k ∧ wr.ownsRow w.heap.size 9 1 (.slice (some ⟨w.heap.size, 0, none⟩) l.length l.length) l.length (strPart l k) ∧ ∃ z : Later w, wr = z.w) (fun i _ => l.length - (intOf i).toNat)
  case atStart => exact ⟨0, Nat.zero_le _, rfl, HO.out, ⟨_, bel_alloc (Below.refl _ _) _⟩, rfl⟩
  case round =>
    obtain ⟨k, hk, rfl, hown, z, rfl⟩ := hrel
    by_cases hlt : k < l.length
    · obtain ⟨b, o, rfl, hb, hc⟩ := hr.out.str hlt
      have hws : w.heap.size < z.w.heap.size := (hown.lt w.heap.size rfl).2
      have hl := length_strPart l k hk
      obtain ⟨u0, r0⟩ : ∃ u, z.w.cell? ⟨w.heap.size, k, none⟩ = some u := ⟨_, (hown.cellAt k (by omega)).trans (List.getElem?_eq_getElem (by omega))⟩
      have f0 := hown.frozenAt k
      have hst := (hown.stored k (.string l[k])).1
      rw [strPart_step l k hlt] at hst
      replace hst := Lib.hid hst
      clear hown
      go_wp2_with fail
      go_roundw
      case rel =>
        refine ⟨k + 1, by omega, by go_num, hst.out, LaterC.mk ?_⟩
        (repeat (first | (with_reducible exact Below.refl _ _) | (with_reducible assumption) | (with_reducible refine Later.out _ ?_) | (with_reducible refine bel_alloc ?_ _) | (with_reducible refine bel_drew ?_) | (with_reducible refine bel_drewN ?_ _) | (with_reducible refine bel_set ?_ ?_ _) | (with_reducible refine After.out _ ?_ ?_) | (dsimp only; omega) | omega | (simp only [World.size_alloc, World.size_setCell, World.size_drew]; omega)))
      case measure => first | (simp [intOf]; done) | (simp [intOf]; omega) | omega
    · obtain rfl : k = l.length := by omega
      rw [strPart_full] at hown
      replace hown := Lib.hid hown
      go_wp2_with fail
      go_ret
      exact .mk _ rfl hown.out z.bel
set_option maxHeartbeats 1000000 in
theorem eqStringS_same (O : List ByteArray) (a a' : Option Addr) (n c n' c' : Nat) (w : World) (hn : O.length = n) (hn' : O.length = n') (hm : n ≤ 1048576) (hr : Row w a (strCells O)) (hr' : Row w a' (strCells O)) :
    Calls Tryz.prog 28 #[.slice a n c, .slice a' n' c'] w (Ret w (.bool true)) := by
  subst hn
  subst hn'
  replace hr := Lib.hid hr
  replace hr' := Lib.hid hr'
  go_enter Tryz.func28, Tryz.ntmps28
  go_wp2_with fail
  go_loopw [5] (fun i wr => ∃ k : Nat, k ≤ O.length ∧ i = .int .i64 k ∧ ∃ z : Later w, wr = z.w) (fun i _ => O.length - (intOf i).toNat)
  case atStart => exact ⟨0, Nat.zero_le _, rfl, ⟨_, Below.refl _ _⟩, rfl⟩
  case round =>
    obtain ⟨k, hk, rfl, z, rfl⟩ := hrel
    by_cases hlt : k < O.length
    · obtain ⟨b, o, rfl, hb, q⟩ := hr.out.str hlt
      obtain ⟨b', o', rfl, hb', q'⟩ := hr'.out.str hlt
      have hi1 : (k : Int) < (O.length : Int) := by omega
      have hzz := z.bel.size
      go_wp2_with fail
      go_quiet (fail)
      go_wp2_with fail
      go_roundw
      case rel => exact ⟨k + 1, by omega, by go_num, LaterC.mk (by (repeat (first | (with_reducible exact Below.refl _ _) | (with_reducible assumption) | (with_reducible refine Later.out _ ?_) | (with_reducible refine bel_alloc ?_ _) | (with_reducible refine bel_drew ?_) | (with_reducible refine bel_drewN ?_ _) | (with_reducible refine bel_set ?_ ?_ _) | (with_reducible refine After.out _ ?_ ?_) | (dsimp only; omega) | omega | (simp only [World.size_alloc, World.size_setCell, World.size_drew]; omega))))⟩
      case measure => first | (simp [intOf]; done) | (simp [intOf]; omega) | omega
    · obtain rfl : k = O.length := by omega
      go_wp2_with fail
      go_ret
      exact .mk rfl (by (repeat (first | (with_reducible exact Below.refl _ _) | (with_reducible assumption) | (with_reducible refine Later.out _ ?_) | (with_reducible refine bel_alloc ?_ _) | (with_reducible refine bel_drew ?_) | (with_reducible refine bel_drewN ?_ _) | (with_reducible refine bel_set ?_ ?_ _) | (with_reducible refine After.out _ ?_ ?_) | (dsimp only; omega) | omega | (simp only [World.size_alloc, World.size_setCell, World.size_drew]; omega))))
def markSs (k : Int) (n : Nat) : List Value := (List.range n).map fun (j : Nat) => Value.string (mT (k + (j : Int)))
def markSPart (xs : List Value) (k : Int) (j : Nat) : List Value := markSs k j ++ xs.drop j
theorem markSs_get {k : Int} {n j : Nat} (h : j < n) : (markSs k n)[j]? = some (.string (mT (k + j))) := by simp [markSs, h]
theorem length_markSs (k : Int) (n : Nat) : (markSs k n).length = n := by simp [markSs]
theorem markSPart_zero (xs : List Value) (k : Int) : markSPart xs k 0 = xs := by simp [markSPart, markSs]
theorem markSPart_full (xs : List Value) (k : Int) (n : Nat) (h : xs.length = n) : markSPart xs k n = markSs k n := by simp [markSPart, h, List.drop_eq_nil_of_le]
theorem markSPart_step (xs : List Value) (k : Int) (j : Nat) (h : j < xs.length) : (markSPart xs k j).set j (.string (mT (k + j))) = markSPart xs k (j + 1) := by
  unfold markSPart
  rw [List.set_append_right _ _ (by simp [markSs]), length_markSs, Nat.sub_self, List.drop_eq_getElem_cons h, List.set_cons_zero]
  simp [markSs, List.range_succ]
set_option maxRecDepth 8000 in
set_option maxHeartbeats 2000000 in
theorem markStringS_any (a : Option Addr) (n c lo hi : Nat) (k : Int) (xs : List Value) (w : World) (h : Owns w lo hi 9 1 n a c xs) (hlo : hi ≤ w.heap.size) (hm : n ≤ 1048577) (hk : 0 < k) (hk' : k ≤ 549755813888) :
    Calls Tryz.prog 29 #[.slice a n c, .int .i64 k] w (RetMark w lo hi 9 n a c (markSs k n) (.int .i64 (k + n))) := by
  have hl : xs.length = n := by have := h.own.1; omega
  have HO := Lib.hid h
  have HL := Lib.hid hl
  clear h hl
  go_enter Tryz.func29, Tryz.ntmps29
  go_wp2_with fail
  go_loopw [1, 5] (fun kk i wr => ∃ j : Nat, j ≤ n ∧ i = .int .i64 j ∧ kk = .int .i64 (k + j) ∧ Between lo hi w wr ∧ Owns wr lo hi 9 1 n a c (markSPart xs k j)) (fun _ i _ => n - (intOf i).toNat)
  case atStart => exact ⟨0, Nat.zero_le _, rfl, by simp, Between.refl _ _ _, by rw [markSPart_zero]; exact HO.out⟩
  case round =>
    obtain ⟨j, hj, rfl, rfl, hb, ho⟩ := hrel
    by_cases hlt : j < n
    · have hxl := HL.out
      obtain ⟨g, rfl, g1, g2, hc, hf⟩ := ho.at_ (j := j) (by omega)
      obtain ⟨u, hu⟩ : ∃ u, (markSPart xs k j)[j]? = some u := ⟨_, List.getElem?_eq_getElem (by have := ho.own.1; omega)⟩
      rw [hu] at hc
      obtain ⟨z, rfl⟩ := AfterC.mk hb
      have hzs := z.btw.size
      have hgz : g < z.w.heap.size := by omega
      have hst := markSPart_step xs k j (by omega)
      replace hst := Lib.hid hst
      have HS := Lib.hid ho
      clear hb ho hu
      have hp1 : 0 < k + (j : Int) := by omega
      have hp2 : k + (j : Int) < 1099511627776 := by omega
      go_wp2_with fail
      with_reducible refine (mText_any (k + (j : Int)) _ hp1 hp2).mono ?_
      rintro e w' ⟨rfl, y1, rfl⟩
      have hsy1 := y1.bel.size
      (try simp only [World.size_alloc, World.size_setCell, World.size_drew] at hsy1)
      have lt1 : g < y1.w.heap.size := by omega
      go_wp2_with fail
      have O1 := (HS.out.bel (B := z.w.heap.size) y1.bel (by omega)).set (j := j) (.string (mT (k + (j : Int))))
      rw [hst.out] at O1
      replace O1 := Lib.hid O1
      go_roundw
      case rel => exact ⟨j + 1, by omega, by go_num, by go_num, by (repeat (first | (with_reducible exact Between.refl _ _ _) | (with_reducible refine Between.drew ?_) | (with_reducible refine Between.drewN ?_ _) | (with_reducible refine Between.set ?_ ?_ ?_ _) | (with_reducible refine btw_later _ ?_) | (with_reducible refine btw_alloc ?_ _) | (with_reducible refine btw_after _ ?_) | (with_reducible assumption) | (dsimp only; omega) | omega)), O1.out⟩
      case measure => simp [intOf]; omega
    · obtain rfl : j = n := by omega
      rw [markSPart_full _ _ _ HL.out] at ho
      have HB := Lib.hid hb
      have HO := Lib.hid ho
      clear hb ho
      go_wp2_with fail
      go_ret
      exact ⟨rfl, ⟨_, HB.out⟩, rfl, HO.out⟩
set_option maxRecDepth 8000 in
set_option maxHeartbeats 2000000 in
theorem heldStringS_any (a : Option Addr) (n c : Nat) (k : Int) (w : World) (h : Row w a (markSs k n)) (hm : n ≤ 1048577) (hk : 0 < k) (hk' : k ≤ 549755813888) :
    Calls Tryz.prog 30 #[.slice a n c, .int .i64 k] w (Ret w (.int .i64 (k + n))) := by
  have HO := Lib.hid h
  clear h
  go_enter Tryz.func30, Tryz.ntmps30
  go_wp2_with fail
  go_loopw [1, 5] (fun kk i wr => ∃ j : Nat, j ≤ n ∧ i = .int .i64 j ∧ kk = .int .i64 (k + j) ∧ ∃ z : Later w, wr = z.w) (fun _ i _ => n - (intOf i).toNat)
  case atStart => exact ⟨0, Nat.zero_le _, rfl, by simp, ⟨_, Below.refl _ _⟩, rfl⟩
  case round =>
    obtain ⟨j, hj, rfl, rfl, z, rfl⟩ := hrel
    have hzz := z.bel.size
    by_cases hlt : j < n
    · obtain ⟨b, o, rfl, hc⟩ := HO.out j _ (markSs_get hlt)
      have hb := World.block_lt_of_cell? w _ hc
      simp only at hb
      have hp1 : 0 < k + (j : Int) := by omega
      have hp2 : k + (j : Int) < 1099511627776 := by omega
      go_wp2_with fail
      refine wp_region_plan [(0, true), (1, true), (2, true), (3, true), (4, true), (5, false), (6, true)] (C := LaterC _) (by kernel_rfl) (by kernel_rfl) (by kernel_rfl) rfl (fun _ _ d _ _ h => by cases d <;> exact h) (LaterC.mk ((Below.refl _ _).drew)) ?_
      first | (refine plan_quiet nth0 rfl ?_; intro KP hKP; go_big_quiet_op; go_big_quiet_on) | (refine plan_skip_q nth0 rfl rfl ?_; simp only [Act.put, List.setIfInBounds_toArray, List.set_cons_zero, List.set_cons_succ])
      first | (refine plan_quiet nth1 rfl ?_; intro KP hKP; go_big_quiet_op; go_big_quiet_on) | (refine plan_skip_q nth1 rfl rfl ?_; simp only [Act.put, List.setIfInBounds_toArray, List.set_cons_zero, List.set_cons_succ])
      first | (refine plan_quiet nth2 rfl ?_; intro KP hKP; go_big_quiet_op; go_big_quiet_on) | (refine plan_skip_q nth2 rfl rfl ?_; simp only [Act.put, List.setIfInBounds_toArray, List.set_cons_zero, List.set_cons_succ])
      first | (refine plan_quiet nth3 rfl ?_; intro KP hKP; go_big_quiet_op; go_big_quiet_on) | (refine plan_skip_q nth3 rfl rfl ?_; simp only [Act.put, List.setIfInBounds_toArray, List.set_cons_zero, List.set_cons_succ])
      first | (refine plan_quiet nth4 rfl ?_; intro KP hKP; go_big_quiet_op; go_big_quiet_on) | (refine plan_skip_q nth4 rfl rfl ?_; simp only [Act.put, List.setIfInBounds_toArray, List.set_cons_zero, List.set_cons_succ])
      first | (refine plan_loud nth5 rfl ?_; intro KP hKP; go_wp2_with (first | (go_at_call 65; first | ((with_reducible refine (Calls.later (mText_any (k + (j : Int)) _ hp1 hp2)).mono ?_); rintro e w' ⟨rfl, xl, rfl⟩; have hsz := xl.bel.size; (try simp only [World.size_alloc, World.size_setCell, World.size_drew] at hsz); (try have hz0 : w.heap.size < xl.w.heap.size := (by omega)); (try have hz1 : w.heap.size + 1 < xl.w.heap.size := (by omega)); (try have hz2 : w.heap.size + 1 + 1 < xl.w.heap.size := (by omega))) | ((with_reducible refine (mText_any (k + (j : Int)) _ hp1 hp2).mono ?_); rintro e w' ⟨rfl, xl, rfl⟩; have hsz := xl.bel.size; (try simp only [World.size_alloc, World.size_setCell, World.size_drew] at hsz); (try have hz0 : w.heap.size < xl.w.heap.size := (by omega)); (try have hz1 : w.heap.size + 1 < xl.w.heap.size := (by omega)); (try have hz2 : w.heap.size + 1 + 1 < xl.w.heap.size := (by omega))))); refine hKP _ _ (LaterC.mk (by (repeat (first | (with_reducible exact Below.refl _ _) | (with_reducible assumption) | (with_reducible refine Later.out _ ?_) | (with_reducible refine bel_alloc ?_ _) | (with_reducible refine bel_drew ?_) | (with_reducible refine bel_drewN ?_ _) | (with_reducible refine bel_set ?_ ?_ _) | (with_reducible refine After.out _ ?_ ?_) | (dsimp only; omega) | omega | (simp only [World.size_alloc, World.size_setCell, World.size_drew]; omega))))) ?_; clear hKP KP) | (refine plan_skip nth5 rfl rfl (LaterC.mk (by (repeat (first | (with_reducible exact Below.refl _ _) | (with_reducible assumption) | (with_reducible refine Later.out _ ?_) | (with_reducible refine bel_alloc ?_ _) | (with_reducible refine bel_drew ?_) | (with_reducible refine bel_drewN ?_ _) | (with_reducible refine bel_set ?_ ?_ _) | (with_reducible refine After.out _ ?_ ?_) | (dsimp only; omega) | omega | (simp only [World.size_alloc, World.size_setCell, World.size_drew]; omega))))) ?_; simp only [Act.put, List.setIfInBounds_toArray, List.set_cons_zero, List.set_cons_succ])
      first | (refine plan_quiet nth6 rfl ?_; intro KP hKP; go_big_quiet_op; go_big_quiet_on) | (refine plan_skip_q nth6 rfl rfl ?_; simp only [Act.put, List.setIfInBounds_toArray, List.set_cons_zero, List.set_cons_succ])
      refine plan_nil ?_
      go_wp2_with fail
      go_roundw
      case rel => exact ⟨j + 1, by omega, by go_num, by go_num, LaterC.mk (by (repeat (first | (with_reducible exact Below.refl _ _) | (with_reducible assumption) | (with_reducible refine Later.out _ ?_) | (with_reducible refine bel_alloc ?_ _) | (with_reducible refine bel_drew ?_) | (with_reducible refine bel_drewN ?_ _) | (with_reducible refine bel_set ?_ ?_ _) | (with_reducible refine After.out _ ?_ ?_) | (dsimp only; omega) | omega | (simp only [World.size_alloc, World.size_setCell, World.size_drew]; omega))))⟩
      case measure => simp [intOf]; omega
    · obtain rfl : j = n := by omega
      go_wp2_with fail
      go_ret
      exact .mk rfl (by (repeat (first | (with_reducible exact Below.refl _ _) | (with_reducible assumption) | (with_reducible refine Later.out _ ?_) | (with_reducible refine bel_alloc ?_ _) | (with_reducible refine bel_drew ?_) | (with_reducible refine bel_drewN ?_ _) | (with_reducible refine bel_set ?_ ?_ _) | (with_reducible refine After.out _ ?_ ?_) | (dsimp only; omega) | omega | (simp only [World.size_alloc, World.size_setCell, World.size_drew]; omega))))
end Go.Proofs.YtklcaphkfdlipaaGreatDoor

/- Tables of views: rows for reading, tables of one's own; sizes, copies, comparison, marks. -/
set_option linter.unusedSimpArgs false
set_option linter.unusedVariables false
namespace Go.Proofs.YtklcaphkfdlipaaGreatDoor
open Go.RowKit
/-- A view: its holder, an owner for each ring. -/
structure Vw where
  holder : ByteArray
  own : List ByteArray
theorem own_keep {w w' : World} {lo hi g g' e s n : Nat} {a : Option Addr} {c : Nat} {xs : List Value} (h : Owns w lo hi e s n a c xs) (hb : Between g g' w w') (ho : ∀ k, (Value.slice a n c).ownBlock = some k → k < g ∨ g' ≤ k) : Owns w' lo hi e s n a c xs := ⟨own_btw h.own hb ho, h.lt⟩
/-- The block in which a slice of one's own lies. -/
theorem own_tight {w : World} {lo hi e s n : Nat} {a : Option Addr} {c : Nat} {xs : List Value} (h : Owns w lo hi e s n a c xs) (hlh : lo ≤ hi) :
    ∃ g g', lo ≤ g ∧ g ≤ g' ∧ g' ≤ hi ∧ Owns w g g' e s n a c xs ∧ (∀ k, g ≤ k → k < g' → (Value.slice a n c).ownBlock = some k) := by
  rcases h.own.2 with ⟨hv, hn⟩ | ⟨g, cap, cur, hv, hg, hh, r⟩
  · have ha : a = none := by injection hv
    have hc : c = 0 := by injection hv
    subst ha hn hc
    exact ⟨hi, hi, hlh, Nat.le_refl _, Nat.le_refl _, ⟨⟨h.own.1, .inl ⟨rfl, rfl⟩⟩, fun p hp => by cases hp⟩, fun k h1 h2 => absurd h2 (by omega)⟩
  · have ha : a = some ⟨g, 0, none⟩ := by injection hv
    subst ha
    have h1 := h.lt _ rfl
    simp only at h1
    refine ⟨g, g + 1, hg, by omega, h1, ⟨⟨h.own.1, .inr ⟨g, cap, cur, hv, Nat.le_refl _, hh, r⟩⟩, fun p hp => by cases hp; exact Nat.lt_succ_self _⟩, fun k h1 h2 => ?_⟩
    obtain rfl : k = g := by omega
    rfl
theorem own_zero2 {w : World} {lo hi e s n c k : Nat} {a : Option Addr} {xs : List Value} (h : Owns w lo hi e s n a c xs) (hk : (Value.slice a n c).ownBlock = some k) : a = some ⟨k, 0, none⟩ := by
  rcases h.own.2 with ⟨hv, hn⟩ | ⟨g, cap, cur, hv, _⟩
  · rw [hv] at hk; simp [Value.ownBlock] at hk
  · rw [hv] at hk
    simp only [Value.ownBlock, Option.some.injEq] at hk
    subst hk
    injection hv
theorem own_caps2 {w : World} {base e s n c : Nat} {a : Option Addr} {xs : List Value} (h : w.ownsRow base e s (.slice a n c) n xs) : n ≤ c ∧ c ≤ maxLen := by
  rcases h.2 with ⟨h1, h2⟩ | ⟨g, cap, cur, hv, _, _, h1, h2, _⟩
  · injection h1 with _ _ h3
    subst h3
    exact ⟨by omega, by unfold maxLen; omega⟩
  · injection hv with _ _ h3
    subst h3
    exact ⟨h1, h2⟩
/-- A number, and only blocks of [g, hi) have turned. -/
def RetAft (w : World) (g hi : Nat) (v : Value) (e : Ending) (w' : World) : Prop := e = .returned v ∧ ∃ z : After w g hi, w' = z.w
def ViewsR (w : World) (a : Option Addr) (T : List (Vw)) : Prop :=
  ∀ i (h : i < T.length), ∃ b o ai ci, a = some ⟨b, o, none⟩ ∧ b < w.heap.size ∧ w.cell? ⟨b, o + i * 2, none⟩ = some (.string T[i].holder) ∧ w.cell? ⟨b, o + i * 2 + 1, none⟩ = some (.slice ai T[i].own.length ci) ∧ Row w ai (strCells T[i].own) ∧ T[i].own.length ≤ ci ∧ ci ≤ maxLen
theorem ViewsR.bel {w w' : World} {a : Option Addr} {T : List (Vw)} (h : ViewsR w a T) (hb : Below w.heap.size w w') : ViewsR w' a T := fun i hi => by
  obtain ⟨b, o, ai, ci, h1, h2, h3, h4, h5, h6⟩ := h i hi
  exact ⟨b, o, ai, ci, h1, Nat.lt_of_lt_of_le h2 hb.size, (hb.cell h2).trans h3, (hb.cell h2).trans h4, h5.bel hb, h6⟩
theorem ViewsR.take {w : World} {a : Option Addr} {T : List (Vw)} (h : ViewsR w a T) (k : Nat) : ViewsR w a (T.take k) := fun i hi => by
  have hi' : i < T.length := by rw [List.length_take] at hi; omega
  obtain ⟨b, o, ai, ci, h1, h2, h3⟩ := h i hi'
  exact ⟨b, o, ai, ci, h1, h2, by rw [List.getElem_take]; exact h3⟩
theorem ViewsR.at_ {w : World} {a : Option Addr} {T : List (Vw)} (h : ViewsR w a T) {i : Nat} (hi : i < T.length) :
    ∃ b o ai ci, a = some ⟨b, o, none⟩ ∧ b < w.heap.size ∧ w.cell? ⟨b, o + i * 2, none⟩ = some (.string T[i].holder) ∧ w.cell? ⟨b, o + i * 2 + 1, none⟩ = some (.slice ai T[i].own.length ci) ∧ Row w ai (strCells T[i].own) ∧ T[i].own.length ≤ ci ∧ ci ≤ maxLen := h i hi
theorem ViewsR.nil (w : World) (a : Option Addr) : ViewsR w a [] := fun i h => absurd h (by simp)
/-- A list of one's own: its elements in the block `g`, their slices in later ones. -/
structure OV (w : World) (g hi n c : Nat) (T : List (Vw)) (vs : List Value) : Prop where
  own : Owns w g (g + 1) 64 2 n (some ⟨g, 0, none⟩) c vs
  len : T.length ≤ n
  lt : g < w.heap.size
  at_ : ∀ i (h : i < T.length), ∃ ai ci, vs[i * 2 + 1]? = some (.slice ai T[i].own.length ci) ∧ vs[i * 2]? = some (.string T[i].holder) ∧ Owns w (g + 1) hi 9 1 T[i].own.length ai ci (strCells T[i].own) ∧ T[i].own.length ≤ ci ∧ ci ≤ maxLen
  sep : ∀ i j gi gj ni nj ci cj, i < j → j < T.length → vs[i * 2 + 1]? = some (.slice (some ⟨gi, 0, none⟩) ni ci) → vs[j * 2 + 1]? = some (.slice (some ⟨gj, 0, none⟩) nj cj) → gi ≠ gj
theorem OV.bel {w w' : World} {g hi n c : Nat} {T : List (Vw)} {vs : List Value} (h : OV w g hi n c T vs) (hb : Below w.heap.size w w') (hh : hi ≤ w.heap.size) : OV w' g hi n c T vs :=
  ⟨h.own.bel hb h.lt, h.len, Nat.lt_of_lt_of_le h.lt hb.size, fun i hi' => by
    obtain ⟨ai, ci, h1, h2, h3, h4⟩ := h.at_ i hi'
    exact ⟨ai, ci, h1, h2, h3.bel hb hh, h4⟩, h.sep⟩
theorem OV.btw {w w' : World} {g hi n c lo' hi2 : Nat} {T : List (Vw)} {vs : List Value} (h : OV w g hi n c T vs) (hb : Between lo' hi2 w w') (hh : hi2 ≤ g) : OV w' g hi n c T vs :=
  ⟨h.own.btw hb (.inr hh), h.len, Nat.lt_of_lt_of_le h.lt hb.size, fun i hi' => by
    obtain ⟨ai, ci, h1, h2, h3, h4⟩ := h.at_ i hi'
    exact ⟨ai, ci, h1, h2, h3.btw hb (.inr (by omega)), h4⟩, h.sep⟩
theorem OV.rows {w : World} {g hi n c : Nat} {T : List (Vw)} {vs : List Value} (h : OV w g hi n c T vs) : ViewsR w (some ⟨g, 0, none⟩) T := fun i hi' => by
  obtain ⟨ai, ci, h1, h2, h3, h4, h5⟩ := h.at_ i hi'
  have hl := h.len
  have hv := h.own.own.1
  have c1 := h.own.own.cellAt (i * 2 + 1) (by omega)
  have c2 := h.own.own.cellAt (i * 2) (by omega)
  exact ⟨g, 0, ai, ci, rfl, h.lt, by rw [Nat.zero_add, c2]; exact h2, by rw [Nat.zero_add, c1]; exact h1, h3.row, h4, h5⟩
theorem OV.zero (w : World) (g n c : Nat) (T : List (Vw)) (vs : List Value) (h : Owns w g (g + 1) 64 2 n (some ⟨g, 0, none⟩) c vs) (hg : g < w.heap.size) (hn : T.length = n) : OV w g w.heap.size n c (T.take 0) vs :=
  ⟨h, by simp only [List.take_zero, List.length_nil]; omega, hg, fun i hi => absurd hi (by simp), fun i j gi gj ni nj ci cj _ hj => absurd hj (by simp)⟩
theorem OV.step {w y : World} {g n c k : Nat} {T : List (Vw)} {vs : List Value} (h : OV w g w.heap.size n c (T.take k) vs) (hk : k < T.length) (hkn : k < n) (hb : Below w.heap.size w y) {ai : Option Addr} {ci : Nat}
    (ho : y.ownsRow w.heap.size 9 1 (.slice ai T[k].own.length ci) T[k].own.length (strCells T[k].own)) :
    OV ((y.setCell ⟨g, k * 2, none⟩ (.string T[k].holder)).setCell ⟨g, k * 2 + 1, none⟩ (.slice ai T[k].own.length ci)) g y.heap.size n c (T.take (k + 1)) ((vs.set (k * 2) (.string T[k].holder)).set (k * 2 + 1) (.slice ai T[k].own.length ci)) := by
  have hv := h.own.own.1
  have hg := h.lt
  have hs := hb.size
  have htk : (T.take k).length = k := by rw [List.length_take]; omega
  have htk1 : (T.take (k + 1)).length = k + 1 := by rw [List.length_take]; omega
  have hcap := own_caps2 ho
  have hO := Owns.of ho
  have hset : ∀ {lo hi n c : Nat} {a : Option Addr} {xs : List Value}, Owns y lo hi 9 1 n a c xs → g < lo → Owns ((y.setCell ⟨g, k * 2, none⟩ (.string T[k].holder)).setCell ⟨g, k * 2 + 1, none⟩ (.slice ai T[k].own.length ci)) lo hi 9 1 n a c xs := fun h1 h2 =>
    ⟨own_set (own_set h1.own (p := ⟨g, k * 2, none⟩) h2 _) (p := ⟨g, k * 2 + 1, none⟩) h2 _, h1.lt⟩
  refine ⟨((h.own.bel hb hg).set _).set _, by omega, by simp only [World.size_setCell]; omega, fun i hi => ?_, fun i j gi gj ni nj ci' cj hij hj h1 h2 => ?_⟩
  · rw [htk1] at hi
    by_cases hik : i = k
    · subst hik
      refine ⟨ai, ci, ?_, ?_, ?_, ?_⟩
      · rw [List.getElem?_set_self (by simp; omega)]
        simp
      · rw [List.getElem?_set_ne (by omega), List.getElem?_set_self (by omega)]
        simp
      · simp only [List.getElem_take]
        exact ⟨own_mono (hset hO (by omega)).own (by omega), fun p hp => hO.lt p hp⟩
      · simpa using hcap
    · obtain ⟨aj, cj, e1, e2, e3, e4⟩ := h.at_ i (by omega)
      simp only [List.getElem_take] at e1 e2 e3 e4 ⊢
      refine ⟨aj, cj, ?_, ?_, ?_, e4⟩
      · rw [List.getElem?_set_ne (by omega), List.getElem?_set_ne (by omega)]
        exact e1
      · rw [List.getElem?_set_ne (by omega), List.getElem?_set_ne (by omega)]
        exact e2
      · have := hset (e3.bel hb (Nat.le_refl _)) (by omega)
        exact ⟨this.own, fun p hp => Nat.lt_of_lt_of_le (this.lt p hp) hs⟩
  · rw [htk1] at hj
    rw [List.getElem?_set_ne (by omega), List.getElem?_set_ne (by omega)] at h1
    obtain ⟨a1, c1, e1, _, e3, _⟩ := h.at_ i (by omega)
    have hgi : gi < w.heap.size := by
      rw [e1] at h1
      injection h1 with h1
      injection h1 with h1
      exact e3.lt _ h1
    by_cases hjk : j = k
    · subst hjk
      rw [List.getElem?_set_self (by simp; omega)] at h2
      injection h2 with h2
      injection h2 with h2
      have := hO.ge _ h2
      simp only at this
      omega
    · rw [List.getElem?_set_ne (by omega), List.getElem?_set_ne (by omega)] at h2
      exact h.sep i j gi gj ni nj ci' cj hij (by omega) h1 h2
/-- Such a list of which some is marked: its slices are as they were, what they hold is one's own. -/
structure MV (w : World) (g hi n c : Nat) (T : List (Vw)) (vs : List Value) : Prop where
  own : ∃ vs', Owns w g (g + 1) 64 2 n (some ⟨g, 0, none⟩) c vs' ∧ ∀ i, i < T.length → vs'[i * 2 + 1]? = vs[i * 2 + 1]?
  at_ : ∀ i (h : i < T.length), ∃ ai ci xs, vs[i * 2 + 1]? = some (.slice ai T[i].own.length ci) ∧ Owns w (g + 1) hi 9 1 T[i].own.length ai ci xs
theorem MV.of {w : World} {g hi n c : Nat} {T : List (Vw)} {vs : List Value} (h : OV w g hi n c T vs) : MV w g hi n c T vs :=
  ⟨⟨vs, h.own, fun _ _ => rfl⟩, fun i hi => by
    obtain ⟨ai, ci, h1, _, h3, h4⟩ := h.at_ i hi
    exact ⟨ai, ci, _, h1, h3⟩⟩
theorem MV.inner {w w' : World} {g hi n c j p p' cj : Nat} {T : List (Vw)} {vs xs xs' : List Value} {aj : Option Addr} (h : MV w g hi n c T vs)
    (SEP : ∀ i j gi gj ni nj ci cj, i < j → j < T.length → vs[i * 2 + 1]? = some (.slice (some ⟨gi, 0, none⟩) ni ci) → vs[j * 2 + 1]? = some (.slice (some ⟨gj, 0, none⟩) nj cj) → gi ≠ gj)
    (hj : j < T.length) (hvj : vs[j * 2 + 1]? = some (.slice aj T[j].own.length cj)) (hp1 : g + 1 ≤ p) (hp' : p' ≤ hi)
    (hpb : ∀ k, p ≤ k → k < p' → (Value.slice aj T[j].own.length cj).ownBlock = some k) (hoj : Owns w p p' 9 1 T[j].own.length aj cj xs) (hb : Between p p' w w') (ho2 : Owns w' p p' 9 1 T[j].own.length aj cj xs') : MV w' g hi n c T vs := by
  obtain ⟨⟨vs', h1, h2⟩, h3⟩ := h
  refine ⟨⟨vs', h1.btw hb (.inl hp1), h2⟩, fun i hi => ?_⟩
  obtain ⟨ai, ci, ys, e1, e2⟩ := h3 i hi
  by_cases hij : i = j
  · subst hij
    rw [hvj] at e1
    injection e1 with e1
    injection e1 with e1 _ e4
    subst e1 e4
    exact ⟨aj, cj, xs', hvj, ⟨own_mono ho2.own (by omega), fun q hq => Nat.lt_of_lt_of_le (ho2.lt q hq) hp'⟩⟩
  · refine ⟨ai, ci, ys, e1, own_keep e2 hb fun k hk => ?_⟩
    by_cases h4 : p ≤ k ∧ k < p'
    · exfalso
      have h5 := own_zero2 hoj (hpb k h4.1 h4.2)
      have h6 := own_zero2 e2 hk
      subst h5 h6
      rcases Nat.lt_or_ge i j with h7 | h7
      · exact SEP i j k k _ _ _ _ h7 hj e1 hvj rfl
      · exact SEP j i k k _ _ _ _ (by omega) hi hvj e1 rfl
    · omega
theorem MV.bel {w w' : World} {g hi n c : Nat} {T : List (Vw)} {vs : List Value} (h : MV w g hi n c T vs) (hb : Below w.heap.size w w') (hg : g < w.heap.size) (hh : hi ≤ w.heap.size) : MV w' g hi n c T vs := by
  obtain ⟨⟨vs', h1, h2⟩, h3⟩ := h
  refine ⟨⟨vs', h1.bel hb hg, h2⟩, fun i hi => ?_⟩
  obtain ⟨ai, ci, ys, e1, e2⟩ := h3 i hi
  exact ⟨ai, ci, ys, e1, e2.bel hb hh⟩
theorem MV.holder {w : World} {g hi n c j : Nat} {T : List (Vw)} {vs : List Value} (h : MV w g hi n c T vs) (v : Value) : MV (w.setCell ⟨g, j * 2, none⟩ v) g hi n c T vs := by
  obtain ⟨⟨vs', h1, h2⟩, h3⟩ := h
  refine ⟨⟨_, h1.set (j := j * 2) v, fun i hi => by rw [List.getElem?_set_ne (by omega)]; exact h2 i hi⟩, fun i hi => ?_⟩
  obtain ⟨ai, ci, ys, e1, e2⟩ := h3 i hi
  exact ⟨ai, ci, ys, e1, ⟨own_set e2.own (p := ⟨g, j * 2, none⟩) (Nat.lt_succ_self _) _, e2.lt⟩⟩
end Go.Proofs.YtklcaphkfdlipaaGreatDoor
