import Derived.Test.YtfjlilpebhiogaaDoorText
import Derived.Test.YtfjlilpebhiogaaDoorApp
/- Words and phrases, the reference's way. -/
set_option linter.unusedSimpArgs false
set_option linter.unusedVariables false
namespace Go.Proofs.YtfjlilpebhiogaaDoor
open Go.RowKit
theorem byteAt {s : ByteArray} {k : Nat} (h : k < s.size) : s.data.toList[k]? = some s[k] := by
  rw [List.getElem?_eq_getElem (by rw [Array.length_toList]; exact h)]
  rfl
theorem all_take_succ {s : ByteArray} {k : Nat} {p : UInt8 → Bool} (h : k < s.size) (ha : (s.data.toList.take k).all p = true) (hp : p s[k] = true) : (s.data.toList.take (k + 1)).all p = true := by
  rw [List.take_add_one, byteAt h, List.all_append, ha]
  simp [hp]
theorem all_false_at {s : ByteArray} {k : Nat} {p : UInt8 → Bool} (h : k < s.size) (hp : p s[k] = false) : s.data.toList.all p = false := by
  rw [Bool.eq_false_iff]
  intro hh
  have := List.all_eq_true.1 hh s[k] (List.mem_of_getElem? (byteAt h))
  rw [hp] at this
  cases this
theorem wordB_not {s : ByteArray} (h : s.data.toList.all letterB = false) : wordB s = false := by simp [wordB, wordL, h]
theorem wordB_all {s : ByteArray} (h : s.data.toList.all letterB = true) : wordB s = inB s.size 1 16 := by
  rw [← smallB_word]; simp [smallB, h]
theorem extract_list (s : ByteArray) (f i : Nat) (h : i ≤ s.size) : (s.extract f i).data.toList = (s.data.toList.drop f).take (i - f) := by
  rw [Lib.extract_data]
/-- What a cut at every `c` keeps true: `O` the pieces so far, `f` where the next begins. -/
def Cut (c : UInt8) (s : ByteArray) (i f : Nat) (O : List ByteArray) : Prop :=
  (i ≤ s.size ∧ f ≤ i ∧ c ∉ (s.data.toList.drop f).take (i - f) ∧ O.map (·.data.toList) ++ splitL c (s.data.toList.drop f) = splitL c s.data.toList) ∨ (i = s.size + 1 ∧ f = s.size + 1 ∧ O = piecesS c s)
theorem pieces_of_map {c : UInt8} {s : ByteArray} {O : List ByteArray} (h : O.map (·.data.toList) = splitL c s.data.toList) : O = piecesS c s := by
  unfold piecesS
  rw [← h, List.map_map]
  have : (bytesOf ∘ fun (x : ByteArray) => x.data.toList) = id := by funext x; exact bytesOf_data x
  rw [this, List.map_id]
theorem Cut.start (c : UInt8) (s : ByteArray) : Cut c s 0 0 [] := .inl ⟨Nat.zero_le _, Nat.le_refl _, by simp, by simp⟩
theorem Cut.pass {c : UInt8} {s : ByteArray} {i f : Nat} {O : List ByteArray} (h : Cut c s i f O) (hi : i < s.size) (hc : s[i] ≠ c) : Cut c s (i + 1) f O := by
  rcases h with ⟨h1, h2, h3, h4⟩ | ⟨h1, _⟩
  · refine .inl ⟨hi, by omega, ?_, h4⟩
    rw [show i + 1 - f = (i - f) + 1 by omega, List.take_add_one, List.getElem?_drop, show f + (i - f) = i by omega, byteAt hi]
    simp only [List.mem_append, Option.toList_some, List.mem_singleton]
    rintro (h | h)
    · exact h3 h
    · exact hc h.symm
  · omega
theorem Cut.hit {c : UInt8} {s : ByteArray} {i f : Nat} {O : List ByteArray} (h : Cut c s i f O) (hi : i < s.size) (hc : s[i] = c) : Cut c s (i + 1) (i + 1) (O ++ [s.extract f i]) := by
  rcases h with ⟨h1, h2, h3, h4⟩ | ⟨h1, _⟩
  · refine .inl ⟨hi, by omega, by simp, ?_⟩
    have e : s.data.toList.drop f = (s.data.toList.drop f).take (i - f) ++ c :: s.data.toList.drop (i + 1) := by
      have e1 : s.data.toList.drop i = c :: s.data.toList.drop (i + 1) := by
        rw [List.drop_eq_getElem_cons (by rw [Array.length_toList]; exact hi)]
        congr 1
      conv => lhs; rw [← List.take_append_drop (i - f) (s.data.toList.drop f)]
      rw [List.drop_drop, show f + (i - f) = i by omega, e1]
    rw [← h4, List.map_append, List.append_assoc]
    congr 1
    rw [e, splitL_hit h3]
    simp [extract_list s f i h1]
  · omega
theorem Cut.last {c : UInt8} {s : ByteArray} {f : Nat} {O : List ByteArray} (h : Cut c s s.size f O) : Cut c s (s.size + 1) (s.size + 1) (O ++ [s.extract f s.size]) := by
  rcases h with ⟨h1, h2, h3, h4⟩ | ⟨h1, _⟩
  · refine .inr ⟨rfl, rfl, pieces_of_map ?_⟩
    have e : (s.data.toList.drop f).take (s.size - f) = s.data.toList.drop f := List.take_of_length_le (by rw [List.length_drop, Array.length_toList]; exact Nat.le_refl _)
    rw [e] at h3
    rw [← h4, splitL_miss h3, List.map_append]
    simp [extract_list s f s.size (Nat.le_refl _), e]
  · omega
set_option maxRecDepth 4000 in
set_option maxHeartbeats 1000000 in
theorem l01Split_any (s : ByteArray) (c : UInt8) (w : World) (hs : s.size ≤ 1048576) :
    Calls Tryd.prog 25 #[.string s, .int .u8 c.toNat] w (RetOwn w 9 1 (piecesS c s).length (strCells (piecesS c s)) id) := by
  obtain ⟨ii, j1, j2, j3, j4⟩ := info_str'
  have Jii := Lib.hid (And.intro j1 (And.intro j2 (And.intro j3 j4)))
  clear j1 j2 j3 j4
  go_enter Tryd.func25, Tryd.ntmps25
  go_wp2_with fail
  go_loopw [5, 6, 7] (fun t5 t6 t7 wr => ∃ (i f : Nat) (O : List ByteArray) (a : Option Addr) (c5 : Nat), t5 = .slice a O.length c5 ∧ t6 = .int .i64 f ∧ t7 = .int .i64 i ∧ f ≤ i ∧ i ≤ s.size + 1 ∧ O.length ≤ i ∧ Cut c s i f O ∧ wr.ownsRow w.heap.size 9 1 (.slice a O.length c5) O.length (strCells O) ∧ ∃ z : Later w, wr = z.w) (fun _ _ t7 _ => s.size + 1 - (intOf t7).toNat)
  case atStart => exact ⟨0, 0, [], _, _, rfl, rfl, rfl, Nat.le_refl _, Nat.zero_le _, Nat.le_refl _, Cut.start c s, World.ownsRow_lit w #[] 0 (Nat.le_refl _) (by unfold maxLen; omega) rfl, ⟨_, bel_alloc (Below.refl _ _) _⟩, rfl⟩
  case round =>
    obtain ⟨i, f, O, a, c5, rfl, rfl, rfl, hf, hi, hO, hC, hown, z, rfl⟩ := hrel
    replace hC := Lib.hid hC
    replace hown := Lib.hid hown
    by_cases h1 : i < s.size
    · have hne : ((i : Int) == (s.size : Int)) = false := by rw [beq_eq_false_iff_ne]; omega
      by_cases hc : s[i] = c
      · have hcc : ((s[i].toNat : Int) == (c.toNat : Int)) = true := by rw [hc]; simp
        have X := Lib.hid (hC.out.hit h1 hc)
        replace hc := Lib.hid hc
        go_wp2_with (at_builtin; (refine wpList_append_later _ rfl _ _ _ rfl 9 ii _ 1 16 Tryd.underlying46 Jii.out.1 Jii.out.2.1 Jii.out.2.2.1 Jii.out.2.2.2 rfl (by decide) (w) ?qa1 _ _ _ (strCells O) rfl ?qa2 _ _ _ ([.string (s.extract f i)]) rfl ?qa3 ?qa4 ?qa5 ?qa6 ?qa7 ?_); (case qa1 => (repeat (first | (with_reducible exact Below.refl _ _) | (with_reducible assumption) | (with_reducible refine Later.out _ ?_) | (with_reducible refine bel_alloc ?_ _) | (with_reducible refine bel_drew ?_) | (with_reducible refine bel_drewN ?_ _) | (with_reducible refine bel_set ?_ ?_ _) | (with_reducible refine After.out _ ?_ ?_) | (dsimp only; omega) | omega | (simp only [World.size_alloc, World.size_setCell, World.size_drew]; omega)))); (case qa2 => exact own_bel hown.out (by (repeat (first | (with_reducible exact Below.refl _ _) | (with_reducible assumption) | (with_reducible refine Later.out _ ?_) | (with_reducible refine bel_alloc ?_ _) | (with_reducible refine bel_drew ?_) | (with_reducible refine bel_drewN ?_ _) | (with_reducible refine bel_set ?_ ?_ _) | (with_reducible refine After.out _ ?_ ?_) | (dsimp only; omega) | omega | (simp only [World.size_alloc, World.size_setCell, World.size_drew]; omega))))); (case qa3 => (first | rfl | (simp [boolCells]; done) | (simp [intCells]; done) | (simp; done) | (first | omega | (simp only [List.length_append, List.length_cons, List.length_nil]; omega)))); (case qa4 => exact Row.made _ _ _); (case qa5 => (intro u hu; simp at hu; subst hu; rfl)); (case qa6 => (unfold maxLen; (first | omega | (simp only [List.length_append, List.length_cons, List.length_nil]; omega)))); (case qa7 => (first | omega | (simp only [List.length_append, List.length_cons, List.length_nil]; omega))); intro a' c' x hown')
        replace hown' := Lib.hid hown'
        go_roundw
        case rel => exact ⟨i + 1, i + 1, O ++ [s.extract f i], a', c', by simp, by go_num, by go_num, Nat.le_refl _, by omega, by simp; omega, X.out, by rw [strCells_snoc]; simpa using hown'.out, x, rfl⟩
        case measure => first | (simp [intOf]; done) | (simp [intOf]; omega) | omega
      · have hcc : ((s[i].toNat : Int) == (c.toNat : Int)) = false := by
          rw [beq_eq_false_iff_ne]; intro h
          exact hc (UInt8.toNat_inj.1 (by omega))
        have X := Lib.hid (hC.out.pass h1 hc)
        replace hc := Lib.hid hc
        go_wp2_with fail
        go_roundw
        case rel => exact ⟨i + 1, f, O, a, c5, rfl, rfl, by go_num, by omega, by omega, by omega, X.out, hown.out, z, rfl⟩
        case measure => first | (simp [intOf]; done) | (simp [intOf]; omega) | omega
    · by_cases h2 : i = s.size
      · subst h2
        have X := Lib.hid hC.out.last
        have hne : ((s.size : Int) == (s.size : Int)) = true := by simp
        go_wp2_with (at_builtin; (refine wpList_append_later _ rfl _ _ _ rfl 9 ii _ 1 16 Tryd.underlying46 Jii.out.1 Jii.out.2.1 Jii.out.2.2.1 Jii.out.2.2.2 rfl (by decide) (w) ?qa8 _ _ _ (strCells O) rfl ?qa9 _ _ _ ([.string (s.extract f s.size)]) rfl ?qa10 ?qa11 ?qa12 ?qa13 ?qa14 ?_); (case qa8 => (repeat (first | (with_reducible exact Below.refl _ _) | (with_reducible assumption) | (with_reducible refine Later.out _ ?_) | (with_reducible refine bel_alloc ?_ _) | (with_reducible refine bel_drew ?_) | (with_reducible refine bel_drewN ?_ _) | (with_reducible refine bel_set ?_ ?_ _) | (with_reducible refine After.out _ ?_ ?_) | (dsimp only; omega) | omega | (simp only [World.size_alloc, World.size_setCell, World.size_drew]; omega)))); (case qa9 => exact own_bel hown.out (by (repeat (first | (with_reducible exact Below.refl _ _) | (with_reducible assumption) | (with_reducible refine Later.out _ ?_) | (with_reducible refine bel_alloc ?_ _) | (with_reducible refine bel_drew ?_) | (with_reducible refine bel_drewN ?_ _) | (with_reducible refine bel_set ?_ ?_ _) | (with_reducible refine After.out _ ?_ ?_) | (dsimp only; omega) | omega | (simp only [World.size_alloc, World.size_setCell, World.size_drew]; omega))))); (case qa10 => (first | rfl | (simp [boolCells]; done) | (simp [intCells]; done) | (simp; done) | (first | omega | (simp only [List.length_append, List.length_cons, List.length_nil]; omega)))); (case qa11 => exact Row.made _ _ _); (case qa12 => (intro u hu; simp at hu; subst hu; rfl)); (case qa13 => (unfold maxLen; (first | omega | (simp only [List.length_append, List.length_cons, List.length_nil]; omega)))); (case qa14 => (first | omega | (simp only [List.length_append, List.length_cons, List.length_nil]; omega))); intro a' c' x hown')
        replace hown' := Lib.hid hown'
        go_roundw
        case rel => exact ⟨s.size + 1, s.size + 1, O ++ [s.extract f s.size], a', c', by simp, by go_num, by go_num, Nat.le_refl _, Nat.le_refl _, by simp; omega, X.out, by rw [strCells_snoc]; simpa using hown'.out, x, rfl⟩
        case measure => first | (simp [intOf]; done) | (simp [intOf]; omega) | omega
      · obtain rfl : i = s.size + 1 := by omega
        have hP : O = piecesS c s := by
          rcases hC.out with ⟨h, _⟩ | ⟨_, _, h⟩
          · omega
          · exact h
        subst hP
        go_wp2_with fail
        go_ret
        exact RetOwn.mk _ rfl hown.out z.bel
/-- The call returned `f v` for some `v`. -/
def RetSome (w : World) (f : Value → Value) (e : Ending) (w' : World) : Prop := ∃ v, e = .returned (f v) ∧ ∃ y : Later w, w' = y.w
theorem RetSome.mk {w w' : World} {f : Value → Value} {e : Ending} (v : Value) (h : e = .returned (f v)) (hb : Below w.heap.size w w') : RetSome w f e w' := ⟨v, h, ⟨w', hb⟩, rfl⟩
end Go.Proofs.YtfjlilpebhiogaaDoor
