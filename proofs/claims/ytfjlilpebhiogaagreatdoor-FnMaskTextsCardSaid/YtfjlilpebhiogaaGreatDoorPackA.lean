import Derived.Test.YtfjlilpebhiogaaGreatDoorShelf
import Derived.Test.YtfjlilpebhiogaaGreatDoorPackAa
import Derived.Lib.SliceRun
import Derived.Laws.AppendOwn
import Derived.Maps.AppendAt
import Derived.OwnWalk
import Derived.Laws.StructEq
/- Several of my texts, one behind the other: Text, App, TextS, Bts, ClaimA, ClaimB, ClaimL. -/
/- Words and phrases: the library's Trim and Split, what the program and the reference say of a word and of a phrase. -/
set_option linter.unusedSimpArgs false
set_option linter.unusedVariables false
namespace Go.Proofs.YtfjlilpebhiogaaGreatDoor
open Go.RowKit
/-- The library's variable MaxLen holds some number. -/
def Max (w : World) : Prop := ∃ m, w.cell? ⟨Tryz.laysM146_ren.g 1, 0, none⟩ = some (.int .i64 m)
theorem Max.bel {w w' : World} (h : Max w) (hb : Below w.heap.size w w') : Max w' := by
  obtain ⟨m, hm⟩ := h
  exact ⟨m, (hb.cell (World.block_lt_of_cell? w _ hm)).trans hm⟩
theorem Max.of {w : World} (h : w.ShapedOpen Tryz.prog) : Max w := Tryz.laysM146.s1_3 w h
/-- A string as its bytes. -/
def bytesOf (l : List UInt8) : ByteArray := ⟨l.toArray⟩
theorem bytesOf_data (s : ByteArray) : bytesOf s.data.toList = s := by cases s; simp [bytesOf]
theorem data_bytesOf (l : List UInt8) : (bytesOf l).data.toList = l := by simp [bytesOf]
theorem size_bytesOf (l : List UInt8) : (bytesOf l).size = l.length := by simp [bytesOf, ByteArray.size]
/-- The pieces of a string between the bytes `c`. -/
def piecesS (c : UInt8) (s : ByteArray) : List ByteArray := (splitL c s.data.toList).map bytesOf
theorem splitB_pieces (c : UInt8) (s : ByteArray) : Lib.splitB ⟨#[c]⟩ 0 (Lib.countB s ⟨#[c]⟩) s = piecesS c s := by
  have h := Lib.splitB_data ⟨#[c]⟩ 0 (Lib.countB s ⟨#[c]⟩) s
  have e : Lib.splitK [c] 0 (Lib.countB s ⟨#[c]⟩) s.data.toList = splitL c s.data.toList := splitK_one c _ _ rfl
  have h2 : (Lib.splitB ⟨#[c]⟩ 0 (Lib.countB s ⟨#[c]⟩) s).map (·.data.toList) = splitL c s.data.toList := h.trans e
  unfold piecesS
  rw [← h2, List.map_map]
  have : (bytesOf ∘ fun (x : ByteArray) => x.data.toList) = id := by funext x; exact bytesOf_data x
  rw [this, List.map_id]
theorem countB_pieces (c : UInt8) (s : ByteArray) : Lib.countB s ⟨#[c]⟩ + 1 = (piecesS c s).length := by
  rw [← splitB_pieces]
  exact (Lib.splitB_all ⟨#[c]⟩ (show 1 ≤ (⟨#[c]⟩ : ByteArray).size from Nat.le_refl 1) 0 _ s rfl).symm
theorem splitL_length_le (c : UInt8) : ∀ l, (splitL c l).length ≤ l.length + 1
  | [] => by simp [splitL]
  | b :: l => by
    have ih := splitL_length_le c l
    unfold splitL
    split
    · simp; omega
    · split
      · simp
      · rename_i h; rw [h] at ih; simp at ih ⊢; omega
theorem piecesS_length_le (c : UInt8) (s : ByteArray) : (piecesS c s).length ≤ s.size + 1 := by
  have h := splitL_length_le c s.data.toList
  rw [Array.length_toList] at h
  unfold piecesS
  rw [List.length_map]
  exact h
def strCells (L : List ByteArray) : List Value := L.map Value.string
theorem strCells_get {L : List ByteArray} {k : Nat} (h : k < L.length) : (strCells L)[k]? = some (.string L[k]) := by simp [strCells, h]
theorem strCells_snoc (L : List ByteArray) (x : ByteArray) : strCells (L ++ [x]) = strCells L ++ [.string x] := by simp [strCells]
theorem info_str : (Tryz.prog.info? 9).map (fun i => (i.zero, i.size, i.bytes)) = some (some (.string ByteArray.empty), 1, 16) := by kernel_rfl
theorem info_str' : ∃ i, Tryz.prog.info? 9 = some i ∧ i.zero = some (.string ByteArray.empty) ∧ i.size = 1 ∧ i.bytes = 16 := by
  have h := info_str
  cases hi : Tryz.prog.info? 9 with
  | none => rw [hi] at h; cases h
  | some i =>
    rw [hi] at h
    simp only [Option.map_some, Option.some.injEq, Prod.mk.injEq] at h
    exact ⟨i, rfl, h.1, h.2.1, h.2.2⟩
/-- strings.Split at a separator of one byte. -/
theorem split_any (c : UInt8) (s : ByteArray) (w : World) (hx : Max w) (hs : s.size ≤ 1048576) :
    Calls Tryz.prog 29 #[.string s, .string ⟨#[c]⟩] w (RetOwn w 9 1 (piecesS c s).length (strCells (piecesS c s)) id) := by
  obtain ⟨m, hm⟩ := hx
  refine (Any.strings_Split { Tryz.laysM146 with } Tryz.laysM146.i9 s ⟨#[c]⟩ m w (by omega) hm (show 1 ≤ (⟨#[c]⟩ : ByteArray).size from Nat.le_refl 1)).mono ?_
  rintro e w' ⟨rfl, rfl⟩
  have hp := piecesS_length_le c s
  have h := World.ownsRow_lit (base := w.heap.size) (e := 9) (size := 1) w (strCells (piecesS c s)).toArray (piecesS c s).length (Nat.le_refl _) (by unfold maxLen; omega) (by simp [strCells])
  refine RetOwn.mk _ (by rw [countB_pieces]; rfl) ?_ ?_
  · rw [splitB_pieces, show Tryz.laysM146_ren.t 9 = 9 from by kernel_rfl]
    simpa [strCells] using h
  · exact bel_alloc (Below.refl _ _) _
theorem isEmpty_bytesOf (l : List UInt8) : (bytesOf l).toList.isEmpty = l.isEmpty := by
  rw [← decide_eq_emptyBytes, Bool.eq_iff_iff, decide_eq_true_eq, List.isEmpty_iff]
  constructor
  · intro h
    have := congrArg (fun (x : ByteArray) => x.data.toList) h
    simpa [bytesOf] using this
  · rintro rfl
    rfl
theorem mem_splitL {c : UInt8} : ∀ {l x : List UInt8}, x ∈ splitL c l → x.length ≤ l.length
  | [], x, h => by simp [splitL] at h; subst h; simp
  | b :: l, x, h => by
    unfold splitL at h
    split at h
    · rcases List.mem_cons.1 h with rfl | h
      · simp
      · have := mem_splitL h; simp; omega
    · split at h
      · simp at h; subst h; simp
      · rename_i y r hy
        rcases List.mem_cons.1 h with rfl | h
        · have := mem_splitL (c := c) (l := l) (x := y) (by rw [hy]; simp); simp; omega
        · have := mem_splitL (c := c) (l := l) (x := x) (by rw [hy]; simp [h]); simp; omega
theorem piecesS_size {c : UInt8} {s t : ByteArray} (h : t ∈ piecesS c s) : t.size ≤ s.size := by
  obtain ⟨l, hl, rfl⟩ := List.mem_map.1 h
  have := mem_splitL hl
  rw [size_bytesOf]
  rw [Array.length_toList] at this
  exact this
end Go.Proofs.YtfjlilpebhiogaaGreatDoor

/- append onto a row of the call's own, whatever its source; the world behind it as a later one. -/
set_option linter.unusedSimpArgs false
set_option linter.unusedVariables false
namespace Go.Proofs.YtfjlilpebhiogaaGreatDoor
open Go.RowKit
theorem Row.at_block {w : World} {g o : Nat} {cs : Array Value} {e : TypeId} {fr : Nat × Nat} {xs : List Value} (h : w.heap[g]? = some (.cells cs e fr)) (hx : ∀ j v, xs[j]? = some v → cs[o + j]? = some v) : Row w (some ⟨g, o, none⟩) xs := fun j v hj => by
  refine ⟨_, _, rfl, ?_⟩
  simp [World.cell?, h, hx j v hj]
theorem Row.made (w : World) (cs : Array Value) (e : TypeId) : Row (w.alloc (.cells cs e)) (some ⟨w.heap.size, 0, none⟩) cs.toList :=
  Row.at_block (heap_alloc_new w _) fun j v hj => by simpa using hj
theorem Row.madeAt {w : World} {cs : Array Value} {e : TypeId} {n : Nat} {xs : List Value} (hn : n = w.heap.size) (hx : xs = cs.toList) : Row (w.alloc (.cells cs e)) (some ⟨n, 0, none⟩) xs := by subst hn hx; exact Row.made _ _ _
theorem Row.sub {w : World} {a : Option Addr} {xs ys : List Value} (h : Row w a xs) (hs : ∀ (j : Nat) (v : Value), ys[j]? = some v → xs[j]? = some v) : Row w a ys := fun j v hj => h j v (hs j v hj)
section
variable {P : Program} (w : World)
theorem run_append_from_nil (base : Nat) (t ty e : TypeId) (i : TypeInfo) (size : Nat) (ht : P.underlying t = some (.slice e)) (hi : P.info? e = some i)
    (v : Value) (n : Nat) (xs : List Value) (hown : w.ownsRow base e size v n xs) (c : Nat) : (Builtin.append_ #[t, t] ty #[v, .slice none 0 c]).run P w = .ok v w := by
  rcases hown.2 with ⟨rfl, rfl⟩ | ⟨g, cap, cur, rfl, _, _, hnc, _⟩
  · simp [Builtin.append_, run_underlying ht, sizeOf, typeInfo, hi, Builtin.lenOf, Builtin.firstCells]
  · simp [Builtin.append_, run_underlying ht, sizeOf, typeInfo, hi, Builtin.lenOf, Builtin.firstCells, hnc, storeCells]
theorem run_append_row (base : Nat) (t ty e : TypeId) (i : TypeInfo) (z : Value) (size bytes : Nat) (ht : P.underlying t = some (.slice e)) (hi : P.info? e = some i) (hz : i.zero = some z)
    (hsize : i.size = size) (hby : i.bytes = bytes) (hzs : z.cells.size = size) (hsz : 0 < size)
    (v : Value) (n : Nat) (xs : List Value) (hown : w.ownsRow base e size v n xs)
    (A : Option Addr) (m c : Nat) (news : List Value) (hl : news.length = m * size) (hr : Row w A news) (h1 : ∀ u ∈ news, u.oneCell' = true)
    (h63 : n + m ≤ maxLen) (hbytes : (n + m) * bytes ≤ 140737488355328) (hbase : base ≤ w.heap.size) :
    ∃ v' w', (Builtin.append_ #[t, t] ty #[v, .slice A m c]).run P w = .ok v' w' ∧ w'.ownsRow base e size v' (n + m) (xs ++ news) ∧ w.grownBy w' v.ownBlock ∧ (v'.ownBlock = v.ownBlock ∨ v'.ownBlock = some w.heap.size) := by
  rcases A with _ | ad
  · have hn : news = [] := by
      cases news with
      | nil => rfl
      | cons x r =>
        obtain ⟨b, o, h, _⟩ := hr 0 x rfl
        cases h
    subst hn
    have hm : m = 0 := by
      rcases Nat.eq_zero_or_pos m with h0 | h0
      · exact h0
      · have h2 := Nat.mul_pos h0 hsz
        simp at hl
        omega
    subst hm
    exact ⟨v, w, run_append_from_nil w base t ty e i size ht hi v n xs hown c, by simpa using hown, World.grownBy.refl w _, .inl rfl⟩
  · have hcells : ∀ j u, news[j]? = some u → w.cell? (ad.add j) = some u := by
      intro j u hu
      obtain ⟨b, o, h, hc⟩ := hr j u hu
      injection h with h
      subst h
      by_cases hj : j = 0
      · subst hj; simpa [Addr.add] using hc
      · simpa [Addr.add, hj] using hc
    obtain ⟨v', w', hrun, h2, h3, _, h5⟩ := run_append_own_at (P := P) w base t ty e i z size bytes ht hi hz hsize hby hzs hsz v n xs hown ad m c news hl hcells h1 h63 hbytes hbase
    exact ⟨v', w', hrun, h2, h3, h5⟩
/-- append: the row stays the call's own; the blocks of `W` are as they were. -/
theorem wpList_append_later {ops : Array Oper} {rest : List Oper} {o : Oper} {ac : Act} {Q : Exit → Act → World → Prop} (hgd : o.guard = none) (s x : Operand) (t : TypeId)
    (ho : o.op = .call { callee := .builtin .append, args := #[s, x], argTypes := #[t, t] })
    (e : TypeId) (i : TypeInfo) (z : Value) (size bytes : Nat) (ht : P.underlying t = some (.slice e)) (hi : P.info? e = some i) (hz : i.zero = some z)
    (hsize : i.size = size) (hby : i.bytes = bytes) (hzs : z.cells.size = size) (hsz : 0 < size)
    (W : World) (hb : Below W.heap.size W w)
    (a : Option Addr) (n cap : Nat) (xs : List Value) (hs : ac.eval s = .slice a n cap) (hown : w.ownsRow W.heap.size e size (.slice a n cap) n xs)
    (A : Option Addr) (m c : Nat) (news : List Value) (hx : ac.eval x = .slice A m c) (hl : news.length = m * size) (hr : Row w A news) (h1 : ∀ u ∈ news, u.oneCell' = true)
    (h63 : n + m ≤ maxLen) (hbytes : (n + m) * bytes ≤ 140737488355328)
    (h : ∀ a' c' (x : Later W), x.w.ownsRow W.heap.size e size (.slice a' (n + m) c') (n + m) (xs ++ news) → wpList P ops Q rest (ac.put o.dst (.slice a' (n + m) c')) x.w) :
    wpList P ops Q (o :: rest) ac w :=
  wpList_plain hgd fun _ hK => by
    obtain ⟨v', w', hrun, h2, h3, _⟩ := run_append_row (P := P) w W.heap.size t o.type e i z size bytes ht hi hz hsize hby hzs hsz _ n xs hown A m c news hl hr h1 h63 hbytes hb.size
    obtain ⟨a', c', rfl⟩ := own_form h2
    have hb' : Below W.heap.size W w' := hb.grown h3 hb.size fun k hk => (hown.lt k hk).1
    unfold Oper.wp execOp
    simp only [ho, resolve, invoke, builtin, Sem.run_bind, Sem.run_pure, Result.andThen_ok, List.map_toArray, List.map_cons, List.map_nil, hs, hx, hrun]
    exact hK _ _ (h a' c' ⟨w', hb'⟩ h2)
theorem btw_beyond {lo hi lo' hi' : Nat} {a W : World} (x : After W lo' hi') (h : Between lo hi a W) (hl : a.heap.size ≤ lo') : Between lo hi a x.w :=
  ⟨x.btw.os.trans h.os, x.btw.tape.trans h.tape, x.btw.output.trans h.output, Nat.le_trans h.size x.btw.size, fun k hk ho => (x.btw.block k (Nat.lt_of_lt_of_le hk h.size) (.inl (Nat.lt_of_lt_of_le hk hl))).trans (h.block k hk ho)⟩
end
end Go.Proofs.YtfjlilpebhiogaaGreatDoor

/- Words and phrases, the reference's way. -/
set_option linter.unusedSimpArgs false
set_option linter.unusedVariables false
namespace Go.Proofs.YtfjlilpebhiogaaGreatDoor
open Go.RowKit
theorem byteAt {s : ByteArray} {k : Nat} (h : k < s.size) : s.data.toList[k]? = some s[k] := by
  rw [List.getElem?_eq_getElem (by rw [Array.length_toList]; exact h)]
  rfl
theorem extract_list (s : ByteArray) (f i : Nat) (h : i ≤ s.size) : (s.extract f i).data.toList = (s.data.toList.drop f).take (i - f) := by
  rw [Lib.extract_data]
/-- What a cut at every `c` keeps true: `O` the pieces so far, `f` where the next begins. -/
def Cut (c : UInt8) (s : ByteArray) (i f : Nat) (O : List ByteArray) : Prop :=
  (i ≤ s.size ∧ f ≤ i ∧ c ∉ (s.data.toList.drop f).take (i - f) ∧ O.map (·.data.toList) ++ splitL c (s.data.toList.drop f) = splitL c s.data.toList) ∨ (i = s.size + 1 ∧ f = s.size + 1 ∧ O = piecesS c s)
theorem pieces_of_map {c : UInt8} {s : ByteArray} {O : List ByteArray} (h : O.map (·.data.toList) = splitL c s.data.toList) : O = piecesS c s := by
  unfold piecesS
  rw [← h, List.map_map]
  have : (bytesOf ∘ fun (x : ByteArray) => x.data.toList) = id := by funext x; exact bytesOf_data x
  rw [this, List.map_id]
theorem Cut.start (c : UInt8) (s : ByteArray) : Cut c s 0 0 [] := .inl ⟨Nat.zero_le _, Nat.le_refl _, by simp, by simp⟩
theorem Cut.pass {c : UInt8} {s : ByteArray} {i f : Nat} {O : List ByteArray} (h : Cut c s i f O) (hi : i < s.size) (hc : s[i] ≠ c) : Cut c s (i + 1) f O := by
  rcases h with ⟨h1, h2, h3, h4⟩ | ⟨h1, _⟩
  · refine .inl ⟨hi, by omega, ?_, h4⟩
    rw [show i + 1 - f = (i - f) + 1 by omega, List.take_add_one, List.getElem?_drop, show f + (i - f) = i by omega, byteAt hi]
    simp only [List.mem_append, Option.toList_some, List.mem_singleton]
    rintro (h | h)
    · exact h3 h
    · exact hc h.symm
  · omega
theorem Cut.hit {c : UInt8} {s : ByteArray} {i f : Nat} {O : List ByteArray} (h : Cut c s i f O) (hi : i < s.size) (hc : s[i] = c) : Cut c s (i + 1) (i + 1) (O ++ [s.extract f i]) := by
  rcases h with ⟨h1, h2, h3, h4⟩ | ⟨h1, _⟩
  · refine .inl ⟨hi, by omega, by simp, ?_⟩
    have e : s.data.toList.drop f = (s.data.toList.drop f).take (i - f) ++ c :: s.data.toList.drop (i + 1) := by
      have e1 : s.data.toList.drop i = c :: s.data.toList.drop (i + 1) := by
        rw [List.drop_eq_getElem_cons (by rw [Array.length_toList]; exact hi)]
        congr 1
      conv => lhs; rw [← List.take_append_drop (i - f) (s.data.toList.drop f)]
      rw [List.drop_drop, show f + (i - f) = i by omega, e1]
    rw [← h4, List.map_append, List.append_assoc]
    congr 1
    rw [e, splitL_hit h3]
    simp [extract_list s f i h1]
  · omega
theorem Cut.last {c : UInt8} {s : ByteArray} {f : Nat} {O : List ByteArray} (h : Cut c s s.size f O) : Cut c s (s.size + 1) (s.size + 1) (O ++ [s.extract f s.size]) := by
  rcases h with ⟨h1, h2, h3, h4⟩ | ⟨h1, _⟩
  · refine .inr ⟨rfl, rfl, pieces_of_map ?_⟩
    have e : (s.data.toList.drop f).take (s.size - f) = s.data.toList.drop f := List.take_of_length_le (by rw [List.length_drop, Array.length_toList]; exact Nat.le_refl _)
    rw [e] at h3
    rw [← h4, splitL_miss h3, List.map_append]
    simp [extract_list s f s.size (Nat.le_refl _), e]
  · omega
set_option maxRecDepth 4000 in
set_option maxHeartbeats 1000000 in
theorem l01Split_any (s : ByteArray) (c : UInt8) (w : World) (hs : s.size ≤ 1048576) :
    Calls Tryz.prog 33 #[.string s, .int .u8 c.toNat] w (RetOwn w 9 1 (piecesS c s).length (strCells (piecesS c s)) id) := by
  obtain ⟨ii, j1, j2, j3, j4⟩ := info_str'
  have Jii := Lib.hid (And.intro j1 (And.intro j2 (And.intro j3 j4)))
  clear j1 j2 j3 j4
  go_enter Tryz.func33, Tryz.ntmps33
  go_wp2_with fail
  go_loopw [5, 6, 7] (fun t5 t6 t7 wr => ∃ (i f : Nat) (O : List ByteArray) (a : Option Addr) (c5 : Nat), t5 = .slice a O.length c5 ∧ t6 = .int .i64 f ∧ t7 = .int .i64 i ∧ f ≤ i ∧ i ≤ s.size + 1 ∧ O.length ≤ i ∧ Cut c s i f O ∧ wr.ownsRow w.heap.size 9 1 (.slice a O.length c5) O.length (strCells O) ∧ ∃ z : Later w, wr = z.w) (fun _ _ t7 _ => s.size + 1 - (intOf t7).toNat)
  case atStart => exact ⟨0, 0, [], _, _, rfl, rfl, rfl, Nat.le_refl _, Nat.zero_le _, Nat.le_refl _, Cut.start c s, World.ownsRow_lit w #[] 0 (Nat.le_refl _) (by unfold maxLen; omega) rfl, ⟨_, bel_alloc (Below.refl _ _) _⟩, rfl⟩
  case round =>
    obtain ⟨i, f, O, a, c5, rfl, rfl, rfl, hf, hi, hO, hC, hown, z, rfl⟩ := hrel
    replace hC := Lib.hid hC
    replace hown := Lib.hid hown
    by_cases h1 : i < s.size
    · have hne : ((i : Int) == (s.size : Int)) = false := by rw [beq_eq_false_iff_ne]; omega
      by_cases hc : s[i] = c
      · have hcc : ((s[i].toNat : Int) == (c.toNat : Int)) = true := by rw [hc]; simp
        have X := Lib.hid (hC.out.hit h1 hc)
        replace hc := Lib.hid hc
        go_wp2_with (at_builtin; (refine wpList_append_later _ rfl _ _ _ rfl 9 ii _ 1 16 Tryz.underlying52 Jii.out.1 Jii.out.2.1 Jii.out.2.2.1 Jii.out.2.2.2 rfl (by decide) (w) ?qa1 _ _ _ (strCells O) rfl ?qa2 _ _ _ ([.string (s.extract f i)]) rfl ?qa3 ?qa4 ?qa5 ?qa6 ?qa7 ?_); (case qa1 => (repeat (first | (with_reducible exact Below.refl _ _) | (with_reducible assumption) | (with_reducible refine Later.out _ ?_) | (with_reducible refine bel_alloc ?_ _) | (with_reducible refine bel_drew ?_) | (with_reducible refine bel_drewN ?_ _) | (with_reducible refine bel_set ?_ ?_ _) | (with_reducible refine After.out _ ?_ ?_) | (dsimp only; omega) | omega | (simp only [World.size_alloc, World.size_setCell, World.size_drew]; omega)))); (case qa2 => exact own_bel hown.out (by (repeat (first | (with_reducible exact Below.refl _ _) | (with_reducible assumption) | (with_reducible refine Later.out _ ?_) | (with_reducible refine bel_alloc ?_ _) | (with_reducible refine bel_drew ?_) | (with_reducible refine bel_drewN ?_ _) | (with_reducible refine bel_set ?_ ?_ _) | (with_reducible refine After.out _ ?_ ?_) | (dsimp only; omega) | omega | (simp only [World.size_alloc, World.size_setCell, World.size_drew]; omega))))); (case qa3 => (first | rfl | (simp [boolCells]; done) | (simp [intCells]; done) | (simp; done) | (first | omega | (simp only [List.length_append, List.length_cons, List.length_nil]; omega)))); (case qa4 => exact Row.made _ _ _); (case qa5 => (intro u hu; simp at hu; subst hu; rfl)); (case qa6 => (unfold maxLen; (first | omega | (simp only [List.length_append, List.length_cons, List.length_nil]; omega)))); (case qa7 => (first | omega | (simp only [List.length_append, List.length_cons, List.length_nil]; omega))); intro a' c' x hown')
        replace hown' := Lib.hid hown'
        go_roundw
        case rel => exact ⟨i + 1, i + 1, O ++ [s.extract f i], a', c', by simp, by go_num, by go_num, Nat.le_refl _, by omega, by simp; omega, X.out, by rw [strCells_snoc]; simpa using hown'.out, x, rfl⟩
        case measure => first | (simp [intOf]; done) | (simp [intOf]; omega) | omega
      · have hcc : ((s[i].toNat : Int) == (c.toNat : Int)) = false := by
          rw [beq_eq_false_iff_ne]; intro h
          exact hc (UInt8.toNat_inj.1 (by omega))
        have X := Lib.hid (hC.out.pass h1 hc)
        replace hc := Lib.hid hc
        go_wp2_with fail
        go_roundw
        case rel => exact ⟨i + 1, f, O, a, c5, rfl, rfl, by go_num, by omega, by omega, by omega, X.out, hown.out, z, rfl⟩
        case measure => first | (simp [intOf]; done) | (simp [intOf]; omega) | omega
    · by_cases h2 : i = s.size
      · subst h2
        have X := Lib.hid hC.out.last
        have hne : ((s.size : Int) == (s.size : Int)) = true := by simp
        go_wp2_with (at_builtin; (refine wpList_append_later _ rfl _ _ _ rfl 9 ii _ 1 16 Tryz.underlying52 Jii.out.1 Jii.out.2.1 Jii.out.2.2.1 Jii.out.2.2.2 rfl (by decide) (w) ?qa8 _ _ _ (strCells O) rfl ?qa9 _ _ _ ([.string (s.extract f s.size)]) rfl ?qa10 ?qa11 ?qa12 ?qa13 ?qa14 ?_); (case qa8 => (repeat (first | (with_reducible exact Below.refl _ _) | (with_reducible assumption) | (with_reducible refine Later.out _ ?_) | (with_reducible refine bel_alloc ?_ _) | (with_reducible refine bel_drew ?_) | (with_reducible refine bel_drewN ?_ _) | (with_reducible refine bel_set ?_ ?_ _) | (with_reducible refine After.out _ ?_ ?_) | (dsimp only; omega) | omega | (simp only [World.size_alloc, World.size_setCell, World.size_drew]; omega)))); (case qa9 => exact own_bel hown.out (by (repeat (first | (with_reducible exact Below.refl _ _) | (with_reducible assumption) | (with_reducible refine Later.out _ ?_) | (with_reducible refine bel_alloc ?_ _) | (with_reducible refine bel_drew ?_) | (with_reducible refine bel_drewN ?_ _) | (with_reducible refine bel_set ?_ ?_ _) | (with_reducible refine After.out _ ?_ ?_) | (dsimp only; omega) | omega | (simp only [World.size_alloc, World.size_setCell, World.size_drew]; omega))))); (case qa10 => (first | rfl | (simp [boolCells]; done) | (simp [intCells]; done) | (simp; done) | (first | omega | (simp only [List.length_append, List.length_cons, List.length_nil]; omega)))); (case qa11 => exact Row.made _ _ _); (case qa12 => (intro u hu; simp at hu; subst hu; rfl)); (case qa13 => (unfold maxLen; (first | omega | (simp only [List.length_append, List.length_cons, List.length_nil]; omega)))); (case qa14 => (first | omega | (simp only [List.length_append, List.length_cons, List.length_nil]; omega))); intro a' c' x hown')
        replace hown' := Lib.hid hown'
        go_roundw
        case rel => exact ⟨s.size + 1, s.size + 1, O ++ [s.extract f s.size], a', c', by simp, by go_num, by go_num, Nat.le_refl _, Nat.le_refl _, by simp; omega, X.out, by rw [strCells_snoc]; simpa using hown'.out, x, rfl⟩
        case measure => first | (simp [intOf]; done) | (simp [intOf]; omega) | omega
      · obtain rfl : i = s.size + 1 := by omega
        have hP : O = piecesS c s := by
          rcases hC.out with ⟨h, _⟩ | ⟨_, _, h⟩
          · omega
          · exact h
        subst hP
        go_wp2_with fail
        go_ret
        exact RetOwn.mk _ rfl hown.out z.bel
/-- The call returned `f v` for some `v`. -/
def RetSome (w : World) (f : Value → Value) (e : Ending) (w' : World) : Prop := ∃ v, e = .returned (f v) ∧ ∃ y : Later w, w' = y.w
theorem RetSome.mk {w w' : World} {f : Value → Value} {e : Ending} (v : Value) (h : e = .returned (f v)) (hb : Below w.heap.size w w') : RetSome w f e w' := ⟨v, h, ⟨w', hb⟩, rfl⟩
end Go.Proofs.YtfjlilpebhiogaaGreatDoor

/- Texts compared. -/
set_option linter.unusedSimpArgs false
set_option linter.unusedVariables false
namespace Go.Proofs.YtfjlilpebhiogaaGreatDoor
open Go.RowKit
theorem beq_bytes (a b : ByteArray) : (a == b) = decide (a = b) := by
  cases a; cases b
  rename_i x y
  show (x == y) = _
  by_cases h : x = y
  · subst h; simp
  · have h1 : (x == y) = false := by rw [beq_eq_false_iff_ne]; exact h
    rw [h1]; simp [h]
theorem toList_eq (a b : ByteArray) : (a.toList == b.toList) = decide (a = b) := by rw [← beq_toListBytes, beq_bytes]
end Go.Proofs.YtfjlilpebhiogaaGreatDoor

/- Is it a claim: both sides. -/
set_option linter.unusedSimpArgs false
set_option linter.unusedVariables false
namespace Go.Proofs.YtfjlilpebhiogaaGreatDoor
open Go.RowKit
section
variable (f t : Int) (w : World)
end
section
variable (c : Clm) (w : World)
end
end Go.Proofs.YtfjlilpebhiogaaGreatDoor

/- Is it a claim, the reference's way; facts. -/
set_option linter.unusedSimpArgs false
set_option linter.unusedVariables false
namespace Go.Proofs.YtfjlilpebhiogaaGreatDoor
open Go.RowKit
section
variable (c : Clm) (w : World)
end
end Go.Proofs.YtfjlilpebhiogaaGreatDoor

/- The law IsClaim; sizes and copies of claims. -/
set_option linter.unusedSimpArgs false
set_option linter.unusedVariables false
namespace Go.Proofs.YtfjlilpebhiogaaGreatDoor
open Go.RowKit
section
variable (c : Clm) (left : Int) (w : World)
end
end Go.Proofs.YtfjlilpebhiogaaGreatDoor
