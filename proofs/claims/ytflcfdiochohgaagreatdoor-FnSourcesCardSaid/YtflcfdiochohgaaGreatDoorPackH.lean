import Derived.Test.YtflcfdiochohgaaGreatDoorPackAb
import Derived.Test.YtflcfdiochohgaaGreatDoorPackA
import Derived.Lib.SliceRun
import Derived.Test.YtflcfdiochohgaaGreatDoorPackC
import Derived.Laws.IdiomCopy
import Derived.Test.YtflcfdiochohgaaGreatDoorPackB
import Derived.Test.YtflcfdiochohgaaGreatDoorPackD
import Derived.Test.YtflcfdiochohgaaGreatDoorPackGa
import Derived.Test.YtflcfdiochohgaaGreatDoorPackEa
/- Several of my texts, one behind the other: CloneC, Del, From, FewS, PickS, SmsI, SmsS, SmsT. -/
/- slices.Clone of claims. -/
set_option linter.unusedSimpArgs false
set_option linter.unusedVariables false
namespace Go.Proofs.YtflcfdiochohgaaGreatDoor
open Go.RowKit
theorem Row.none {w : World} {xs : List Value} (h : Row w none xs) : xs = [] := by
  cases xs with
  | nil => rfl
  | cons x r => obtain ⟨b, o, h, _⟩ := h 0 x rfl; cases h
theorem clms_nil {L : List Clm} (h : clmsCells L = []) : L = [] := by
  have := length_clmsCells L
  rw [h] at this
  cases L with
  | nil => rfl
  | cons c L => simp at this
set_option maxRecDepth 4000 in
set_option maxHeartbeats 400000 in
theorem cloneClm_any (L : List Clm) (a : Option Addr) (n c : Nat) (w : World) (hn : L.length = n) (hm : n ≤ 1048576) (hr : Row w a (clmsCells L)) :
    Calls Tryz.prog 186 #[.slice a n c] w (RetOwn w 27 7 n (clmsCells L) id) := by
  subst hn
  cases a with
  | none =>
    obtain rfl := clms_nil hr.none
    have heq := fun w => Lib.run_eql_slice_nil (P := Tryz.prog) w 32 27 none 0 c 0 0 Tryz.underlying32
    go_enter Tryz.func186, Tryz.ntmps186
    go_wp2_with fail
    go_ret
    exact RetOwn.mk (.slice none 0 0) rfl (World.ownsRow_nil _ _ _ _) (by (repeat (first | (with_reducible exact Below.refl _ _) | (with_reducible assumption) | (with_reducible refine Later.out _ ?_) | (with_reducible refine bel_alloc ?_ _) | (with_reducible refine bel_drew ?_) | (with_reducible refine bel_drewN ?_ _) | (with_reducible refine bel_set ?_ ?_ _) | (with_reducible refine After.out _ ?_ ?_) | (dsimp only; omega) | omega | (simp only [World.size_alloc, World.size_setCell, World.size_drew]; omega))))
  | some p =>
    obtain ⟨ii, j1, j2, j3, j4⟩ := info_claim'
    have Jii := Lib.hid (And.intro j1 (And.intro j2 (And.intro j3 j4)))
    have HR := Lib.hid hr
    have hl7 := length_clmsCells L
    clear j1 j2 j3 j4 hr
    have heq := fun w => Lib.run_eql_slice_nil (P := Tryz.prog) w 32 27 (some p) L.length c 0 0 Tryz.underlying32
    go_enter Tryz.func186, Tryz.ntmps186
    go_wp2_with (at_builtin; (refine wpList_append_later _ rfl _ _ _ rfl 27 ii _ 7 80 Tryz.underlying32 Jii.out.1 Jii.out.2.1 Jii.out.2.2.1 Jii.out.2.2.2 rfl (by decide) (w) ?qa1 _ _ _ ([]) rfl ?qa2 _ _ _ (clmsCells L) rfl ?qa3 ?qa4 ?qa5 ?qa6 ?qa7 ?_); (case qa1 => (repeat (first | (with_reducible exact Below.refl _ _) | (with_reducible assumption) | (with_reducible refine Later.out _ ?_) | (with_reducible refine bel_alloc ?_ _) | (with_reducible refine bel_drew ?_) | (with_reducible refine bel_drewN ?_ _) | (with_reducible refine bel_set ?_ ?_ _) | (with_reducible refine After.out _ ?_ ?_) | (dsimp only; omega) | omega | (simp only [World.size_alloc, World.size_setCell, World.size_drew]; omega)))); (case qa2 => exact World.ownsRow_lit w #[] 0 (Nat.le_refl _) (by unfold maxLen; omega) rfl); (case qa3 => (first | rfl | (simp [boolCells]; done) | (simp [intCells]; done) | (simp; done) | (first | omega | (simp only [List.length_append, List.length_cons, List.length_nil]; omega)))); (case qa4 => exact HR.out.bel (by (repeat (first | (with_reducible exact Below.refl _ _) | (with_reducible assumption) | (with_reducible refine Later.out _ ?_) | (with_reducible refine bel_alloc ?_ _) | (with_reducible refine bel_drew ?_) | (with_reducible refine bel_drewN ?_ _) | (with_reducible refine bel_set ?_ ?_ _) | (with_reducible refine After.out _ ?_ ?_) | (dsimp only; omega) | omega | (simp only [World.size_alloc, World.size_setCell, World.size_drew]; omega))))); (case qa5 => exact one_clm L); (case qa6 => (unfold maxLen; (first | omega | (simp only [List.length_append, List.length_cons, List.length_nil]; omega)))); (case qa7 => (first | omega | (simp only [List.length_append, List.length_cons, List.length_nil]; omega))); intro a' c' x hown)
    simp only [Nat.zero_add, List.nil_append] at hown
    have HO := Lib.hid hown
    clear hown
    go_ret
    exact RetOwn.mk _ rfl HO.out x.bel
end Go.Proofs.YtflcfdiochohgaaGreatDoor

/- slices.DeleteFunc of claims. -/
set_option linter.unusedSimpArgs false
set_option linter.unusedVariables false
namespace Go.Proofs.YtflcfdiochohgaaGreatDoor
open Go.RowKit
/-- What a function value must do for a list: tell `p` of each of its claims, in every world in which the blocks below `lo` are as they were. -/
def TellsLo (lo g : Nat) (lb : Array Value) (p : Clm → Bool) (L : List Clm) (w : World) : Prop :=
  ∀ c ∈ L, ∀ w' : World, Below lo w w' → Calls Tryz.prog g (#[clmV c] ++ lb) w' (Ret w' (.bool (p c)))
theorem clms_set {c : Clm} : ∀ {M : List Clm} {i : Nat}, i < M.length → clmsCells (M.set i c) = (((((((clmsCells M).set (i * 7) (.string c.src)).set (i * 7 + 1) (.int .i64 c.kind)).set (i * 7 + 2) (.string c.place)).set (i * 7 + 3) (.string c.val)).set (i * 7 + 4) (.int .i64 c.fr)).set (i * 7 + 5) (.int .i64 c.to)).set (i * 7 + 6) (.int .i64 c.wt)
  | [], i, h => by simp at h
  | d :: M, 0, _ => rfl
  | d :: M, i + 1, h => by
    have ih := clms_set (c := c) (M := M) (i := i) (by simpa using h)
    have hl : (clmCells d).length = 7 := rfl
    have step : ∀ (xs : List Value) (j : Nat) (v : Value), (clmCells d ++ xs).set ((i + 1) * 7 + j) v = clmCells d ++ xs.set (i * 7 + j) v := fun xs j v => by
      rw [List.set_append_right _ _ (by omega), hl, show (i + 1) * 7 + j - 7 = i * 7 + j by omega]
    show clmCells d ++ clmsCells (M.set i c) = _
    rw [show clmsCells (d :: M) = clmCells d ++ clmsCells M from rfl, ih]
    have s0 := step (clmsCells M) 0 (.string c.src)
    simp only [Nat.add_zero] at s0
    rw [s0, step, step, step, step, step, step]
theorem clms_take : ∀ (M : List Clm) (i : Nat), (clmsCells M).take (i * 7) = clmsCells (M.take i)
  | [], i => by simp [clmsCells]
  | d :: M, 0 => by simp [clmsCells]
  | d :: M, i + 1 => by
    have hl : (clmCells d).length = 7 := rfl
    have e1 : (clmCells d).length ≤ (i + 1) * 7 := by rw [hl]; omega
    have e2 : (i + 1) * 7 - (clmCells d).length = i * 7 := by rw [hl]; omega
    show (clmCells d ++ clmsCells M).take ((i + 1) * 7) = clmCells d ++ clmsCells (M.take i)
    rw [List.take_append, List.take_of_length_le e1, e2, clms_take M i]
theorem Owns.setCells {lo hi e s n g c o0 : Nat} : ∀ (vs : List Value) (o : Nat) (w : World) (xs : List Value), o0 ≤ o → Owns w lo hi e s n (some ⟨g, 0, none⟩) c xs → ∃ ys, Owns (w.setCells g o vs) lo hi e s n (some ⟨g, 0, none⟩) c ys ∧ ys.take o0 = xs.take o0
  | [], o, w, xs, _, h => ⟨xs, h, rfl⟩
  | v :: vs, o, w, xs, ho, h => by
    obtain ⟨ys, h1, h2⟩ := Owns.setCells (o0 := o0) vs (o + 1) (w.setCell ⟨g, o, none⟩ v) (xs.set o v) (by omega) (h.set v)
    refine ⟨ys, h1, h2.trans ?_⟩
    rw [List.take_set_of_le ho]
theorem Between.setCells {lo hi g : Nat} {a : World} (h1 : lo ≤ g) (h2 : g < hi) : ∀ (vs : List Value) (o : Nat) (w : World), Between lo hi a w → Between lo hi a (w.setCells g o vs)
  | [], o, w, h => h
  | v :: vs, o, w, h => Between.setCells h1 h2 vs (o + 1) _ (h.set h1 h2 v)
theorem own_less {w : World} {base e s g n n' cap : Nat} {xs : List Value} (h : w.ownsRow base e s (.slice (some ⟨g, 0, none⟩) n cap) n xs) (hn : n' ≤ n) : w.ownsRow base e s (.slice (some ⟨g, 0, none⟩) n' cap) n' (xs.take (n' * s)) := by
  rcases h.2 with ⟨h0, _⟩ | ⟨g', cap', cur, hv, hg, hb, h1, h2, h3, h4⟩
  · cases h0
  · cases hv
    have h5 := h.1
    have h6 : n' * s ≤ n * s := Nat.mul_le_mul_right s hn
    refine ⟨by rw [List.length_take, h5]; omega, .inr ⟨g, cap, cur, rfl, hg, hb, by omega, h2, h3, ?_⟩⟩
    rw [← h4, List.take_take, Nat.min_eq_left h6]
theorem claim_cells {W : World} {lo hi g n c i : Nat} {xs : List Value} (h : Owns W lo hi 27 7 n (some ⟨g, 0, none⟩) c xs) (hi' : i < n) (j : Nat) (hj : j < 7) : (∃ u, W.cell? ⟨g, i * 7 + j, none⟩ = some u) ∧ W.frozen? ⟨g, i * 7 + j, none⟩ = false := by
  have h1 := h.own.1
  obtain ⟨g0, e0, -, -, kc, kf⟩ := h.at_ (j := i * 7 + j) (by omega)
  cases e0
  exact ⟨⟨_, by rw [kc, List.getElem?_eq_getElem (by omega)]⟩, kf⟩
/-- What is left of a list, in its own place. -/
structure Moved (p : Clm → Bool) (L M : List Clm) (i k : Nat) : Prop where
  len : M.length = L.length
  lt : i < k
  le : k ≤ L.length
  head : M.take i = (L.take k).filter fun c => !p c
  tail : M.drop k = L.drop k
theorem Moved.at_ {p : Clm → Bool} {L M : List Clm} {i k : Nat} (h : Moved p L M i k) (hk : k < L.length) : M[k]'(by rw [h.len]; exact hk) = L[k] := by
  have h1 := congrArg (fun l : List Clm => l[0]?) h.tail
  simp only [List.getElem?_drop, Nat.add_zero] at h1
  rw [List.getElem?_eq_getElem (by rw [h.len]; exact hk), List.getElem?_eq_getElem hk] at h1
  exact Option.some.inj h1
theorem Moved.skip {p : Clm → Bool} {L M : List Clm} {i k : Nat} (h : Moved p L M i k) (hk : k < L.length) (hp : p L[k] = true) : Moved p L M i (k + 1) :=
  ⟨h.len, by have := h.lt; omega, hk, by rw [h.head, List.take_succ_eq_append_getElem hk, List.filter_append]; simp [hp], by rw [← List.drop_drop, h.tail, List.drop_drop]⟩
theorem Moved.put {p : Clm → Bool} {L M : List Clm} {i k : Nat} (h : Moved p L M i k) (hk : k < L.length) (hp : p L[k] = false) : Moved p L (M.set i L[k]) (i + 1) (k + 1) := by
  have h1 := h.lt
  have h2 := h.len
  refine ⟨by simp [h.len], by omega, hk, ?_, ?_⟩
  · rw [List.take_succ_eq_append_getElem (by simp; omega), List.take_set_of_le (Nat.le_refl _), h.head, List.take_succ_eq_append_getElem hk, List.filter_append]
    simp [hp]
  · rw [List.drop_set_of_lt (by omega), ← List.drop_drop, h.tail, List.drop_drop]
theorem Moved.start {p : Clm → Bool} {L : List Clm} {i : Nat} (h : L.findIdx? p = some i) : Moved p L L i (i + 1) := by
  rw [List.findIdx?_eq_some_iff_getElem] at h
  obtain ⟨hi, h1, h2⟩ := h
  refine ⟨rfl, by omega, hi, ?_, rfl⟩
  rw [List.take_succ_eq_append_getElem hi, List.filter_append, List.filter_eq_self.2 ?_]
  · simp [h1]
  · intro c hc
    obtain ⟨j, hj, rfl⟩ := List.mem_iff_getElem.1 hc
    rw [List.length_take] at hj
    rw [List.getElem_take]
    simpa using h2 j (by omega)
/-- The call left of the caller's own claims those that are not told. -/
def RetDel (w : World) (lo : Nat) (a : Option Addr) (c : Nat) (K : List Clm) (e : Ending) (w' : World) : Prop :=
  e = .returned (.slice a K.length c) ∧ Owns w' lo w'.heap.size 27 7 K.length a c (clmsCells K) ∧ Below lo w w'
def zeroCs : Array Value := #[.string ByteArray.empty, .int .i64 0, .string ByteArray.empty, .string ByteArray.empty, .int .i64 0, .int .i64 0, .int .i64 0]
theorem clear_claims (w : World) (ty : TypeId) (g o n c : Nat) (hn : 0 < n) (hc : ∀ j, j < n * 7 → (w.cell? ⟨g, o + j, none⟩).isSome = true) (hf : ∀ j, j < n * 7 → w.frozen? ⟨g, o + j, none⟩ = false) :
    (Builtin.clear_ #[32] ty #[.slice (some ⟨g, o, none⟩) n c]).run Tryz.prog w = .ok (.tuple #[]) (w.setCells g o (Builtin.zeroCells zeroCs n).toList) := by
  have hzv : ∀ w, (zeroValue 27).run Tryz.prog w = .ok (.agg zeroCs) w := fun w => by kernel_rfl
  have hzc : (Value.agg zeroCs).cells = zeroCs := rfl
  have hlen : (Builtin.zeroCells zeroCs n).toList.length = n * 7 := by simp [Builtin.zeroCells, zeroCs]
  have h1 : ∀ v ∈ (Builtin.zeroCells zeroCs n).toList, v.oneCell' = true := by
    intro v hv
    simp only [Builtin.zeroCells, Array.toList_map, List.mem_map] at hv
    obtain ⟨i, _, rfl⟩ := hv
    have hi : i % zeroCs.size < 7 := Nat.mod_lt _ (by show 0 < 7; omega)
    generalize i % zeroCs.size = k at hi
    have : k = 0 ∨ k = 1 ∨ k = 2 ∨ k = 3 ∨ k = 4 ∨ k = 5 ∨ k = 6 := by omega
    rcases this with rfl | rfl | rfl | rfl | rfl | rfl | rfl <;> rfl
  have hst := run_storeCells_cells (P := Tryz.prog) g o (Builtin.zeroCells zeroCs n).toList 0 w (by rw [hlen]; simpa using hc) (by rw [hlen]; simpa using hf) h1
  simp only [Nat.add_zero] at hst
  obtain ⟨m, rfl⟩ : ∃ m, n = m + 1 := ⟨n - 1, by omega⟩
  have hst' : ∀ (hz : Array Value), hz = zeroCs → (storeCells ⟨g, o, none⟩ (Builtin.zeroCells hz (m + 1)).toList 0).run Tryz.prog w = .ok () (w.setCells g o (Builtin.zeroCells zeroCs (m + 1)).toList) := fun hz e => by subst e; exact hst
  simp [Builtin.clear_, run_underlying Tryz.underlying32, hzv]
  rw [hst' _ hzc]
  rfl
set_option maxRecDepth 8000 in
set_option maxHeartbeats 8000000 in
theorem deleteFunc_any (g : Nat) (lb : Array Value) (p : Clm → Bool) (L : List Clm) (a : Option Addr) (n c lo : Nat) (w : World) (eg : ∀ args w, (callFunc g args).run Tryz.prog w = .ok (.enter g args) w)
    (hn : L.length = n) (hm : n ≤ 1000) (hlo : lo ≤ w.heap.size) (h : Owns w lo w.heap.size 27 7 n a c (clmsCells L)) (hp : TellsLo lo g lb p L w) :
    Calls Tryz.prog 185 #[.slice a n c, .func (.func g) #[] lb] w (RetDel w lo a c (L.filter fun c => !p c)) := by
  subst hn
  have hT0 : Tells g #[] lb p L w := fun c hc w' hb => by simpa using hp c hc w' (hb.mono hlo)
  have CI := Lib.hid (fun (w' : World) hr (hb : Below w.heap.size w w') => indexFunc_any g #[] lb p L a L.length c w' eg rfl (by omega) hr (hT0.bel hb))
  have HO := Lib.hid h
  have CK := Lib.hid (fun i (hi : i < L.length) (w' : World) hb => hp L[i] (List.getElem_mem hi) w' hb)
  cases hv : L.findIdx? p with
  | none =>
    have hi : idxP p L = -1 := by simp [idxP, hv]
    rw [hi] at CI
    have hK : (L.filter fun c => !p c) = L := List.filter_eq_self.2 fun c hc => by
      rw [List.findIdx?_eq_none_iff] at hv
      rw [hv c hc]; rfl
    rw [hK]
    clear hv hi hK h hT0
    go_enter Tryz.func185, Tryz.ntmps185
    go_wp2_with fail
    with_reducible refine (CI.out _ (HO.out.row.bel (by (repeat (first | (with_reducible exact Below.refl _ _) | (with_reducible assumption) | (with_reducible refine Later.out _ ?_) | (with_reducible refine bel_alloc ?_ _) | (with_reducible refine bel_drew ?_) | (with_reducible refine bel_drewN ?_ _) | (with_reducible refine bel_set ?_ ?_ _) | (with_reducible refine After.out _ ?_ ?_) | (dsimp only; omega) | omega | (simp only [World.size_alloc, World.size_setCell, World.size_drew]; omega))))) (by (repeat (first | (with_reducible exact Below.refl _ _) | (with_reducible assumption) | (with_reducible refine Later.out _ ?_) | (with_reducible refine bel_alloc ?_ _) | (with_reducible refine bel_drew ?_) | (with_reducible refine bel_drewN ?_ _) | (with_reducible refine bel_set ?_ ?_ _) | (with_reducible refine After.out _ ?_ ?_) | (dsimp only; omega) | omega | (simp only [World.size_alloc, World.size_setCell, World.size_drew]; omega))))).mono ?_
    rintro e w' ⟨rfl, y1, rfl⟩
    have hsy1 := y1.bel.size
    (try simp only [World.size_alloc, World.size_setCell, World.size_drew] at hsy1)
    go_wp2_with fail
    go_ret
    exact ⟨rfl, (HO.out.bel (B := w.heap.size) (w' := y1.w) (by (repeat (first | (with_reducible exact Below.refl _ _) | (with_reducible assumption) | (with_reducible refine Later.out _ ?_) | (with_reducible refine bel_alloc ?_ _) | (with_reducible refine bel_drew ?_) | (with_reducible refine bel_drewN ?_ _) | (with_reducible refine bel_set ?_ ?_ _) | (with_reducible refine After.out _ ?_ ?_) | (dsimp only; omega) | omega | (simp only [World.size_alloc, World.size_setCell, World.size_drew]; omega)))) (Nat.le_refl _)).wide (by omega), y1.bel.mono hlo⟩
  | some i =>
    have hM := Moved.start hv
    have hi : idxP p L = (i : Int) := by simp [idxP, hv]
    have hil := hM.le
    obtain ⟨g0, rfl, hg1, hg2, -, -⟩ := h.at_ (j := 0) (by omega)
    rw [hi] at CI
    have hi3 : ((i : Int) == -1) = false := by first | (simp; done) | (simp; omega)
    clear hv hi h hT0
    go_enter Tryz.func185, Tryz.ntmps185
    go_wp2_with fail
    with_reducible refine (CI.out _ (HO.out.row.bel (by (repeat (first | (with_reducible exact Below.refl _ _) | (with_reducible assumption) | (with_reducible refine Later.out _ ?_) | (with_reducible refine bel_alloc ?_ _) | (with_reducible refine bel_drew ?_) | (with_reducible refine bel_drewN ?_ _) | (with_reducible refine bel_set ?_ ?_ _) | (with_reducible refine After.out _ ?_ ?_) | (dsimp only; omega) | omega | (simp only [World.size_alloc, World.size_setCell, World.size_drew]; omega))))) (by (repeat (first | (with_reducible exact Below.refl _ _) | (with_reducible assumption) | (with_reducible refine Later.out _ ?_) | (with_reducible refine bel_alloc ?_ _) | (with_reducible refine bel_drew ?_) | (with_reducible refine bel_drewN ?_ _) | (with_reducible refine bel_set ?_ ?_ _) | (with_reducible refine After.out _ ?_ ?_) | (dsimp only; omega) | omega | (simp only [World.size_alloc, World.size_setCell, World.size_drew]; omega))))).mono ?_
    rintro e w' ⟨rfl, y1, rfl⟩
    have hsy1 := y1.bel.size
    (try simp only [World.size_alloc, World.size_setCell, World.size_drew] at hsy1)
    replace hp := Lib.hid hp
    go_wp2_with fail
    go_loopw [5, 6] (fun i j wr => ∃ (i2 k : Nat) (M : List Clm), Moved p L M i2 k ∧ i = .int .i64 i2 ∧ j = .int .i64 k ∧ Owns wr lo (g0 + 1) 27 7 L.length (some ⟨g0, 0, none⟩) c (clmsCells M) ∧ Between g0 (g0 + 1) w wr) (fun _ j _ => L.length - (intOf j).toNat)
    case atStart => exact ⟨i, i + 1, L, hM, rfl, by go_num, ⟨(HO.out.bel (B := w.heap.size) (w' := y1.w) (by (repeat (first | (with_reducible exact Below.refl _ _) | (with_reducible assumption) | (with_reducible refine Later.out _ ?_) | (with_reducible refine bel_alloc ?_ _) | (with_reducible refine bel_drew ?_) | (with_reducible refine bel_drewN ?_ _) | (with_reducible refine bel_set ?_ ?_ _) | (with_reducible refine After.out _ ?_ ?_) | (dsimp only; omega) | omega | (simp only [World.size_alloc, World.size_setCell, World.size_drew]; omega)))) (Nat.le_refl _)).own, fun p hp => by cases hp; exact Nat.lt_succ_self _⟩, (Between.refl _ _ _).later y1.bel⟩
    case round =>
      obtain ⟨i2, k, M, hMv, rfl, rfl, hown, hbt⟩ := hrel
      obtain ⟨z, rfl⟩ := AfterC.mk hbt
      clear hbt
      have hzz := z.btw.size
      have hlen := hMv.len
      have hik := hMv.lt
      have hkl := hMv.le
      have hbz : Below lo w z.w := ⟨z.btw.os, z.btw.tape, z.btw.output, z.btw.size, fun k hk => z.btw.block k (by omega) (.inl (by omega))⟩
      replace hown := Lib.hid hown
      by_cases hlt : k < L.length
      · have hi1 : (k : Int) < (L.length : Int) := by omega
        have hi2 : (i2 : Int) < (L.length : Int) := by omega
        obtain ⟨b, o, eb, hb, q0, q1, q2, q3, q4, q5, q6⟩ := hown.out.row.clm (show k < M.length by omega)
        cases eb
        rw [hMv.at_ hlt] at q0 q1 q2 q3 q4 q5 q6
        simp only [Nat.zero_add] at q0 q1 q2 q3 q4 q5 q6
        have hX := CK.out k hlt
        cases hpv : p L[k]
        · have hN := Lib.hid (hMv.put hlt hpv)
          have hset := Lib.hid (clms_set (c := L[k]) (M := M) (i := i2) (by omega))
          rw [hpv] at hX
          replace hX := Lib.hid hX
          clear hpv hMv
          go_wp2_with fail
          go_at_fn g
          with_reducible refine (hX.out _ (by exact hbz.trans ((Below.refl _ _).alloc (by omega) _))).mono ?_
          rintro e w' ⟨rfl, y4, rfl⟩
          have hO4 := hown.out.bel (B := z.w.heap.size) (w' := y4.w) (by (repeat (first | (with_reducible exact Below.refl _ _) | (with_reducible assumption) | (with_reducible refine Later.out _ ?_) | (with_reducible refine bel_alloc ?_ _) | (with_reducible refine bel_drew ?_) | (with_reducible refine bel_drewN ?_ _) | (with_reducible refine bel_set ?_ ?_ _) | (with_reducible refine After.out _ ?_ ?_) | (dsimp only; omega) | omega | (simp only [World.size_alloc, World.size_setCell, World.size_drew]; omega)))) (by omega)
          obtain ⟨⟨u0, c0⟩, f0⟩ := claim_cells hO4 (show i2 < L.length by omega) 0 (by omega)
          obtain ⟨⟨u1, c1⟩, f1⟩ := claim_cells hO4 (show i2 < L.length by omega) 1 (by omega)
          obtain ⟨⟨u2, c2⟩, f2⟩ := claim_cells hO4 (show i2 < L.length by omega) 2 (by omega)
          obtain ⟨⟨u3, c3⟩, f3⟩ := claim_cells hO4 (show i2 < L.length by omega) 3 (by omega)
          obtain ⟨⟨u4, c4⟩, f4⟩ := claim_cells hO4 (show i2 < L.length by omega) 4 (by omega)
          obtain ⟨⟨u5, c5⟩, f5⟩ := claim_cells hO4 (show i2 < L.length by omega) 5 (by omega)
          obtain ⟨⟨u6, c6⟩, f6⟩ := claim_cells hO4 (show i2 < L.length by omega) 6 (by omega)
          simp only [Nat.add_zero] at c0 f0
          have hB : Row y4.w (some ⟨z.w.heap.size, 0, none⟩) (clmsCells [L[k]]) := (Row.made z.w #[.string L[k].src, .int .i64 L[k].kind, .string L[k].place, .string L[k].val, .int .i64 L[k].fr, .int .i64 L[k].to, .int .i64 L[k].wt] 27).bel y4.bel
          obtain ⟨bb, oo, ebb, hbb, d0, d1, d2, d3, d4, d5, d6⟩ := hB.clm (k := 0) (by simp)
          cases ebb
          simp only [List.getElem_cons_zero, Nat.zero_mul, Nat.zero_add] at d0 d1 d2 d3 d4 d5 d6
          have hb4 : Between g0 (g0 + 1) w y4.w := by (repeat (first | (with_reducible exact Between.refl _ _ _) | (with_reducible refine Between.drew ?_) | (with_reducible refine Between.drewN ?_ _) | (with_reducible refine Between.set ?_ ?_ ?_ _) | (with_reducible refine btw_later _ ?_) | (with_reducible refine btw_alloc ?_ _) | (with_reducible refine btw_after _ ?_) | (with_reducible assumption) | (dsimp only; omega) | omega))
          have hs4 : z.w.heap.size + 1 ≤ y4.w.heap.size := by have := y4.bel.size; simp only [World.size_alloc] at this; exact this
          obtain ⟨W4, hW4⟩ : ∃ W, y4.w = W := ⟨_, rfl⟩
          have hO4' := Lib.hid hO4
          clear hO4 hB
          rw [hW4] at c0 c1 c2 c3 c4 c5 c6 f0 f1 f2 f3 f4 f5 f6 d0 d1 d2 d3 d4 d5 d6 hO4' hb4 hs4 ⊢
          clear hW4 q0 q1 q2 q3 q4 q5 q6
          go_wp2_with fail
          go_roundw
          case rel => exact ⟨i2 + 1, k + 1, _, hN.out, by go_num, by go_num, by rw [hset.out]; exact ((((((hO4'.out.set _).set _).set _).set _).set _).set _).set _, by (repeat (first | (with_reducible exact Between.refl _ _ _) | (with_reducible refine Between.drew ?_) | (with_reducible refine Between.drewN ?_ _) | (with_reducible refine Between.set ?_ ?_ ?_ _) | (with_reducible refine btw_later _ ?_) | (with_reducible refine btw_alloc ?_ _) | (with_reducible refine btw_after _ ?_) | (with_reducible assumption) | (dsimp only; omega) | omega))⟩
          case measure => first | (simp [intOf]; done) | (simp [intOf]; omega) | omega
        · have hN := Lib.hid (hMv.skip hlt hpv)
          rw [hpv] at hX
          replace hX := Lib.hid hX
          clear hpv hMv
          go_wp2_with fail
          go_at_fn g
          with_reducible refine (hX.out _ (by exact hbz.trans ((Below.refl _ _).alloc (by omega) _))).mono ?_
          rintro e w' ⟨rfl, y4, rfl⟩
          have hO4 := Lib.hid (hown.out.bel (B := z.w.heap.size) (w' := y4.w) (by (repeat (first | (with_reducible exact Below.refl _ _) | (with_reducible assumption) | (with_reducible refine Later.out _ ?_) | (with_reducible refine bel_alloc ?_ _) | (with_reducible refine bel_drew ?_) | (with_reducible refine bel_drewN ?_ _) | (with_reducible refine bel_set ?_ ?_ _) | (with_reducible refine After.out _ ?_ ?_) | (dsimp only; omega) | omega | (simp only [World.size_alloc, World.size_setCell, World.size_drew]; omega)))) (by omega))
          go_wp2_with fail
          go_roundw
          case rel => exact ⟨i2, k + 1, _, hN.out, rfl, by go_num, hO4.out, by (repeat (first | (with_reducible exact Between.refl _ _ _) | (with_reducible refine Between.drew ?_) | (with_reducible refine Between.drewN ?_ _) | (with_reducible refine Between.set ?_ ?_ ?_ _) | (with_reducible refine btw_later _ ?_) | (with_reducible refine btw_alloc ?_ _) | (with_reducible refine btw_after _ ?_) | (with_reducible assumption) | (dsimp only; omega) | omega))⟩
          case measure => first | (simp [intOf]; done) | (simp [intOf]; omega) | omega
      · obtain rfl : k = L.length := by omega
        have hhead : (clmsCells M).take (i2 * 7) = clmsCells (L.filter fun c => !p c) := by rw [clms_take, hMv.head, List.take_length]
        have hKl : (L.filter fun c => !p c).length = i2 := by
          have := congrArg List.length hMv.head
          rw [List.length_take, List.take_length] at this
          omega
        have hcl := fun ty => clear_claims z.w ty g0 (i2 * 7) (L.length - i2) (c - i2) (by omega) (fun j hj => by
          obtain ⟨g1, e1, -, -, kc, kf⟩ := hown.out.at_ (j := i2 * 7 + j) (by omega)
          cases e1
          rw [kc, List.getElem?_eq_getElem (by rw [length_clmsCells]; omega)]; rfl) (fun j hj => by
          obtain ⟨g1, e1, -, -, kc, kf⟩ := hown.out.at_ (j := i2 * 7 + j) (by omega)
          cases e1
          exact kf)
        have hcap := hown.out.cap
        have hci : ¬ c = i2 := by omega
        have hci2 : ¬ (c : Int) = (i2 : Int) := by omega
        obtain ⟨vs, hvs⟩ : ∃ vs, (Builtin.zeroCells zeroCs (L.length - i2)).toList = vs := ⟨_, rfl⟩
        simp only [hvs] at hcl
        obtain ⟨ys, hY, hYt⟩ := Owns.setCells (o0 := i2 * 7) vs (i2 * 7) z.w _ (Nat.le_refl _) hown.out
        have hZ := own_less hY.own (n' := i2) (by omega)
        rw [hYt, hhead] at hZ
        have hBB := Between.setCells (lo := g0) (hi := g0 + 1) (Nat.le_refl _) (Nat.lt_succ_self _) vs (i2 * 7) z.w z.btw
        replace hZ := Lib.hid hZ
        replace hBB := Lib.hid hBB
        replace hKl := Lib.hid hKl
        clear hhead hMv hvs hY hYt
        go_wp2_with fail
        go_ret
        refine ⟨by rw [hKl.out]; rfl, ?_, ⟨hBB.out.os, hBB.out.tape, hBB.out.output, hBB.out.size, fun k hk => hBB.out.block k (by omega) (.inl (by omega))⟩⟩
        rw [hKl.out]
        exact Owns.of hZ.out
end Go.Proofs.YtflcfdiochohgaaGreatDoor

/- The claims of some sources: both sides. -/
set_option linter.unusedSimpArgs false
set_option linter.unusedVariables false
namespace Go.Proofs.YtflcfdiochohgaaGreatDoor
open Go.RowKit
def hasS (Z : List ByteArray) (x : ByteArray) : Bool := decide (0 ≤ idxS x Z)
def bySrc (L : List Clm) (Z : List ByteArray) : List Clm := L.filter fun c => hasS Z c.src
theorem bySrc_le (L : List Clm) (Z : List ByteArray) : (bySrc L Z).length ≤ L.length := List.length_filter_le _ _
theorem bySrc_sub (L : List Clm) (Z : List ByteArray) : (bySrc L Z).Sublist L := List.filter_sublist
theorem enters_from1 : ∀ args w, (callFunc 187 args).run Tryz.prog w = .ok (.enter 187 args) w := fun _ _ => by kernel_rfl
set_option maxHeartbeats 1000000 in
theorem from1_any (c : Clm) (Z : List ByteArray) (a : Option Addr) (n cp g3 : Nat) (w : World) (hn : Z.length = n) (hm : n ≤ 1048576) (hr : Row w a (strCells Z)) (hbx : w.cell? ⟨g3, 0, none⟩ = some (.slice a n cp)) :
    Calls Tryz.prog 187 #[clmV c, .pointer (some ⟨g3, 0, none⟩)] w (Ret w (.bool (!hasS Z c.src))) := by
  obtain ⟨v, hv⟩ : ∃ v, hasS Z c.src = v := ⟨_, rfl⟩
  have C := Lib.hid (fun (w : World) hr => containsStr_b (x := c.src) (O := Z) (a := a) (n := n) (c := cp) (w := w) hn (by omega) hr hv)
  have l3 := World.block_lt_of_cell? w _ hbx
  replace hr := Lib.hid hr
  rw [hv]
  clear hv
  go_enter Tryz.func187, Tryz.ntmps187
  go_wp2_with fail
  with_reducible refine (C.out _ (hr.out.bel (by (repeat (first | (with_reducible exact Below.refl _ _) | (with_reducible assumption) | (with_reducible refine Later.out _ ?_) | (with_reducible refine bel_alloc ?_ _) | (with_reducible refine bel_drew ?_) | (with_reducible refine bel_drewN ?_ _) | (with_reducible refine bel_set ?_ ?_ _) | (with_reducible refine After.out _ ?_ ?_) | (dsimp only; omega) | omega | (simp only [World.size_alloc, World.size_setCell, World.size_drew]; omega)))))).mono ?_
  rintro e w' ⟨rfl, y1, rfl⟩
  have hsy1 := y1.bel.size
  (try simp only [World.size_alloc, World.size_setCell, World.size_drew] at hsy1)
  go_wp2_with fail
  go_ret
  exact .mk rfl (by (repeat (first | (with_reducible exact Below.refl _ _) | (with_reducible assumption) | (with_reducible refine Later.out _ ?_) | (with_reducible refine bel_alloc ?_ _) | (with_reducible refine bel_drew ?_) | (with_reducible refine bel_drewN ?_ _) | (with_reducible refine bel_set ?_ ?_ _) | (with_reducible refine After.out _ ?_ ?_) | (dsimp only; omega) | omega | (simp only [World.size_alloc, World.size_setCell, World.size_drew]; omega))))
set_option maxHeartbeats 2000000 in
theorem fromSources_any (L : List Clm) (Z : List ByteArray) (a : Option Addr) (n c : Nat) (a' : Option Addr) (n' c' : Nat) (w : World) (hn : L.length = n) (hm : n ≤ 1000) (hn' : Z.length = n') (hm' : n' ≤ 1048576) (hr : Row w a (clmsCells L)) (hr' : Row w a' (strCells Z)) :
    Calls Tryz.prog 138 #[.slice a n c, .slice a' n' c'] w (RetOwn w 27 7 (bySrc L Z).length (clmsCells (bySrc L Z)) id) := by
  have C1 := Lib.hid (fun w hr => cloneClm_any L a n c w hn (by omega) hr)
  have hK := Lib.hid (show (L.filter fun c => !(fun c => !hasS Z c.src) c) = bySrc L Z by unfold bySrc; simp)
  have hT := Lib.hid (fun (lo g3 : Nat) (W : World) (hlo : lo ≤ W.heap.size) (h3 : g3 < lo) (hbx : W.cell? ⟨g3, 0, none⟩ = some (.slice a' n' c')) (hz : ∀ w', Below lo W w' → Row w' a' (strCells Z)) => show TellsLo lo 187 #[.pointer (some ⟨g3, 0, none⟩)] (fun c => !hasS Z c.src) L W from fun c hc w' hb => from1_any c Z a' n' c' g3 w' hn' hm' (hz w' hb) ((hb.cell (p := ⟨g3, 0, none⟩) h3).trans hbx))
  have hlt : ∀ w', Below w.heap.size w w' → Row w' a' (strCells Z) := fun w' hb => hr'.bel hb
  replace hr := Lib.hid hr
  replace hlt := Lib.hid hlt
  clear hr'
  go_enter Tryz.func138, Tryz.ntmps138
  go_wp2_with fail
  with_reducible refine (C1.out _ (hr.out.bel (by (repeat (first | (with_reducible exact Below.refl _ _) | (with_reducible assumption) | (with_reducible refine Later.out _ ?_) | (with_reducible refine bel_alloc ?_ _) | (with_reducible refine bel_drew ?_) | (with_reducible refine bel_drewN ?_ _) | (with_reducible refine bel_set ?_ ?_ _) | (with_reducible refine After.out _ ?_ ?_) | (dsimp only; omega) | omega | (simp only [World.size_alloc, World.size_setCell, World.size_drew]; omega)))))).mono ?_
  rintro e w' ⟨a2, c2, rfl, hown, y2, rfl⟩
  have hsy2 := y2.bel.size
  (try simp only [World.size_alloc, World.size_setCell, World.size_drew] at hsy2)
  have H2 := Lib.hid (Owns.of hown)
  clear hown
  have hbx : y2.w.cell? ⟨w.heap.size, 0, none⟩ = some (.slice a' n' c') := (Below.cell y2.bel (by simp only [World.size_alloc]; omega)).trans (by simp [go_sem, ↓IntWalk.iteOmega])
  have hTT := hT.out (w.heap.size + 1) w.heap.size y2.w (by omega) (by omega) hbx (fun w' hb => hlt.out w' (Below.trans (by (repeat (first | (with_reducible exact Below.refl _ _) | (with_reducible assumption) | (with_reducible refine Later.out _ ?_) | (with_reducible refine bel_alloc ?_ _) | (with_reducible refine bel_drew ?_) | (with_reducible refine bel_drewN ?_ _) | (with_reducible refine bel_set ?_ ?_ _) | (with_reducible refine After.out _ ?_ ?_) | (dsimp only; omega) | omega | (simp only [World.size_alloc, World.size_setCell, World.size_drew]; omega)))) (hb.mono (by omega))))
  have H2' : Owns y2.w (w.heap.size + 1) y2.w.heap.size 27 7 n a2 c2 (clmsCells L) := by have h := H2.out; simp only [World.size_alloc] at h; exact h
  have CD := Lib.hid (deleteFunc_any 187 #[.pointer (some ⟨w.heap.size, 0, none⟩)] _ L a2 n c2 (w.heap.size + 1) y2.w enters_from1 hn hm (by omega) H2' hTT)
  clear hTT H2'
  go_wp2_with fail
  with_reducible refine CD.out.mono ?_
  rintro e w' ⟨rfl, hO, hB⟩
  rw [hK.out] at hO ⊢
  go_wp2_with fail
  go_ret
  exact RetOwn.mk _ rfl (own_mono hO.own (by omega)) (Below.trans (show Below w.heap.size w y2.w by (repeat (first | (with_reducible exact Below.refl _ _) | (with_reducible assumption) | (with_reducible refine Later.out _ ?_) | (with_reducible refine bel_alloc ?_ _) | (with_reducible refine bel_drew ?_) | (with_reducible refine bel_drewN ?_ _) | (with_reducible refine bel_set ?_ ?_ _) | (with_reducible refine After.out _ ?_ ?_) | (dsimp only; omega) | omega | (simp only [World.size_alloc, World.size_setCell, World.size_drew]; omega)))) (hB.mono (by omega)))
theorem byTo_yes {L : List Clm} {Z : List ByteArray} {k : Nat} (h : k < L.length) (hp : hasS Z L[k].src = true) : bySrc (L.take (k + 1)) Z = bySrc (L.take k) Z ++ [L[k]] := by
  unfold bySrc
  rw [List.take_succ_eq_append_getElem h, List.filter_append]; simp [hp]
theorem byTo_no {L : List Clm} {Z : List ByteArray} {k : Nat} (h : k < L.length) (hp : hasS Z L[k].src = false) : bySrc (L.take (k + 1)) Z = bySrc (L.take k) Z := by
  unfold bySrc
  rw [List.take_succ_eq_append_getElem h, List.filter_append]; simp [hp]
theorem find_sign {Z : List ByteArray} {x : ByteArray} {b : Bool} (h : hasS Z x = b) : decide ((0 : Int) ≤ idxS x Z) = b := h
set_option maxRecDepth 8000 in
set_option maxHeartbeats 4000000 in
theorem sBy_any (L : List Clm) (Z : List ByteArray) (a : Option Addr) (n c : Nat) (a' : Option Addr) (n' c' : Nat) (w : World) (hn : L.length = n) (hm : n ≤ 1000) (hn' : Z.length = n') (hm' : n' ≤ 1048576) (hr : Row w a (clmsCells L)) (hr' : Row w a' (strCells Z)) :
    Calls Tryz.prog 190 #[.slice a n c, .slice a' n' c'] w (RetOwn w 27 7 (bySrc L Z).length (clmsCells (bySrc L Z)) id) := by
  subst hn
  obtain ⟨ii, j1, j2, j3, j4⟩ := info_claim'
  have Jii := Lib.hid (And.intro j1 (And.intro j2 (And.intro j3 j4)))
  clear j1 j2 j3 j4
  have CF := Lib.hid (fun (x : ByteArray) (w : World) hr => l03Find_any x Z a' n' c' w hn' (by omega) hr)
  have hA := Lib.hid (show bySrc (L.take L.length) Z = bySrc L Z by rw [List.take_length])
  have hle := Lib.hid (fun k => Nat.le_trans (bySrc_le (L.take k) Z) (by rw [List.length_take]; exact Nat.min_le_right k L.length))
  replace hr := Lib.hid hr
  replace hr' := Lib.hid hr'
  go_enter Tryz.func190, Tryz.ntmps190
  go_wp2_with fail
  go_loopw [5, 6] (fun t i wr => ∃ (k : Nat) (a5 : Option Addr) (c5 : Nat), k ≤ L.length ∧ i = .int .i64 k ∧ t = .slice a5 (bySrc (L.take k) Z).length c5 ∧ wr.ownsRow w.heap.size 27 7 (.slice a5 (bySrc (L.take k) Z).length c5) (bySrc (L.take k) Z).length (clmsCells (bySrc (L.take k) Z)) ∧ ∃ z : Later w, wr = z.w) (fun _ i _ => L.length - (intOf i).toNat)
  case atStart => exact ⟨0, _, _, Nat.zero_le _, rfl, rfl, World.ownsRow_lit w #[] 0 (Nat.le_refl _) (by unfold maxLen; omega) rfl, LaterC.mk (by (repeat (first | (with_reducible exact Below.refl _ _) | (with_reducible assumption) | (with_reducible refine Later.out _ ?_) | (with_reducible refine bel_alloc ?_ _) | (with_reducible refine bel_drew ?_) | (with_reducible refine bel_drewN ?_ _) | (with_reducible refine bel_set ?_ ?_ _) | (with_reducible refine After.out _ ?_ ?_) | (dsimp only; omega) | omega | (simp only [World.size_alloc, World.size_setCell, World.size_drew]; omega))))⟩
  case round =>
    obtain ⟨k, a5, c5, hk, rfl, rfl, hown, z, rfl⟩ := hrel
    replace hown := Lib.hid hown
    have hzz := z.bel.size
    have hll := hle.out k
    by_cases hlt : k < L.length
    · have hi1 : (k : Int) < (L.length : Int) := by omega
      obtain ⟨b, o, rfl, hb, q0, q1, q2, q3, q4, q5, q6⟩ := hr.out.clm hlt
      have hF := CF.out L[k].src
      obtain ⟨ix, hix⟩ : ∃ ix, idxS L[k].src Z = ix := ⟨_, rfl⟩
      cases hv : hasS Z L[k].src
      · have X := Lib.hid (byTo_no hlt hv)
        have hs := find_sign hv
        rw [hix] at hF hs
        replace hF := Lib.hid hF
        have hs2 : ¬ (0 : Int) ≤ ix := of_decide_eq_false hs
        clear hv hix hs
        go_wp2_with fail
        with_reducible refine (hF.out _ (hr'.out.bel (by (repeat (first | (with_reducible exact Below.refl _ _) | (with_reducible assumption) | (with_reducible refine Later.out _ ?_) | (with_reducible refine bel_alloc ?_ _) | (with_reducible refine bel_drew ?_) | (with_reducible refine bel_drewN ?_ _) | (with_reducible refine bel_set ?_ ?_ _) | (with_reducible refine After.out _ ?_ ?_) | (dsimp only; omega) | omega | (simp only [World.size_alloc, World.size_setCell, World.size_drew]; omega)))))).mono ?_
        rintro e w' ⟨rfl, y3, rfl⟩
        have hsy3 := y3.bel.size
        (try simp only [World.size_alloc, World.size_setCell, World.size_drew] at hsy3)
        go_wp2_with fail
        go_roundw
        case rel => exact ⟨k + 1, a5, c5, by omega, by go_num, by rw [X.out]; try rfl, by rw [X.out]; exact own_bel hown.out (by (repeat (first | (with_reducible exact Below.refl _ _) | (with_reducible assumption) | (with_reducible refine Later.out _ ?_) | (with_reducible refine bel_alloc ?_ _) | (with_reducible refine bel_drew ?_) | (with_reducible refine bel_drewN ?_ _) | (with_reducible refine bel_set ?_ ?_ _) | (with_reducible refine After.out _ ?_ ?_) | (dsimp only; omega) | omega | (simp only [World.size_alloc, World.size_setCell, World.size_drew]; omega)))), LaterC.mk (by (repeat (first | (with_reducible exact Below.refl _ _) | (with_reducible assumption) | (with_reducible refine Later.out _ ?_) | (with_reducible refine bel_alloc ?_ _) | (with_reducible refine bel_drew ?_) | (with_reducible refine bel_drewN ?_ _) | (with_reducible refine bel_set ?_ ?_ _) | (with_reducible refine After.out _ ?_ ?_) | (dsimp only; omega) | omega | (simp only [World.size_alloc, World.size_setCell, World.size_drew]; omega))))⟩
        case measure => first | (simp [intOf]; done) | (simp [intOf]; omega) | omega
      · have X := Lib.hid (byTo_yes hlt hv)
        have hs := find_sign hv
        rw [hix] at hF hs
        replace hF := Lib.hid hF
        have hs2 : (0 : Int) ≤ ix := of_decide_eq_true hs
        clear hv hix hs
        obtain ⟨N, hN⟩ : ∃ N, bySrc (L.take k) Z = N := ⟨_, rfl⟩
        rw [hN] at hown X hll
        simp only [hN]
        clear hN
        go_wp2_with fail
        with_reducible refine (hF.out _ (hr'.out.bel (by (repeat (first | (with_reducible exact Below.refl _ _) | (with_reducible assumption) | (with_reducible refine Later.out _ ?_) | (with_reducible refine bel_alloc ?_ _) | (with_reducible refine bel_drew ?_) | (with_reducible refine bel_drewN ?_ _) | (with_reducible refine bel_set ?_ ?_ _) | (with_reducible refine After.out _ ?_ ?_) | (dsimp only; omega) | omega | (simp only [World.size_alloc, World.size_setCell, World.size_drew]; omega)))))).mono ?_
        rintro e w' ⟨rfl, y3, rfl⟩
        have hsy3 := y3.bel.size
        (try simp only [World.size_alloc, World.size_setCell, World.size_drew] at hsy3)
        go_wp2_with (at_builtin; (refine wpList_append_later _ rfl _ _ _ rfl 27 ii _ 7 80 Tryz.underlying32 Jii.out.1 Jii.out.2.1 Jii.out.2.2.1 Jii.out.2.2.2 rfl (by decide) (w) ?qa1 _ _ _ (clmsCells N) rfl ?qa2 _ _ _ (clmCells L[k]) rfl ?qa3 ?qa4 ?qa5 ?qa6 ?qa7 ?_); (case qa1 => (repeat (first | (with_reducible exact Below.refl _ _) | (with_reducible assumption) | (with_reducible refine Later.out _ ?_) | (with_reducible refine bel_alloc ?_ _) | (with_reducible refine bel_drew ?_) | (with_reducible refine bel_drewN ?_ _) | (with_reducible refine bel_set ?_ ?_ _) | (with_reducible refine After.out _ ?_ ?_) | (dsimp only; omega) | omega | (simp only [World.size_alloc, World.size_setCell, World.size_drew]; omega)))); (case qa2 => exact own_bel hown.out (by (repeat (first | (with_reducible exact Below.refl _ _) | (with_reducible assumption) | (with_reducible refine Later.out _ ?_) | (with_reducible refine bel_alloc ?_ _) | (with_reducible refine bel_drew ?_) | (with_reducible refine bel_drewN ?_ _) | (with_reducible refine bel_set ?_ ?_ _) | (with_reducible refine After.out _ ?_ ?_) | (dsimp only; omega) | omega | (simp only [World.size_alloc, World.size_setCell, World.size_drew]; omega))))); (case qa3 => (first | rfl | (simp [boolCells]; done) | (simp [intCells]; done) | (simp; done) | (first | omega | (simp only [List.length_append, List.length_cons, List.length_nil]; omega)))); (case qa4 => exact Row.made _ _ _); (case qa5 => exact one_clm1 _); (case qa6 => (unfold maxLen; (first | omega | (simp only [List.length_append, List.length_cons, List.length_nil]; omega)))); (case qa7 => (first | omega | (simp only [List.length_append, List.length_cons, List.length_nil]; omega))); intro a9 c9 x9 hown9)
        replace hown9 := Lib.hid hown9
        go_roundw
        case rel => exact ⟨k + 1, a9, c9, by omega, by go_num, by rw [X.out]; simp, by rw [X.out, clmsCells_snoc]; simpa using hown9.out, x9, rfl⟩
        case measure => first | (simp [intOf]; done) | (simp [intOf]; omega) | omega
    · obtain rfl : k = L.length := by omega
      rw [hA.out] at hown ⊢
      go_wp2_with fail
      go_ret
      exact RetOwn.mk _ rfl hown.out z.bel
end Go.Proofs.YtflcfdiochohgaaGreatDoor

/- The least set that is good, by number and by search: the plain law. -/
set_option linter.unusedSimpArgs false
set_option linter.unusedVariables false
namespace Go.Proofs.YtflcfdiochohgaaGreatDoor
theorem coreLt_iff {S T : List Int} : coreLt S T = true ↔ S.length < T.length ∨ (S.length = T.length ∧ S < T) := by
  unfold coreLt
  rw [decide_eq_true_iff]
  unfold orZ cmpZ
  by_cases h1 : S.length < T.length
  · have : (S.length : Int) < T.length := by omega
    simp [this, h1]
  · by_cases h2 : T.length < S.length
    · have h3 : (T.length : Int) < S.length := by omega
      have h4 : ¬ (S.length : Int) < T.length := by omega
      simp [h3, h4]
      omega
    · have h3 : ¬ (T.length : Int) < S.length := by omega
      have h4 : ¬ (S.length : Int) < T.length := by omega
      have h5 : S.length = T.length := by omega
      simp [h3, h4, h5, cmpL_neg]
theorem coreLt_irrefl (S : List Int) : coreLt S S = false := by
  rw [Bool.eq_false_iff]
  intro h
  rcases coreLt_iff.1 h with h | ⟨_, h⟩
  · omega
  · exact listInt_irrefl S h
theorem coreLt_trans {S T U : List Int} (h1 : coreLt S T = true) (h2 : coreLt T U = true) : coreLt S U = true := by
  rw [coreLt_iff] at *
  rcases h1 with h1 | ⟨e1, h1⟩ <;> rcases h2 with h2 | ⟨e2, h2⟩
  · exact .inl (by omega)
  · exact .inl (by omega)
  · exact .inl (by omega)
  · exact .inr ⟨by omega, List.lt_trans h1 h2⟩
theorem coreLt_total {S T : List Int} (h1 : coreLt S T = false) (h2 : coreLt T S = false) : S = T := by
  rw [Bool.eq_false_iff, ne_eq, coreLt_iff] at h1 h2
  refine listInt_total (fun h => h1 (.inr ⟨by omega, h⟩)) (fun h => h2 (.inr ⟨by omega, h⟩))
/-- The least good set. -/
def IsLeast (G : List Int → Bool) (m : Nat) (T : List Int) : Prop := Ixs m T ∧ G T = true ∧ ∀ U, Ixs m U → G U = true → coreLt U T = false
theorem least_unique {G : List Int → Bool} {m : Nat} {S T : List Int} (h1 : IsLeast G m S) (h2 : IsLeast G m T) : S = T := coreLt_total (h2.2.2 S h1.1 h1.2.1) (h1.2.2 T h2.1 h2.2.1)
/-- The best of those with a number below `k`, and of `S0`. -/
def bestB (G : List Int → Bool) (m : Nat) (S0 : List Int) : Nat → List Int
  | 0 => S0
  | k + 1 => if coreLt (subN m k) (bestB G m S0 k) && G (subN m k) then subN m k else bestB G m S0 k
theorem bestB_good {G : List Int → Bool} {m : Nat} {S0 : List Int} (h0 : Ixs m S0) (hg : G S0 = true) : ∀ k, Ixs m (bestB G m S0 k) ∧ G (bestB G m S0 k) = true ∧ coreLt S0 (bestB G m S0 k) = false ∧ ∀ j, j < k → G (subN m j) = true → coreLt (subN m j) (bestB G m S0 k) = false
  | 0 => ⟨h0, hg, coreLt_irrefl _, fun j h => absurd h (by omega)⟩
  | k + 1 => by
    obtain ⟨h1, h2, h3, h4⟩ := bestB_good h0 hg k
    rw [bestB]
    by_cases hc : (coreLt (subN m k) (bestB G m S0 k) && G (subN m k)) = true
    · rw [if_pos hc]
      rw [Bool.and_eq_true] at hc
      have key : ∀ U, coreLt U (bestB G m S0 k) = false → coreLt U (subN m k) = false := fun U hU => by
        rw [Bool.eq_false_iff]
        intro h
        rw [coreLt_trans h hc.1] at hU
        cases hU
      refine ⟨ixs_subN m k, hc.2, key _ h3, fun j hj hgj => ?_⟩
      rcases Nat.lt_or_ge j k with h5 | h5
      · exact key _ (h4 j h5 hgj)
      · rw [show j = k by omega]; exact coreLt_irrefl _
    · rw [if_neg hc]
      refine ⟨h1, h2, h3, fun j hj hgj => ?_⟩
      rcases Nat.lt_or_ge j k with h5 | h5
      · exact h4 j h5 hgj
      · obtain rfl : j = k := by omega
        rw [Bool.and_eq_true, not_and] at hc
        rw [Bool.eq_false_iff]
        exact fun h => hc h hgj
theorem bestB_least {G : List Int → Bool} {m : Nat} {S0 : List Int} (h0 : Ixs m S0) (hg : G S0 = true) : IsLeast G m (bestB G m S0 (2 ^ m)) := by
  obtain ⟨h1, h2, h3, h4⟩ := bestB_good h0 hg (2 ^ m)
  refine ⟨h1, h2, fun U hU hgU => ?_⟩
  obtain ⟨h5, h6⟩ := subN_numOf hU
  rw [← h6]
  exact h4 _ h5 (by rw [h6]; exact hgU)
/-- The first that is found from some place on. -/
def scan (F : Nat → Option (List Int)) (m : Nat) : Nat → Option (List Int)
  | 0 => none
  | d + 1 => match F (m - (d + 1)) with
    | some r => some r
    | none => scan F m d
def few (G : List Int → Bool) (m : Nat) : Nat → List Int → Nat → Option (List Int)
  | 0, S, _ => if G S then some S else none
  | n + 1, S, fr => scan (fun i => few G m n (S ++ [(i : Int)]) (i + 1)) m (m - fr)
theorem scan_some {F : Nat → Option (List Int)} {m : Nat} {r : List Int} : ∀ {d : Nat}, d ≤ m → scan F m d = some r → ∃ i, m - d ≤ i ∧ i < m ∧ F i = some r ∧ ∀ j, m - d ≤ j → j < i → F j = none
  | 0, _, h => by simp [scan] at h
  | d + 1, hd, h => by
    rw [scan] at h
    split at h
    · rename_i r' hr
      cases h
      exact ⟨m - (d + 1), Nat.le_refl _, by omega, hr, fun j h1 h2 => absurd h2 (by omega)⟩
    · rename_i hr
      obtain ⟨i, h1, h2, h3, h4⟩ := scan_some (by omega) h
      refine ⟨i, by omega, h2, h3, fun j h5 h6 => ?_⟩
      rcases Nat.lt_or_ge j (m - d) with h7 | h7
      · rw [show j = m - (d + 1) by omega]; exact hr
      · exact h4 j h7 h6
theorem scan_none {F : Nat → Option (List Int)} {m : Nat} : ∀ {d : Nat}, d ≤ m → scan F m d = none → ∀ i, m - d ≤ i → i < m → F i = none
  | 0, _, _, i, h1, h2 => absurd h2 (by omega)
  | d + 1, hd, h, i, h1, h2 => by
    rw [scan] at h
    split at h
    · cases h
    · rename_i hr
      rcases Nat.lt_or_ge i (m - d) with h7 | h7
      · rw [show i = m - (d + 1) by omega]; exact hr
      · exact scan_none (by omega) h i h7 h2
/-- So many increasing indices from a place on. -/
def Tail (m n fr : Nat) (U : List Int) : Prop := U.length = n ∧ U.Pairwise (· < ·) ∧ ∀ x ∈ U, (fr : Int) ≤ x ∧ x < m
theorem tail_cons {m n fr : Nat} {U : List Int} (h : Tail m (n + 1) fr U) : ∃ (i : Nat) (U' : List Int), U = (i : Int) :: U' ∧ fr ≤ i ∧ i < m ∧ Tail m n (i + 1) U' := by
  obtain ⟨h1, h2, h3⟩ := h
  cases U with
  | nil => simp at h1
  | cons x U =>
    have hx := h3 x (by simp)
    have hp := List.pairwise_cons.1 h2
    refine ⟨x.toNat, U, by congr 1; omega, by omega, by omega, by simpa using h1, hp.2, fun y hy => ?_⟩
    have := hp.1 y hy
    have := h3 y (by simp [hy])
    omega
theorem few_spec (G : List Int → Bool) (m : Nat) : ∀ (n : Nat) (S : List Int) (fr : Nat),
    (∀ T, few G m n S fr = some T → ∃ T', T = S ++ T' ∧ Tail m n fr T' ∧ G T = true ∧ ∀ U, Tail m n fr U → G (S ++ U) = true → ¬ U < T') ∧
    (few G m n S fr = none → ∀ U, Tail m n fr U → G (S ++ U) = false)
  | 0, S, fr => by
    constructor
    · intro T h
      rw [few] at h
      split at h
      · rename_i hg
        cases h
        refine ⟨[], by simp, ⟨rfl, .nil, by simp⟩, hg, fun U hU _ => ?_⟩
        rw [List.length_eq_zero_iff.1 hU.1]
        exact listInt_irrefl _
      · cases h
    · intro h U hU
      rw [few] at h
      split at h
      · cases h
      · rename_i hg
        rw [List.length_eq_zero_iff.1 hU.1, List.append_nil]
        simpa using hg
  | n + 1, S, fr => by
    constructor
    · intro T h
      rw [few] at h
      obtain ⟨i, h1, h2, h3, h4⟩ := scan_some (by omega) h
      obtain ⟨T', rfl, hT, hg, hm⟩ := (few_spec G m n (S ++ [(i : Int)]) (i + 1)).1 T h3
      have hfr : fr ≤ i := by omega
      refine ⟨(i : Int) :: T', by simp, ⟨by simp [hT.1], List.pairwise_cons.2 ⟨fun y hy => by have := (hT.2.2 y hy).1; omega, hT.2.1⟩, fun x hx => ?_⟩, hg, fun U hU hgU => ?_⟩
      · rcases List.mem_cons.1 hx with rfl | hx
        · omega
        · have := hT.2.2 x hx; omega
      · obtain ⟨j, U', rfl, hj1, hj2, hU'⟩ := tail_cons hU
        rw [List.cons_lt_cons_iff]
        rintro (h5 | ⟨h5, h6⟩)
        · have h7 := (few_spec G m n (S ++ [(j : Int)]) (j + 1)).2 (h4 j (by omega) (by omega)) U' hU'
          rw [show S ++ [(j : Int)] ++ U' = S ++ (j : Int) :: U' by simp] at h7
          rw [hgU] at h7
          cases h7
        · obtain rfl : j = i := by omega
          exact hm U' hU' (by rw [show S ++ [(j : Int)] ++ U' = S ++ (j : Int) :: U' by simp]; exact hgU) h6
    · intro h U hU
      rw [few] at h
      obtain ⟨j, U', rfl, hj1, hj2, hU'⟩ := tail_cons hU
      have h7 := (few_spec G m n (S ++ [(j : Int)]) (j + 1)).2 (scan_none (by omega) h j (by omega) hj2) U' hU'
      rwa [show S ++ [(j : Int)] ++ U' = S ++ (j : Int) :: U' by simp] at h7
theorem tail_ixs {m : Nat} {U : List Int} (h : Ixs m U) : Tail m U.length 0 U := ⟨rfl, h.inc, fun x hx => by have := h.bd x hx; omega⟩
theorem ixs_tail {m n : Nat} {U : List Int} (h : Tail m n 0 U) : Ixs m U := ⟨h.2.1, fun x hx => by have := h.2.2 x hx; omega⟩
/-- What is found for a number of indices, where there is none for fewer. -/
theorem few_least {G : List Int → Bool} {m n : Nat} {T : List Int} (h : few G m n [] 0 = some T) (hn : ∀ k, k < n → few G m k [] 0 = none) : IsLeast G m T := by
  obtain ⟨T', e, hT, hg, hm⟩ := (few_spec G m n [] 0).1 T h
  rw [List.nil_append] at e
  subst e
  refine ⟨ixs_tail hT, hg, fun U hU hgU => ?_⟩
  rw [Bool.eq_false_iff, ne_eq, coreLt_iff]
  rintro (h1 | ⟨h1, h2⟩)
  · have := (few_spec G m U.length [] 0).2 (hn _ (by rw [hT.1] at h1; exact h1)) U (tail_ixs hU)
    rw [List.nil_append, hgU] at this
    cases this
  · exact hm U (by have := tail_ixs hU; rw [h1, hT.1] at this; exact this) (by rw [List.nil_append]; exact hgU) h2
end Go.Proofs.YtflcfdiochohgaaGreatDoor

/- Texts picked by index, and lists of texts in order: the plain law, and slices.Compare. -/
set_option linter.unusedSimpArgs false
set_option linter.unusedVariables false
namespace Go.Proofs.YtflcfdiochohgaaGreatDoor
open Go.RowKit
def cmpT (x y : ByteArray) : Int := if key x < key y then -1 else if key y < key x then 1 else 0
def cmpS : List ByteArray → List ByteArray → Int
  | [], [] => 0
  | [], _ :: _ => -1
  | _ :: _, [] => 1
  | x :: S, y :: T => if key x < key y then -1 else if key y < key x then 1 else cmpS S T
theorem cmpS_drop {S T : List ByteArray} {k : Nat} (h1 : k < S.length) (h2 : k < T.length) :
    cmpS (S.drop k) (T.drop k) = if key S[k] < key T[k] then -1 else if key T[k] < key S[k] then 1 else cmpS (S.drop (k + 1)) (T.drop (k + 1)) := by
  rw [List.drop_eq_getElem_cons h1, List.drop_eq_getElem_cons h2, cmpS]
theorem cmpS_more {S T : List ByteArray} {k : Nat} (h1 : k < S.length) (h2 : T.length ≤ k) : cmpS (S.drop k) (T.drop k) = 1 := by
  rw [List.drop_eq_getElem_cons h1, List.drop_eq_nil_of_le h2, cmpS]
theorem cmpS_less {S T : List ByteArray} {k : Nat} (h1 : S.length ≤ k) (h2 : k < T.length) : cmpS (S.drop k) (T.drop k) = -1 := by
  rw [List.drop_eq_getElem_cons h2, List.drop_eq_nil_of_le h1, cmpS]
theorem cmpS_same {S T : List ByteArray} {k : Nat} (h1 : S.length ≤ k) (h2 : T.length ≤ k) : cmpS (S.drop k) (T.drop k) = 0 := by
  rw [List.drop_eq_nil_of_le h1, List.drop_eq_nil_of_le h2, cmpS]
theorem cmpS_zero {S T : List ByteArray} : cmpS (S.drop 0) (T.drop 0) = cmpS S T := by rw [List.drop_zero, List.drop_zero]
theorem getT {A : List ByteArray} {x : Nat} (h : x < A.length) : A.getD (x : Int).toNat ByteArray.empty = A[x] := by rw [Int.toNat_natCast]; exact getD_at h
/-- The texts with some indices. -/
def pickS (A : List ByteArray) (S : List Int) : List ByteArray := S.map fun i => A.getD i.toNat ByteArray.empty
theorem pickS_len (A : List ByteArray) (S : List Int) : (pickS A S).length = S.length := List.length_map _
theorem pickS_take {A : List ByteArray} {S : List Int} {k : Nat} (h : k < S.length) {x : Nat} (hx : S[k] = (x : Int)) (hl : x < A.length) : pickS A (S.take (k + 1)) = pickS A (S.take k) ++ [A[x]] := by
  unfold pickS
  rw [List.take_succ_eq_append_getElem h, List.map_append, hx, List.map_singleton, getT hl]
theorem pickS_snoc {A : List ByteArray} {S : List Int} {x : Nat} (hl : x < A.length) : pickS A (S ++ [(x : Int)]) = pickS A S ++ [A[x]] := by
  unfold pickS
  rw [List.map_append, List.map_singleton, getT hl]
theorem keyAt {A : List ByteArray} (hA : (A.map key).Pairwise (· < ·)) {x y : Nat} (hx : x < A.length) (hy : y < A.length) (h : x < y) : key A[x] < key A[y] := by
  have := List.pairwise_iff_getElem.1 hA x y (by simpa using hx) (by simpa using hy) h
  simpa using this
theorem klt_irrefl (l : List UInt8) : ¬ l < l := List.lt_irrefl l
theorem klt_asymm {l m : List UInt8} (h : l < m) : ¬ m < l := fun h2 => klt_irrefl _ (List.lt_trans h h2)
theorem cmpS_pick {A : List ByteArray} (hA : (A.map key).Pairwise (· < ·)) : ∀ {S T : List Int}, (∀ x ∈ S, 0 ≤ x ∧ x < A.length) → (∀ x ∈ T, 0 ≤ x ∧ x < A.length) → cmpS (pickS A S) (pickS A T) = cmpL S T
  | [], [], _, _ => rfl
  | [], _ :: _, _, _ => rfl
  | _ :: _, [], _, _ => rfl
  | x :: S, y :: T, hs, ht => by
    have h1 := hs x (by simp)
    have h2 := ht y (by simp)
    obtain ⟨x, rfl⟩ := Int.eq_ofNat_of_zero_le h1.1
    obtain ⟨y, rfl⟩ := Int.eq_ofNat_of_zero_le h2.1
    have hx : x < A.length := by omega
    have hy : y < A.length := by omega
    have ih := cmpS_pick hA (S := S) (T := T) (fun z hz => hs z (by simp [hz])) (fun z hz => ht z (by simp [hz]))
    have e : ∀ (z : Nat) (U : List Int) (hz : z < A.length), pickS A ((z : Int) :: U) = A[z] :: pickS A U := fun z U hz => by unfold pickS; rw [List.map_cons, getT hz]
    rw [e x S hx, e y T hy, cmpS, cmpL, ih]
    rcases Nat.lt_trichotomy x y with h | h | h
    · rw [if_pos (keyAt hA hx hy h), if_pos (by omega)]
    · subst h
      rw [if_neg (klt_irrefl _), if_neg (klt_irrefl _), if_neg (by omega), if_neg (by omega)]
    · rw [if_neg (klt_asymm (keyAt hA hy hx h)), if_pos (keyAt hA hy hx h), if_neg (by omega), if_pos (by omega)]
theorem srcs_keys (L : List Clm) : ((srcs L).map key).Pairwise (· < ·) := (uniq_spec _).1
set_option maxHeartbeats 1000000 in
theorem cmpT_same (x y : ByteArray) (w : World) : Calls Tryz.prog 184 #[.string x, .string y] w fun e w' => e = .returned (.int .i64 (cmpT x y)) ∧ w' = w := by
  have B0 := bytes_eq_yes (s := x) rfl
  have B9 := bytes_eq_yes (s := y) rfl
  by_cases h : key x < key y
  · rw [show cmpT x y = -1 from if_pos h]
    have B1 := bytes_lt_yes h
    clear h
    go_enter Tryz.func184, Tryz.ntmps184
    go_wp2_with go_in
    go_ret
    exact ⟨rfl, rfl⟩
  · have B1 := bytes_lt_no h
    by_cases h2 : key y < key x
    · rw [show cmpT x y = 1 by unfold cmpT; rw [if_neg h, if_pos h2]]
      have B2 := bytes_lt_yes h2
      have B3 := bytes_eq_no (s := x) (t := y) (fun e => klt_irrefl (key x) (by rw [e] at h2 ⊢; exact h2))
      clear h h2
      go_enter Tryz.func184, Tryz.ntmps184
      go_wp2_with go_in
      go_ret
      exact ⟨rfl, rfl⟩
    · rw [show cmpT x y = 0 by unfold cmpT; rw [if_neg h, if_neg h2]]
      have B2 := bytes_lt_no h2
      have B3 := bytes_eq_yes (s := x) (t := y) (List.le_antisymm (List.not_lt.1 h2) (List.not_lt.1 h))
      clear h h2
      go_enter Tryz.func184, Tryz.ntmps184
      go_wp2_with go_in
      go_ret
      exact ⟨rfl, rfl⟩
theorem cmpT_as {x y : ByteArray} {v : Int} (h : cmpT x y = v) (w : World) : Calls Tryz.prog 184 #[.string x, .string y] w fun e w' => e = .returned (.int .i64 v) ∧ w' = w := h ▸ cmpT_same x y w
set_option maxRecDepth 8000 in
set_option maxHeartbeats 2000000 in
theorem compareS_same (S T : List ByteArray) (a : Option Addr) (n c : Nat) (a' : Option Addr) (n' c' : Nat) (w : World) (hn : S.length = n) (hn' : T.length = n') (hm : n ≤ 1048576) (hm' : n' ≤ 1048576) (hr : Row w a (strCells S)) (hr' : Row w a' (strCells T)) :
    Calls Tryz.prog 137 #[.slice a n c, .slice a' n' c'] w fun e w' => e = .returned (.int .i64 (cmpS S T)) ∧ w' = w := by
  subst hn hn'
  obtain ⟨R, hR⟩ : ∃ R, cmpS S T = R := ⟨_, rfl⟩
  rw [hR]
  have h0 := Lib.hid (cmpS_zero.trans hR)
  replace hr := Lib.hid hr
  replace hr' := Lib.hid hr'
  clear hR
  go_enter Tryz.func137, Tryz.ntmps137
  go_wp2_with fail
  go_loopw [11] (fun i wr => ∃ k : Nat, k ≤ S.length ∧ k ≤ T.length ∧ i = .int .i64 k ∧ cmpS (S.drop k) (T.drop k) = R ∧ wr = w) (fun i _ => S.length - (intOf i).toNat)
  case atStart => exact ⟨0, Nat.zero_le _, Nat.zero_le _, rfl, h0.out, rfl⟩
  case round =>
    obtain ⟨k, hk, hk', rfl, hc, rfl⟩ := hrel
    replace hc := Lib.hid hc
    by_cases hlt : k < S.length
    · have hi1 : (k : Int) < (S.length : Int) := by omega
      obtain ⟨b, o, rfl, hb, hcell⟩ := hr.out.str hlt
      by_cases hlt' : k < T.length
      · have hi2 : (k : Int) < (T.length : Int) := by omega
        obtain ⟨b', o', rfl, hb', hcell'⟩ := hr'.out.str hlt'
        have X := (cmpS_drop hlt hlt').symm.trans hc.out
        obtain ⟨x, hx⟩ : ∃ x, S[k] = x := ⟨_, rfl⟩
        obtain ⟨y, hy⟩ : ∃ y, T[k] = y := ⟨_, rfl⟩
        rw [hx] at hcell
        rw [hy] at hcell'
        rw [hx, hy] at X
        clear hx hy
        by_cases h : key x < key y
        · rw [if_pos h] at X
          have C := Lib.hid (fun w => cmpT_as (x := x) (y := y) (v := -1) (if_pos h) w)
          clear h
          go_wp2_with (go_at_call 184; (with_reducible refine (C.out _).mono ?_); rintro e w' ⟨rfl, rfl⟩)
          go_ret
          exact ⟨by rw [← X]; rfl, rfl⟩
        · rw [if_neg h] at X
          by_cases h2 : key y < key x
          · rw [if_pos h2] at X
            have C := Lib.hid (fun w => cmpT_as (x := x) (y := y) (v := 1) (by unfold cmpT; rw [if_neg h, if_pos h2]) w)
            clear h h2
            go_wp2_with (go_at_call 184; (with_reducible refine (C.out _).mono ?_); rintro e w' ⟨rfl, rfl⟩)
            go_ret
            exact ⟨by rw [← X]; rfl, rfl⟩
          · rw [if_neg h2] at X
            have C := Lib.hid (fun w => cmpT_as (x := x) (y := y) (v := 0) (by unfold cmpT; rw [if_neg h, if_neg h2]) w)
            clear h h2
            replace X := Lib.hid X
            go_wp2_with (go_at_call 184; (with_reducible refine (C.out _).mono ?_); rintro e w' ⟨rfl, rfl⟩)
            go_roundw
            case rel => exact ⟨k + 1, by omega, by omega, by go_num, X.out, by first | rfl | trivial⟩
            case measure => first | (simp [intOf]; done) | (simp [intOf]; omega) | omega
      · have X := (cmpS_more hlt (by omega : T.length ≤ k)).symm.trans hc.out
        have hi2 : (T.length : Int) ≤ (k : Int) := by omega
        go_wp2_with fail
        go_ret
        exact ⟨by rw [← X]; rfl, rfl⟩
    · obtain rfl : k = S.length := by omega
      by_cases hlt' : S.length < T.length
      · have X := (cmpS_less (Nat.le_refl _) hlt').symm.trans hc.out
        have hi2 : (S.length : Int) < (T.length : Int) := by omega
        go_wp2_with fail
        go_ret
        exact ⟨by rw [← X]; rfl, rfl⟩
      · have X := (cmpS_same (Nat.le_refl _) (by omega : T.length ≤ S.length)).symm.trans hc.out
        have hi2 : ¬ (S.length : Int) < (T.length : Int) := by omega
        go_wp2_with fail
        go_ret
        exact ⟨by rw [← X]; rfl, rfl⟩
theorem compareS_any (S T : List ByteArray) (a : Option Addr) (n c : Nat) (a' : Option Addr) (n' c' : Nat) (w : World) (hn : S.length = n) (hn' : T.length = n') (hm : n ≤ 1048576) (hm' : n' ≤ 1048576) (hr : Row w a (strCells S)) (hr' : Row w a' (strCells T)) :
    Calls Tryz.prog 137 #[.slice a n c, .slice a' n' c'] w (Ret w (.int .i64 (cmpS S T))) :=
  (compareS_same S T a n c a' n' c' w hn hn' hm hm' hr hr').mono fun e w' ⟨he, hw⟩ => by subst he hw; exact .mk rfl (Below.refl _ _)
end Go.Proofs.YtflcfdiochohgaaGreatDoor

/- SmallestSources: the plain law, and the impl side. -/
set_option linter.unusedSimpArgs false
set_option linter.unusedVariables false
namespace Go.Proofs.YtflcfdiochohgaaGreatDoor
open Go.RowKit
noncomputable def srcG (L : List Clm) (S : List Int) : Bool := !consB (bySrc L (pickS (srcs L) S))
theorem srcG_b {L : List Clm} {A : List ByteArray} {S : List Int} {b : Bool} (hA : srcs L = A) (h : srcG L S = b) : consB (bySrc L (pickS A S)) = !b := by
  subst hA h
  unfold srcG
  rw [Bool.not_not]
theorem pickS_upto (A : List ByteArray) : ∀ k, k ≤ A.length → pickS A ((List.range k).map fun (i : Nat) => (i : Int)) = A.take k
  | 0, _ => by simp [pickS]
  | k + 1, h => by
    rw [List.range_succ, List.map_append, List.map_singleton, pickS_snoc (by omega), pickS_upto A k (by omega), List.take_succ_eq_append_getElem (by omega)]
theorem pickS_all (A : List ByteArray) : pickS A (restTo [] A.length) = A := by
  have e : restTo [] A.length = (List.range A.length).map fun (i : Nat) => (i : Int) := by unfold restTo; exact List.filter_eq_self.2 (by simp)
  rw [e, pickS_upto A _ (Nat.le_refl _), List.take_length]
theorem rest_len (k : Nat) : (restTo [] k).length = k := by
  have e : restTo [] k = (List.range k).map fun (i : Nat) => (i : Int) := by unfold restTo; exact List.filter_eq_self.2 (by simp)
  rw [e]; simp
theorem bySrc_all (L : List Clm) : bySrc L (srcs L) = L := by
  unfold bySrc
  refine List.filter_eq_self.2 fun c hc => ?_
  unfold hasS
  rw [decide_eq_true_iff]
  rcases idxS_cases c.src (srcs L) with ⟨_, h⟩ | ⟨h, _⟩
  · exact h
  · exact absurd ((uniq_spec _).2 c.src |>.2 (List.mem_map.2 ⟨c, hc, rfl⟩)) h
theorem srcG_full {L : List Clm} (h : consB L = false) : srcG L (restTo [] (srcs L).length) = true := by
  unfold srcG
  rw [pickS_all, bySrc_all, h]; rfl
theorem srcG_none {L : List Clm} (h : consB L = true) (S : List Int) : srcG L S = false := by
  unfold srcG
  rw [cons_sub_b (bySrc_sub L _) h]; rfl
noncomputable def smsB (L : List Clm) (k : Nat) : List Int := bestB (srcG L) (srcs L).length (restTo [] (srcs L).length) k
noncomputable def smsR (L : List Clm) : List ByteArray := if claimsB L && !consB L then pickS (srcs L) (smsB L (2 ^ (srcs L).length)) else []
noncomputable def smsK (L : List Clm) : Int := if claimsB L then (if consB L then 4 else 0) else 1
theorem smsB_ixs {L : List Clm} (h : consB L = false) (k : Nat) : Ixs (srcs L).length (smsB L k) := (bestB_good (ixs_rest [] _) (srcG_full h) k).1
theorem smsR_len (L : List Clm) {n : Nat} (hn : L.length = n) (hm : n ≤ 1048576) : (smsR L).length ≤ 1048576 := by
  unfold smsR
  split
  · rename_i h
    rw [Bool.and_eq_true] at h
    have h12 := len_of_claims h.1
    have := srcs_le L
    have := ixs_len (smsB_ixs (L := L) (by simpa using h.2) (2 ^ (srcs L).length))
    rw [pickS_len]
    omega
  · simp
section
variable (L : List Clm) (a : Option Addr) (n c : Nat) (w : World) (hn : L.length = n) (hm : n ≤ 1048576) (hr : Row w a (clmsCells L)) (ok : ∀ c ∈ L, ClmOk c)
include hn hm hr ok
set_option maxRecDepth 8000 in
set_option maxHeartbeats 4000000 in
theorem sms_impl (hcp : n ≤ c) (hx : Max w) : Calls Tryz.prog 66 #[.slice a n c] w (RetOwn w 9 1 (smsR L).length (strCells (smsR L)) fun v => .tuple #[v, .int .i64 (smsK L)]) := by
  cases h1 : claimsB L
  · rw [show smsR L = [] by simp [smsR, h1], show smsK L = 1 by simp [smsK, h1]]
    have C1 := Lib.hid (areClaims_b (c := c) hn hm hr ok hx h1)
    clear ok h1 hn hr hx
    go_enter Tryz.func66, Tryz.ntmps66
    go_wp2_with fail
    with_reducible refine (C1.out).mono ?_
    rintro e w' ⟨rfl, y1, rfl⟩
    have hsy1 := y1.bel.size
    (try simp only [World.size_alloc, World.size_setCell, World.size_drew] at hsy1)
    go_wp2_with fail
    refine bodyPost_ret (by simp [results, Tryz.results66, go_sem, ↓IntWalk.iteOmega, *]; try rfl) rfl ?_
    refine RetOwn.mk (.slice none 0 0) rfl (World.ownsRow_nil _ _ _ _) ?_
    (repeat (first | (with_reducible exact Below.refl _ _) | (with_reducible assumption) | (with_reducible refine Later.out _ ?_) | (with_reducible refine bel_alloc ?_ _) | (with_reducible refine bel_drew ?_) | (with_reducible refine bel_drewN ?_ _) | (with_reducible refine bel_set ?_ ?_ _) | (with_reducible refine After.out _ ?_ ?_) | (dsimp only; omega) | omega | (simp only [World.size_alloc, World.size_setCell, World.size_drew]; omega)))
  have h12 := len_of_claims h1
  have C1 := Lib.hid (areClaims_b (c := c) hn hm hr ok hx h1)
  subst hn
  cases hc : consB L
  · have CB := Lib.hid (fun a c (w : World) hcp hr => areConsistent_b (L := L) (a := a) (c := c) (w := w) (n := L.length) rfl (by omega) hcp hr hc)
    have CT := fun (w : World) hr => sourcesOf_any L a L.length c w rfl (by omega) hr
    have hI := smsB_ixs hc
    have hI0 : pickS (srcs L) (smsB L 0) = srcs L := pickS_all _
    have hIl : (smsB L 0).length = (srcs L).length := rest_len _
    have hIS : ∀ k, smsB L (k + 1) = if coreLt (subN (srcs L).length k) (smsB L k) && srcG L (subN (srcs L).length k) then subN (srcs L).length k else smsB L k := fun k => rfl
    have hle := srcs_le L
    have hky := srcs_keys L
    have hGb := fun S b => srcG_b (L := L) (S := S) (b := b) rfl
    rw [show smsR L = pickS (srcs L) (smsB L (2 ^ (srcs L).length)) by simp [smsR, h1, hc], show smsK L = 0 by simp [smsK, h1, hc], pickS_len]
    obtain ⟨B, hB⟩ : ∃ B, smsB L = B := ⟨_, rfl⟩
    obtain ⟨G, hG⟩ : ∃ G, srcG L = G := ⟨_, rfl⟩
    simp only [hB, hG] at hI hI0 hIl hIS hGb ⊢
    clear hB hG
    obtain ⟨A, hA⟩ : ∃ A, srcs L = A := ⟨_, rfl⟩
    simp only [hA] at hI hI0 hIl hIS hGb hle hky CT ⊢
    clear hA hc
    have hm : A.length ≤ 12 := by omega
    obtain ⟨N, hN⟩ : ∃ N, N = 2 ^ A.length := ⟨_, rfl⟩
    have hN2 : N ≤ 4096 := by rw [hN]; exact Nat.pow_le_pow_right (n := 2) (by omega) hm
    have hsh := wrap_pow hm
    rw [← hN] at hsh ⊢
    replace hN := Lib.hid hN
    replace hsh := Lib.hid hsh
    have hS := Lib.hid (fun k => ixs_subN A.length k)
    have hSl := Lib.hid (fun k => subN_len A.length k)
    have CSub := Lib.hid (fun (k : Nat) (hk : k < N) (w : World) => subset_any A.length k w hm (by rw [← hN.out]; exact hk))
    replace hI := Lib.hid hI
    replace hI0 := Lib.hid hI0
    replace hIl := Lib.hid hIl
    replace hIS := Lib.hid hIS
    replace hGb := Lib.hid hGb
    replace hky := Lib.hid hky
    replace CT := Lib.hid CT
    replace hr := Lib.hid hr
    clear ok h1 hx
    obtain ⟨ii, j1, j2, j3, j4⟩ := info_str'
    have Jii := Lib.hid (And.intro j1 (And.intro j2 (And.intro j3 j4)))
    clear j1 j2 j3 j4
    go_enter Tryz.func66, Tryz.ntmps66
    go_wp2_with fail
    with_reducible refine (C1.out).mono ?_
    rintro e w' ⟨rfl, y1, rfl⟩
    have hsy1 := y1.bel.size
    (try simp only [World.size_alloc, World.size_setCell, World.size_drew] at hsy1)
    go_wp2_with fail
    with_reducible refine (CB.out _ _ _ (hcp) (hr.out.bel (by (repeat (first | (with_reducible exact Below.refl _ _) | (with_reducible assumption) | (with_reducible refine Later.out _ ?_) | (with_reducible refine bel_alloc ?_ _) | (with_reducible refine bel_drew ?_) | (with_reducible refine bel_drewN ?_ _) | (with_reducible refine bel_set ?_ ?_ _) | (with_reducible refine After.out _ ?_ ?_) | (dsimp only; omega) | omega | (simp only [World.size_alloc, World.size_setCell, World.size_drew]; omega)))))).mono ?_
    rintro e w' ⟨rfl, y7, rfl⟩
    have hsy7 := y7.bel.size
    (try simp only [World.size_alloc, World.size_setCell, World.size_drew] at hsy7)
    go_wp2_with fail
    with_reducible refine (CT.out _ (hr.out.bel (by (repeat (first | (with_reducible exact Below.refl _ _) | (with_reducible assumption) | (with_reducible refine Later.out _ ?_) | (with_reducible refine bel_alloc ?_ _) | (with_reducible refine bel_drew ?_) | (with_reducible refine bel_drewN ?_ _) | (with_reducible refine bel_set ?_ ?_ _) | (with_reducible refine After.out _ ?_ ?_) | (dsimp only; omega) | omega | (simp only [World.size_alloc, World.size_setCell, World.size_drew]; omega)))))).mono ?_
    rintro e w' ⟨a2, c2, rfl, hown, y2, rfl⟩
    have hsy2 := y2.bel.size
    (try simp only [World.size_alloc, World.size_setCell, World.size_drew] at hsy2)
    have H2 := Lib.hid (Owns.of hown)
    clear hown
    go_wp2_with fail
    go_loopw [5, 23] (fun t5 i wr => ∃ (k : Nat) (a5 : Option Addr) (c5 : Nat), k ≤ N ∧ i = .int .i64 k ∧ t5 = .slice a5 (B k).length c5 ∧ Owns wr w.heap.size wr.heap.size 9 1 (B k).length a5 c5 (strCells (pickS A (B k))) ∧ ∃ z : Later y2.w, wr = z.w) (fun _ i _ => N - (intOf i).toNat)
    case atStart => exact ⟨0, a2, c2, Nat.zero_le _, rfl, by rw [hIl.out], by rw [hIl.out, hI0.out]; exact ⟨own_mono H2.out.own (by ((try simp only [World.size_alloc, World.size_setCell, World.size_drew]); omega)), H2.out.lt⟩, LaterC.mk (by (repeat (first | (with_reducible exact Below.refl _ _) | (with_reducible assumption) | (with_reducible refine Later.out _ ?_) | (with_reducible refine bel_alloc ?_ _) | (with_reducible refine bel_drew ?_) | (with_reducible refine bel_drewN ?_ _) | (with_reducible refine bel_set ?_ ?_ _) | (with_reducible refine After.out _ ?_ ?_) | (dsimp only; omega) | omega | (simp only [World.size_alloc, World.size_setCell, World.size_drew]; omega))))⟩
    case round =>
      obtain ⟨k, a5, c5, hk, rfl, rfl, hown, z, rfl⟩ := hrel
      have hzz := z.bel.size
      have HB := Lib.hid hown
      clear hown
      by_cases hlt : k < N
      · have hi1 : (k : Int) < wrap64 ((2 : Int) ^ A.length) := by rw [hsh.out]; omega
        have hlen := hSl.out k
        have CS := Lib.hid (fun w => CSub.out k hlt w)
        have hSk := hS.out k
        have hST := hIS.out k
        have hTx := hI.out k
        have hTl := ixs_len hTx
        obtain ⟨S, hSe⟩ : ∃ S, subN A.length k = S := ⟨_, rfl⟩
        obtain ⟨T, hTe⟩ : ∃ T, B k = T := ⟨_, rfl⟩
        rw [hSe] at hSk hlen hST
        simp only [hSe] at CS
        rw [hTe] at hTx hTl hST HB
        simp only [hTe]
        clear hSe hTe
        have hGS := hGb.out S
        have hcm := cmpS_pick hky.out (S := S) (T := T) (fun x hx => hSk.bd x hx) (fun x hx => hTx.bd x hx)
        have CC := fun a7 c7 w r1 r2 => compareS_any (pickS A S) (pickS A T) a7 S.length c7 a5 T.length c5 w (pickS_len _ _) (pickS_len _ _) (by omega) (by omega) r1 r2
        rw [hcm] at CC
        replace CC := Lib.hid CC
        have hTl2 : S.take S.length = S := List.take_length
        replace hTl2 := Lib.hid hTl2
        have CZ := Lib.hid (fun (w : World) => cmpInt_any S.length T.length w)
        have CO := Lib.hid (fun a c w hr => cmpOr_any [cmpZ S.length T.length, cmpL S T] a 2 c w rfl (by omega) hr)
        have hE : decide (orL [cmpZ S.length T.length, cmpL S T] < 0) = coreLt S T := coreCf_lt S T
        obtain ⟨u, hu⟩ : ∃ u, cmpZ (S.length : Int) T.length = u := ⟨_, rfl⟩
        obtain ⟨v, hv⟩ : ∃ v, cmpL S T = v := ⟨_, rfl⟩
        rw [hu] at CZ hE
        rw [hv] at CC hE
        simp only [hu, hv] at CO
        clear hu hv hcm
        obtain ⟨q, hq⟩ : ∃ q, orL [u, v] = q := ⟨_, rfl⟩
        rw [hq] at hE
        simp only [hq] at CO
        clear hq
        have CF := Lib.hid (fun a7 c7 (w : World) r1 r2 => fromSources_any L (pickS A S) a L.length c a7 S.length c7 w rfl (by omega) (pickS_len _ _) (by omega) r1 r2)
        obtain ⟨g, hg⟩ : ∃ g, G S = g := ⟨_, rfl⟩
        have hcon := hGS g hg
        rw [hg] at hST
        have CA := Lib.hid (fun a8 c8 (w : World) h8 r8 => areConsistent_b (L := bySrc L (pickS A S)) (a := a8) (c := c8) (w := w) (n := (bySrc L (pickS A S)).length) (b := !g) rfl (by have := bySrc_le L (pickS A S); omega) h8 r8 hcon)
        have hbl := bySrc_le L (pickS A S)
        obtain ⟨K, hK⟩ : ∃ K, bySrc L (pickS A S) = K := ⟨_, rfl⟩
        rw [hK] at CA hbl
        simp only [hK] at CF
        clear hK hg hcon hGS hTx
        replace hSk := Lib.hid hSk
        replace hE := Lib.hid hE
        replace hST := Lib.hid hST
        go_wp2_with fail
        with_reducible refine (CS.out _).mono ?_
        rintro e w' ⟨a6, c6, rfl, hown, y6, rfl⟩
        have hsy6 := y6.bel.size
        (try simp only [World.size_alloc, World.size_setCell, World.size_drew] at hsy6)
        have H6 := Lib.hid (Owns.of hown)
        clear hown
        go_wp2_with fail
        go_loopw [7, 29] (fun t7 i wr => ∃ (j : Nat) (a7 : Option Addr) (c7 : Nat), j ≤ S.length ∧ i = .int .i64 j ∧ t7 = .slice a7 j c7 ∧ wr.ownsRow y6.w.heap.size 9 1 (.slice a7 j c7) j (strCells (pickS A (S.take j))) ∧ ∃ x : Later y6.w, wr = x.w) (fun _ i _ => S.length - (intOf i).toNat)
        case atStart => exact ⟨0, none, 0, Nat.zero_le _, rfl, rfl, World.ownsRow_nil _ _ _ _, LaterC.mk (by (repeat (first | (with_reducible exact Below.refl _ _) | (with_reducible assumption) | (with_reducible refine Later.out _ ?_) | (with_reducible refine bel_alloc ?_ _) | (with_reducible refine bel_drew ?_) | (with_reducible refine bel_drewN ?_ _) | (with_reducible refine bel_set ?_ ?_ _) | (with_reducible refine After.out _ ?_ ?_) | (dsimp only; omega) | omega | (simp only [World.size_alloc, World.size_setCell, World.size_drew]; omega))))⟩
        case round =>
          obtain ⟨j, a7, c7, hj, rfl, rfl, hown, x, rfl⟩ := hrel
          replace hown := Lib.hid hown
          have hxx := x.bel.size
          by_cases hlt2 : j < S.length
          · have hi2 : (j : Int) < (S.length : Int) := by omega
            have hxb := hSk.out.bd _ (List.getElem_mem hlt2)
            obtain ⟨b6, o6, rfl, hb6, hc6⟩ := H6.out.row.int hlt2
            obtain ⟨m, hmx, hml⟩ : ∃ m : Nat, S[j] = m ∧ m < A.length := ⟨S[j].toNat, by omega, by omega⟩
            have X := Lib.hid (pickS_take (A := A) hlt2 hmx hml)
            rw [hmx] at hc6 hxb
            have hi3 : (m : Int) < (A.length : Int) := by omega
            clear hmx
            obtain ⟨b2, o2, rfl, hb2, hc2⟩ := H2.out.row.str hml
            obtain ⟨s, hs⟩ : ∃ s, A[m] = s := ⟨_, rfl⟩
            rw [hs] at hc2
            replace X : Hid (pickS A (S.take (j + 1)) = pickS A (S.take j) ++ [s]) := Lib.hid (by rw [X.out, hs])
            obtain ⟨P, hP⟩ : ∃ P, pickS A (S.take j) = P := ⟨_, rfl⟩
            rw [hP] at hown X
            clear hP hs
            go_wp2_with (at_builtin; (refine wpList_append_later _ rfl _ _ _ rfl 9 ii _ 1 16 Tryz.underlying63 Jii.out.1 Jii.out.2.1 Jii.out.2.2.1 Jii.out.2.2.2 rfl (by decide) (y6.w) ?qa1 _ _ _ (strCells P) rfl ?qa2 _ _ _ ([.string s]) rfl ?qa3 ?qa4 ?qa5 ?qa6 ?qa7 ?_); (case qa1 => (repeat (first | (with_reducible exact Below.refl _ _) | (with_reducible assumption) | (with_reducible refine Later.out _ ?_) | (with_reducible refine bel_alloc ?_ _) | (with_reducible refine bel_drew ?_) | (with_reducible refine bel_drewN ?_ _) | (with_reducible refine bel_set ?_ ?_ _) | (with_reducible refine After.out _ ?_ ?_) | (dsimp only; omega) | omega | (simp only [World.size_alloc, World.size_setCell, World.size_drew]; omega)))); (case qa2 => exact own_bel hown.out (by (repeat (first | (with_reducible exact Below.refl _ _) | (with_reducible assumption) | (with_reducible refine Later.out _ ?_) | (with_reducible refine bel_alloc ?_ _) | (with_reducible refine bel_drew ?_) | (with_reducible refine bel_drewN ?_ _) | (with_reducible refine bel_set ?_ ?_ _) | (with_reducible refine After.out _ ?_ ?_) | (dsimp only; omega) | omega | (simp only [World.size_alloc, World.size_setCell, World.size_drew]; omega))))); (case qa3 => (first | rfl | (simp [boolCells]; done) | (simp [intCells]; done) | (simp; done) | (first | omega | (simp only [List.length_append, List.length_cons, List.length_nil]; omega)))); (case qa4 => exact Row.madeAt (by simp only [World.size_alloc]; try rfl) rfl); (case qa5 => exact one_str1 _); (case qa6 => (unfold maxLen; (first | omega | (simp only [List.length_append, List.length_cons, List.length_nil]; omega)))); (case qa7 => (first | omega | (simp only [List.length_append, List.length_cons, List.length_nil]; omega))); intro a9 c9 x9 hown9)
            replace hown9 := Lib.hid hown9
            go_roundw
            case rel => exact ⟨j + 1, a9, c9, by omega, by go_num, rfl, by rw [X.out, strCells_snoc]; exact hown9.out, x9, rfl⟩
            case measure => first | (simp [intOf]; done) | (simp [intOf]; omega) | omega
          · obtain rfl : j = S.length := by omega
            rw [hTl2.out] at hown
            have HO := Lib.hid (Owns.of hown.out)
            clear hown
            go_wp2_with fail
            with_reducible refine (CZ.out _).mono ?_
            rintro e w' ⟨rfl, y3, rfl⟩
            have hsy3 := y3.bel.size
            (try simp only [World.size_alloc, World.size_setCell, World.size_drew] at hsy3)
            go_wp2_with fail
            with_reducible refine (CC.out _ _ _ (HO.out.row.bel (by (repeat (first | (with_reducible exact Below.refl _ _) | (with_reducible assumption) | (with_reducible refine Later.out _ ?_) | (with_reducible refine bel_alloc ?_ _) | (with_reducible refine bel_drew ?_) | (with_reducible refine bel_drewN ?_ _) | (with_reducible refine bel_set ?_ ?_ _) | (with_reducible refine After.out _ ?_ ?_) | (dsimp only; omega) | omega | (simp only [World.size_alloc, World.size_setCell, World.size_drew]; omega))))) (HB.out.row.bel (by (repeat (first | (with_reducible exact Below.refl _ _) | (with_reducible assumption) | (with_reducible refine Later.out _ ?_) | (with_reducible refine bel_alloc ?_ _) | (with_reducible refine bel_drew ?_) | (with_reducible refine bel_drewN ?_ _) | (with_reducible refine bel_set ?_ ?_ _) | (with_reducible refine After.out _ ?_ ?_) | (dsimp only; omega) | omega | (simp only [World.size_alloc, World.size_setCell, World.size_drew]; omega)))))).mono ?_
            rintro e w' ⟨rfl, y4, rfl⟩
            have hsy4 := y4.bel.size
            (try simp only [World.size_alloc, World.size_setCell, World.size_drew] at hsy4)
            go_wp2_with fail
            with_reducible refine (CO.out _ _ _ (Row.madeAt (w := y4.w) (cs := #[.int .i64 u, .int .i64 v]) (e := 3) rfl rfl)).mono ?_
            rintro e w' ⟨rfl, y5, rfl⟩
            have hsy5 := y5.bel.size
            (try simp only [World.size_alloc, World.size_setCell, World.size_drew] at hsy5)
            by_cases hq : q < 0
            · have hcl := hE.out
              rw [decide_eq_true hq] at hcl
              have hST' := hST.out
              rw [← hcl] at hST'
              clear hcl
              cases g
              · have X := Lib.hid (show B (k + 1) = T by rw [hST']; rfl)
                clear hST'
                go_wp2_with fail
                with_reducible refine (CF.out _ _ _ (hr.out.bel (by (repeat (first | (with_reducible exact Below.refl _ _) | (with_reducible assumption) | (with_reducible refine Later.out _ ?_) | (with_reducible refine bel_alloc ?_ _) | (with_reducible refine bel_drew ?_) | (with_reducible refine bel_drewN ?_ _) | (with_reducible refine bel_set ?_ ?_ _) | (with_reducible refine After.out _ ?_ ?_) | (dsimp only; omega) | omega | (simp only [World.size_alloc, World.size_setCell, World.size_drew]; omega))))) (HO.out.row.bel (by (repeat (first | (with_reducible exact Below.refl _ _) | (with_reducible assumption) | (with_reducible refine Later.out _ ?_) | (with_reducible refine bel_alloc ?_ _) | (with_reducible refine bel_drew ?_) | (with_reducible refine bel_drewN ?_ _) | (with_reducible refine bel_set ?_ ?_ _) | (with_reducible refine After.out _ ?_ ?_) | (dsimp only; omega) | omega | (simp only [World.size_alloc, World.size_setCell, World.size_drew]; omega)))))).mono ?_
                rintro e w' ⟨a8, c8, rfl, hown, y8, rfl⟩
                have hsy8 := y8.bel.size
                (try simp only [World.size_alloc, World.size_setCell, World.size_drew] at hsy8)
                have H8 := Lib.hid (Owns.of hown)
                clear hown
                go_wp2_with fail
                with_reducible refine (CA.out _ _ _ H8.out.cap H8.out.row).mono ?_
                rintro e w' ⟨rfl, y9, rfl⟩
                have hsy9 := y9.bel.size
                (try simp only [World.size_alloc, World.size_setCell, World.size_drew] at hsy9)
                go_wp2_with fail
                go_roundw
                case rel => exact ⟨k + 1, a5, c5, by omega, by go_num, by rw [X.out], by rw [X.out]; exact ⟨own_bel HB.out.own (by (repeat (first | (with_reducible exact Below.refl _ _) | (with_reducible assumption) | (with_reducible refine Later.out _ ?_) | (with_reducible refine bel_alloc ?_ _) | (with_reducible refine bel_drew ?_) | (with_reducible refine bel_drewN ?_ _) | (with_reducible refine bel_set ?_ ?_ _) | (with_reducible refine After.out _ ?_ ?_) | (dsimp only; omega) | omega | (simp only [World.size_alloc, World.size_setCell, World.size_drew]; omega)))), fun p hp => Nat.lt_of_lt_of_le (HB.out.lt p hp) (by ((try simp only [World.size_alloc, World.size_setCell, World.size_drew]); omega))⟩, LaterC.mk (by (repeat (first | (with_reducible exact Below.refl _ _) | (with_reducible assumption) | (with_reducible refine Later.out _ ?_) | (with_reducible refine bel_alloc ?_ _) | (with_reducible refine bel_drew ?_) | (with_reducible refine bel_drewN ?_ _) | (with_reducible refine bel_set ?_ ?_ _) | (with_reducible refine After.out _ ?_ ?_) | (dsimp only; omega) | omega | (simp only [World.size_alloc, World.size_setCell, World.size_drew]; omega))))⟩
                case measure => first | (simp [intOf]; done) | (simp [intOf]; omega) | omega
              · have X := Lib.hid (show B (k + 1) = S by rw [hST']; rfl)
                clear hST'
                go_wp2_with fail
                with_reducible refine (CF.out _ _ _ (hr.out.bel (by (repeat (first | (with_reducible exact Below.refl _ _) | (with_reducible assumption) | (with_reducible refine Later.out _ ?_) | (with_reducible refine bel_alloc ?_ _) | (with_reducible refine bel_drew ?_) | (with_reducible refine bel_drewN ?_ _) | (with_reducible refine bel_set ?_ ?_ _) | (with_reducible refine After.out _ ?_ ?_) | (dsimp only; omega) | omega | (simp only [World.size_alloc, World.size_setCell, World.size_drew]; omega))))) (HO.out.row.bel (by (repeat (first | (with_reducible exact Below.refl _ _) | (with_reducible assumption) | (with_reducible refine Later.out _ ?_) | (with_reducible refine bel_alloc ?_ _) | (with_reducible refine bel_drew ?_) | (with_reducible refine bel_drewN ?_ _) | (with_reducible refine bel_set ?_ ?_ _) | (with_reducible refine After.out _ ?_ ?_) | (dsimp only; omega) | omega | (simp only [World.size_alloc, World.size_setCell, World.size_drew]; omega)))))).mono ?_
                rintro e w' ⟨a8, c8, rfl, hown, y8, rfl⟩
                have hsy8 := y8.bel.size
                (try simp only [World.size_alloc, World.size_setCell, World.size_drew] at hsy8)
                have H8 := Lib.hid (Owns.of hown)
                clear hown
                go_wp2_with fail
                with_reducible refine (CA.out _ _ _ H8.out.cap H8.out.row).mono ?_
                rintro e w' ⟨rfl, y9, rfl⟩
                have hsy9 := y9.bel.size
                (try simp only [World.size_alloc, World.size_setCell, World.size_drew] at hsy9)
                go_wp2_with fail
                go_roundw
                case rel => exact ⟨k + 1, a7, c7, by omega, by go_num, by rw [X.out], by rw [X.out]; exact ⟨own_mono (own_bel HO.out.own (by (repeat (first | (with_reducible exact Below.refl _ _) | (with_reducible assumption) | (with_reducible refine Later.out _ ?_) | (with_reducible refine bel_alloc ?_ _) | (with_reducible refine bel_drew ?_) | (with_reducible refine bel_drewN ?_ _) | (with_reducible refine bel_set ?_ ?_ _) | (with_reducible refine After.out _ ?_ ?_) | (dsimp only; omega) | omega | (simp only [World.size_alloc, World.size_setCell, World.size_drew]; omega))))) (by ((try simp only [World.size_alloc, World.size_setCell, World.size_drew]); omega)), fun p hp => Nat.lt_of_lt_of_le (HO.out.lt p hp) (by ((try simp only [World.size_alloc, World.size_setCell, World.size_drew]); omega))⟩, LaterC.mk (by (repeat (first | (with_reducible exact Below.refl _ _) | (with_reducible assumption) | (with_reducible refine Later.out _ ?_) | (with_reducible refine bel_alloc ?_ _) | (with_reducible refine bel_drew ?_) | (with_reducible refine bel_drewN ?_ _) | (with_reducible refine bel_set ?_ ?_ _) | (with_reducible refine After.out _ ?_ ?_) | (dsimp only; omega) | omega | (simp only [World.size_alloc, World.size_setCell, World.size_drew]; omega))))⟩
                case measure => first | (simp [intOf]; done) | (simp [intOf]; omega) | omega
            · have hcl := hE.out
              rw [decide_eq_false hq] at hcl
              have hST' := hST.out
              rw [← hcl] at hST'
              have X := Lib.hid (show B (k + 1) = T by rw [hST']; rfl)
              clear hcl hST'
              go_wp2_with fail
              go_roundw
              case rel => exact ⟨k + 1, a5, c5, by omega, by go_num, by rw [X.out], by rw [X.out]; exact ⟨own_bel HB.out.own (by (repeat (first | (with_reducible exact Below.refl _ _) | (with_reducible assumption) | (with_reducible refine Later.out _ ?_) | (with_reducible refine bel_alloc ?_ _) | (with_reducible refine bel_drew ?_) | (with_reducible refine bel_drewN ?_ _) | (with_reducible refine bel_set ?_ ?_ _) | (with_reducible refine After.out _ ?_ ?_) | (dsimp only; omega) | omega | (simp only [World.size_alloc, World.size_setCell, World.size_drew]; omega)))), fun p hp => Nat.lt_of_lt_of_le (HB.out.lt p hp) (by ((try simp only [World.size_alloc, World.size_setCell, World.size_drew]); omega))⟩, LaterC.mk (by (repeat (first | (with_reducible exact Below.refl _ _) | (with_reducible assumption) | (with_reducible refine Later.out _ ?_) | (with_reducible refine bel_alloc ?_ _) | (with_reducible refine bel_drew ?_) | (with_reducible refine bel_drewN ?_ _) | (with_reducible refine bel_set ?_ ?_ _) | (with_reducible refine After.out _ ?_ ?_) | (dsimp only; omega) | omega | (simp only [World.size_alloc, World.size_setCell, World.size_drew]; omega))))⟩
              case measure => first | (simp [intOf]; done) | (simp [intOf]; omega) | omega
      · obtain rfl : k = N := by omega
        have hi1 : ¬ (k : Int) < wrap64 ((2 : Int) ^ A.length) := by rw [hsh.out]; omega
        go_wp2_with fail
        refine bodyPost_ret (by simp [results, Tryz.results66, go_sem, ↓IntWalk.iteOmega, *]; try rfl) rfl ?_
        refine RetOwn.mk _ rfl HB.out.own ?_
        (repeat (first | (with_reducible exact Below.refl _ _) | (with_reducible assumption) | (with_reducible refine Later.out _ ?_) | (with_reducible refine bel_alloc ?_ _) | (with_reducible refine bel_drew ?_) | (with_reducible refine bel_drewN ?_ _) | (with_reducible refine bel_set ?_ ?_ _) | (with_reducible refine After.out _ ?_ ?_) | (dsimp only; omega) | omega | (simp only [World.size_alloc, World.size_setCell, World.size_drew]; omega)))
  · rw [show smsR L = [] by simp [smsR, hc], show smsK L = 4 by simp [smsK, h1, hc]]
    have CB := Lib.hid (fun a c (w : World) hcp hr => areConsistent_b (L := L) (a := a) (c := c) (w := w) (n := L.length) rfl (by omega) hcp hr hc)
    replace hr := Lib.hid hr
    clear ok h1 hx hc
    go_enter Tryz.func66, Tryz.ntmps66
    go_wp2_with fail
    with_reducible refine (C1.out).mono ?_
    rintro e w' ⟨rfl, y1, rfl⟩
    have hsy1 := y1.bel.size
    (try simp only [World.size_alloc, World.size_setCell, World.size_drew] at hsy1)
    go_wp2_with fail
    with_reducible refine (CB.out _ _ _ (hcp) (hr.out.bel (by (repeat (first | (with_reducible exact Below.refl _ _) | (with_reducible assumption) | (with_reducible refine Later.out _ ?_) | (with_reducible refine bel_alloc ?_ _) | (with_reducible refine bel_drew ?_) | (with_reducible refine bel_drewN ?_ _) | (with_reducible refine bel_set ?_ ?_ _) | (with_reducible refine After.out _ ?_ ?_) | (dsimp only; omega) | omega | (simp only [World.size_alloc, World.size_setCell, World.size_drew]; omega)))))).mono ?_
    rintro e w' ⟨rfl, y7, rfl⟩
    have hsy7 := y7.bel.size
    (try simp only [World.size_alloc, World.size_setCell, World.size_drew] at hsy7)
    go_wp2_with fail
    refine bodyPost_ret (by simp [results, Tryz.results66, go_sem, ↓IntWalk.iteOmega, *]; try rfl) rfl ?_
    refine RetOwn.mk (.slice none 0 0) rfl (World.ownsRow_nil _ _ _ _) ?_
    (repeat (first | (with_reducible exact Below.refl _ _) | (with_reducible assumption) | (with_reducible refine Later.out _ ?_) | (with_reducible refine bel_alloc ?_ _) | (with_reducible refine bel_drew ?_) | (with_reducible refine bel_drewN ?_ _) | (with_reducible refine bel_set ?_ ?_ _) | (with_reducible refine After.out _ ?_ ?_) | (dsimp only; omega) | omega | (simp only [World.size_alloc, World.size_setCell, World.size_drew]; omega)))
end
end Go.Proofs.YtflcfdiochohgaaGreatDoor

/- SmallestSources: the reference's side. -/
set_option linter.unusedSimpArgs false
set_option linter.unusedVariables false
namespace Go.Proofs.YtflcfdiochohgaaGreatDoor
open Go.RowKit
theorem srcG_nil (L : List Clm) : srcG L [] = false := by
  unfold srcG pickS bySrc
  rw [List.map_nil, show (L.filter fun c => hasS [] c.src) = [] from List.filter_eq_nil_iff.2 fun c _ => by simp [hasS, idxS], show consB [] = true from bof_true cons_nil]
  rfl
theorem scan_step {F : Nat → Option (List Int)} {m j : Nat} (h : j < m) : scan F m (m - j) = match F j with | some r => some r | none => scan F m (m - (j + 1)) := by
  obtain ⟨d, hd⟩ : ∃ d, m - j = d + 1 := ⟨m - j - 1, by omega⟩
  rw [hd, scan, show m - (d + 1) = j by omega, show m - (j + 1) = d by omega]
  all_goals (cases F j <;> rfl)
/-- Whether a search found texts, and which. -/
def RetFew (lo : Nat) (w : World) (A : List ByteArray) (r : Option (List Int)) (b : Bool) (e : Ending) (w' : World) : Prop :=
  ∃ (a : Option Addr) (n c : Nat), e = .returned (.tuple #[.slice a n c, .bool b]) ∧ (∀ T, r = some T → n = T.length ∧ Owns w' lo w'.heap.size 9 1 n a c (strCells (pickS A T))) ∧ ∃ y : Later w, w' = y.w
theorem RetFew.mk' {lo : Nat} {w w' : World} {A : List ByteArray} {r : Option (List Int)} {b : Bool} {e : Ending} {a : Option Addr} {n c : Nat} (h : e = .returned (.tuple #[.slice a n c, .bool b])) (hT : ∀ T, r = some T → n = T.length ∧ Owns w' lo w'.heap.size 9 1 n a c (strCells (pickS A T))) (hb : Below w.heap.size w w') : RetFew lo w A r b e w' := ⟨a, n, c, h, hT, ⟨w', hb⟩, rfl⟩
theorem named_by {L : List Clm} (h : Named L) (Z : List ByteArray) : Named (bySrc L Z) := fun c hc => h c (List.mem_filter.1 hc).1
set_option maxRecDepth 40000 in
set_option maxHeartbeats 8000000 in
theorem sFew_any (L : List Clm) (A : List ByteArray) (hA : srcs L = A) (a : Option Addr) (c : Nat) (aA : Option Addr) (cA : Nat) (hm : L.length ≤ 12) (hv : Named L) : ∀ (f : Nat) (S : List Int) (fr : Nat), fr ≤ A.length → S.length + f ≤ 13 →
    ∀ (b : Bool), (few (srcG L) A.length f S fr).isSome = b → ∀ (lo : Nat) (a' : Option Addr) (c' : Nat) (w : World), Row w a (clmsCells L) → Row w aA (strCells A) → lo ≤ w.heap.size → Owns w lo w.heap.size 9 1 S.length a' c' (strCells (pickS A S)) →
    Calls Tryz.prog 140 #[.slice a L.length c, .slice aA A.length cA, .slice a' S.length c', .int .i64 fr, .int .i64 (f : Nat)] w (RetFew lo w A (few (srcG L) A.length f S fr) b) := by
  have hAl : A.length ≤ 12 := by have := srcs_le L; rw [hA] at this; omega
  intro f
  induction f with
  | zero =>
    intro S fr hfr hSf b hb lo a' c' w hr hrA hlo ho
    obtain ⟨g, hg⟩ : ∃ g, srcG L S = g := ⟨_, rfl⟩
    have hcon := srcG_b hA hg
    have hbl := bySrc_le L (pickS A S)
    have CB := Lib.hid (fun (w : World) r1 r2 => sBy_any L (pickS A S) a L.length c a' S.length c' w rfl (by omega) (pickS_len _ _) (by omega) r1 r2)
    have CA := Lib.hid (fun a8 c8 (w : World) r8 => sCons_b (L := bySrc L (pickS A S)) (a := a8) (c := c8) (w := w) (n := (bySrc L (pickS A S)).length) (b := !g) rfl (by omega) r8 (named_by hv _) hcon)
    obtain ⟨R, hR⟩ : ∃ R, few (srcG L) A.length 0 S fr = R := ⟨_, rfl⟩
    have X : R = if g then some S else none := by rw [← hR, few, hg]
    rw [hR] at hb ⊢
    obtain rfl : b = g := by rw [← hb, X]; cases g <;> rfl
    have HT : ∀ w', Below w.heap.size w w' → ∀ T, R = some T → S.length = T.length ∧ Owns w' lo w'.heap.size 9 1 S.length a' c' (strCells (pickS A T)) := fun w' hb T hT => by
      rw [X] at hT
      split at hT
      · cases hT
        exact ⟨rfl, own_bel ho.own hb, fun p hp => Nat.lt_of_lt_of_le (ho.lt p hp) hb.size⟩
      · cases hT
    replace HT := Lib.hid HT
    have HO := Lib.hid ho
    replace hr := Lib.hid hr
    obtain ⟨K, hK⟩ : ∃ K, bySrc L (pickS A S) = K := ⟨_, rfl⟩
    rw [hK] at CA hbl
    simp only [hK] at CB
    clear hK hg hcon ho hrA hR X hb hA
    show Calls Tryz.prog 140 #[.slice a L.length c, .slice aA A.length cA, .slice a' S.length c', .int .i64 fr, .int .i64 0] w _
    go_enter Tryz.func140, Tryz.ntmps140
    go_wp2_with fail
    with_reducible refine (CB.out _ (hr.out.bel (by (repeat (first | (with_reducible exact Below.refl _ _) | (with_reducible assumption) | (with_reducible refine Later.out _ ?_) | (with_reducible refine bel_alloc ?_ _) | (with_reducible refine bel_drew ?_) | (with_reducible refine bel_drewN ?_ _) | (with_reducible refine bel_set ?_ ?_ _) | (with_reducible refine After.out _ ?_ ?_) | (dsimp only; omega) | omega | (simp only [World.size_alloc, World.size_setCell, World.size_drew]; omega))))) (HO.out.row.bel (by (repeat (first | (with_reducible exact Below.refl _ _) | (with_reducible assumption) | (with_reducible refine Later.out _ ?_) | (with_reducible refine bel_alloc ?_ _) | (with_reducible refine bel_drew ?_) | (with_reducible refine bel_drewN ?_ _) | (with_reducible refine bel_set ?_ ?_ _) | (with_reducible refine After.out _ ?_ ?_) | (dsimp only; omega) | omega | (simp only [World.size_alloc, World.size_setCell, World.size_drew]; omega)))))).mono ?_
    rintro e w' ⟨a8, c8, rfl, hown, y8, rfl⟩
    have hsy8 := y8.bel.size
    (try simp only [World.size_alloc, World.size_setCell, World.size_drew] at hsy8)
    have H8 := Lib.hid (Owns.of hown)
    clear hown
    go_wp2_with fail
    with_reducible refine (CA.out _ _ _ H8.out.row).mono ?_
    rintro e w' ⟨rfl, y9, rfl⟩
    have hsy9 := y9.bel.size
    (try simp only [World.size_alloc, World.size_setCell, World.size_drew] at hsy9)
    go_wp2_with fail
    refine bodyPost_ret (by simp [results, Tryz.results140, go_sem, ↓IntWalk.iteOmega, *]; try rfl) rfl ?_
    exact RetFew.mk' (by first | rfl | (cases b <;> rfl)) (HT.out _ (by (repeat (first | (with_reducible exact Below.refl _ _) | (with_reducible assumption) | (with_reducible refine Later.out _ ?_) | (with_reducible refine bel_alloc ?_ _) | (with_reducible refine bel_drew ?_) | (with_reducible refine bel_drewN ?_ _) | (with_reducible refine bel_set ?_ ?_ _) | (with_reducible refine After.out _ ?_ ?_) | (dsimp only; omega) | omega | (simp only [World.size_alloc, World.size_setCell, World.size_drew]; omega))))) (by (repeat (first | (with_reducible exact Below.refl _ _) | (with_reducible assumption) | (with_reducible refine Later.out _ ?_) | (with_reducible refine bel_alloc ?_ _) | (with_reducible refine bel_drew ?_) | (with_reducible refine bel_drewN ?_ _) | (with_reducible refine bel_set ?_ ?_ _) | (with_reducible refine After.out _ ?_ ?_) | (dsimp only; omega) | omega | (simp only [World.size_alloc, World.size_setCell, World.size_drew]; omega))))
  | succ f ih =>
    intro S fr hfr hSf b hb lo a' c' w hr hrA hlo ho
    have hz : (((f : Int) + 1) == 0) = false := by rw [beq_eq_false_iff_ne]; omega
    obtain ⟨ii, j1, j2, j3, j4⟩ := info_str'
    have Jii := Lib.hid (And.intro j1 (And.intro j2 (And.intro j3 j4)))
    have IH := Lib.hid (fun (x : Nat) (h : x < A.length) (b : Bool) (r : Option (List Int)) (e : few (srcG L) A.length f (S ++ [(x : Int)]) (x + 1) = r) (e2 : r.isSome = b) (lo : Nat) (a' : Option Addr) (c' : Nat) (w : World) (hr : Row w a (clmsCells L)) (hrA : Row w aA (strCells A)) (hlo : lo ≤ w.heap.size) (ho : Owns w lo w.heap.size 9 1 (S.length + 1) a' c' (strCells (pickS A (S ++ [(x : Int)])))) => show Calls Tryz.prog 140 #[.slice a L.length c, .slice aA A.length cA, .slice a' (S.length + 1) c', .int .i64 ((x : Int) + 1), .int .i64 (f : Int)] w (RetFew lo w A r b) by
      have h3 := ih (S ++ [(x : Int)]) (x + 1) (by omega) (by simp; omega) b (by rw [e]; exact e2) lo a' c' w hr hrA hlo (by rw [List.length_append]; exact ho)
      rw [e, List.length_append, Int.natCast_succ] at h3
      exact h3)
    have hF : few (srcG L) A.length (f + 1) S fr = scan (fun i => few (srcG L) A.length f (S ++ [(i : Int)]) (i + 1)) A.length (A.length - fr) := by rw [few]
    obtain ⟨F, hFe⟩ : ∃ F : Nat → Option (List Int), (fun i : Nat => few (srcG L) A.length f (S ++ [(i : Int)]) (i + 1)) = F := ⟨_, rfl⟩
    have hFx := fun x : Nat => congrFun hFe x
    rw [hFe] at hF
    obtain ⟨R, hR⟩ : ∃ R, few (srcG L) A.length (f + 1) S fr = R := ⟨_, rfl⟩
    rw [hR] at hb hF ⊢
    replace hF := Lib.hid hF.symm
    replace hFx := Lib.hid hFx
    have hSt := Lib.hid (fun j (h : j < A.length) => scan_step (F := F) h)
    have hz0 := Lib.hid (show scan F A.length (A.length - A.length) = none by rw [Nat.sub_self]; rfl)
    have hsn := Lib.hid (fun x (h : x < A.length) => pickS_snoc (A := A) (S := S) h)
    have hlen := pickS_len A S
    obtain ⟨P, hP⟩ : ∃ P, pickS A S = P := ⟨_, rfl⟩
    rw [hP] at ho hlen
    simp only [hP] at hsn
    have hr1 := Lib.hid ho.row
    have hL3 := length_strCells P
    replace hr := Lib.hid hr
    replace hrA := Lib.hid hrA
    clear ih hFe hR hP j1 j2 j3 j4 ho hv hm hA
    rw [Int.natCast_succ]
    go_enter Tryz.func140, Tryz.ntmps140
    go_wp2_with fail
    go_loopw [12] (fun i wr => ∃ x : Nat, x ≤ A.length ∧ i = .int .i64 x ∧ scan F A.length (A.length - x) = R ∧ ∃ z : Later w, wr = z.w) (fun i _ => A.length - (intOf i).toNat)
    case atStart => exact ⟨fr, hfr, rfl, hF.out, LaterC.mk (by (repeat (first | (with_reducible exact Below.refl _ _) | (with_reducible assumption) | (with_reducible refine Later.out _ ?_) | (with_reducible refine bel_alloc ?_ _) | (with_reducible refine bel_drew ?_) | (with_reducible refine bel_drewN ?_ _) | (with_reducible refine bel_set ?_ ?_ _) | (with_reducible refine After.out _ ?_ ?_) | (dsimp only; omega) | omega | (simp only [World.size_alloc, World.size_setCell, World.size_drew]; omega))))⟩
    case round =>
      obtain ⟨x, hx, rfl, hsc, z, rfl⟩ := hrel
      replace hsc := Lib.hid hsc
      have hzz := z.bel.size
      by_cases hlt : x < A.length
      · have hi1 : (x : Int) < (A.length : Int) := by omega
        have hst := hSt.out x hlt
        rw [hsc.out] at hst
        have hcS := hsn.out x hlt
        obtain ⟨bA, oA, rfl, hbA, hcA⟩ := hrA.out.str hlt
        have IH1 := IH.out x hlt
        have hFx1 := hFx.out x
        (try simp only at hFx1)
        obtain ⟨s, hs⟩ : ∃ s, A[x] = s := ⟨_, rfl⟩
        rw [hs] at hcA hcS
        replace hcS : Hid (strCells (pickS A (S ++ [(x : Int)])) = strCells P ++ [.string s]) := Lib.hid (by rw [hcS, strCells_snoc])
        clear hs
        cases hv : F x with
        | none =>
          rw [hv] at hst hFx1
          have IHx := Lib.hid (IH1 false none hFx1 rfl)
          replace hst := Lib.hid hst
          clear IH1 hFx1 hv
          go_wp2_with fail
          refine wp_region_float 9 [(0, true), (1, true), (3, true), (5, true), (6, true), (7, true), (8, true), (11, true), (12, true), (13, true), (14, true), (2, false), (4, false), (9, false), (10, false), (15, false), (16, true), (17, true), (18, true), (19, true), (20, true)] (C := LaterC _) (by kernel_rfl) (by kernel_rfl) (by kernel_rfl) rfl (fun _ _ d _ _ h => by cases d <;> exact h) (LaterC.mk ((Below.refl _ _).drew)) ?_
          repeat (any_goals (first | (with_reducible apply plan_nil) | ((with_reducible apply float_quiet); (first | (with_reducible exact nth0) | (with_reducible exact nth1) | (with_reducible exact nth2) | (with_reducible exact nth3) | (with_reducible exact nth4) | (with_reducible exact nth5) | (with_reducible exact nth6) | (with_reducible exact nth7) | (with_reducible exact nth8) | (with_reducible exact nth9) | (with_reducible exact nth10) | (with_reducible exact nth11) | (with_reducible exact nth12) | (with_reducible exact nth13) | (with_reducible exact nth14) | (with_reducible exact nth15) | (with_reducible exact nth16) | (with_reducible exact nth17) | (with_reducible exact nth18) | (with_reducible exact nth19) | (with_reducible exact nth20) | (with_reducible exact nth21) | (with_reducible exact nth22) | (with_reducible exact nth23)); rfl; intro KP hKP; go_big_quiet_op; go_big_quiet_on) | ((with_reducible apply float_skip); (first | (with_reducible exact nth0) | (with_reducible exact nth1) | (with_reducible exact nth2) | (with_reducible exact nth3) | (with_reducible exact nth4) | (with_reducible exact nth5) | (with_reducible exact nth6) | (with_reducible exact nth7) | (with_reducible exact nth8) | (with_reducible exact nth9) | (with_reducible exact nth10) | (with_reducible exact nth11) | (with_reducible exact nth12) | (with_reducible exact nth13) | (with_reducible exact nth14) | (with_reducible exact nth15) | (with_reducible exact nth16) | (with_reducible exact nth17) | (with_reducible exact nth18) | (with_reducible exact nth19) | (with_reducible exact nth20) | (with_reducible exact nth21) | (with_reducible exact nth22) | (with_reducible exact nth23)); rfl; rfl; simp only [Act.put, List.setIfInBounds_toArray, List.set_cons_zero, List.set_cons_succ]) | ((with_reducible apply plan_quiet); (first | (with_reducible exact nth0) | (with_reducible exact nth1) | (with_reducible exact nth2) | (with_reducible exact nth3) | (with_reducible exact nth4) | (with_reducible exact nth5) | (with_reducible exact nth6) | (with_reducible exact nth7) | (with_reducible exact nth8) | (with_reducible exact nth9) | (with_reducible exact nth10) | (with_reducible exact nth11) | (with_reducible exact nth12) | (with_reducible exact nth13) | (with_reducible exact nth14) | (with_reducible exact nth15) | (with_reducible exact nth16) | (with_reducible exact nth17) | (with_reducible exact nth18) | (with_reducible exact nth19) | (with_reducible exact nth20) | (with_reducible exact nth21) | (with_reducible exact nth22) | (with_reducible exact nth23)); rfl; intro KP hKP; go_big_quiet_op; go_big_quiet_on) | ((with_reducible apply plan_skip_q); (first | (with_reducible exact nth0) | (with_reducible exact nth1) | (with_reducible exact nth2) | (with_reducible exact nth3) | (with_reducible exact nth4) | (with_reducible exact nth5) | (with_reducible exact nth6) | (with_reducible exact nth7) | (with_reducible exact nth8) | (with_reducible exact nth9) | (with_reducible exact nth10) | (with_reducible exact nth11) | (with_reducible exact nth12) | (with_reducible exact nth13) | (with_reducible exact nth14) | (with_reducible exact nth15) | (with_reducible exact nth16) | (with_reducible exact nth17) | (with_reducible exact nth18) | (with_reducible exact nth19) | (with_reducible exact nth20) | (with_reducible exact nth21) | (with_reducible exact nth22) | (with_reducible exact nth23)); rfl; rfl; simp only [Act.put, List.setIfInBounds_toArray, List.set_cons_zero, List.set_cons_succ]) | ((with_reducible apply plan_loud); (first | (with_reducible exact nth0) | (with_reducible exact nth1) | (with_reducible exact nth2) | (with_reducible exact nth3) | (with_reducible exact nth4) | (with_reducible exact nth5) | (with_reducible exact nth6) | (with_reducible exact nth7) | (with_reducible exact nth8) | (with_reducible exact nth9) | (with_reducible exact nth10) | (with_reducible exact nth11) | (with_reducible exact nth12) | (with_reducible exact nth13) | (with_reducible exact nth14) | (with_reducible exact nth15) | (with_reducible exact nth16) | (with_reducible exact nth17) | (with_reducible exact nth18) | (with_reducible exact nth19) | (with_reducible exact nth20) | (with_reducible exact nth21) | (with_reducible exact nth22) | (with_reducible exact nth23)); rfl; intro KP hKP; ((refine oper_append_at _ _ _ _ rfl 9 ii _ 1 16 Tryz.underlying63 Jii.out.1 Jii.out.2.1 Jii.out.2.2.1 Jii.out.2.2.2 rfl (by decide) _ _ rfl ?qc29 ?qc30 _ _ _ (strCells P) rfl ?qc31 ?qc32 ?qc33 ?qc34 ?qc35 ?_); (case qc29 => (first | (dsimp only; omega) | omega | (simp only [World.size_alloc, World.size_setCell, World.size_drew]; omega))); (case qc30 => (first | exact lit0_at (W := z.w.drew) rfl (Nat.le_refl _) (Below.refl _ _) | exact lit0_at (W := z.w.drew) rfl (Nat.le_refl _) ((Below.refl _ _).alloc (Nat.le_refl _) _) | exact lit0_at (W := z.w.drew.alloc (.cells #[.string s] 9)) (by simp only [World.size_alloc, World.size_drew]) (by simp only [World.size_alloc, World.size_drew]; omega) (Below.refl _ _))); (case qc31 => (first | rfl | (simp; done) | (first | omega | (simp only [List.length_append, List.length_cons, List.length_nil]; omega)))); (case qc32 => exact hr1.out.bel (by (repeat (first | (with_reducible exact Below.refl _ _) | (with_reducible assumption) | (with_reducible refine Later.out _ ?_) | (with_reducible refine bel_alloc ?_ _) | (with_reducible refine bel_drew ?_) | (with_reducible refine bel_drewN ?_ _) | (with_reducible refine bel_set ?_ ?_ _) | (with_reducible refine After.out _ ?_ ?_) | (dsimp only; omega) | omega | (simp only [World.size_alloc, World.size_setCell, World.size_drew]; omega))))); (case qc33 => exact one_str P); (case qc34 => (unfold maxLen; (first | omega | (simp only [List.length_append, List.length_cons, List.length_nil]; omega)))); (case qc35 => (first | omega | (simp only [List.length_append, List.length_cons, List.length_nil]; omega))); intro a6 c6 x6 hown6; replace hown6 := Lib.hid hown6); refine hKP _ _ (LaterC.mk (by (repeat (first | (with_reducible exact Below.refl _ _) | (with_reducible assumption) | (with_reducible refine Later.out _ ?_) | (with_reducible refine bel_alloc ?_ _) | (with_reducible refine bel_drew ?_) | (with_reducible refine bel_drewN ?_ _) | (with_reducible refine bel_set ?_ ?_ _) | (with_reducible refine After.out _ ?_ ?_) | (dsimp only; omega) | omega | (simp only [World.size_alloc, World.size_setCell, World.size_drew]; omega))))) ?_; clear hKP KP) | ((with_reducible apply plan_loud); (first | (with_reducible exact nth0) | (with_reducible exact nth1) | (with_reducible exact nth2) | (with_reducible exact nth3) | (with_reducible exact nth4) | (with_reducible exact nth5) | (with_reducible exact nth6) | (with_reducible exact nth7) | (with_reducible exact nth8) | (with_reducible exact nth9) | (with_reducible exact nth10) | (with_reducible exact nth11) | (with_reducible exact nth12) | (with_reducible exact nth13) | (with_reducible exact nth14) | (with_reducible exact nth15) | (with_reducible exact nth16) | (with_reducible exact nth17) | (with_reducible exact nth18) | (with_reducible exact nth19) | (with_reducible exact nth20) | (with_reducible exact nth21) | (with_reducible exact nth22) | (with_reducible exact nth23)); rfl; intro KP hKP; ((refine oper_append_later _ _ _ _ rfl 9 ii _ 1 16 Tryz.underlying63 Jii.out.1 Jii.out.2.1 Jii.out.2.2.1 Jii.out.2.2.2 rfl (by decide) (z.w) ?qa1 _ _ _ (strCells P) rfl ?qa2 _ _ _ ([.string s]) rfl ?qa3 ?qa4 ?qa5 ?qa6 ?qa7 ?_); (case qa1 => (repeat (first | (with_reducible exact Below.refl _ _) | (with_reducible assumption) | (with_reducible refine Later.out _ ?_) | (with_reducible refine bel_alloc ?_ _) | (with_reducible refine bel_drew ?_) | (with_reducible refine bel_drewN ?_ _) | (with_reducible refine bel_set ?_ ?_ _) | (with_reducible refine After.out _ ?_ ?_) | (dsimp only; omega) | omega | (simp only [World.size_alloc, World.size_setCell, World.size_drew]; omega)))); (case qa2 => exact own_mono (own_bel hown6.out (by (repeat (first | (with_reducible exact Below.refl _ _) | (with_reducible assumption) | (with_reducible refine Later.out _ ?_) | (with_reducible refine bel_alloc ?_ _) | (with_reducible refine bel_drew ?_) | (with_reducible refine bel_drewN ?_ _) | (with_reducible refine bel_set ?_ ?_ _) | (with_reducible refine After.out _ ?_ ?_) | (dsimp only; omega) | omega | (simp only [World.size_alloc, World.size_setCell, World.size_drew]; omega))))) (by first | exact Nat.le_refl _ | omega | (simp only [World.size_alloc, World.size_drew]; omega))); (case qa3 => (first | rfl | (simp [boolCells]; done) | (simp [intCells]; done) | (simp; done) | (first | omega | (simp only [List.length_append, List.length_cons, List.length_nil]; omega)))); (case qa4 => (first | exact Row.madeAt (by first | rfl | (simp only [World.size_alloc, World.size_drew])) rfl | exact ((Row.madeAt (w := z.w.alloc (.cells #[] 9)) (cs := #[.string s]) (e := 9) (by simp only [World.size_alloc]) rfl).bel ((Below.refl _ _).drew)).btw x6.btw (fun p hp => by cases hp; first | (dsimp only; omega) | (simp only [World.size_alloc, World.size_drew]; omega)) | exact (((Row.madeAt (w := z.w) (cs := #[.string s]) (e := 9) rfl rfl).alloc (.cells #[] 9)).bel ((Below.refl _ _).drew)).btw x6.btw (fun p hp => by cases hp; first | (dsimp only; omega) | (simp only [World.size_alloc, World.size_drew]; omega)))); (case qa5 => exact one_str1 s); (case qa6 => (unfold maxLen; (first | omega | (simp only [List.length_append, List.length_cons, List.length_nil]; omega)))); (case qa7 => (first | omega | (simp only [List.length_append, List.length_cons, List.length_nil]; omega))); intro a7 c7 x7 hown7; have hs7 := x7.bel.size; rw [← hcS.out] at hown7; have N7 := Lib.hid (Owns.of hown7); clear hown7); refine hKP _ _ (LaterC.mk (by (repeat (first | (with_reducible exact Below.refl _ _) | (with_reducible assumption) | (with_reducible refine Later.out _ ?_) | (with_reducible refine bel_alloc ?_ _) | (with_reducible refine bel_drew ?_) | (with_reducible refine bel_drewN ?_ _) | (with_reducible refine bel_set ?_ ?_ _) | (with_reducible refine After.out _ ?_ ?_) | (dsimp only; omega) | omega | (simp only [World.size_alloc, World.size_setCell, World.size_drew]; omega))))) ?_; clear hKP KP) | ((with_reducible apply float_fork); rfl; (first | (with_reducible exact nth0) | (with_reducible exact nth1) | (with_reducible exact nth2) | (with_reducible exact nth3) | (with_reducible exact nth4) | (with_reducible exact nth5) | (with_reducible exact nth6) | (with_reducible exact nth7) | (with_reducible exact nth8) | (with_reducible exact nth9) | (with_reducible exact nth10) | (with_reducible exact nth11) | (with_reducible exact nth12) | (with_reducible exact nth13) | (with_reducible exact nth14) | (with_reducible exact nth15) | (with_reducible exact nth16) | (with_reducible exact nth17) | (with_reducible exact nth18) | (with_reducible exact nth19) | (with_reducible exact nth20) | (with_reducible exact nth21) | (with_reducible exact nth22) | (with_reducible exact nth23)); (first | (with_reducible exact nth0) | (with_reducible exact nth1) | (with_reducible exact nth2) | (with_reducible exact nth3) | (with_reducible exact nth4) | (with_reducible exact nth5) | (with_reducible exact nth6) | (with_reducible exact nth7) | (with_reducible exact nth8) | (with_reducible exact nth9) | (with_reducible exact nth10) | (with_reducible exact nth11) | (with_reducible exact nth12) | (with_reducible exact nth13) | (with_reducible exact nth14) | (with_reducible exact nth15) | (with_reducible exact nth16) | (with_reducible exact nth17) | (with_reducible exact nth18) | (with_reducible exact nth19) | (with_reducible exact nth20) | (with_reducible exact nth21) | (with_reducible exact nth22) | (with_reducible exact nth23)); rfl; rfl; (intro KP hKP; ((refine oper_append_at _ _ _ _ rfl 9 ii _ 1 16 Tryz.underlying63 Jii.out.1 Jii.out.2.1 Jii.out.2.2.1 Jii.out.2.2.2 rfl (by decide) _ _ rfl ?qc36 ?qc37 _ _ _ (strCells P) rfl ?qc38 ?qc39 ?qc40 ?qc41 ?qc42 ?_); (case qc36 => (first | (dsimp only; omega) | omega | (simp only [World.size_alloc, World.size_setCell, World.size_drew]; omega))); (case qc37 => (first | exact lit0_at (W := z.w.drew) rfl (Nat.le_refl _) (Below.refl _ _) | exact lit0_at (W := z.w.drew) rfl (Nat.le_refl _) ((Below.refl _ _).alloc (Nat.le_refl _) _) | exact lit0_at (W := z.w.drew.alloc (.cells #[.string s] 9)) (by simp only [World.size_alloc, World.size_drew]) (by simp only [World.size_alloc, World.size_drew]; omega) (Below.refl _ _))); (case qc38 => (first | rfl | (simp; done) | (first | omega | (simp only [List.length_append, List.length_cons, List.length_nil]; omega)))); (case qc39 => exact hr1.out.bel (by (repeat (first | (with_reducible exact Below.refl _ _) | (with_reducible assumption) | (with_reducible refine Later.out _ ?_) | (with_reducible refine bel_alloc ?_ _) | (with_reducible refine bel_drew ?_) | (with_reducible refine bel_drewN ?_ _) | (with_reducible refine bel_set ?_ ?_ _) | (with_reducible refine After.out _ ?_ ?_) | (dsimp only; omega) | omega | (simp only [World.size_alloc, World.size_setCell, World.size_drew]; omega))))); (case qc40 => exact one_str P); (case qc41 => (unfold maxLen; (first | omega | (simp only [List.length_append, List.length_cons, List.length_nil]; omega)))); (case qc42 => (first | omega | (simp only [List.length_append, List.length_cons, List.length_nil]; omega))); intro a6 c6 x6 hown6; replace hown6 := Lib.hid hown6); refine hKP _ _ (LaterC.mk (by (repeat (first | (with_reducible exact Below.refl _ _) | (with_reducible assumption) | (with_reducible refine Later.out _ ?_) | (with_reducible refine bel_alloc ?_ _) | (with_reducible refine bel_drew ?_) | (with_reducible refine bel_drewN ?_ _) | (with_reducible refine bel_set ?_ ?_ _) | (with_reducible refine After.out _ ?_ ?_) | (dsimp only; omega) | omega | (simp only [World.size_alloc, World.size_setCell, World.size_drew]; omega))))) ?_; clear hKP KP); rotate_left; (intro KP hKP; go_wp2_with fail; refine hKP _ _ (LaterC.mk (by (repeat (first | (with_reducible exact Below.refl _ _) | (with_reducible assumption) | (with_reducible refine Later.out _ ?_) | (with_reducible refine bel_alloc ?_ _) | (with_reducible refine bel_drew ?_) | (with_reducible refine bel_drewN ?_ _) | (with_reducible refine bel_set ?_ ?_ _) | (with_reducible refine After.out _ ?_ ?_) | (dsimp only; omega) | omega | (simp only [World.size_alloc, World.size_setCell, World.size_drew]; omega))))) ?_; clear hKP KP); (try simp only [List.filter, bne_self_eq_false, Nat.reduceBNe])) | ((with_reducible apply float_fork); rfl; (first | (with_reducible exact nth0) | (with_reducible exact nth1) | (with_reducible exact nth2) | (with_reducible exact nth3) | (with_reducible exact nth4) | (with_reducible exact nth5) | (with_reducible exact nth6) | (with_reducible exact nth7) | (with_reducible exact nth8) | (with_reducible exact nth9) | (with_reducible exact nth10) | (with_reducible exact nth11) | (with_reducible exact nth12) | (with_reducible exact nth13) | (with_reducible exact nth14) | (with_reducible exact nth15) | (with_reducible exact nth16) | (with_reducible exact nth17) | (with_reducible exact nth18) | (with_reducible exact nth19) | (with_reducible exact nth20) | (with_reducible exact nth21) | (with_reducible exact nth22) | (with_reducible exact nth23)); (first | (with_reducible exact nth0) | (with_reducible exact nth1) | (with_reducible exact nth2) | (with_reducible exact nth3) | (with_reducible exact nth4) | (with_reducible exact nth5) | (with_reducible exact nth6) | (with_reducible exact nth7) | (with_reducible exact nth8) | (with_reducible exact nth9) | (with_reducible exact nth10) | (with_reducible exact nth11) | (with_reducible exact nth12) | (with_reducible exact nth13) | (with_reducible exact nth14) | (with_reducible exact nth15) | (with_reducible exact nth16) | (with_reducible exact nth17) | (with_reducible exact nth18) | (with_reducible exact nth19) | (with_reducible exact nth20) | (with_reducible exact nth21) | (with_reducible exact nth22) | (with_reducible exact nth23)); rfl; rfl; (intro KP hKP; ((refine oper_append_later _ _ _ _ rfl 9 ii _ 1 16 Tryz.underlying63 Jii.out.1 Jii.out.2.1 Jii.out.2.2.1 Jii.out.2.2.2 rfl (by decide) (z.w) ?qa8 _ _ _ (strCells P) rfl ?qa9 _ _ _ ([.string s]) rfl ?qa10 ?qa11 ?qa12 ?qa13 ?qa14 ?_); (case qa8 => (repeat (first | (with_reducible exact Below.refl _ _) | (with_reducible assumption) | (with_reducible refine Later.out _ ?_) | (with_reducible refine bel_alloc ?_ _) | (with_reducible refine bel_drew ?_) | (with_reducible refine bel_drewN ?_ _) | (with_reducible refine bel_set ?_ ?_ _) | (with_reducible refine After.out _ ?_ ?_) | (dsimp only; omega) | omega | (simp only [World.size_alloc, World.size_setCell, World.size_drew]; omega)))); (case qa9 => exact own_mono (own_bel hown6.out (by (repeat (first | (with_reducible exact Below.refl _ _) | (with_reducible assumption) | (with_reducible refine Later.out _ ?_) | (with_reducible refine bel_alloc ?_ _) | (with_reducible refine bel_drew ?_) | (with_reducible refine bel_drewN ?_ _) | (with_reducible refine bel_set ?_ ?_ _) | (with_reducible refine After.out _ ?_ ?_) | (dsimp only; omega) | omega | (simp only [World.size_alloc, World.size_setCell, World.size_drew]; omega))))) (by first | exact Nat.le_refl _ | omega | (simp only [World.size_alloc, World.size_drew]; omega))); (case qa10 => (first | rfl | (simp [boolCells]; done) | (simp [intCells]; done) | (simp; done) | (first | omega | (simp only [List.length_append, List.length_cons, List.length_nil]; omega)))); (case qa11 => (first | exact Row.madeAt (by first | rfl | (simp only [World.size_alloc, World.size_drew])) rfl | exact ((Row.madeAt (w := z.w.alloc (.cells #[] 9)) (cs := #[.string s]) (e := 9) (by simp only [World.size_alloc]) rfl).bel ((Below.refl _ _).drew)).btw x6.btw (fun p hp => by cases hp; first | (dsimp only; omega) | (simp only [World.size_alloc, World.size_drew]; omega)) | exact (((Row.madeAt (w := z.w) (cs := #[.string s]) (e := 9) rfl rfl).alloc (.cells #[] 9)).bel ((Below.refl _ _).drew)).btw x6.btw (fun p hp => by cases hp; first | (dsimp only; omega) | (simp only [World.size_alloc, World.size_drew]; omega)))); (case qa12 => exact one_str1 s); (case qa13 => (unfold maxLen; (first | omega | (simp only [List.length_append, List.length_cons, List.length_nil]; omega)))); (case qa14 => (first | omega | (simp only [List.length_append, List.length_cons, List.length_nil]; omega))); intro a7 c7 x7 hown7; have hs7 := x7.bel.size; rw [← hcS.out] at hown7; have N7 := Lib.hid (Owns.of hown7); clear hown7); refine hKP _ _ (LaterC.mk (by (repeat (first | (with_reducible exact Below.refl _ _) | (with_reducible assumption) | (with_reducible refine Later.out _ ?_) | (with_reducible refine bel_alloc ?_ _) | (with_reducible refine bel_drew ?_) | (with_reducible refine bel_drewN ?_ _) | (with_reducible refine bel_set ?_ ?_ _) | (with_reducible refine After.out _ ?_ ?_) | (dsimp only; omega) | omega | (simp only [World.size_alloc, World.size_setCell, World.size_drew]; omega))))) ?_; clear hKP KP); rotate_left; (intro KP hKP; go_wp2_with fail; refine hKP _ _ (LaterC.mk (by (repeat (first | (with_reducible exact Below.refl _ _) | (with_reducible assumption) | (with_reducible refine Later.out _ ?_) | (with_reducible refine bel_alloc ?_ _) | (with_reducible refine bel_drew ?_) | (with_reducible refine bel_drewN ?_ _) | (with_reducible refine bel_set ?_ ?_ _) | (with_reducible refine After.out _ ?_ ?_) | (dsimp only; omega) | omega | (simp only [World.size_alloc, World.size_setCell, World.size_drew]; omega))))) ?_; clear hKP KP); (try simp only [List.filter, bne_self_eq_false, Nat.reduceBNe])) | ((with_reducible apply float_fork); rfl; (first | (with_reducible exact nth0) | (with_reducible exact nth1) | (with_reducible exact nth2) | (with_reducible exact nth3) | (with_reducible exact nth4) | (with_reducible exact nth5) | (with_reducible exact nth6) | (with_reducible exact nth7) | (with_reducible exact nth8) | (with_reducible exact nth9) | (with_reducible exact nth10) | (with_reducible exact nth11) | (with_reducible exact nth12) | (with_reducible exact nth13) | (with_reducible exact nth14) | (with_reducible exact nth15) | (with_reducible exact nth16) | (with_reducible exact nth17) | (with_reducible exact nth18) | (with_reducible exact nth19) | (with_reducible exact nth20) | (with_reducible exact nth21) | (with_reducible exact nth22) | (with_reducible exact nth23)); (first | (with_reducible exact nth0) | (with_reducible exact nth1) | (with_reducible exact nth2) | (with_reducible exact nth3) | (with_reducible exact nth4) | (with_reducible exact nth5) | (with_reducible exact nth6) | (with_reducible exact nth7) | (with_reducible exact nth8) | (with_reducible exact nth9) | (with_reducible exact nth10) | (with_reducible exact nth11) | (with_reducible exact nth12) | (with_reducible exact nth13) | (with_reducible exact nth14) | (with_reducible exact nth15) | (with_reducible exact nth16) | (with_reducible exact nth17) | (with_reducible exact nth18) | (with_reducible exact nth19) | (with_reducible exact nth20) | (with_reducible exact nth21) | (with_reducible exact nth22) | (with_reducible exact nth23)); rfl; rfl; (intro KP hKP; go_wp2_with fail; refine hKP _ _ (LaterC.mk (by (repeat (first | (with_reducible exact Below.refl _ _) | (with_reducible assumption) | (with_reducible refine Later.out _ ?_) | (with_reducible refine bel_alloc ?_ _) | (with_reducible refine bel_drew ?_) | (with_reducible refine bel_drewN ?_ _) | (with_reducible refine bel_set ?_ ?_ _) | (with_reducible refine After.out _ ?_ ?_) | (dsimp only; omega) | omega | (simp only [World.size_alloc, World.size_setCell, World.size_drew]; omega))))) ?_; clear hKP KP); rotate_left; (intro KP hKP; go_wp2_with fail; refine hKP _ _ (LaterC.mk (by (repeat (first | (with_reducible exact Below.refl _ _) | (with_reducible assumption) | (with_reducible refine Later.out _ ?_) | (with_reducible refine bel_alloc ?_ _) | (with_reducible refine bel_drew ?_) | (with_reducible refine bel_drewN ?_ _) | (with_reducible refine bel_set ?_ ?_ _) | (with_reducible refine After.out _ ?_ ?_) | (dsimp only; omega) | omega | (simp only [World.size_alloc, World.size_setCell, World.size_drew]; omega))))) ?_; clear hKP KP); (try simp only [List.filter, bne_self_eq_false, Nat.reduceBNe])) | ((with_reducible apply float_last); (first | (with_reducible exact nth0) | (with_reducible exact nth1) | (with_reducible exact nth2) | (with_reducible exact nth3) | (with_reducible exact nth4) | (with_reducible exact nth5) | (with_reducible exact nth6) | (with_reducible exact nth7) | (with_reducible exact nth8) | (with_reducible exact nth9) | (with_reducible exact nth10) | (with_reducible exact nth11) | (with_reducible exact nth12) | (with_reducible exact nth13) | (with_reducible exact nth14) | (with_reducible exact nth15) | (with_reducible exact nth16) | (with_reducible exact nth17) | (with_reducible exact nth18) | (with_reducible exact nth19) | (with_reducible exact nth20) | (with_reducible exact nth21) | (with_reducible exact nth22) | (with_reducible exact nth23)); rfl; (intro KP hKP; go_wp2_with fail; refine hKP _ _ (LaterC.mk (by (repeat (first | (with_reducible exact Below.refl _ _) | (with_reducible assumption) | (with_reducible refine Later.out _ ?_) | (with_reducible refine bel_alloc ?_ _) | (with_reducible refine bel_drew ?_) | (with_reducible refine bel_drewN ?_ _) | (with_reducible refine bel_set ?_ ?_ _) | (with_reducible refine After.out _ ?_ ?_) | (dsimp only; omega) | omega | (simp only [World.size_alloc, World.size_setCell, World.size_drew]; omega))))) ?_; clear hKP KP)) | ((with_reducible apply plan_loud); (first | (with_reducible exact nth0) | (with_reducible exact nth1) | (with_reducible exact nth2) | (with_reducible exact nth3) | (with_reducible exact nth4) | (with_reducible exact nth5) | (with_reducible exact nth6) | (with_reducible exact nth7) | (with_reducible exact nth8) | (with_reducible exact nth9) | (with_reducible exact nth10) | (with_reducible exact nth11) | (with_reducible exact nth12) | (with_reducible exact nth13) | (with_reducible exact nth14) | (with_reducible exact nth15) | (with_reducible exact nth16) | (with_reducible exact nth17) | (with_reducible exact nth18) | (with_reducible exact nth19) | (with_reducible exact nth20) | (with_reducible exact nth21) | (with_reducible exact nth22) | (with_reducible exact nth23)); rfl; (intro KP hKP; go_wp2_with fail; refine hKP _ _ (LaterC.mk (by (repeat (first | (with_reducible exact Below.refl _ _) | (with_reducible assumption) | (with_reducible refine Later.out _ ?_) | (with_reducible refine bel_alloc ?_ _) | (with_reducible refine bel_drew ?_) | (with_reducible refine bel_drewN ?_ _) | (with_reducible refine bel_set ?_ ?_ _) | (with_reducible refine After.out _ ?_ ?_) | (dsimp only; omega) | omega | (simp only [World.size_alloc, World.size_setCell, World.size_drew]; omega))))) ?_; clear hKP KP))))
          all_goals (simp only [Act.put, List.setIfInBounds_toArray, List.set_cons_zero, List.set_cons_succ])
          repeat (any_goals (first | (with_reducible apply plan_nil) | ((with_reducible apply float_quiet); (first | (with_reducible exact nth0) | (with_reducible exact nth1) | (with_reducible exact nth2) | (with_reducible exact nth3) | (with_reducible exact nth4) | (with_reducible exact nth5) | (with_reducible exact nth6) | (with_reducible exact nth7) | (with_reducible exact nth8) | (with_reducible exact nth9) | (with_reducible exact nth10) | (with_reducible exact nth11) | (with_reducible exact nth12) | (with_reducible exact nth13) | (with_reducible exact nth14) | (with_reducible exact nth15) | (with_reducible exact nth16) | (with_reducible exact nth17) | (with_reducible exact nth18) | (with_reducible exact nth19) | (with_reducible exact nth20) | (with_reducible exact nth21) | (with_reducible exact nth22) | (with_reducible exact nth23)); rfl; intro KP hKP; go_big_quiet_op; go_big_quiet_on) | ((with_reducible apply float_skip); (first | (with_reducible exact nth0) | (with_reducible exact nth1) | (with_reducible exact nth2) | (with_reducible exact nth3) | (with_reducible exact nth4) | (with_reducible exact nth5) | (with_reducible exact nth6) | (with_reducible exact nth7) | (with_reducible exact nth8) | (with_reducible exact nth9) | (with_reducible exact nth10) | (with_reducible exact nth11) | (with_reducible exact nth12) | (with_reducible exact nth13) | (with_reducible exact nth14) | (with_reducible exact nth15) | (with_reducible exact nth16) | (with_reducible exact nth17) | (with_reducible exact nth18) | (with_reducible exact nth19) | (with_reducible exact nth20) | (with_reducible exact nth21) | (with_reducible exact nth22) | (with_reducible exact nth23)); rfl; rfl; simp only [Act.put, List.setIfInBounds_toArray, List.set_cons_zero, List.set_cons_succ]) | ((with_reducible apply plan_quiet); (first | (with_reducible exact nth0) | (with_reducible exact nth1) | (with_reducible exact nth2) | (with_reducible exact nth3) | (with_reducible exact nth4) | (with_reducible exact nth5) | (with_reducible exact nth6) | (with_reducible exact nth7) | (with_reducible exact nth8) | (with_reducible exact nth9) | (with_reducible exact nth10) | (with_reducible exact nth11) | (with_reducible exact nth12) | (with_reducible exact nth13) | (with_reducible exact nth14) | (with_reducible exact nth15) | (with_reducible exact nth16) | (with_reducible exact nth17) | (with_reducible exact nth18) | (with_reducible exact nth19) | (with_reducible exact nth20) | (with_reducible exact nth21) | (with_reducible exact nth22) | (with_reducible exact nth23)); rfl; intro KP hKP; go_big_quiet_op; go_big_quiet_on) | ((with_reducible apply plan_skip_q); (first | (with_reducible exact nth0) | (with_reducible exact nth1) | (with_reducible exact nth2) | (with_reducible exact nth3) | (with_reducible exact nth4) | (with_reducible exact nth5) | (with_reducible exact nth6) | (with_reducible exact nth7) | (with_reducible exact nth8) | (with_reducible exact nth9) | (with_reducible exact nth10) | (with_reducible exact nth11) | (with_reducible exact nth12) | (with_reducible exact nth13) | (with_reducible exact nth14) | (with_reducible exact nth15) | (with_reducible exact nth16) | (with_reducible exact nth17) | (with_reducible exact nth18) | (with_reducible exact nth19) | (with_reducible exact nth20) | (with_reducible exact nth21) | (with_reducible exact nth22) | (with_reducible exact nth23)); rfl; rfl; simp only [Act.put, List.setIfInBounds_toArray, List.set_cons_zero, List.set_cons_succ]) | ((with_reducible apply float_fork); rfl; (first | (with_reducible exact nth0) | (with_reducible exact nth1) | (with_reducible exact nth2) | (with_reducible exact nth3) | (with_reducible exact nth4) | (with_reducible exact nth5) | (with_reducible exact nth6) | (with_reducible exact nth7) | (with_reducible exact nth8) | (with_reducible exact nth9) | (with_reducible exact nth10) | (with_reducible exact nth11) | (with_reducible exact nth12) | (with_reducible exact nth13) | (with_reducible exact nth14) | (with_reducible exact nth15) | (with_reducible exact nth16) | (with_reducible exact nth17) | (with_reducible exact nth18) | (with_reducible exact nth19) | (with_reducible exact nth20) | (with_reducible exact nth21) | (with_reducible exact nth22) | (with_reducible exact nth23)); (first | (with_reducible exact nth0) | (with_reducible exact nth1) | (with_reducible exact nth2) | (with_reducible exact nth3) | (with_reducible exact nth4) | (with_reducible exact nth5) | (with_reducible exact nth6) | (with_reducible exact nth7) | (with_reducible exact nth8) | (with_reducible exact nth9) | (with_reducible exact nth10) | (with_reducible exact nth11) | (with_reducible exact nth12) | (with_reducible exact nth13) | (with_reducible exact nth14) | (with_reducible exact nth15) | (with_reducible exact nth16) | (with_reducible exact nth17) | (with_reducible exact nth18) | (with_reducible exact nth19) | (with_reducible exact nth20) | (with_reducible exact nth21) | (with_reducible exact nth22) | (with_reducible exact nth23)); rfl; rfl; (intro KP hKP; go_wp2_with (first | (go_at_call 140; (with_reducible refine (IHx.out z.w.heap.size _ _ _ (hr.out.bel (by (repeat (first | (with_reducible exact Below.refl _ _) | (with_reducible assumption) | (with_reducible refine Later.out _ ?_) | (with_reducible refine bel_alloc ?_ _) | (with_reducible refine bel_drew ?_) | (with_reducible refine bel_drewN ?_ _) | (with_reducible refine bel_set ?_ ?_ _) | (with_reducible refine After.out _ ?_ ?_) | (dsimp only; omega) | omega | (simp only [World.size_alloc, World.size_setCell, World.size_drew]; omega))))) (hrA.out.bel (by (repeat (first | (with_reducible exact Below.refl _ _) | (with_reducible assumption) | (with_reducible refine Later.out _ ?_) | (with_reducible refine bel_alloc ?_ _) | (with_reducible refine bel_drew ?_) | (with_reducible refine bel_drewN ?_ _) | (with_reducible refine bel_set ?_ ?_ _) | (with_reducible refine After.out _ ?_ ?_) | (dsimp only; omega) | omega | (simp only [World.size_alloc, World.size_setCell, World.size_drew]; omega))))) (by ((try simp only [World.size_alloc, World.size_setCell, World.size_drew]); omega)) N7.out).mono ?_); rintro e w' ⟨a9, n9, c9, rfl, hT9, y9, rfl⟩; have hs9 := y9.bel.size; (try simp only [World.size_alloc, World.size_setCell, World.size_drew] at hs9); replace hT9 := Lib.hid hT9)); refine hKP _ _ (LaterC.mk (by (repeat (first | (with_reducible exact Below.refl _ _) | (with_reducible assumption) | (with_reducible refine Later.out _ ?_) | (with_reducible refine bel_alloc ?_ _) | (with_reducible refine bel_drew ?_) | (with_reducible refine bel_drewN ?_ _) | (with_reducible refine bel_set ?_ ?_ _) | (with_reducible refine After.out _ ?_ ?_) | (dsimp only; omega) | omega | (simp only [World.size_alloc, World.size_setCell, World.size_drew]; omega))))) ?_; clear hKP KP); rotate_left; (intro KP hKP; go_wp2_with fail; refine hKP _ _ (LaterC.mk (by (repeat (first | (with_reducible exact Below.refl _ _) | (with_reducible assumption) | (with_reducible refine Later.out _ ?_) | (with_reducible refine bel_alloc ?_ _) | (with_reducible refine bel_drew ?_) | (with_reducible refine bel_drewN ?_ _) | (with_reducible refine bel_set ?_ ?_ _) | (with_reducible refine After.out _ ?_ ?_) | (dsimp only; omega) | omega | (simp only [World.size_alloc, World.size_setCell, World.size_drew]; omega))))) ?_; clear hKP KP); (try simp only [List.filter, bne_self_eq_false, Nat.reduceBNe])) | ((with_reducible apply float_last); (first | (with_reducible exact nth0) | (with_reducible exact nth1) | (with_reducible exact nth2) | (with_reducible exact nth3) | (with_reducible exact nth4) | (with_reducible exact nth5) | (with_reducible exact nth6) | (with_reducible exact nth7) | (with_reducible exact nth8) | (with_reducible exact nth9) | (with_reducible exact nth10) | (with_reducible exact nth11) | (with_reducible exact nth12) | (with_reducible exact nth13) | (with_reducible exact nth14) | (with_reducible exact nth15) | (with_reducible exact nth16) | (with_reducible exact nth17) | (with_reducible exact nth18) | (with_reducible exact nth19) | (with_reducible exact nth20) | (with_reducible exact nth21) | (with_reducible exact nth22) | (with_reducible exact nth23)); rfl; (intro KP hKP; go_wp2_with fail; refine hKP _ _ (LaterC.mk (by (repeat (first | (with_reducible exact Below.refl _ _) | (with_reducible assumption) | (with_reducible refine Later.out _ ?_) | (with_reducible refine bel_alloc ?_ _) | (with_reducible refine bel_drew ?_) | (with_reducible refine bel_drewN ?_ _) | (with_reducible refine bel_set ?_ ?_ _) | (with_reducible refine After.out _ ?_ ?_) | (dsimp only; omega) | omega | (simp only [World.size_alloc, World.size_setCell, World.size_drew]; omega))))) ?_; clear hKP KP)) | ((with_reducible apply plan_loud); (first | (with_reducible exact nth0) | (with_reducible exact nth1) | (with_reducible exact nth2) | (with_reducible exact nth3) | (with_reducible exact nth4) | (with_reducible exact nth5) | (with_reducible exact nth6) | (with_reducible exact nth7) | (with_reducible exact nth8) | (with_reducible exact nth9) | (with_reducible exact nth10) | (with_reducible exact nth11) | (with_reducible exact nth12) | (with_reducible exact nth13) | (with_reducible exact nth14) | (with_reducible exact nth15) | (with_reducible exact nth16) | (with_reducible exact nth17) | (with_reducible exact nth18) | (with_reducible exact nth19) | (with_reducible exact nth20) | (with_reducible exact nth21) | (with_reducible exact nth22) | (with_reducible exact nth23)); rfl; (intro KP hKP; go_wp2_with (first | (go_at_call 140; (with_reducible refine (IHx.out z.w.heap.size _ _ _ (hr.out.bel (by (repeat (first | (with_reducible exact Below.refl _ _) | (with_reducible assumption) | (with_reducible refine Later.out _ ?_) | (with_reducible refine bel_alloc ?_ _) | (with_reducible refine bel_drew ?_) | (with_reducible refine bel_drewN ?_ _) | (with_reducible refine bel_set ?_ ?_ _) | (with_reducible refine After.out _ ?_ ?_) | (dsimp only; omega) | omega | (simp only [World.size_alloc, World.size_setCell, World.size_drew]; omega))))) (hrA.out.bel (by (repeat (first | (with_reducible exact Below.refl _ _) | (with_reducible assumption) | (with_reducible refine Later.out _ ?_) | (with_reducible refine bel_alloc ?_ _) | (with_reducible refine bel_drew ?_) | (with_reducible refine bel_drewN ?_ _) | (with_reducible refine bel_set ?_ ?_ _) | (with_reducible refine After.out _ ?_ ?_) | (dsimp only; omega) | omega | (simp only [World.size_alloc, World.size_setCell, World.size_drew]; omega))))) (by ((try simp only [World.size_alloc, World.size_setCell, World.size_drew]); omega)) N7.out).mono ?_); rintro e w' ⟨a9, n9, c9, rfl, hT9, y9, rfl⟩; have hs9 := y9.bel.size; (try simp only [World.size_alloc, World.size_setCell, World.size_drew] at hs9); replace hT9 := Lib.hid hT9)); refine hKP _ _ (LaterC.mk (by (repeat (first | (with_reducible exact Below.refl _ _) | (with_reducible assumption) | (with_reducible refine Later.out _ ?_) | (with_reducible refine bel_alloc ?_ _) | (with_reducible refine bel_drew ?_) | (with_reducible refine bel_drewN ?_ _) | (with_reducible refine bel_set ?_ ?_ _) | (with_reducible refine After.out _ ?_ ?_) | (dsimp only; omega) | omega | (simp only [World.size_alloc, World.size_setCell, World.size_drew]; omega))))) ?_; clear hKP KP))))
          all_goals go_wp2_with fail
          all_goals (go_roundw; (case rel => exact ⟨x + 1, by omega, by go_num, hst.out.symm, LaterC.mk (by (repeat (first | (with_reducible exact Below.refl _ _) | (with_reducible assumption) | (with_reducible refine Later.out _ ?_) | (with_reducible refine bel_alloc ?_ _) | (with_reducible refine bel_drew ?_) | (with_reducible refine bel_drewN ?_ _) | (with_reducible refine bel_set ?_ ?_ _) | (with_reducible refine After.out _ ?_ ?_) | (dsimp only; omega) | omega | (simp only [World.size_alloc, World.size_setCell, World.size_drew]; omega))))⟩); (case measure => first | (simp [intOf]; done) | (simp [intOf]; omega) | omega))
        | some T =>
          rw [hv] at hst hFx1
          have IHx := Lib.hid (IH1 true (some T) hFx1 rfl)
          have hst2 : R = some T := hst
          obtain rfl : b = true := by rw [← hb, hst2]; rfl
          replace hst := Lib.hid hst2
          clear IH1 hFx1 hv hb hst2
          go_wp2_with fail
          refine wp_region_float 9 [(0, true), (1, true), (3, true), (5, true), (6, true), (7, true), (8, true), (11, true), (12, true), (13, true), (14, true), (2, false), (4, false), (9, false), (10, false), (15, false), (16, true), (17, true), (18, true), (19, true), (20, true)] (C := LaterC _) (by kernel_rfl) (by kernel_rfl) (by kernel_rfl) rfl (fun _ _ d _ _ h => by cases d <;> exact h) (LaterC.mk ((Below.refl _ _).drew)) ?_
          repeat (any_goals (first | (with_reducible apply plan_nil) | ((with_reducible apply float_quiet); (first | (with_reducible exact nth0) | (with_reducible exact nth1) | (with_reducible exact nth2) | (with_reducible exact nth3) | (with_reducible exact nth4) | (with_reducible exact nth5) | (with_reducible exact nth6) | (with_reducible exact nth7) | (with_reducible exact nth8) | (with_reducible exact nth9) | (with_reducible exact nth10) | (with_reducible exact nth11) | (with_reducible exact nth12) | (with_reducible exact nth13) | (with_reducible exact nth14) | (with_reducible exact nth15) | (with_reducible exact nth16) | (with_reducible exact nth17) | (with_reducible exact nth18) | (with_reducible exact nth19) | (with_reducible exact nth20) | (with_reducible exact nth21) | (with_reducible exact nth22) | (with_reducible exact nth23)); rfl; intro KP hKP; go_big_quiet_op; go_big_quiet_on) | ((with_reducible apply float_skip); (first | (with_reducible exact nth0) | (with_reducible exact nth1) | (with_reducible exact nth2) | (with_reducible exact nth3) | (with_reducible exact nth4) | (with_reducible exact nth5) | (with_reducible exact nth6) | (with_reducible exact nth7) | (with_reducible exact nth8) | (with_reducible exact nth9) | (with_reducible exact nth10) | (with_reducible exact nth11) | (with_reducible exact nth12) | (with_reducible exact nth13) | (with_reducible exact nth14) | (with_reducible exact nth15) | (with_reducible exact nth16) | (with_reducible exact nth17) | (with_reducible exact nth18) | (with_reducible exact nth19) | (with_reducible exact nth20) | (with_reducible exact nth21) | (with_reducible exact nth22) | (with_reducible exact nth23)); rfl; rfl; simp only [Act.put, List.setIfInBounds_toArray, List.set_cons_zero, List.set_cons_succ]) | ((with_reducible apply plan_quiet); (first | (with_reducible exact nth0) | (with_reducible exact nth1) | (with_reducible exact nth2) | (with_reducible exact nth3) | (with_reducible exact nth4) | (with_reducible exact nth5) | (with_reducible exact nth6) | (with_reducible exact nth7) | (with_reducible exact nth8) | (with_reducible exact nth9) | (with_reducible exact nth10) | (with_reducible exact nth11) | (with_reducible exact nth12) | (with_reducible exact nth13) | (with_reducible exact nth14) | (with_reducible exact nth15) | (with_reducible exact nth16) | (with_reducible exact nth17) | (with_reducible exact nth18) | (with_reducible exact nth19) | (with_reducible exact nth20) | (with_reducible exact nth21) | (with_reducible exact nth22) | (with_reducible exact nth23)); rfl; intro KP hKP; go_big_quiet_op; go_big_quiet_on) | ((with_reducible apply plan_skip_q); (first | (with_reducible exact nth0) | (with_reducible exact nth1) | (with_reducible exact nth2) | (with_reducible exact nth3) | (with_reducible exact nth4) | (with_reducible exact nth5) | (with_reducible exact nth6) | (with_reducible exact nth7) | (with_reducible exact nth8) | (with_reducible exact nth9) | (with_reducible exact nth10) | (with_reducible exact nth11) | (with_reducible exact nth12) | (with_reducible exact nth13) | (with_reducible exact nth14) | (with_reducible exact nth15) | (with_reducible exact nth16) | (with_reducible exact nth17) | (with_reducible exact nth18) | (with_reducible exact nth19) | (with_reducible exact nth20) | (with_reducible exact nth21) | (with_reducible exact nth22) | (with_reducible exact nth23)); rfl; rfl; simp only [Act.put, List.setIfInBounds_toArray, List.set_cons_zero, List.set_cons_succ]) | ((with_reducible apply plan_loud); (first | (with_reducible exact nth0) | (with_reducible exact nth1) | (with_reducible exact nth2) | (with_reducible exact nth3) | (with_reducible exact nth4) | (with_reducible exact nth5) | (with_reducible exact nth6) | (with_reducible exact nth7) | (with_reducible exact nth8) | (with_reducible exact nth9) | (with_reducible exact nth10) | (with_reducible exact nth11) | (with_reducible exact nth12) | (with_reducible exact nth13) | (with_reducible exact nth14) | (with_reducible exact nth15) | (with_reducible exact nth16) | (with_reducible exact nth17) | (with_reducible exact nth18) | (with_reducible exact nth19) | (with_reducible exact nth20) | (with_reducible exact nth21) | (with_reducible exact nth22) | (with_reducible exact nth23)); rfl; intro KP hKP; ((refine oper_append_at _ _ _ _ rfl 9 ii _ 1 16 Tryz.underlying63 Jii.out.1 Jii.out.2.1 Jii.out.2.2.1 Jii.out.2.2.2 rfl (by decide) _ _ rfl ?qc43 ?qc44 _ _ _ (strCells P) rfl ?qc45 ?qc46 ?qc47 ?qc48 ?qc49 ?_); (case qc43 => (first | (dsimp only; omega) | omega | (simp only [World.size_alloc, World.size_setCell, World.size_drew]; omega))); (case qc44 => (first | exact lit0_at (W := z.w.drew) rfl (Nat.le_refl _) (Below.refl _ _) | exact lit0_at (W := z.w.drew) rfl (Nat.le_refl _) ((Below.refl _ _).alloc (Nat.le_refl _) _) | exact lit0_at (W := z.w.drew.alloc (.cells #[.string s] 9)) (by simp only [World.size_alloc, World.size_drew]) (by simp only [World.size_alloc, World.size_drew]; omega) (Below.refl _ _))); (case qc45 => (first | rfl | (simp; done) | (first | omega | (simp only [List.length_append, List.length_cons, List.length_nil]; omega)))); (case qc46 => exact hr1.out.bel (by (repeat (first | (with_reducible exact Below.refl _ _) | (with_reducible assumption) | (with_reducible refine Later.out _ ?_) | (with_reducible refine bel_alloc ?_ _) | (with_reducible refine bel_drew ?_) | (with_reducible refine bel_drewN ?_ _) | (with_reducible refine bel_set ?_ ?_ _) | (with_reducible refine After.out _ ?_ ?_) | (dsimp only; omega) | omega | (simp only [World.size_alloc, World.size_setCell, World.size_drew]; omega))))); (case qc47 => exact one_str P); (case qc48 => (unfold maxLen; (first | omega | (simp only [List.length_append, List.length_cons, List.length_nil]; omega)))); (case qc49 => (first | omega | (simp only [List.length_append, List.length_cons, List.length_nil]; omega))); intro a6 c6 x6 hown6; replace hown6 := Lib.hid hown6); refine hKP _ _ (LaterC.mk (by (repeat (first | (with_reducible exact Below.refl _ _) | (with_reducible assumption) | (with_reducible refine Later.out _ ?_) | (with_reducible refine bel_alloc ?_ _) | (with_reducible refine bel_drew ?_) | (with_reducible refine bel_drewN ?_ _) | (with_reducible refine bel_set ?_ ?_ _) | (with_reducible refine After.out _ ?_ ?_) | (dsimp only; omega) | omega | (simp only [World.size_alloc, World.size_setCell, World.size_drew]; omega))))) ?_; clear hKP KP) | ((with_reducible apply plan_loud); (first | (with_reducible exact nth0) | (with_reducible exact nth1) | (with_reducible exact nth2) | (with_reducible exact nth3) | (with_reducible exact nth4) | (with_reducible exact nth5) | (with_reducible exact nth6) | (with_reducible exact nth7) | (with_reducible exact nth8) | (with_reducible exact nth9) | (with_reducible exact nth10) | (with_reducible exact nth11) | (with_reducible exact nth12) | (with_reducible exact nth13) | (with_reducible exact nth14) | (with_reducible exact nth15) | (with_reducible exact nth16) | (with_reducible exact nth17) | (with_reducible exact nth18) | (with_reducible exact nth19) | (with_reducible exact nth20) | (with_reducible exact nth21) | (with_reducible exact nth22) | (with_reducible exact nth23)); rfl; intro KP hKP; ((refine oper_append_later _ _ _ _ rfl 9 ii _ 1 16 Tryz.underlying63 Jii.out.1 Jii.out.2.1 Jii.out.2.2.1 Jii.out.2.2.2 rfl (by decide) (z.w) ?qa15 _ _ _ (strCells P) rfl ?qa16 _ _ _ ([.string s]) rfl ?qa17 ?qa18 ?qa19 ?qa20 ?qa21 ?_); (case qa15 => (repeat (first | (with_reducible exact Below.refl _ _) | (with_reducible assumption) | (with_reducible refine Later.out _ ?_) | (with_reducible refine bel_alloc ?_ _) | (with_reducible refine bel_drew ?_) | (with_reducible refine bel_drewN ?_ _) | (with_reducible refine bel_set ?_ ?_ _) | (with_reducible refine After.out _ ?_ ?_) | (dsimp only; omega) | omega | (simp only [World.size_alloc, World.size_setCell, World.size_drew]; omega)))); (case qa16 => exact own_mono (own_bel hown6.out (by (repeat (first | (with_reducible exact Below.refl _ _) | (with_reducible assumption) | (with_reducible refine Later.out _ ?_) | (with_reducible refine bel_alloc ?_ _) | (with_reducible refine bel_drew ?_) | (with_reducible refine bel_drewN ?_ _) | (with_reducible refine bel_set ?_ ?_ _) | (with_reducible refine After.out _ ?_ ?_) | (dsimp only; omega) | omega | (simp only [World.size_alloc, World.size_setCell, World.size_drew]; omega))))) (by first | exact Nat.le_refl _ | omega | (simp only [World.size_alloc, World.size_drew]; omega))); (case qa17 => (first | rfl | (simp [boolCells]; done) | (simp [intCells]; done) | (simp; done) | (first | omega | (simp only [List.length_append, List.length_cons, List.length_nil]; omega)))); (case qa18 => (first | exact Row.madeAt (by first | rfl | (simp only [World.size_alloc, World.size_drew])) rfl | exact ((Row.madeAt (w := z.w.alloc (.cells #[] 9)) (cs := #[.string s]) (e := 9) (by simp only [World.size_alloc]) rfl).bel ((Below.refl _ _).drew)).btw x6.btw (fun p hp => by cases hp; first | (dsimp only; omega) | (simp only [World.size_alloc, World.size_drew]; omega)) | exact (((Row.madeAt (w := z.w) (cs := #[.string s]) (e := 9) rfl rfl).alloc (.cells #[] 9)).bel ((Below.refl _ _).drew)).btw x6.btw (fun p hp => by cases hp; first | (dsimp only; omega) | (simp only [World.size_alloc, World.size_drew]; omega)))); (case qa19 => exact one_str1 s); (case qa20 => (unfold maxLen; (first | omega | (simp only [List.length_append, List.length_cons, List.length_nil]; omega)))); (case qa21 => (first | omega | (simp only [List.length_append, List.length_cons, List.length_nil]; omega))); intro a7 c7 x7 hown7; have hs7 := x7.bel.size; rw [← hcS.out] at hown7; have N7 := Lib.hid (Owns.of hown7); clear hown7); refine hKP _ _ (LaterC.mk (by (repeat (first | (with_reducible exact Below.refl _ _) | (with_reducible assumption) | (with_reducible refine Later.out _ ?_) | (with_reducible refine bel_alloc ?_ _) | (with_reducible refine bel_drew ?_) | (with_reducible refine bel_drewN ?_ _) | (with_reducible refine bel_set ?_ ?_ _) | (with_reducible refine After.out _ ?_ ?_) | (dsimp only; omega) | omega | (simp only [World.size_alloc, World.size_setCell, World.size_drew]; omega))))) ?_; clear hKP KP) | ((with_reducible apply float_fork); rfl; (first | (with_reducible exact nth0) | (with_reducible exact nth1) | (with_reducible exact nth2) | (with_reducible exact nth3) | (with_reducible exact nth4) | (with_reducible exact nth5) | (with_reducible exact nth6) | (with_reducible exact nth7) | (with_reducible exact nth8) | (with_reducible exact nth9) | (with_reducible exact nth10) | (with_reducible exact nth11) | (with_reducible exact nth12) | (with_reducible exact nth13) | (with_reducible exact nth14) | (with_reducible exact nth15) | (with_reducible exact nth16) | (with_reducible exact nth17) | (with_reducible exact nth18) | (with_reducible exact nth19) | (with_reducible exact nth20) | (with_reducible exact nth21) | (with_reducible exact nth22) | (with_reducible exact nth23)); (first | (with_reducible exact nth0) | (with_reducible exact nth1) | (with_reducible exact nth2) | (with_reducible exact nth3) | (with_reducible exact nth4) | (with_reducible exact nth5) | (with_reducible exact nth6) | (with_reducible exact nth7) | (with_reducible exact nth8) | (with_reducible exact nth9) | (with_reducible exact nth10) | (with_reducible exact nth11) | (with_reducible exact nth12) | (with_reducible exact nth13) | (with_reducible exact nth14) | (with_reducible exact nth15) | (with_reducible exact nth16) | (with_reducible exact nth17) | (with_reducible exact nth18) | (with_reducible exact nth19) | (with_reducible exact nth20) | (with_reducible exact nth21) | (with_reducible exact nth22) | (with_reducible exact nth23)); rfl; rfl; (intro KP hKP; ((refine oper_append_at _ _ _ _ rfl 9 ii _ 1 16 Tryz.underlying63 Jii.out.1 Jii.out.2.1 Jii.out.2.2.1 Jii.out.2.2.2 rfl (by decide) _ _ rfl ?qc50 ?qc51 _ _ _ (strCells P) rfl ?qc52 ?qc53 ?qc54 ?qc55 ?qc56 ?_); (case qc50 => (first | (dsimp only; omega) | omega | (simp only [World.size_alloc, World.size_setCell, World.size_drew]; omega))); (case qc51 => (first | exact lit0_at (W := z.w.drew) rfl (Nat.le_refl _) (Below.refl _ _) | exact lit0_at (W := z.w.drew) rfl (Nat.le_refl _) ((Below.refl _ _).alloc (Nat.le_refl _) _) | exact lit0_at (W := z.w.drew.alloc (.cells #[.string s] 9)) (by simp only [World.size_alloc, World.size_drew]) (by simp only [World.size_alloc, World.size_drew]; omega) (Below.refl _ _))); (case qc52 => (first | rfl | (simp; done) | (first | omega | (simp only [List.length_append, List.length_cons, List.length_nil]; omega)))); (case qc53 => exact hr1.out.bel (by (repeat (first | (with_reducible exact Below.refl _ _) | (with_reducible assumption) | (with_reducible refine Later.out _ ?_) | (with_reducible refine bel_alloc ?_ _) | (with_reducible refine bel_drew ?_) | (with_reducible refine bel_drewN ?_ _) | (with_reducible refine bel_set ?_ ?_ _) | (with_reducible refine After.out _ ?_ ?_) | (dsimp only; omega) | omega | (simp only [World.size_alloc, World.size_setCell, World.size_drew]; omega))))); (case qc54 => exact one_str P); (case qc55 => (unfold maxLen; (first | omega | (simp only [List.length_append, List.length_cons, List.length_nil]; omega)))); (case qc56 => (first | omega | (simp only [List.length_append, List.length_cons, List.length_nil]; omega))); intro a6 c6 x6 hown6; replace hown6 := Lib.hid hown6); refine hKP _ _ (LaterC.mk (by (repeat (first | (with_reducible exact Below.refl _ _) | (with_reducible assumption) | (with_reducible refine Later.out _ ?_) | (with_reducible refine bel_alloc ?_ _) | (with_reducible refine bel_drew ?_) | (with_reducible refine bel_drewN ?_ _) | (with_reducible refine bel_set ?_ ?_ _) | (with_reducible refine After.out _ ?_ ?_) | (dsimp only; omega) | omega | (simp only [World.size_alloc, World.size_setCell, World.size_drew]; omega))))) ?_; clear hKP KP); rotate_left; (intro KP hKP; go_wp2_with fail; refine hKP _ _ (LaterC.mk (by (repeat (first | (with_reducible exact Below.refl _ _) | (with_reducible assumption) | (with_reducible refine Later.out _ ?_) | (with_reducible refine bel_alloc ?_ _) | (with_reducible refine bel_drew ?_) | (with_reducible refine bel_drewN ?_ _) | (with_reducible refine bel_set ?_ ?_ _) | (with_reducible refine After.out _ ?_ ?_) | (dsimp only; omega) | omega | (simp only [World.size_alloc, World.size_setCell, World.size_drew]; omega))))) ?_; clear hKP KP); (try simp only [List.filter, bne_self_eq_false, Nat.reduceBNe])) | ((with_reducible apply float_fork); rfl; (first | (with_reducible exact nth0) | (with_reducible exact nth1) | (with_reducible exact nth2) | (with_reducible exact nth3) | (with_reducible exact nth4) | (with_reducible exact nth5) | (with_reducible exact nth6) | (with_reducible exact nth7) | (with_reducible exact nth8) | (with_reducible exact nth9) | (with_reducible exact nth10) | (with_reducible exact nth11) | (with_reducible exact nth12) | (with_reducible exact nth13) | (with_reducible exact nth14) | (with_reducible exact nth15) | (with_reducible exact nth16) | (with_reducible exact nth17) | (with_reducible exact nth18) | (with_reducible exact nth19) | (with_reducible exact nth20) | (with_reducible exact nth21) | (with_reducible exact nth22) | (with_reducible exact nth23)); (first | (with_reducible exact nth0) | (with_reducible exact nth1) | (with_reducible exact nth2) | (with_reducible exact nth3) | (with_reducible exact nth4) | (with_reducible exact nth5) | (with_reducible exact nth6) | (with_reducible exact nth7) | (with_reducible exact nth8) | (with_reducible exact nth9) | (with_reducible exact nth10) | (with_reducible exact nth11) | (with_reducible exact nth12) | (with_reducible exact nth13) | (with_reducible exact nth14) | (with_reducible exact nth15) | (with_reducible exact nth16) | (with_reducible exact nth17) | (with_reducible exact nth18) | (with_reducible exact nth19) | (with_reducible exact nth20) | (with_reducible exact nth21) | (with_reducible exact nth22) | (with_reducible exact nth23)); rfl; rfl; (intro KP hKP; ((refine oper_append_later _ _ _ _ rfl 9 ii _ 1 16 Tryz.underlying63 Jii.out.1 Jii.out.2.1 Jii.out.2.2.1 Jii.out.2.2.2 rfl (by decide) (z.w) ?qa22 _ _ _ (strCells P) rfl ?qa23 _ _ _ ([.string s]) rfl ?qa24 ?qa25 ?qa26 ?qa27 ?qa28 ?_); (case qa22 => (repeat (first | (with_reducible exact Below.refl _ _) | (with_reducible assumption) | (with_reducible refine Later.out _ ?_) | (with_reducible refine bel_alloc ?_ _) | (with_reducible refine bel_drew ?_) | (with_reducible refine bel_drewN ?_ _) | (with_reducible refine bel_set ?_ ?_ _) | (with_reducible refine After.out _ ?_ ?_) | (dsimp only; omega) | omega | (simp only [World.size_alloc, World.size_setCell, World.size_drew]; omega)))); (case qa23 => exact own_mono (own_bel hown6.out (by (repeat (first | (with_reducible exact Below.refl _ _) | (with_reducible assumption) | (with_reducible refine Later.out _ ?_) | (with_reducible refine bel_alloc ?_ _) | (with_reducible refine bel_drew ?_) | (with_reducible refine bel_drewN ?_ _) | (with_reducible refine bel_set ?_ ?_ _) | (with_reducible refine After.out _ ?_ ?_) | (dsimp only; omega) | omega | (simp only [World.size_alloc, World.size_setCell, World.size_drew]; omega))))) (by first | exact Nat.le_refl _ | omega | (simp only [World.size_alloc, World.size_drew]; omega))); (case qa24 => (first | rfl | (simp [boolCells]; done) | (simp [intCells]; done) | (simp; done) | (first | omega | (simp only [List.length_append, List.length_cons, List.length_nil]; omega)))); (case qa25 => (first | exact Row.madeAt (by first | rfl | (simp only [World.size_alloc, World.size_drew])) rfl | exact ((Row.madeAt (w := z.w.alloc (.cells #[] 9)) (cs := #[.string s]) (e := 9) (by simp only [World.size_alloc]) rfl).bel ((Below.refl _ _).drew)).btw x6.btw (fun p hp => by cases hp; first | (dsimp only; omega) | (simp only [World.size_alloc, World.size_drew]; omega)) | exact (((Row.madeAt (w := z.w) (cs := #[.string s]) (e := 9) rfl rfl).alloc (.cells #[] 9)).bel ((Below.refl _ _).drew)).btw x6.btw (fun p hp => by cases hp; first | (dsimp only; omega) | (simp only [World.size_alloc, World.size_drew]; omega)))); (case qa26 => exact one_str1 s); (case qa27 => (unfold maxLen; (first | omega | (simp only [List.length_append, List.length_cons, List.length_nil]; omega)))); (case qa28 => (first | omega | (simp only [List.length_append, List.length_cons, List.length_nil]; omega))); intro a7 c7 x7 hown7; have hs7 := x7.bel.size; rw [← hcS.out] at hown7; have N7 := Lib.hid (Owns.of hown7); clear hown7); refine hKP _ _ (LaterC.mk (by (repeat (first | (with_reducible exact Below.refl _ _) | (with_reducible assumption) | (with_reducible refine Later.out _ ?_) | (with_reducible refine bel_alloc ?_ _) | (with_reducible refine bel_drew ?_) | (with_reducible refine bel_drewN ?_ _) | (with_reducible refine bel_set ?_ ?_ _) | (with_reducible refine After.out _ ?_ ?_) | (dsimp only; omega) | omega | (simp only [World.size_alloc, World.size_setCell, World.size_drew]; omega))))) ?_; clear hKP KP); rotate_left; (intro KP hKP; go_wp2_with fail; refine hKP _ _ (LaterC.mk (by (repeat (first | (with_reducible exact Below.refl _ _) | (with_reducible assumption) | (with_reducible refine Later.out _ ?_) | (with_reducible refine bel_alloc ?_ _) | (with_reducible refine bel_drew ?_) | (with_reducible refine bel_drewN ?_ _) | (with_reducible refine bel_set ?_ ?_ _) | (with_reducible refine After.out _ ?_ ?_) | (dsimp only; omega) | omega | (simp only [World.size_alloc, World.size_setCell, World.size_drew]; omega))))) ?_; clear hKP KP); (try simp only [List.filter, bne_self_eq_false, Nat.reduceBNe])) | ((with_reducible apply float_fork); rfl; (first | (with_reducible exact nth0) | (with_reducible exact nth1) | (with_reducible exact nth2) | (with_reducible exact nth3) | (with_reducible exact nth4) | (with_reducible exact nth5) | (with_reducible exact nth6) | (with_reducible exact nth7) | (with_reducible exact nth8) | (with_reducible exact nth9) | (with_reducible exact nth10) | (with_reducible exact nth11) | (with_reducible exact nth12) | (with_reducible exact nth13) | (with_reducible exact nth14) | (with_reducible exact nth15) | (with_reducible exact nth16) | (with_reducible exact nth17) | (with_reducible exact nth18) | (with_reducible exact nth19) | (with_reducible exact nth20) | (with_reducible exact nth21) | (with_reducible exact nth22) | (with_reducible exact nth23)); (first | (with_reducible exact nth0) | (with_reducible exact nth1) | (with_reducible exact nth2) | (with_reducible exact nth3) | (with_reducible exact nth4) | (with_reducible exact nth5) | (with_reducible exact nth6) | (with_reducible exact nth7) | (with_reducible exact nth8) | (with_reducible exact nth9) | (with_reducible exact nth10) | (with_reducible exact nth11) | (with_reducible exact nth12) | (with_reducible exact nth13) | (with_reducible exact nth14) | (with_reducible exact nth15) | (with_reducible exact nth16) | (with_reducible exact nth17) | (with_reducible exact nth18) | (with_reducible exact nth19) | (with_reducible exact nth20) | (with_reducible exact nth21) | (with_reducible exact nth22) | (with_reducible exact nth23)); rfl; rfl; (intro KP hKP; go_wp2_with fail; refine hKP _ _ (LaterC.mk (by (repeat (first | (with_reducible exact Below.refl _ _) | (with_reducible assumption) | (with_reducible refine Later.out _ ?_) | (with_reducible refine bel_alloc ?_ _) | (with_reducible refine bel_drew ?_) | (with_reducible refine bel_drewN ?_ _) | (with_reducible refine bel_set ?_ ?_ _) | (with_reducible refine After.out _ ?_ ?_) | (dsimp only; omega) | omega | (simp only [World.size_alloc, World.size_setCell, World.size_drew]; omega))))) ?_; clear hKP KP); rotate_left; (intro KP hKP; go_wp2_with fail; refine hKP _ _ (LaterC.mk (by (repeat (first | (with_reducible exact Below.refl _ _) | (with_reducible assumption) | (with_reducible refine Later.out _ ?_) | (with_reducible refine bel_alloc ?_ _) | (with_reducible refine bel_drew ?_) | (with_reducible refine bel_drewN ?_ _) | (with_reducible refine bel_set ?_ ?_ _) | (with_reducible refine After.out _ ?_ ?_) | (dsimp only; omega) | omega | (simp only [World.size_alloc, World.size_setCell, World.size_drew]; omega))))) ?_; clear hKP KP); (try simp only [List.filter, bne_self_eq_false, Nat.reduceBNe])) | ((with_reducible apply float_last); (first | (with_reducible exact nth0) | (with_reducible exact nth1) | (with_reducible exact nth2) | (with_reducible exact nth3) | (with_reducible exact nth4) | (with_reducible exact nth5) | (with_reducible exact nth6) | (with_reducible exact nth7) | (with_reducible exact nth8) | (with_reducible exact nth9) | (with_reducible exact nth10) | (with_reducible exact nth11) | (with_reducible exact nth12) | (with_reducible exact nth13) | (with_reducible exact nth14) | (with_reducible exact nth15) | (with_reducible exact nth16) | (with_reducible exact nth17) | (with_reducible exact nth18) | (with_reducible exact nth19) | (with_reducible exact nth20) | (with_reducible exact nth21) | (with_reducible exact nth22) | (with_reducible exact nth23)); rfl; (intro KP hKP; go_wp2_with fail; refine hKP _ _ (LaterC.mk (by (repeat (first | (with_reducible exact Below.refl _ _) | (with_reducible assumption) | (with_reducible refine Later.out _ ?_) | (with_reducible refine bel_alloc ?_ _) | (with_reducible refine bel_drew ?_) | (with_reducible refine bel_drewN ?_ _) | (with_reducible refine bel_set ?_ ?_ _) | (with_reducible refine After.out _ ?_ ?_) | (dsimp only; omega) | omega | (simp only [World.size_alloc, World.size_setCell, World.size_drew]; omega))))) ?_; clear hKP KP)) | ((with_reducible apply plan_loud); (first | (with_reducible exact nth0) | (with_reducible exact nth1) | (with_reducible exact nth2) | (with_reducible exact nth3) | (with_reducible exact nth4) | (with_reducible exact nth5) | (with_reducible exact nth6) | (with_reducible exact nth7) | (with_reducible exact nth8) | (with_reducible exact nth9) | (with_reducible exact nth10) | (with_reducible exact nth11) | (with_reducible exact nth12) | (with_reducible exact nth13) | (with_reducible exact nth14) | (with_reducible exact nth15) | (with_reducible exact nth16) | (with_reducible exact nth17) | (with_reducible exact nth18) | (with_reducible exact nth19) | (with_reducible exact nth20) | (with_reducible exact nth21) | (with_reducible exact nth22) | (with_reducible exact nth23)); rfl; (intro KP hKP; go_wp2_with fail; refine hKP _ _ (LaterC.mk (by (repeat (first | (with_reducible exact Below.refl _ _) | (with_reducible assumption) | (with_reducible refine Later.out _ ?_) | (with_reducible refine bel_alloc ?_ _) | (with_reducible refine bel_drew ?_) | (with_reducible refine bel_drewN ?_ _) | (with_reducible refine bel_set ?_ ?_ _) | (with_reducible refine After.out _ ?_ ?_) | (dsimp only; omega) | omega | (simp only [World.size_alloc, World.size_setCell, World.size_drew]; omega))))) ?_; clear hKP KP))))
          all_goals (simp only [Act.put, List.setIfInBounds_toArray, List.set_cons_zero, List.set_cons_succ])
          repeat (any_goals (first | (with_reducible apply plan_nil) | ((with_reducible apply float_quiet); (first | (with_reducible exact nth0) | (with_reducible exact nth1) | (with_reducible exact nth2) | (with_reducible exact nth3) | (with_reducible exact nth4) | (with_reducible exact nth5) | (with_reducible exact nth6) | (with_reducible exact nth7) | (with_reducible exact nth8) | (with_reducible exact nth9) | (with_reducible exact nth10) | (with_reducible exact nth11) | (with_reducible exact nth12) | (with_reducible exact nth13) | (with_reducible exact nth14) | (with_reducible exact nth15) | (with_reducible exact nth16) | (with_reducible exact nth17) | (with_reducible exact nth18) | (with_reducible exact nth19) | (with_reducible exact nth20) | (with_reducible exact nth21) | (with_reducible exact nth22) | (with_reducible exact nth23)); rfl; intro KP hKP; go_big_quiet_op; go_big_quiet_on) | ((with_reducible apply float_skip); (first | (with_reducible exact nth0) | (with_reducible exact nth1) | (with_reducible exact nth2) | (with_reducible exact nth3) | (with_reducible exact nth4) | (with_reducible exact nth5) | (with_reducible exact nth6) | (with_reducible exact nth7) | (with_reducible exact nth8) | (with_reducible exact nth9) | (with_reducible exact nth10) | (with_reducible exact nth11) | (with_reducible exact nth12) | (with_reducible exact nth13) | (with_reducible exact nth14) | (with_reducible exact nth15) | (with_reducible exact nth16) | (with_reducible exact nth17) | (with_reducible exact nth18) | (with_reducible exact nth19) | (with_reducible exact nth20) | (with_reducible exact nth21) | (with_reducible exact nth22) | (with_reducible exact nth23)); rfl; rfl; simp only [Act.put, List.setIfInBounds_toArray, List.set_cons_zero, List.set_cons_succ]) | ((with_reducible apply plan_quiet); (first | (with_reducible exact nth0) | (with_reducible exact nth1) | (with_reducible exact nth2) | (with_reducible exact nth3) | (with_reducible exact nth4) | (with_reducible exact nth5) | (with_reducible exact nth6) | (with_reducible exact nth7) | (with_reducible exact nth8) | (with_reducible exact nth9) | (with_reducible exact nth10) | (with_reducible exact nth11) | (with_reducible exact nth12) | (with_reducible exact nth13) | (with_reducible exact nth14) | (with_reducible exact nth15) | (with_reducible exact nth16) | (with_reducible exact nth17) | (with_reducible exact nth18) | (with_reducible exact nth19) | (with_reducible exact nth20) | (with_reducible exact nth21) | (with_reducible exact nth22) | (with_reducible exact nth23)); rfl; intro KP hKP; go_big_quiet_op; go_big_quiet_on) | ((with_reducible apply plan_skip_q); (first | (with_reducible exact nth0) | (with_reducible exact nth1) | (with_reducible exact nth2) | (with_reducible exact nth3) | (with_reducible exact nth4) | (with_reducible exact nth5) | (with_reducible exact nth6) | (with_reducible exact nth7) | (with_reducible exact nth8) | (with_reducible exact nth9) | (with_reducible exact nth10) | (with_reducible exact nth11) | (with_reducible exact nth12) | (with_reducible exact nth13) | (with_reducible exact nth14) | (with_reducible exact nth15) | (with_reducible exact nth16) | (with_reducible exact nth17) | (with_reducible exact nth18) | (with_reducible exact nth19) | (with_reducible exact nth20) | (with_reducible exact nth21) | (with_reducible exact nth22) | (with_reducible exact nth23)); rfl; rfl; simp only [Act.put, List.setIfInBounds_toArray, List.set_cons_zero, List.set_cons_succ]) | ((with_reducible apply float_fork); rfl; (first | (with_reducible exact nth0) | (with_reducible exact nth1) | (with_reducible exact nth2) | (with_reducible exact nth3) | (with_reducible exact nth4) | (with_reducible exact nth5) | (with_reducible exact nth6) | (with_reducible exact nth7) | (with_reducible exact nth8) | (with_reducible exact nth9) | (with_reducible exact nth10) | (with_reducible exact nth11) | (with_reducible exact nth12) | (with_reducible exact nth13) | (with_reducible exact nth14) | (with_reducible exact nth15) | (with_reducible exact nth16) | (with_reducible exact nth17) | (with_reducible exact nth18) | (with_reducible exact nth19) | (with_reducible exact nth20) | (with_reducible exact nth21) | (with_reducible exact nth22) | (with_reducible exact nth23)); (first | (with_reducible exact nth0) | (with_reducible exact nth1) | (with_reducible exact nth2) | (with_reducible exact nth3) | (with_reducible exact nth4) | (with_reducible exact nth5) | (with_reducible exact nth6) | (with_reducible exact nth7) | (with_reducible exact nth8) | (with_reducible exact nth9) | (with_reducible exact nth10) | (with_reducible exact nth11) | (with_reducible exact nth12) | (with_reducible exact nth13) | (with_reducible exact nth14) | (with_reducible exact nth15) | (with_reducible exact nth16) | (with_reducible exact nth17) | (with_reducible exact nth18) | (with_reducible exact nth19) | (with_reducible exact nth20) | (with_reducible exact nth21) | (with_reducible exact nth22) | (with_reducible exact nth23)); rfl; rfl; (intro KP hKP; go_wp2_with (first | (go_at_call 140; (with_reducible refine (IHx.out z.w.heap.size _ _ _ (hr.out.bel (by (repeat (first | (with_reducible exact Below.refl _ _) | (with_reducible assumption) | (with_reducible refine Later.out _ ?_) | (with_reducible refine bel_alloc ?_ _) | (with_reducible refine bel_drew ?_) | (with_reducible refine bel_drewN ?_ _) | (with_reducible refine bel_set ?_ ?_ _) | (with_reducible refine After.out _ ?_ ?_) | (dsimp only; omega) | omega | (simp only [World.size_alloc, World.size_setCell, World.size_drew]; omega))))) (hrA.out.bel (by (repeat (first | (with_reducible exact Below.refl _ _) | (with_reducible assumption) | (with_reducible refine Later.out _ ?_) | (with_reducible refine bel_alloc ?_ _) | (with_reducible refine bel_drew ?_) | (with_reducible refine bel_drewN ?_ _) | (with_reducible refine bel_set ?_ ?_ _) | (with_reducible refine After.out _ ?_ ?_) | (dsimp only; omega) | omega | (simp only [World.size_alloc, World.size_setCell, World.size_drew]; omega))))) (by ((try simp only [World.size_alloc, World.size_setCell, World.size_drew]); omega)) N7.out).mono ?_); rintro e w' ⟨a9, n9, c9, rfl, hT9, y9, rfl⟩; have hs9 := y9.bel.size; (try simp only [World.size_alloc, World.size_setCell, World.size_drew] at hs9); replace hT9 := Lib.hid hT9)); refine hKP _ _ (LaterC.mk (by (repeat (first | (with_reducible exact Below.refl _ _) | (with_reducible assumption) | (with_reducible refine Later.out _ ?_) | (with_reducible refine bel_alloc ?_ _) | (with_reducible refine bel_drew ?_) | (with_reducible refine bel_drewN ?_ _) | (with_reducible refine bel_set ?_ ?_ _) | (with_reducible refine After.out _ ?_ ?_) | (dsimp only; omega) | omega | (simp only [World.size_alloc, World.size_setCell, World.size_drew]; omega))))) ?_; clear hKP KP); rotate_left; (intro KP hKP; go_wp2_with fail; refine hKP _ _ (LaterC.mk (by (repeat (first | (with_reducible exact Below.refl _ _) | (with_reducible assumption) | (with_reducible refine Later.out _ ?_) | (with_reducible refine bel_alloc ?_ _) | (with_reducible refine bel_drew ?_) | (with_reducible refine bel_drewN ?_ _) | (with_reducible refine bel_set ?_ ?_ _) | (with_reducible refine After.out _ ?_ ?_) | (dsimp only; omega) | omega | (simp only [World.size_alloc, World.size_setCell, World.size_drew]; omega))))) ?_; clear hKP KP); (try simp only [List.filter, bne_self_eq_false, Nat.reduceBNe])) | ((with_reducible apply float_last); (first | (with_reducible exact nth0) | (with_reducible exact nth1) | (with_reducible exact nth2) | (with_reducible exact nth3) | (with_reducible exact nth4) | (with_reducible exact nth5) | (with_reducible exact nth6) | (with_reducible exact nth7) | (with_reducible exact nth8) | (with_reducible exact nth9) | (with_reducible exact nth10) | (with_reducible exact nth11) | (with_reducible exact nth12) | (with_reducible exact nth13) | (with_reducible exact nth14) | (with_reducible exact nth15) | (with_reducible exact nth16) | (with_reducible exact nth17) | (with_reducible exact nth18) | (with_reducible exact nth19) | (with_reducible exact nth20) | (with_reducible exact nth21) | (with_reducible exact nth22) | (with_reducible exact nth23)); rfl; (intro KP hKP; go_wp2_with fail; refine hKP _ _ (LaterC.mk (by (repeat (first | (with_reducible exact Below.refl _ _) | (with_reducible assumption) | (with_reducible refine Later.out _ ?_) | (with_reducible refine bel_alloc ?_ _) | (with_reducible refine bel_drew ?_) | (with_reducible refine bel_drewN ?_ _) | (with_reducible refine bel_set ?_ ?_ _) | (with_reducible refine After.out _ ?_ ?_) | (dsimp only; omega) | omega | (simp only [World.size_alloc, World.size_setCell, World.size_drew]; omega))))) ?_; clear hKP KP)) | ((with_reducible apply plan_loud); (first | (with_reducible exact nth0) | (with_reducible exact nth1) | (with_reducible exact nth2) | (with_reducible exact nth3) | (with_reducible exact nth4) | (with_reducible exact nth5) | (with_reducible exact nth6) | (with_reducible exact nth7) | (with_reducible exact nth8) | (with_reducible exact nth9) | (with_reducible exact nth10) | (with_reducible exact nth11) | (with_reducible exact nth12) | (with_reducible exact nth13) | (with_reducible exact nth14) | (with_reducible exact nth15) | (with_reducible exact nth16) | (with_reducible exact nth17) | (with_reducible exact nth18) | (with_reducible exact nth19) | (with_reducible exact nth20) | (with_reducible exact nth21) | (with_reducible exact nth22) | (with_reducible exact nth23)); rfl; (intro KP hKP; go_wp2_with (first | (go_at_call 140; (with_reducible refine (IHx.out z.w.heap.size _ _ _ (hr.out.bel (by (repeat (first | (with_reducible exact Below.refl _ _) | (with_reducible assumption) | (with_reducible refine Later.out _ ?_) | (with_reducible refine bel_alloc ?_ _) | (with_reducible refine bel_drew ?_) | (with_reducible refine bel_drewN ?_ _) | (with_reducible refine bel_set ?_ ?_ _) | (with_reducible refine After.out _ ?_ ?_) | (dsimp only; omega) | omega | (simp only [World.size_alloc, World.size_setCell, World.size_drew]; omega))))) (hrA.out.bel (by (repeat (first | (with_reducible exact Below.refl _ _) | (with_reducible assumption) | (with_reducible refine Later.out _ ?_) | (with_reducible refine bel_alloc ?_ _) | (with_reducible refine bel_drew ?_) | (with_reducible refine bel_drewN ?_ _) | (with_reducible refine bel_set ?_ ?_ _) | (with_reducible refine After.out _ ?_ ?_) | (dsimp only; omega) | omega | (simp only [World.size_alloc, World.size_setCell, World.size_drew]; omega))))) (by ((try simp only [World.size_alloc, World.size_setCell, World.size_drew]); omega)) N7.out).mono ?_); rintro e w' ⟨a9, n9, c9, rfl, hT9, y9, rfl⟩; have hs9 := y9.bel.size; (try simp only [World.size_alloc, World.size_setCell, World.size_drew] at hs9); replace hT9 := Lib.hid hT9)); refine hKP _ _ (LaterC.mk (by (repeat (first | (with_reducible exact Below.refl _ _) | (with_reducible assumption) | (with_reducible refine Later.out _ ?_) | (with_reducible refine bel_alloc ?_ _) | (with_reducible refine bel_drew ?_) | (with_reducible refine bel_drewN ?_ _) | (with_reducible refine bel_set ?_ ?_ _) | (with_reducible refine After.out _ ?_ ?_) | (dsimp only; omega) | omega | (simp only [World.size_alloc, World.size_setCell, World.size_drew]; omega))))) ?_; clear hKP KP))))
          all_goals go_wp2_with fail
          all_goals (refine bodyPost_ret (by simp [results, Tryz.results140, go_sem, ↓IntWalk.iteOmega, *]; try rfl) rfl ?_)
          all_goals exact RetFew.mk' rfl (fun T hT => by rw [hst.out] at hT; obtain ⟨e1, o1⟩ := hT9.out T hT; exact ⟨e1, own_mono o1.own (by omega), o1.lt⟩) (by (repeat (first | (with_reducible exact Below.refl _ _) | (with_reducible assumption) | (with_reducible refine Later.out _ ?_) | (with_reducible refine bel_alloc ?_ _) | (with_reducible refine bel_drew ?_) | (with_reducible refine bel_drewN ?_ _) | (with_reducible refine bel_set ?_ ?_ _) | (with_reducible refine After.out _ ?_ ?_) | (dsimp only; omega) | omega | (simp only [World.size_alloc, World.size_setCell, World.size_drew]; omega))))
      · obtain rfl : x = A.length := by omega
        have e : R = none := by rw [← hsc.out, hz0.out]
        obtain rfl : b = false := by rw [← hb, e]; rfl
        go_wp2_with fail
        refine bodyPost_ret (by simp [results, Tryz.results140, go_sem, ↓IntWalk.iteOmega, *]; try rfl) rfl ?_
        exact RetFew.mk' (a := none) (n := 0) (c := 0) rfl (fun T hT => by rw [e] at hT; cases hT) (by (repeat (first | (with_reducible exact Below.refl _ _) | (with_reducible assumption) | (with_reducible refine Later.out _ ?_) | (with_reducible refine bel_alloc ?_ _) | (with_reducible refine bel_drew ?_) | (with_reducible refine bel_drewN ?_ _) | (with_reducible refine bel_set ?_ ?_ _) | (with_reducible refine After.out _ ?_ ?_) | (dsimp only; omega) | omega | (simp only [World.size_alloc, World.size_setCell, World.size_drew]; omega))))
end Go.Proofs.YtflcfdiochohgaaGreatDoor

/- SmallestSources: the reference, and what both answer. -/
set_option linter.unusedSimpArgs false
set_option linter.unusedVariables false
namespace Go.Proofs.YtflcfdiochohgaaGreatDoor
open Go.RowKit
theorem few_none {L : List Clm} (h : consB L = true) {m n : Nat} {T : List Int} (hf : few (srcG L) m n [] 0 = some T) : False := by
  obtain ⟨T', e, _, hg, _⟩ := (few_spec (srcG L) m n [] 0).1 T hf
  rw [List.nil_append] at e
  subst e
  rw [srcG_none h] at hg
  cases hg
theorem sms_found {L : List Clm} (hc : claimsB L = true) {n : Nat} {T : List Int} (hf : few (srcG L) (srcs L).length n [] 0 = some T) (hn : ∀ k, k < n → few (srcG L) (srcs L).length k [] 0 = none) : smsR L = pickS (srcs L) T ∧ smsK L = 0 := by
  cases h : consB L
  · have h1 := few_least hf hn
    have h2 := bestB_least (ixs_rest [] (srcs L).length) (srcG_full h)
    have e := least_unique h1 h2
    exact ⟨by simp [smsR, hc, h, smsB, e], by simp [smsK, hc, h]⟩
  · exact (few_none h hf).elim
theorem sms_none {L : List Clm} (hc : claimsB L = true) (hn : ∀ k, k < (srcs L).length + 1 → few (srcG L) (srcs L).length k [] 0 = none) : smsR L = [] ∧ smsK L = 4 := by
  cases h : consB L
  · have h1 := tail_ixs (ixs_rest [] (srcs L).length)
    rw [rest_len] at h1
    have h2 := (few_spec (srcG L) (srcs L).length (srcs L).length [] 0).2 (hn _ (by omega)) _ h1
    rw [List.nil_append, srcG_full h] at h2
    cases h2
  · exact ⟨by simp [smsR, h], by simp [smsK, hc, h]⟩
theorem few_zero (L : List Clm) (m : Nat) : few (srcG L) m 0 [] 0 = none := by
  rw [few, srcG_nil]; rfl
section
variable (L : List Clm) (a : Option Addr) (n c : Nat) (w : World) (hn : L.length = n) (hm : n ≤ 1048576) (hr : Row w a (clmsCells L)) (ok : ∀ c ∈ L, ClmOk c)
include hn hm hr ok
set_option maxRecDepth 8000 in
set_option maxHeartbeats 4000000 in
theorem sms_spec : Calls Tryz.prog 67 #[.slice a n c] w (RetOwn w 9 1 (smsR L).length (strCells (smsR L)) fun v => .tuple #[v, .int .i64 (smsK L)]) := by
  cases h1 : claimsB L
  · rw [show smsR L = [] by simp [smsR, h1], show smsK L = 1 by simp [smsK, h1]]
    have C1 := Lib.hid (sAreClaims_b (c := c) hn hm hr ok h1)
    clear ok h1 hn hr
    go_enter Tryz.func67, Tryz.ntmps67
    go_wp2_with fail
    with_reducible refine (C1.out).mono ?_
    rintro e w' ⟨rfl, y1, rfl⟩
    have hsy1 := y1.bel.size
    (try simp only [World.size_alloc, World.size_setCell, World.size_drew] at hsy1)
    go_wp2_with fail
    refine bodyPost_ret (by simp [results, Tryz.results67, go_sem, ↓IntWalk.iteOmega, *]; try rfl) rfl ?_
    refine RetOwn.mk (.slice none 0 0) rfl (World.ownsRow_nil _ _ _ _) ?_
    (repeat (first | (with_reducible exact Below.refl _ _) | (with_reducible assumption) | (with_reducible refine Later.out _ ?_) | (with_reducible refine bel_alloc ?_ _) | (with_reducible refine bel_drew ?_) | (with_reducible refine bel_drewN ?_ _) | (with_reducible refine bel_set ?_ ?_ _) | (with_reducible refine After.out _ ?_ ?_) | (dsimp only; omega) | omega | (simp only [World.size_alloc, World.size_setCell, World.size_drew]; omega)))
  have h12 := len_of_claims h1
  have C1 := Lib.hid (sAreClaims_b (c := c) hn hm hr ok h1)
  subst hn
  have hv := named_of fun c hc => claim_of_claims h1 hc
  have CT := fun (w : World) hr => sSources_any L a L.length c w rfl (by omega) hr
  have hle := srcs_le L
  have hfd := fun n T => sms_found (n := n) (T := T) h1
  have hnn := sms_none h1
  have CF := fun (m : Nat) (hm : m ≤ 13) (b : Bool) (r : Option (List Int)) (e : few (srcG L) (srcs L).length m [] 0 = r) (e2 : r.isSome = b) (aA : Option Addr) (cA lo : Nat) (a' : Option Addr) (c' : Nat) (w : World) (hr : Row w a (clmsCells L)) (hrA : Row w aA (strCells (srcs L))) (hlo : lo ≤ w.heap.size) (ho : Owns w lo w.heap.size 9 1 0 a' c' []) =>
    show Calls Tryz.prog 140 #[.slice a L.length c, .slice aA (srcs L).length cA, .slice a' 0 c', .int .i64 0, .int .i64 (m : Int)] w (RetFew lo w (srcs L) r b) from by
      have h3 := sFew_any L (srcs L) rfl a c aA cA h12 hv m [] 0 (Nat.zero_le _) (by simpa using hm) b (by rw [e]; exact e2) lo a' c' w hr hrA hlo ho
      rw [e] at h3
      exact h3
  have hz := few_zero L (srcs L).length
  obtain ⟨E, hE⟩ : ∃ E : Nat → Option (List Int), (fun k => few (srcG L) (srcs L).length k [] 0) = E := ⟨_, rfl⟩
  have hEx := fun k : Nat => congrFun hE k
  (try simp only at hEx)
  simp only [hEx] at hfd hnn CF hz
  clear hE hEx hv
  obtain ⟨R, hR⟩ : ∃ R, smsR L = R := ⟨_, rfl⟩
  obtain ⟨K, hK⟩ : ∃ K, smsK L = K := ⟨_, rfl⟩
  rw [hR, hK]
  simp only [hR, hK] at hfd hnn
  clear hR hK
  obtain ⟨A, hA⟩ : ∃ A, srcs L = A := ⟨_, rfl⟩
  simp only [hA] at hfd hnn CF CT hle
  clear hA
  have hAl : A.length ≤ 12 := by omega
  replace hfd := Lib.hid hfd
  replace hnn := Lib.hid hnn
  replace CF := Lib.hid CF
  replace CT := Lib.hid CT
  replace hr := Lib.hid hr
  replace hz := Lib.hid hz
  clear ok h1
  go_enter Tryz.func67, Tryz.ntmps67
  go_wp2_with fail
  with_reducible refine (C1.out).mono ?_
  rintro e w' ⟨rfl, y1, rfl⟩
  have hsy1 := y1.bel.size
  (try simp only [World.size_alloc, World.size_setCell, World.size_drew] at hsy1)
  go_wp2_with fail
  with_reducible refine (CT.out _ (hr.out.bel (by (repeat (first | (with_reducible exact Below.refl _ _) | (with_reducible assumption) | (with_reducible refine Later.out _ ?_) | (with_reducible refine bel_alloc ?_ _) | (with_reducible refine bel_drew ?_) | (with_reducible refine bel_drewN ?_ _) | (with_reducible refine bel_set ?_ ?_ _) | (with_reducible refine After.out _ ?_ ?_) | (dsimp only; omega) | omega | (simp only [World.size_alloc, World.size_setCell, World.size_drew]; omega)))))).mono ?_
  rintro e w' ⟨a2, c2, rfl, hown, y2, rfl⟩
  have hsy2 := y2.bel.size
  (try simp only [World.size_alloc, World.size_setCell, World.size_drew] at hsy2)
  have H2 := Lib.hid (Owns.of hown)
  clear hown
  go_wp2_with fail
  go_loopw [5] (fun i wr => ∃ k : Nat, 1 ≤ k ∧ k ≤ A.length + 1 ∧ i = .int .i64 k ∧ (∀ j, j < k → E j = none) ∧ ∃ z : Later y2.w, wr = z.w) (fun i _ => A.length + 1 - (intOf i).toNat)
  case atStart => exact ⟨1, Nat.le_refl _, by omega, rfl, fun j hj => (by omega : j = 0) ▸ hz.out, LaterC.mk (by (repeat (first | (with_reducible exact Below.refl _ _) | (with_reducible assumption) | (with_reducible refine Later.out _ ?_) | (with_reducible refine bel_alloc ?_ _) | (with_reducible refine bel_drew ?_) | (with_reducible refine bel_drewN ?_ _) | (with_reducible refine bel_set ?_ ?_ _) | (with_reducible refine After.out _ ?_ ?_) | (dsimp only; omega) | omega | (simp only [World.size_alloc, World.size_setCell, World.size_drew]; omega))))⟩
  case round =>
    obtain ⟨k, hk1, hk2, rfl, hall, z, rfl⟩ := hrel
    replace hall := Lib.hid hall
    have hzz := z.bel.size
    by_cases hlt : k ≤ A.length
    · have hi1 : (k : Int) ≤ (A.length : Int) := by omega
      have OW : Owns (z.w.alloc (.cells #[] 9)) z.w.heap.size (z.w.alloc (.cells #[] 9)).heap.size 9 1 0 (some ⟨z.w.heap.size, 0, none⟩) 0 [] := Owns.of (World.ownsRow_lit z.w #[] 0 (Nat.le_refl _) (by unfold maxLen; omega) rfl)
      cases hv : E k with
      | none =>
        have CX := Lib.hid (CF.out k (by omega) false none hv rfl)
        have X := Lib.hid (show ∀ j, j < k + 1 → E j = none from fun j hj => by
          rcases Nat.lt_or_ge j k with h2 | h2
          · exact hall.out j h2
          · obtain rfl : j = k := by omega
            exact hv)
        clear hv
        go_wp2_with fail
        with_reducible refine (CX.out _ _ z.w.heap.size _ _ _ (hr.out.bel (by (repeat (first | (with_reducible exact Below.refl _ _) | (with_reducible assumption) | (with_reducible refine Later.out _ ?_) | (with_reducible refine bel_alloc ?_ _) | (with_reducible refine bel_drew ?_) | (with_reducible refine bel_drewN ?_ _) | (with_reducible refine bel_set ?_ ?_ _) | (with_reducible refine After.out _ ?_ ?_) | (dsimp only; omega) | omega | (simp only [World.size_alloc, World.size_setCell, World.size_drew]; omega))))) (H2.out.row.bel (by (repeat (first | (with_reducible exact Below.refl _ _) | (with_reducible assumption) | (with_reducible refine Later.out _ ?_) | (with_reducible refine bel_alloc ?_ _) | (with_reducible refine bel_drew ?_) | (with_reducible refine bel_drewN ?_ _) | (with_reducible refine bel_set ?_ ?_ _) | (with_reducible refine After.out _ ?_ ?_) | (dsimp only; omega) | omega | (simp only [World.size_alloc, World.size_setCell, World.size_drew]; omega))))) (by ((try simp only [World.size_alloc, World.size_setCell, World.size_drew]); omega)) OW).mono ?_
        rintro e w' ⟨a9, n9, c9, rfl, hT9, y9, rfl⟩
        have hs9 := y9.bel.size
        (try simp only [World.size_alloc, World.size_setCell, World.size_drew] at hs9)
        go_wp2_with fail
        go_roundw
        case rel => exact ⟨k + 1, by omega, by omega, by go_num, X.out, LaterC.mk (by (repeat (first | (with_reducible exact Below.refl _ _) | (with_reducible assumption) | (with_reducible refine Later.out _ ?_) | (with_reducible refine bel_alloc ?_ _) | (with_reducible refine bel_drew ?_) | (with_reducible refine bel_drewN ?_ _) | (with_reducible refine bel_set ?_ ?_ _) | (with_reducible refine After.out _ ?_ ?_) | (dsimp only; omega) | omega | (simp only [World.size_alloc, World.size_setCell, World.size_drew]; omega))))⟩
        case measure => first | (simp [intOf]; done) | (simp [intOf]; omega) | omega
      | some T =>
        have CX := Lib.hid (CF.out k (by omega) true (some T) hv rfl)
        obtain ⟨X1, X2⟩ := hfd.out k T hv hall.out
        clear hv
        go_wp2_with fail
        with_reducible refine (CX.out _ _ z.w.heap.size _ _ _ (hr.out.bel (by (repeat (first | (with_reducible exact Below.refl _ _) | (with_reducible assumption) | (with_reducible refine Later.out _ ?_) | (with_reducible refine bel_alloc ?_ _) | (with_reducible refine bel_drew ?_) | (with_reducible refine bel_drewN ?_ _) | (with_reducible refine bel_set ?_ ?_ _) | (with_reducible refine After.out _ ?_ ?_) | (dsimp only; omega) | omega | (simp only [World.size_alloc, World.size_setCell, World.size_drew]; omega))))) (H2.out.row.bel (by (repeat (first | (with_reducible exact Below.refl _ _) | (with_reducible assumption) | (with_reducible refine Later.out _ ?_) | (with_reducible refine bel_alloc ?_ _) | (with_reducible refine bel_drew ?_) | (with_reducible refine bel_drewN ?_ _) | (with_reducible refine bel_set ?_ ?_ _) | (with_reducible refine After.out _ ?_ ?_) | (dsimp only; omega) | omega | (simp only [World.size_alloc, World.size_setCell, World.size_drew]; omega))))) (by ((try simp only [World.size_alloc, World.size_setCell, World.size_drew]); omega)) OW).mono ?_
        rintro e w' ⟨a9, n9, c9, rfl, hT9, y9, rfl⟩
        have hs9 := y9.bel.size
        (try simp only [World.size_alloc, World.size_setCell, World.size_drew] at hs9)
        obtain ⟨e1, o1⟩ := hT9 T rfl
        replace o1 := Lib.hid o1
        go_wp2_with fail
        refine bodyPost_ret (by simp [results, Tryz.results67, go_sem, ↓IntWalk.iteOmega, *]; try rfl) rfl ?_
        (try rw [X1, X2])
        rw [pickS_len, ← e1]
        refine RetOwn.mk _ rfl (own_mono o1.out.own (by ((try simp only [World.size_alloc, World.size_setCell, World.size_drew]); omega))) ?_
        (repeat (first | (with_reducible exact Below.refl _ _) | (with_reducible assumption) | (with_reducible refine Later.out _ ?_) | (with_reducible refine bel_alloc ?_ _) | (with_reducible refine bel_drew ?_) | (with_reducible refine bel_drewN ?_ _) | (with_reducible refine bel_set ?_ ?_ _) | (with_reducible refine After.out _ ?_ ?_) | (dsimp only; omega) | omega | (simp only [World.size_alloc, World.size_setCell, World.size_drew]; omega)))
    · have hk3 : k = A.length + 1 := by omega
      have hi1 : ¬ (k : Int) ≤ (A.length : Int) := by omega
      obtain ⟨X1, X2⟩ := hnn.out (fun j hj => hall.out j (by omega))
      go_wp2_with fail
      refine bodyPost_ret (by simp [results, Tryz.results67, go_sem, ↓IntWalk.iteOmega, *]; try rfl) rfl ?_
      (try rw [X1, X2])
      refine RetOwn.mk (.slice none 0 0) rfl (World.ownsRow_nil _ _ _ _) ?_
      (repeat (first | (with_reducible exact Below.refl _ _) | (with_reducible assumption) | (with_reducible refine Later.out _ ?_) | (with_reducible refine bel_alloc ?_ _) | (with_reducible refine bel_drew ?_) | (with_reducible refine bel_drewN ?_ _) | (with_reducible refine bel_set ?_ ?_ _) | (with_reducible refine After.out _ ?_ ?_) | (dsimp only; omega) | omega | (simp only [World.size_alloc, World.size_setCell, World.size_drew]; omega)))
end
end Go.Proofs.YtflcfdiochohgaaGreatDoor
