import Derived.Test.YtklcaphkfdlipaaGreatDoorDar
import Derived.Test.YtklcaphkfdlipaaGreatDoorBts
/- Majorities: the plain law, and impl.majority. -/
set_option linter.unusedSimpArgs false
set_option linter.unusedVariables false
namespace Go.Proofs.YtklcaphkfdlipaaGreatDoor
open Go.RowKit
/-- How many of the first views tell for a ring the owner that this one tells. -/
def cnT (V : List Vw) (v : Vw) (i : Nat) : Nat → Nat
  | 0 => 0
  | t + 1 => cnT V v i t + if othB v (atV V t) i then 0 else 1
def bigB (V : List Vw) (k i : Nat) : Bool := decide (V.length < 2 * cnT V (atV V k) i V.length)
/-- The owner that the last of the first views with a majority behind it tells. -/
def majT (V : List Vw) (i : Nat) : Nat → ByteArray
  | 0 => .empty
  | t + 1 => if bigB V t i then ownAt (atV V t) i else majT V i t
def majO (V : List Vw) (i : Nat) : ByteArray := majT V i V.length
theorem cnT_le (V : List Vw) (v : Vw) (i : Nat) : ∀ t, cnT V v i t ≤ t
  | 0 => Nat.le_refl _
  | t + 1 => by
    have := cnT_le V v i t
    unfold cnT
    split <;> omega
theorem cnT_two {V : List Vw} {v u : Vw} {i : Nat} : ∀ t, (∀ j, j < t → othB v (atV V j) i = true ∨ othB u (atV V j) i = true) → cnT V v i t + cnT V u i t ≤ t
  | 0, _ => Nat.le_refl _
  | t + 1, h => by
    have ih := cnT_two t fun j hj => h j (by omega)
    unfold cnT
    rcases h t (by omega) with h1 | h1
    · rw [if_pos h1]; split <;> omega
    · rw [if_pos h1]; split <;> omega
theorem othB_no {v u : Vw} {i : Nat} (h : othB v u i = false) : ownAt v i = ownAt u i := by
  unfold othB at h
  have h2 : ((ownAt v i).toList == (ownAt u i).toList) = true := by
    cases hq : ((ownAt v i).toList == (ownAt u i).toList)
    · rw [hq] at h; cases h
    · rfl
  rw [toList_eq] at h2
  exact of_decide_eq_true h2
theorem big_same {V : List Vw} {k l i : Nat} (h : bigB V k i = true) (h' : bigB V l i = true) : ownAt (atV V k) i = ownAt (atV V l) i := by
  unfold bigB at h h'
  rw [decide_eq_true_eq] at h h'
  by_cases hx : ∃ j, j < V.length ∧ othB (atV V k) (atV V j) i = false ∧ othB (atV V l) (atV V j) i = false
  · obtain ⟨j, _, h1, h2⟩ := hx
    exact (othB_no h1).trans (othB_no h2).symm
  · have := cnT_two (V := V) (v := atV V k) (u := atV V l) (i := i) V.length fun j hj => by
      cases h1 : othB (atV V k) (atV V j) i
      · right
        cases h2 : othB (atV V l) (atV V j) i
        · exact absurd ⟨j, hj, h1, h2⟩ hx
        · rfl
      · exact Or.inl rfl
    omega
theorem majT_big {V : List Vw} {k i : Nat} (h : bigB V k i = true) : ∀ t, k < t → majT V i t = ownAt (atV V k) i
  | 0, h0 => absurd h0 (by omega)
  | t + 1, h1 => by
    unfold majT
    cases hb : bigB V t i
    · have hk : k < t := by
        rcases Nat.lt_or_ge k t with h2 | h2
        · exact h2
        · obtain rfl : k = t := by omega
          rw [h] at hb; cases hb
      simpa using majT_big h t hk
    · simpa using big_same hb h
theorem majT_none {V : List Vw} {i : Nat} : ∀ t, (∀ j, j < t → bigB V j i = false) → majT V i t = .empty
  | 0, _ => rfl
  | t + 1, h => by
    unfold majT
    rw [h t (by omega)]
    simpa using majT_none t fun j hj => h j (by omega)
def majL (V : List Vw) (k : Nat) : List ByteArray := (List.range k).map (majO V)
theorem majL_succ (V : List Vw) (k : Nat) : majL V (k + 1) = majL V k ++ [majO V k] := by simp [majL, List.range_succ]
theorem majL_len (V : List Vw) (k : Nat) : (majL V k).length = k := by simp [majL]
theorem cnT_yes {V : List Vw} {v : Vw} {i t : Nat} (h : othB v (atV V t) i = true) : cnT V v i (t + 1) = cnT V v i t := by
  show cnT V v i t + (if _ then _ else _) = _
  rw [if_pos h]; rfl
theorem cnT_no {V : List Vw} {v : Vw} {i t : Nat} (h : othB v (atV V t) i = false) : cnT V v i (t + 1) = cnT V v i t + 1 := by
  show cnT V v i t + (if _ then _ else _) = _
  rw [if_neg (by rw [h]; decide)]
/-- What one round of the count meets. -/
structure MajAt (V : List Vw) (i n : Nat) (b1 o1 : Nat) (w : World) (k : Nat) (hh s : ByteArray) (bs os ck : Nat) (CN : Nat → Nat) (OB : Nat → Bool) : Prop where
  c0 : w.cell? ⟨b1, o1 + k * 2, none⟩ = some (.string hh)
  c1 : w.cell? ⟨b1, o1 + k * 2 + 1, none⟩ = some (.slice (some ⟨bs, os, none⟩) n ck)
  hb : bs < w.heap.size
  cs : w.cell? ⟨bs, os + i, none⟩ = some (.string s)
  zero : CN 0 = 0
  yes : ∀ t, OB t = true → CN (t + 1) = CN t
  no : ∀ t, OB t = false → CN (t + 1) = CN t + 1
  le : ∀ t, CN t ≤ t
  big : V.length < 2 * CN V.length → majO V i = s
  small : ¬ V.length < 2 * CN V.length → bigB V k i = false
  top : V.length < 2 * CN V.length → majT V i (k + 1) = s
  keep : ¬ V.length < 2 * CN V.length → majT V i (k + 1) = majT V i k
  str : ∀ j, j < V.length → ∃ (h2 : ByteArray) (b2 o2 c2 : Nat) (s2 : ByteArray), w.cell? ⟨b1, o1 + j * 2, none⟩ = some (.string h2) ∧ w.cell? ⟨b1, o1 + j * 2 + 1, none⟩ = some (.slice (some ⟨b2, o2, none⟩) n c2) ∧ b2 < w.heap.size ∧ w.cell? ⟨b2, o2 + i, none⟩ = some (.string s2) ∧ (s2.toList == s.toList) = !OB j
  call : ∀ j, j < V.length → ∃ (h2 : ByteArray) (a2 : Option Addr) (c2 : Nat), w.cell? ⟨b1, o1 + j * 2, none⟩ = some (.string h2) ∧ w.cell? ⟨b1, o1 + j * 2 + 1, none⟩ = some (.slice a2 n c2) ∧
    ∀ W, Below w.heap.size w W → Calls Tryz.prog 82 #[.agg #[.string hh, .slice (some ⟨bs, os, none⟩) n ck], .agg #[.string h2, .slice a2 n c2], .int .i64 i] W (Ret W (.bool (OB j)))
theorem maj_at {V : List Vw} {i n b1 o1 : Nat} {w : World} (ok : VwsOk V n) (hi : i < n) (hr : ViewsR w (some ⟨b1, o1, none⟩) V) {k : Nat} (hk : k < V.length) :
    ∃ hh s bs os ck CN OB, MajAt V i n b1 o1 w k hh s bs os ck CN OB := by
  have hl : ∀ j (h : j < V.length), V[j].own.length = n := fun j h => ok.own _ (List.getElem_mem h)
  obtain ⟨b9, o9, ak, ck, he, hb1, q0, q1, q2, -, -⟩ := hr.at_ hk
  cases he
  have hik : i < V[k].own.length := by rw [hl k hk]; exact hi
  obtain ⟨bs, os, rfl, hbs, ps⟩ := q2.str hik
  have eo : ownAt (atV V k) i = V[k].own[i]'hik := by rw [atV_get hk]; exact ownAt_get hik
  rw [hl k hk] at q1
  refine ⟨V[k].holder, V[k].own[i]'hik, bs, os, ck, cnT V (atV V k) i, fun j => othB (atV V k) (atV V j) i, q0, q1, hbs, ps, rfl, fun t h => cnT_yes h, fun t h => cnT_no h, cnT_le V _ i, fun h => ?_, fun h => ?_, fun h => ?_, fun h => ?_, fun j hj => ?_, fun j hj => ?_⟩
  · rw [← eo]
    have hb : bigB V k i = true := by unfold bigB; rw [decide_eq_true_eq]; exact h
    unfold majO
    exact majT_big hb V.length hk
  · unfold bigB; rw [decide_eq_false_iff_not]; exact h
  · rw [← eo]
    have hb : bigB V k i = true := by unfold bigB; rw [decide_eq_true_eq]; exact h
    show (if bigB V k i then _ else _) = _
    rw [if_pos hb]
  · have hb : bigB V k i = false := by unfold bigB; rw [decide_eq_false_iff_not]; exact h
    show (if bigB V k i then _ else _) = _
    rw [hb]; rfl
  · obtain ⟨b8, o8, a2, c2, he, hb2, r0, r1, r2, -, -⟩ := hr.at_ hj
    cases he
    have hij : i < V[j].own.length := by rw [hl j hj]; exact hi
    obtain ⟨b2, o2, rfl, hb3, p2⟩ := r2.str hij
    rw [hl j hj] at r1
    refine ⟨V[j].holder, b2, o2, c2, V[j].own[i]'hij, r0, r1, hb3, p2, ?_⟩
    show _ = !(!((ownAt (atV V k) i).toList == (ownAt (atV V j) i).toList))
    rw [Bool.not_not, eo, atV_get hj, ownAt_get hij]
    rcases sameB (V[j].own[i]'hij) (V[k].own[i]'hik) with ⟨e, e1⟩ | ⟨e, e1⟩
    · rw [e1, e]; exact (beq_self_eq_true _).symm
    · rw [e1]
      rcases sameB (V[k].own[i]'hik) (V[j].own[i]'hij) with ⟨e3, e2⟩ | ⟨e3, e2⟩
      · exact absurd e3.symm e
      · exact e2.symm
  · obtain ⟨b8, o8, a2, c2, he, hb2, r0, r1, r2, -, -⟩ := hr.at_ hj
    cases he
    rw [hl j hj] at r1
    refine ⟨V[j].holder, a2, c2, r0, r1, fun W hW => ?_⟩
    have := tellsOther_any V[k] V[j] i (some ⟨bs, os, none⟩) a2 ck c2 W hik (by rw [hl j hj]; exact hi) (q2.bel hW) (r2.bel hW)
    rw [hl k hk, hl j hj] at this
    simp only [atV_get hk, atV_get hj]
    exact this
set_option maxRecDepth 8000 in
set_option maxHeartbeats 4000000 in
theorem majority_any (V : List Vw) (i : Nat) (b : Option Addr) (m d n : Nat) (w : World) (ok : VwsOk V n) (hi : i < n) (hn : n ≤ 1000) (hn' : V.length = m) (hr' : ViewsR w b V) :
    Calls Tryz.prog 87 #[.slice b m d, .int .i64 i] w (Ret w (.string (majO V i))) := by
  subst hn'
  have h4 := ok.four
  have h1 := ok.one
  obtain ⟨b1, o1, -, -, rfl, hb1, -⟩ := hr'.at_ (i := 0) h1
  have MA := Lib.hid (fun (k : Nat) (hk : k < V.length) => maj_at ok hi hr' hk)
  have XE := Lib.hid (fun (h : ∀ j, j < V.length → bigB V j i = false) => (show majO V i = .empty from majT_none V.length h))
  have hin : (i : Int) < (n : Int) := by omega
  clear ok hr'
  go_enter Tryz.func87, Tryz.ntmps87
  go_wp2_with fail
  go_loopw [12] (fun t12 wr => ∃ k : Nat, k ≤ V.length ∧ t12 = .int .i64 k ∧ (∀ (j : Nat), j < k → bigB V j i = false) ∧ ∃ z : Later w, wr = z.w) (fun t12 _ => V.length - (intOf t12).toNat)
  case atStart => exact ⟨0, Nat.zero_le _, rfl, fun j h => absurd h (by omega), ⟨_, Below.refl _ _⟩, rfl⟩
  case round =>
    obtain ⟨k, hk, rfl, hno, z, rfl⟩ := hrel
    have hzz := z.bel.size
    replace hno := Lib.hid hno
    by_cases hlt : k < V.length
    · have hk1 : (k : Int) < (V.length : Int) := by omega
      obtain ⟨hh, s, bs, os, ck, CN, OB, F⟩ := MA.out k hlt
      obtain ⟨q0, q1, hbs, ps, f0, fy, fn, fl, fb, fs, -, -, -, fc⟩ := F
      have z1 : b1 < z.w.heap.size := by omega
      replace fy := Lib.hid fy
      replace fn := Lib.hid fn
      replace fl := Lib.hid fl
      replace fb := Lib.hid fb
      replace fs := Lib.hid fs
      replace fc := Lib.hid fc
      replace f0 := Lib.hid f0
      clear MA
      have hs1 : (z.w.alloc (.cells #[.string hh, .slice (some ⟨bs, os, none⟩) n ck] 64)).cell? ⟨z.w.heap.size, 0, none⟩ = some (.string hh) := by simp [go_sem, ↓IntWalk.iteOmega]
      have hs2 : (z.w.alloc (.cells #[.string hh, .slice (some ⟨bs, os, none⟩) n ck] 64)).cell? ⟨z.w.heap.size, 1, none⟩ = some (.slice (some ⟨bs, os, none⟩) n ck) := by simp [go_sem, ↓IntWalk.iteOmega]
      replace hs1 := Lib.hid hs1
      replace hs2 := Lib.hid hs2
      go_wp2_with fail
      go_loopw [7, 18] (fun t7 t18 wr => ∃ j : Nat, j ≤ V.length ∧ t18 = .int .i64 j ∧ t7 = .int .i64 (CN j) ∧ ∃ z2 : Later (z.w.alloc (.cells #[.string hh, .slice (some ⟨bs, os, none⟩) n ck] 64)), wr = z2.w) (fun _ t18 _ => V.length - (intOf t18).toNat)
      case atStart => exact ⟨0, Nat.zero_le _, rfl, by rw [f0.out]; rfl, ⟨_, Below.refl _ _⟩, rfl⟩
      case round =>
        obtain ⟨j, hj, rfl, rfl, z2, rfl⟩ := hrel
        have hz2 := z2.bel.size
        simp only [World.size_alloc] at hz2
        have x1 := (z2.bel.cell (p := ⟨z.w.heap.size, 0, none⟩) (by simp only [World.size_alloc]; omega)).trans hs1.out
        have x2 := (z2.bel.cell (p := ⟨z.w.heap.size, 1, none⟩) (by simp only [World.size_alloc]; omega)).trans hs2.out
        have hlj := fl.out j
        by_cases hjl : j < V.length
        · have hj1 : (j : Int) < (V.length : Int) := by omega
          obtain ⟨h2, a2, c2, r0, r1, CK⟩ := fc.out j hjl
          replace CK := Lib.hid CK
          have Y := Lib.hid (fy.out j)
          have N := Lib.hid (fn.out j)
          have y0 : b1 < z2.w.heap.size := by omega
          go_wp2_with fail
          with_reducible refine (CK.out _ (by (repeat (first | (with_reducible first | exact Below.refl _ _ | assumption | refine Later.out _ ?_ | refine bel_alloc ?_ _ | refine bel_drew ?_ | refine bel_drewN ?_ _ | refine bel_set ?_ ?_ _ | refine After.out _ ?_ ?_) | (dsimp only; omega) | omega | (simp only [World.size_alloc, World.size_setCell, World.size_drew]; omega))))).mono ?_
          rintro e w' ⟨rfl, y3, rfl⟩
          cases ho : OB j
          · have X := Lib.hid (N.out ho)
            clear Y N
            go_wp2_with fail
            go_roundw
            case rel => exact ⟨j + 1, by omega, by go_num, by rw [X.out]; go_num, LaterC.mk (by (repeat (first | (with_reducible first | exact Below.refl _ _ | assumption | refine Later.out _ ?_ | refine bel_alloc ?_ _ | refine bel_drew ?_ | refine bel_drewN ?_ _ | refine bel_set ?_ ?_ _ | refine After.out _ ?_ ?_) | (dsimp only; omega) | omega | (simp only [World.size_alloc, World.size_setCell, World.size_drew]; omega))))⟩
            case measure => first | (simp [intOf]; done) | (simp [intOf]; omega) | omega
          · have X := Lib.hid (Y.out ho)
            clear Y N
            go_wp2_with fail
            go_roundw
            case rel => exact ⟨j + 1, by omega, by go_num, by rw [X.out], LaterC.mk (by (repeat (first | (with_reducible first | exact Below.refl _ _ | assumption | refine Later.out _ ?_ | refine bel_alloc ?_ _ | refine bel_drew ?_ | refine bel_drewN ?_ _ | refine bel_set ?_ ?_ _ | refine After.out _ ?_ ?_) | (dsimp only; omega) | omega | (simp only [World.size_alloc, World.size_setCell, World.size_drew]; omega))))⟩
            case measure => first | (simp [intOf]; done) | (simp [intOf]; omega) | omega
        · obtain rfl : j = V.length := by omega
          by_cases hbg : V.length < 2 * CN V.length
          · have X := Lib.hid (fb.out hbg)
            have hb1 : ((V.length : Nat) : Int) < 2 * ((CN V.length : Nat) : Int) := by omega
            go_wp2_with fail
            go_ret
            exact .mk (by rw [X.out]; rfl) (by (repeat (first | (with_reducible first | exact Below.refl _ _ | assumption | refine Later.out _ ?_ | refine bel_alloc ?_ _ | refine bel_drew ?_ | refine bel_drewN ?_ _ | refine bel_set ?_ ?_ _ | refine After.out _ ?_ ?_) | (dsimp only; omega) | omega | (simp only [World.size_alloc, World.size_setCell, World.size_drew]; omega))))
          · have X := Lib.hid (fs.out hbg)
            have hb1 : ¬ ((V.length : Nat) : Int) < 2 * ((CN V.length : Nat) : Int) := by omega
            have hno2 := Lib.hid (show ∀ (j : Nat), j < k + 1 → bigB V j i = false from fun j hj => by
              rcases Nat.lt_or_eq_of_le (Nat.le_of_lt_succ hj) with h1 | h1
              · exact hno.out j h1
              · exact h1 ▸ X.out)
            go_wp2_with fail
            go_roundw
            case rel => exact ⟨k + 1, by omega, by go_num, hno2.out, LaterC.mk (by (repeat (first | (with_reducible first | exact Below.refl _ _ | assumption | refine Later.out _ ?_ | refine bel_alloc ?_ _ | refine bel_drew ?_ | refine bel_drewN ?_ _ | refine bel_set ?_ ?_ _ | refine After.out _ ?_ ?_) | (dsimp only; omega) | omega | (simp only [World.size_alloc, World.size_setCell, World.size_drew]; omega))))⟩
            case measure => first | (simp [intOf]; done) | (simp [intOf]; omega) | omega
    · obtain rfl : k = V.length := by omega
      have X := Lib.hid (XE.out fun j hj => hno.out j hj)
      go_wp2_with fail
      go_ret
      exact .mk (by rw [X.out]; rfl) (by (repeat (first | (with_reducible first | exact Below.refl _ _ | assumption | refine Later.out _ ?_ | refine bel_alloc ?_ _ | refine bel_drew ?_ | refine bel_drewN ?_ _ | refine bel_set ?_ ?_ _ | refine After.out _ ?_ ?_) | (dsimp only; omega) | omega | (simp only [World.size_alloc, World.size_setCell, World.size_drew]; omega))))
end Go.Proofs.YtklcaphkfdlipaaGreatDoor
