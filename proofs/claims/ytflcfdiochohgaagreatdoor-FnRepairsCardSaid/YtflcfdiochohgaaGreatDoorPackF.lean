import Derived.Test.YtflcfdiochohgaaGreatDoorPackEa
import Derived.Test.YtflcfdiochohgaaGreatDoorPackC
import Derived.Test.YtflcfdiochohgaaGreatDoorPackE
/- Several of my texts, one behind the other: RowF, ResL, ResA, ResI. -/
/- The search in a table by a function value; what the table is used for: lengths, counts, what is never removed. -/
set_option linter.unusedSimpArgs false
set_option linter.unusedVariables false
namespace Go.Proofs.YtflcfdiochohgaaGreatDoor
open Go.RowKit
def idxR (p : List Int → Bool) (L : List (List Int)) : Int := match L.findIdx? p with
  | some i => i
  | none => -1
theorem idxR_none {p : List Int → Bool} {L : List (List Int)} (h : ∀ j, j < L.length → p (atL L j) = false) : idxR p L = -1 := by
  have : L.findIdx? p = none := by
    rw [List.findIdx?_eq_none_iff]
    intro x hx
    obtain ⟨j, hj, rfl⟩ := List.mem_iff_getElem.1 hx
    have := h j hj
    unfold atL at this
    rwa [getD_at hj] at this
  simp [idxR, this]
theorem idxR_some {p : List Int → Bool} {L : List (List Int)} {k : Nat} (hk : k < L.length) (h1 : p (atL L k) = true) (h : ∀ j, j < L.length → j < k → p (atL L j) = false) : idxR p L = k := by
  have : L.findIdx? p = some k := by
    rw [List.findIdx?_eq_some_iff_getElem]
    unfold atL at h1 h
    rw [getD_at hk] at h1
    exact ⟨hk, h1, fun j hj => by have := h j (by omega) hj; rw [getD_at (by omega)] at this; rw [this]; simp⟩
  simp [idxR, this]
theorem idxR_nonneg (p : List Int → Bool) (L : List (List Int)) : decide (0 ≤ idxR p L) = L.any p := by
  unfold idxR
  cases h : L.findIdx? p with
  | none =>
    rw [List.findIdx?_eq_none_iff] at h
    have : L.any p = false := by rw [Bool.eq_false_iff]; intro hh; obtain ⟨x, hx, hp⟩ := List.any_eq_true.1 hh; rw [h x hx] at hp; cases hp
    simp [this]
  | some i =>
    rw [List.findIdx?_eq_some_iff_getElem] at h
    obtain ⟨hi, hp, _⟩ := h
    have : L.any p = true := List.any_eq_true.2 ⟨L[i], List.getElem_mem hi, hp⟩
    simp [this]
/-- What a function value must do for a table's lists. -/
def TellsR (g : Nat) (lb : Array Value) (p : List Int → Bool) (S : List (List Int)) (w : World) : Prop :=
  ∀ x ∈ S, ∀ (ax : Option Addr) (cx : Nat) (w' : World), Below w.heap.size w w' → Row w' ax (intCells x) → Calls Tryz.prog g (#[.slice ax x.length cx] ++ lb) w' (Ret w' (.bool (p x)))
set_option maxHeartbeats 1000000 in
theorem indexFuncR_any (g : Nat) (lb : Array Value) (p : List Int → Bool) (S : List (List Int)) (vs : List Value) (a : Option Addr) (n c : Nat) (w : World) (eg : ∀ args w, (callFunc g args).run Tryz.prog w = .ok (.enter g args) w)
    (hn : S.length = n) (hm : n ≤ 1048576) (hr : RowsV w a S vs) (hp : TellsR g lb p S w) :
    Calls Tryz.prog 213 #[.slice a n c, .func (.func g) #[] lb] w (Ret w (.int .i64 (idxR p S))) := by
  subst hn
  replace hr := Lib.hid hr
  replace hp := Lib.hid hp
  go_enter Tryz.func213, Tryz.ntmps213
  go_wp2_with fail
  go_loopw [8] (fun i wr => ∃ k : Nat, k ≤ S.length ∧ i = .int .i64 k ∧ (∀ j, j < S.length → j < k → p (atL S j) = false) ∧ ∃ z : Later w, wr = z.w) (fun i _ => S.length - (intOf i).toNat)
  case atStart => exact ⟨0, Nat.zero_le _, rfl, fun j _ h => absurd h (by omega), ⟨_, Below.refl _ _⟩, rfl⟩
  case round =>
    obtain ⟨k, hk, rfl, hall, z, rfl⟩ := hrel
    replace hall := Lib.hid hall
    by_cases hlt : k < S.length
    · have hi1 : (k : Int) < (S.length : Int) := by omega
      obtain ⟨b, o, ai, ci, rfl, hb, hcell, ev, rv⟩ := hr.out.get hlt
      have hc := hp.out _ (atL_mem hlt) ai ci z.w z.bel (rv.bel z.bel)
      clear ev rv
      cases hv : p (atL S k)
      · rw [hv] at hc
        replace hc := Lib.hid hc
        have X := Lib.hid (show ∀ j, j < S.length → j < k + 1 → p (atL S j) = false from fun j hj h => by
          rcases Nat.lt_or_ge j k with h1 | h1
          · exact hall.out j hj h1
          · obtain rfl : j = k := by omega
            exact hv)
        clear hv
        go_wp2_with (go_at_fn g; (with_reducible refine hc.out.mono ?_); rintro e w' ⟨rfl, y1, rfl⟩)
        go_roundw
        case rel => exact ⟨k + 1, by omega, by go_num, X.out, ⟨_, by (repeat (first | (with_reducible exact Below.refl _ _) | (with_reducible assumption) | (with_reducible refine Later.out _ ?_) | (with_reducible refine bel_alloc ?_ _) | (with_reducible refine bel_drew ?_) | (with_reducible refine bel_drewN ?_ _) | (with_reducible refine bel_set ?_ ?_ _) | (with_reducible refine After.out _ ?_ ?_) | (dsimp only; omega) | omega | (simp only [World.size_alloc, World.size_setCell, World.size_drew]; omega)))⟩, rfl⟩
        case measure => first | (simp [intOf]; done) | (simp [intOf]; omega) | omega
      · rw [hv] at hc
        replace hc := Lib.hid hc
        have X := Lib.hid (idxR_some hlt hv fun j hj h => hall.out j hj h)
        clear hv
        go_wp2_with (go_at_fn g; (with_reducible refine hc.out.mono ?_); rintro e w' ⟨rfl, y1, rfl⟩)
        go_ret
        exact .mk (by rw [X.out]; rfl) (by (repeat (first | (with_reducible exact Below.refl _ _) | (with_reducible assumption) | (with_reducible refine Later.out _ ?_) | (with_reducible refine bel_alloc ?_ _) | (with_reducible refine bel_drew ?_) | (with_reducible refine bel_drewN ?_ _) | (with_reducible refine bel_set ?_ ?_ _) | (with_reducible refine After.out _ ?_ ?_) | (dsimp only; omega) | omega | (simp only [World.size_alloc, World.size_setCell, World.size_drew]; omega))))
    · obtain rfl : k = S.length := by omega
      have X := Lib.hid (idxR_none fun j hj => hall.out j hj hj)
      go_wp2_with fail
      go_ret
      exact .mk (by rw [X.out]; rfl) (by (repeat (first | (with_reducible exact Below.refl _ _) | (with_reducible assumption) | (with_reducible refine Later.out _ ?_) | (with_reducible refine bel_alloc ?_ _) | (with_reducible refine bel_drew ?_) | (with_reducible refine bel_drewN ?_ _) | (with_reducible refine bel_set ?_ ?_ _) | (with_reducible refine After.out _ ?_ ?_) | (dsimp only; omega) | omega | (simp only [World.size_alloc, World.size_setCell, World.size_drew]; omega))))
theorem containsFuncR_any (g : Nat) (lb : Array Value) (p : List Int → Bool) (S : List (List Int)) (vs : List Value) (a : Option Addr) (n c : Nat) (w : World) (eg : ∀ args w, (callFunc g args).run Tryz.prog w = .ok (.enter g args) w)
    (hn : S.length = n) (hm : n ≤ 1048576) (hr : RowsV w a S vs) (hp : TellsR g lb p S w) :
    Calls Tryz.prog 174 #[.slice a n c, .func (.func g) #[] lb] w (Ret w (.bool (S.any p))) := by
  have X := Lib.hid (idxR_nonneg p S)
  replace hr := Lib.hid hr
  replace hp := Lib.hid hp
  replace hn := Lib.hid hn
  have EG := Lib.hid eg
  clear eg
  go_enter Tryz.func174, Tryz.ntmps174
  go_wp2_with fail
  with_reducible refine (indexFuncR_any g lb p S vs _ _ _ _ EG.out hn.out hm hr.out hp.out).mono ?_
  rintro e w' ⟨rfl, y1, rfl⟩
  have hsy1 := y1.bel.size
  (try simp only [World.size_alloc, World.size_setCell, World.size_drew] at hsy1)
  go_wp2_with fail
  go_ret
  exact .mk (by rw [← X.out]; rfl) (by (repeat (first | (with_reducible exact Below.refl _ _) | (with_reducible assumption) | (with_reducible refine Later.out _ ?_) | (with_reducible refine bel_alloc ?_ _) | (with_reducible refine bel_drew ?_) | (with_reducible refine bel_drewN ?_ _) | (with_reducible refine bel_set ?_ ?_ _) | (with_reducible refine After.out _ ?_ ?_) | (dsimp only; omega) | omega | (simp only [World.size_alloc, World.size_setCell, World.size_drew]; omega))))
theorem enters_always1 : ∀ args w, (callFunc 175 args).run Tryz.prog w = .ok (.enter 175 args) w := fun _ _ => by kernel_rfl
set_option maxHeartbeats 1000000 in
theorem always1_any (x : List Int) (i g5 : Nat) (ax : Option Addr) (cx : Nat) (w : World) (hx : x.length ≤ 1048576) (h5 : w.cell? ⟨g5, 0, none⟩ = some (.int .i64 i)) (rx : Row w ax (intCells x)) :
    Calls Tryz.prog 175 #[.slice ax x.length cx, .pointer (some ⟨g5, 0, none⟩)] w (Ret w (.bool (x.contains (i : Int)))) := by
  obtain ⟨v, hv⟩ : ∃ v, x.contains (i : Int) = v := ⟨_, rfl⟩
  have C := Lib.hid (fun (w : World) rx => containsInt_b (x := (i : Int)) (S := x) (a := ax) (n := x.length) (c := cx) (w := w) rfl hx rx hv)
  rw [hv]
  clear hv
  replace rx := Lib.hid rx
  go_enter Tryz.func175, Tryz.ntmps175
  go_wp2_with fail
  with_reducible refine (C.out _ (rx.out.bel (by (repeat (first | (with_reducible exact Below.refl _ _) | (with_reducible assumption) | (with_reducible refine Later.out _ ?_) | (with_reducible refine bel_alloc ?_ _) | (with_reducible refine bel_drew ?_) | (with_reducible refine bel_drewN ?_ _) | (with_reducible refine bel_set ?_ ?_ _) | (with_reducible refine After.out _ ?_ ?_) | (dsimp only; omega) | omega | (simp only [World.size_alloc, World.size_setCell, World.size_drew]; omega)))))).mono ?_
  rintro e w' ⟨rfl, y1, rfl⟩
  have hsy1 := y1.bel.size
  (try simp only [World.size_alloc, World.size_setCell, World.size_drew] at hsy1)
  go_wp2_with fail
  go_ret
  exact .mk rfl (by (repeat (first | (with_reducible exact Below.refl _ _) | (with_reducible assumption) | (with_reducible refine Later.out _ ?_) | (with_reducible refine bel_alloc ?_ _) | (with_reducible refine bel_drew ?_) | (with_reducible refine bel_drewN ?_ _) | (with_reducible refine bel_set ?_ ?_ _) | (with_reducible refine After.out _ ?_ ?_) | (dsimp only; omega) | omega | (simp only [World.size_alloc, World.size_setCell, World.size_drew]; omega))))
theorem tells_always1 {S : List (List Int)} {i g5 : Nat} {w : World} (hl : ∀ l ∈ S, l.length ≤ 1048576) (h5 : w.cell? ⟨g5, 0, none⟩ = some (.int .i64 i)) : TellsR 175 #[.pointer (some ⟨g5, 0, none⟩)] (fun x => x.contains (i : Int)) S w :=
  fun x hx ax cx w' hb rx => always1_any x i g5 ax cx w' (hl x hx) ((hb.cell (World.block_lt_of_cell? w _ h5)).trans h5) rx
/-- What no list of a table has. -/
def alwTo (R : List (List Int)) : Nat → List Int
  | 0 => []
  | k + 1 => if R.any (fun x => x.contains (k : Int)) then alwTo R k else alwTo R k ++ [(k : Int)]
theorem alwTo_yes {R : List (List Int)} {k : Nat} (h : R.any (fun x => x.contains (k : Int)) = true) : alwTo R (k + 1) = alwTo R k := by rw [alwTo, h]; rfl
theorem alwTo_no {R : List (List Int)} {k : Nat} (h : R.any (fun x => x.contains (k : Int)) = false) : alwTo R (k + 1) = alwTo R k ++ [(k : Int)] := by rw [alwTo, h]; rfl
theorem alwTo_le (R : List (List Int)) : ∀ k, (alwTo R k).length ≤ k
  | 0 => Nat.le_refl _
  | k + 1 => by
    have := alwTo_le R k
    rw [alwTo]
    split
    · omega
    · simp; omega
/-- The least length of a table's lists, and of a number. -/
def leastTo (R : List (List Int)) (n : Nat) : Nat → Nat
  | 0 => n
  | k + 1 => min (leastTo R n k) (atL R k).length
theorem lengthI_any (a : Option Addr) (n c : Nat) (w : World) : Calls Tryz.prog 120 #[.slice a n c] w (Ret w (.int .i64 n)) := by
  go_enter Tryz.func120, Tryz.ntmps120
  go_wp2_with fail
  go_ret
  exact .mk rfl (by (repeat (first | (with_reducible exact Below.refl _ _) | (with_reducible assumption) | (with_reducible refine Later.out _ ?_) | (with_reducible refine bel_alloc ?_ _) | (with_reducible refine bel_drew ?_) | (with_reducible refine bel_drewN ?_ _) | (with_reducible refine bel_set ?_ ?_ _) | (with_reducible refine After.out _ ?_ ?_) | (dsimp only; omega) | omega | (simp only [World.size_alloc, World.size_setCell, World.size_drew]; omega))))
end Go.Proofs.YtflcfdiochohgaaGreatDoor

/- LeastRemoved and AlwaysKept: both sides. -/
set_option linter.unusedSimpArgs false
set_option linter.unusedVariables false
namespace Go.Proofs.YtflcfdiochohgaaGreatDoor
open Go.RowKit
noncomputable def lstR (L : List Clm) : Int := if claimsB L then ((leastTo (minZ (repG L) L.length []) L.length (minZ (repG L) L.length []).length : Nat) : Int) else 0
noncomputable def lstK (L : List Clm) : Int := if claimsB L then 0 else 1
theorem leastTo_le (R : List (List Int)) (n : Nat) : ∀ k, leastTo R n k ≤ n
  | 0 => Nat.le_refl _
  | k + 1 => Nat.le_trans (Nat.min_le_left _ _) (leastTo_le R n k)
theorem leastTo_lt {R : List (List Int)} {n k : Nat} (h : (atL R k).length < leastTo R n k) : leastTo R n (k + 1) = (atL R k).length := Nat.min_eq_right (by omega)
theorem leastTo_ge {R : List (List Int)} {n k : Nat} (h : ¬ (atL R k).length < leastTo R n k) : leastTo R n (k + 1) = leastTo R n k := Nat.min_eq_left (by omega)
section
variable (L : List Clm) (a : Option Addr) (n c : Nat) (w : World) (hn : L.length = n) (hm : n ≤ 1048576) (hr : Row w a (clmsCells L)) (ok : ∀ c ∈ L, ClmOk c)
include hn hm hr ok
set_option maxRecDepth 8000 in
set_option maxHeartbeats 4000000 in
theorem lst_impl (hx : Max w) : Calls Tryz.prog 42 #[.slice a n c] w (Ret w (.tuple #[.int .i64 (lstR L), .int .i64 (lstK L)])) := by
  cases h1 : claimsB L
  · rw [show lstR L = 0 by simp [lstR, h1], show lstK L = 1 by simp [lstK, h1]]
    have C1 := Lib.hid (areClaims_b (c := c) hn hm hr ok hx h1)
    clear ok h1 hn hr hx
    go_enter Tryz.func42, Tryz.ntmps42
    go_wp2_with fail
    with_reducible refine (C1.out).mono ?_
    rintro e w' ⟨rfl, y1, rfl⟩
    have hsy1 := y1.bel.size
    (try simp only [World.size_alloc, World.size_setCell, World.size_drew] at hsy1)
    go_wp2_with fail
    refine bodyPost_ret (by simp [results, Tryz.results42, go_sem, ↓IntWalk.iteOmega, *]; try rfl) rfl ?_
    exact .mk rfl (by (repeat (first | (with_reducible exact Below.refl _ _) | (with_reducible assumption) | (with_reducible refine Later.out _ ?_) | (with_reducible refine bel_alloc ?_ _) | (with_reducible refine bel_drew ?_) | (with_reducible refine bel_drewN ?_ _) | (with_reducible refine bel_set ?_ ?_ _) | (with_reducible refine After.out _ ?_ ?_) | (dsimp only; omega) | omega | (simp only [World.size_alloc, World.size_setCell, World.size_drew]; omega))))
  have h12 := len_of_claims h1
  have C1 := Lib.hid (areClaims_b (c := c) hn hm hr ok hx h1)
  subst hn
  have CT := Lib.hid (fun (w : World) hr => minimalRepairs_any L a L.length c w rfl h12 hr)
  have hRx : ∀ T ∈ minZ (repG L) L.length [], Ixs L.length T := fun T hT => ((mem_minZ (repG_mono L) (ixs_nil _) T).1 hT).1
  have hRl := minZ_small (repG L) h12 []
  obtain ⟨R, hR⟩ : ∃ R, minZ (repG L) L.length [] = R := ⟨_, rfl⟩
  rw [show lstR L = ((leastTo R L.length R.length : Nat) : Int) by simp [lstR, h1, hR], show lstK L = 0 by simp [lstK, h1]]
  rw [hR] at hRx hRl
  simp only [hR] at CT
  clear hR
  have hln := Lib.hid (leastTo_le R L.length)
  replace CT := Lib.hid CT.out
  replace hr := Lib.hid hr
  replace hRx := Lib.hid hRx
  clear ok h1 hx
  go_enter Tryz.func42, Tryz.ntmps42
  go_wp2_with fail
  with_reducible refine (C1.out).mono ?_
  rintro e w' ⟨rfl, y1, rfl⟩
  have hsy1 := y1.bel.size
  (try simp only [World.size_alloc, World.size_setCell, World.size_drew] at hsy1)
  go_wp2_with fail
  with_reducible refine (lengthClaim_any _ _ _ _).mono ?_
  rintro e w' ⟨rfl, y9, rfl⟩
  have hsy9 := y9.bel.size
  (try simp only [World.size_alloc, World.size_setCell, World.size_drew] at hsy9)
  go_wp2_with fail
  with_reducible refine (CT.out _ (hr.out.bel (by (repeat (first | (with_reducible exact Below.refl _ _) | (with_reducible assumption) | (with_reducible refine Later.out _ ?_) | (with_reducible refine bel_alloc ?_ _) | (with_reducible refine bel_drew ?_) | (with_reducible refine bel_drewN ?_ _) | (with_reducible refine bel_set ?_ ?_ _) | (with_reducible refine After.out _ ?_ ?_) | (dsimp only; omega) | omega | (simp only [World.size_alloc, World.size_setCell, World.size_drew]; omega)))))).mono ?_
  rintro e w' ⟨a2, c2, vs2, rfl, hnest, y2, rfl⟩
  have hsy2 := y2.bel.size
  (try simp only [World.size_alloc, World.size_setCell, World.size_drew] at hsy2)
  have H2 := Lib.hid hnest
  clear hnest
  have HV := Lib.hid H2.out.rowsV
  clear H2
  go_wp2_with fail
  go_loopw [4, 15] (fun t i wr => ∃ k : Nat, k ≤ R.length ∧ i = .int .i64 k ∧ t = .int .i64 ((leastTo R L.length k : Nat) : Int) ∧ ∃ z : Later y2.w, wr = z.w) (fun _ i _ => R.length - (intOf i).toNat)
  case atStart => exact ⟨0, Nat.zero_le _, rfl, rfl, LaterC.mk (by (repeat (first | (with_reducible exact Below.refl _ _) | (with_reducible assumption) | (with_reducible refine Later.out _ ?_) | (with_reducible refine bel_alloc ?_ _) | (with_reducible refine bel_drew ?_) | (with_reducible refine bel_drewN ?_ _) | (with_reducible refine bel_set ?_ ?_ _) | (with_reducible refine After.out _ ?_ ?_) | (dsimp only; omega) | omega | (simp only [World.size_alloc, World.size_setCell, World.size_drew]; omega))))⟩
  case round =>
    obtain ⟨k, hk, rfl, rfl, z, rfl⟩ := hrel
    have hzz := z.bel.size
    have hlk := hln.out k
    by_cases hlt : k < R.length
    · have hi1 : (k : Int) < (R.length : Int) := by omega
      obtain ⟨b, o, ai, ci, rfl, hb, hcell, e2, r2⟩ := HV.out.get hlt
      clear e2 r2
      by_cases hm2 : (atL R k).length < leastTo R L.length k
      · have X := Lib.hid (leastTo_lt hm2)
        obtain ⟨q, hq⟩ : ∃ q, (atL R k).length = q := ⟨_, rfl⟩
        obtain ⟨m, hm3⟩ : ∃ m, leastTo R L.length k = m := ⟨_, rfl⟩
        rw [hq, hm3] at hm2
        rw [hq] at hcell X
        rw [hm3] at hlk ⊢
        clear hq hm3
        have hm4 : (q : Int) < (m : Int) := by omega
        go_wp2_with fail
        with_reducible refine (lengthI_any _ _ _ _).mono ?_
        rintro e w' ⟨rfl, y3, rfl⟩
        have hsy3 := y3.bel.size
        (try simp only [World.size_alloc, World.size_setCell, World.size_drew] at hsy3)
        go_wp2_with fail
        go_roundw
        case rel => exact ⟨k + 1, by omega, by go_num, by rw [X.out]; first | rfl | (simp [hm4]; done) | (simp; omega), LaterC.mk (by (repeat (first | (with_reducible exact Below.refl _ _) | (with_reducible assumption) | (with_reducible refine Later.out _ ?_) | (with_reducible refine bel_alloc ?_ _) | (with_reducible refine bel_drew ?_) | (with_reducible refine bel_drewN ?_ _) | (with_reducible refine bel_set ?_ ?_ _) | (with_reducible refine After.out _ ?_ ?_) | (dsimp only; omega) | omega | (simp only [World.size_alloc, World.size_setCell, World.size_drew]; omega))))⟩
        case measure => first | (simp [intOf]; done) | (simp [intOf]; omega) | omega
      · have X := Lib.hid (leastTo_ge hm2)
        obtain ⟨q, hq⟩ : ∃ q, (atL R k).length = q := ⟨_, rfl⟩
        obtain ⟨m, hm3⟩ : ∃ m, leastTo R L.length k = m := ⟨_, rfl⟩
        rw [hq, hm3] at hm2
        rw [hq] at hcell
        rw [hm3] at hlk X ⊢
        clear hq hm3
        have hm4 : ¬ (q : Int) < (m : Int) := by omega
        go_wp2_with fail
        with_reducible refine (lengthI_any _ _ _ _).mono ?_
        rintro e w' ⟨rfl, y3, rfl⟩
        have hsy3 := y3.bel.size
        (try simp only [World.size_alloc, World.size_setCell, World.size_drew] at hsy3)
        go_wp2_with fail
        go_roundw
        case rel => exact ⟨k + 1, by omega, by go_num, by rw [X.out]; first | rfl | (simp [hm4]; done) | (simp; omega), LaterC.mk (by (repeat (first | (with_reducible exact Below.refl _ _) | (with_reducible assumption) | (with_reducible refine Later.out _ ?_) | (with_reducible refine bel_alloc ?_ _) | (with_reducible refine bel_drew ?_) | (with_reducible refine bel_drewN ?_ _) | (with_reducible refine bel_set ?_ ?_ _) | (with_reducible refine After.out _ ?_ ?_) | (dsimp only; omega) | omega | (simp only [World.size_alloc, World.size_setCell, World.size_drew]; omega))))⟩
        case measure => first | (simp [intOf]; done) | (simp [intOf]; omega) | omega
    · obtain rfl : k = R.length := by omega
      go_wp2_with fail
      refine bodyPost_ret (by simp [results, Tryz.results42, go_sem, ↓IntWalk.iteOmega, *]; try rfl) rfl ?_
      exact .mk rfl (by (repeat (first | (with_reducible exact Below.refl _ _) | (with_reducible assumption) | (with_reducible refine Later.out _ ?_) | (with_reducible refine bel_alloc ?_ _) | (with_reducible refine bel_drew ?_) | (with_reducible refine bel_drewN ?_ _) | (with_reducible refine bel_set ?_ ?_ _) | (with_reducible refine After.out _ ?_ ?_) | (dsimp only; omega) | omega | (simp only [World.size_alloc, World.size_setCell, World.size_drew]; omega))))
set_option maxRecDepth 8000 in
set_option maxHeartbeats 4000000 in
theorem lst_spec : Calls Tryz.prog 43 #[.slice a n c] w (Ret w (.tuple #[.int .i64 (lstR L), .int .i64 (lstK L)])) := by
  cases h1 : claimsB L
  · rw [show lstR L = 0 by simp [lstR, h1], show lstK L = 1 by simp [lstK, h1]]
    have C1 := Lib.hid (sAreClaims_b (c := c) hn hm hr ok h1)
    clear ok h1 hn hr
    go_enter Tryz.func43, Tryz.ntmps43
    go_wp2_with fail
    with_reducible refine (C1.out).mono ?_
    rintro e w' ⟨rfl, y1, rfl⟩
    have hsy1 := y1.bel.size
    (try simp only [World.size_alloc, World.size_setCell, World.size_drew] at hsy1)
    go_wp2_with fail
    refine bodyPost_ret (by simp [results, Tryz.results43, go_sem, ↓IntWalk.iteOmega, *]; try rfl) rfl ?_
    exact .mk rfl (by (repeat (first | (with_reducible exact Below.refl _ _) | (with_reducible assumption) | (with_reducible refine Later.out _ ?_) | (with_reducible refine bel_alloc ?_ _) | (with_reducible refine bel_drew ?_) | (with_reducible refine bel_drewN ?_ _) | (with_reducible refine bel_set ?_ ?_ _) | (with_reducible refine After.out _ ?_ ?_) | (dsimp only; omega) | omega | (simp only [World.size_alloc, World.size_setCell, World.size_drew]; omega))))
  have h12 := len_of_claims h1
  have C1 := Lib.hid (sAreClaims_b (c := c) hn hm hr ok h1)
  subst hn
  have CT := Lib.hid (fun lo a2 c2 (w : World) hr hlo ho => sRepairs_any L a L.length c rfl h12 (named_of fun c hc => claim_of_claims h1 hc) (L.length + 1) [] (ixs_nil _) (by omega) lo a2 0 c2 w rfl hr hlo ho)
  have hRx : ∀ T ∈ minZ (repG L) L.length [], Ixs L.length T := fun T hT => ((mem_minZ (repG_mono L) (ixs_nil _) T).1 hT).1
  have hRl := minZ_small (repG L) h12 []
  obtain ⟨R, hR⟩ : ∃ R, minZ (repG L) L.length [] = R := ⟨_, rfl⟩
  rw [show lstR L = ((leastTo R L.length R.length : Nat) : Int) by simp [lstR, h1, hR], show lstK L = 0 by simp [lstK, h1]]
  rw [hR] at hRx hRl
  simp only [hR] at CT
  clear hR
  have hln := Lib.hid (leastTo_le R L.length)
  replace CT := Lib.hid CT.out
  replace hr := Lib.hid hr
  replace hRx := Lib.hid hRx
  clear ok h1
  go_enter Tryz.func43, Tryz.ntmps43
  go_wp2_with fail
  with_reducible refine (C1.out).mono ?_
  rintro e w' ⟨rfl, y1, rfl⟩
  have hsy1 := y1.bel.size
  (try simp only [World.size_alloc, World.size_setCell, World.size_drew] at hsy1)
  go_wp2_with fail
  with_reducible refine (CT.out y1.w.heap.size _ _ _ (hr.out.bel (by (repeat (first | (with_reducible exact Below.refl _ _) | (with_reducible assumption) | (with_reducible refine Later.out _ ?_) | (with_reducible refine bel_alloc ?_ _) | (with_reducible refine bel_drew ?_) | (with_reducible refine bel_drewN ?_ _) | (with_reducible refine bel_set ?_ ?_ _) | (with_reducible refine After.out _ ?_ ?_) | (dsimp only; omega) | omega | (simp only [World.size_alloc, World.size_setCell, World.size_drew]; omega))))) (by ((try simp only [World.size_alloc, World.size_setCell, World.size_drew]); omega)) (Owns.of (World.ownsRow_lit (base := y1.w.heap.size) (e := 2) (size := 1) y1.w #[] 0 (Nat.le_refl _) (by unfold maxLen; omega) rfl))).mono ?_
  rintro e w' ⟨a2, c2, vs2, rfl, hnest, y2, rfl⟩
  have hsy2 := y2.bel.size
  (try simp only [World.size_alloc, World.size_setCell, World.size_drew] at hsy2)
  have H2 := Lib.hid hnest
  clear hnest
  have HV := Lib.hid H2.out.rowsV
  clear H2
  go_wp2_with fail
  go_loopw [5, 6] (fun t i wr => ∃ k : Nat, k ≤ R.length ∧ i = .int .i64 k ∧ t = .int .i64 ((leastTo R L.length k : Nat) : Int) ∧ ∃ z : Later y2.w, wr = z.w) (fun _ i _ => R.length - (intOf i).toNat)
  case atStart => exact ⟨0, Nat.zero_le _, rfl, rfl, LaterC.mk (by (repeat (first | (with_reducible exact Below.refl _ _) | (with_reducible assumption) | (with_reducible refine Later.out _ ?_) | (with_reducible refine bel_alloc ?_ _) | (with_reducible refine bel_drew ?_) | (with_reducible refine bel_drewN ?_ _) | (with_reducible refine bel_set ?_ ?_ _) | (with_reducible refine After.out _ ?_ ?_) | (dsimp only; omega) | omega | (simp only [World.size_alloc, World.size_setCell, World.size_drew]; omega))))⟩
  case round =>
    obtain ⟨k, hk, rfl, rfl, z, rfl⟩ := hrel
    have hzz := z.bel.size
    have hlk := hln.out k
    by_cases hlt : k < R.length
    · have hi1 : (k : Int) < (R.length : Int) := by omega
      obtain ⟨b, o, ai, ci, rfl, hb, hcell, e2, r2⟩ := HV.out.get hlt
      clear e2 r2
      by_cases hm2 : (atL R k).length < leastTo R L.length k
      · have X := Lib.hid (leastTo_lt hm2)
        obtain ⟨q, hq⟩ : ∃ q, (atL R k).length = q := ⟨_, rfl⟩
        obtain ⟨m, hm3⟩ : ∃ m, leastTo R L.length k = m := ⟨_, rfl⟩
        rw [hq, hm3] at hm2
        rw [hq] at hcell X
        rw [hm3] at hlk ⊢
        clear hq hm3
        have hm4 : (q : Int) < (m : Int) := by omega
        go_wp2_with fail
        go_roundw
        case rel => exact ⟨k + 1, by omega, by go_num, by rw [X.out]; first | rfl | (simp [hm4]; done) | (simp; omega), LaterC.mk (by (repeat (first | (with_reducible exact Below.refl _ _) | (with_reducible assumption) | (with_reducible refine Later.out _ ?_) | (with_reducible refine bel_alloc ?_ _) | (with_reducible refine bel_drew ?_) | (with_reducible refine bel_drewN ?_ _) | (with_reducible refine bel_set ?_ ?_ _) | (with_reducible refine After.out _ ?_ ?_) | (dsimp only; omega) | omega | (simp only [World.size_alloc, World.size_setCell, World.size_drew]; omega))))⟩
        case measure => first | (simp [intOf]; done) | (simp [intOf]; omega) | omega
      · have X := Lib.hid (leastTo_ge hm2)
        obtain ⟨q, hq⟩ : ∃ q, (atL R k).length = q := ⟨_, rfl⟩
        obtain ⟨m, hm3⟩ : ∃ m, leastTo R L.length k = m := ⟨_, rfl⟩
        rw [hq, hm3] at hm2
        rw [hq] at hcell
        rw [hm3] at hlk X ⊢
        clear hq hm3
        have hm4 : ¬ (q : Int) < (m : Int) := by omega
        go_wp2_with fail
        go_roundw
        case rel => exact ⟨k + 1, by omega, by go_num, by rw [X.out]; first | rfl | (simp [hm4]; done) | (simp; omega), LaterC.mk (by (repeat (first | (with_reducible exact Below.refl _ _) | (with_reducible assumption) | (with_reducible refine Later.out _ ?_) | (with_reducible refine bel_alloc ?_ _) | (with_reducible refine bel_drew ?_) | (with_reducible refine bel_drewN ?_ _) | (with_reducible refine bel_set ?_ ?_ _) | (with_reducible refine After.out _ ?_ ?_) | (dsimp only; omega) | omega | (simp only [World.size_alloc, World.size_setCell, World.size_drew]; omega))))⟩
        case measure => first | (simp [intOf]; done) | (simp [intOf]; omega) | omega
    · obtain rfl : k = R.length := by omega
      go_wp2_with fail
      refine bodyPost_ret (by simp [results, Tryz.results43, go_sem, ↓IntWalk.iteOmega, *]; try rfl) rfl ?_
      exact .mk rfl (by (repeat (first | (with_reducible exact Below.refl _ _) | (with_reducible assumption) | (with_reducible refine Later.out _ ?_) | (with_reducible refine bel_alloc ?_ _) | (with_reducible refine bel_drew ?_) | (with_reducible refine bel_drewN ?_ _) | (with_reducible refine bel_set ?_ ?_ _) | (with_reducible refine After.out _ ?_ ?_) | (dsimp only; omega) | omega | (simp only [World.size_alloc, World.size_setCell, World.size_drew]; omega))))
end
end Go.Proofs.YtflcfdiochohgaaGreatDoor

/- AlwaysKept: both sides. -/
set_option linter.unusedSimpArgs false
set_option linter.unusedVariables false
namespace Go.Proofs.YtflcfdiochohgaaGreatDoor
open Go.RowKit
noncomputable def alwR (L : List Clm) : List Int := if claimsB L then alwTo (minZ (repG L) L.length []) L.length else []
noncomputable def alwK (L : List Clm) : Int := if claimsB L then 0 else 1
theorem alwR_len (L : List Clm) {n : Nat} (hn : L.length = n) (hm : n ≤ 1048576) : (alwR L).length ≤ 1048576 := by
  unfold alwR
  split
  · have := alwTo_le (minZ (repG L) L.length []) L.length
    omega
  · simp
theorem any_take_R {R : List (List Int)} {p : List Int → Bool} {m : Nat} (hm : m < R.length) : (R.take (m + 1)).any p = ((R.take m).any p || p (atL R m)) := by
  unfold atL
  rw [List.take_succ_eq_append_getElem hm, List.any_append, getD_at hm]; simp
set_option maxRecDepth 8000 in
set_option maxHeartbeats 4000000 in
theorem alwaysKept_any (L : List Clm) (a : Option Addr) (c : Nat) (w : World) (h12 : L.length ≤ 12) (hr : Row w a (clmsCells L)) : Calls Tryz.prog 121 #[.slice a L.length c] w (RetOwn w 2 1 (alwTo (minZ (repG L) L.length []) L.length).length (intCells (alwTo (minZ (repG L) L.length []) L.length)) id) := by
  have CT := Lib.hid (fun (w : World) hr => minimalRepairs_any L a L.length c w rfl h12 hr)
  have hRx : ∀ T ∈ minZ (repG L) L.length [], T.length ≤ 1048576 := fun T hT => by
    have := ixs_len ((mem_minZ (repG_mono L) (ixs_nil _) T).1 hT).1
    omega
  have hRl := minZ_small (repG L) h12 []
  obtain ⟨R, hR⟩ : ∃ R, minZ (repG L) L.length [] = R := ⟨_, rfl⟩
  rw [hR] at hRx hRl ⊢
  simp only [hR] at CT
  have hAl := Lib.hid (alwTo_le R)
  obtain ⟨ii, j1, j2, j3, j4⟩ := info_i64'
  have Jii := Lib.hid (And.intro j1 (And.intro j2 (And.intro j3 j4)))
  clear j1 j2 j3 j4 hR
  replace hr := Lib.hid hr
  replace hRx := Lib.hid hRx
  have CF := Lib.hid (fun (k g5 : Nat) (vs : List Value) a c (w : World) hV h5 => containsFuncR_any 175 #[.pointer (some ⟨g5, 0, none⟩)] _ R vs a R.length c w enters_always1 rfl (by omega) hV (tells_always1 (i := k) hRx.out h5))
  go_enter Tryz.func121, Tryz.ntmps121
  go_wp2_with fail
  with_reducible refine (CT.out _ (hr.out.bel (by (repeat (first | (with_reducible exact Below.refl _ _) | (with_reducible assumption) | (with_reducible refine Later.out _ ?_) | (with_reducible refine bel_alloc ?_ _) | (with_reducible refine bel_drew ?_) | (with_reducible refine bel_drewN ?_ _) | (with_reducible refine bel_set ?_ ?_ _) | (with_reducible refine After.out _ ?_ ?_) | (dsimp only; omega) | omega | (simp only [World.size_alloc, World.size_setCell, World.size_drew]; omega)))))).mono ?_
  rintro e w' ⟨a2, c2, vs2, rfl, hnest, y2, rfl⟩
  have hsy2 := y2.bel.size
  (try simp only [World.size_alloc, World.size_setCell, World.size_drew] at hsy2)
  have H2 := Lib.hid hnest
  clear hnest
  have HV := Lib.hid H2.out.rowsV
  clear H2
  go_wp2_with fail
  with_reducible refine (lengthClaim_any _ _ _ _).mono ?_
  rintro e w' ⟨rfl, y9, rfl⟩
  have hsy9 := y9.bel.size
  (try simp only [World.size_alloc, World.size_setCell, World.size_drew] at hsy9)
  go_wp2_with fail
  go_loopw [4, 10] (fun t i wr => ∃ (k : Nat) (a5 : Option Addr) (c5 : Nat), k ≤ L.length ∧ i = .int .i64 k ∧ t = .slice a5 (alwTo R k).length c5 ∧ wr.ownsRow y2.w.heap.size 2 1 (.slice a5 (alwTo R k).length c5) (alwTo R k).length (intCells (alwTo R k)) ∧ ∃ z : Later y2.w, wr = z.w) (fun _ i _ => L.length - (intOf i).toNat)
  case atStart => exact ⟨0, none, 0, Nat.zero_le _, rfl, rfl, World.ownsRow_nil _ _ _ _, LaterC.mk (by (repeat (first | (with_reducible exact Below.refl _ _) | (with_reducible assumption) | (with_reducible refine Later.out _ ?_) | (with_reducible refine bel_alloc ?_ _) | (with_reducible refine bel_drew ?_) | (with_reducible refine bel_drewN ?_ _) | (with_reducible refine bel_set ?_ ?_ _) | (with_reducible refine After.out _ ?_ ?_) | (dsimp only; omega) | omega | (simp only [World.size_alloc, World.size_setCell, World.size_drew]; omega))))⟩
  case round =>
    obtain ⟨k, a5, c5, hk, rfl, rfl, hown, z, rfl⟩ := hrel
    replace hown := Lib.hid hown
    have hzz := z.bel.size
    have hll := hAl.out k
    by_cases hlt : k < L.length
    · have hi1 : (k : Int) < (L.length : Int) := by omega
      have CFk := CF.out k z.w.heap.size vs2 a2 c2
      cases hv : R.any fun x => x.contains (k : Int)
      · have X := Lib.hid (alwTo_no hv)
        rw [hv] at CFk
        replace CFk := Lib.hid CFk
        clear hv
        obtain ⟨A, hA⟩ : ∃ A, alwTo R k = A := ⟨_, rfl⟩
        rw [hA] at hown X hll
        simp only [hA]
        clear hA
        go_wp2_with fail
        with_reducible refine (CFk.out _ (HV.out.bel (by (repeat (first | (with_reducible exact Below.refl _ _) | (with_reducible assumption) | (with_reducible refine Later.out _ ?_) | (with_reducible refine bel_alloc ?_ _) | (with_reducible refine bel_drew ?_) | (with_reducible refine bel_drewN ?_ _) | (with_reducible refine bel_set ?_ ?_ _) | (with_reducible refine After.out _ ?_ ?_) | (dsimp only; omega) | omega | (simp only [World.size_alloc, World.size_setCell, World.size_drew]; omega))))) (by simp [go_sem, ↓IntWalk.iteOmega])).mono ?_
        rintro e w' ⟨rfl, y3, rfl⟩
        have hs3 := y3.bel.size
        (try simp only [World.size_alloc, World.size_setCell, World.size_drew] at hs3)
        go_wp2_with (at_builtin; (refine wpList_append_later _ rfl _ _ _ rfl 2 ii _ 1 8 Tryz.underlying35 Jii.out.1 Jii.out.2.1 Jii.out.2.2.1 Jii.out.2.2.2 rfl (by decide) (y2.w) ?qa1 _ _ _ (intCells A) rfl ?qa2 _ _ _ ([.int .i64 k]) rfl ?qa3 ?qa4 ?qa5 ?qa6 ?qa7 ?_); (case qa1 => (repeat (first | (with_reducible exact Below.refl _ _) | (with_reducible assumption) | (with_reducible refine Later.out _ ?_) | (with_reducible refine bel_alloc ?_ _) | (with_reducible refine bel_drew ?_) | (with_reducible refine bel_drewN ?_ _) | (with_reducible refine bel_set ?_ ?_ _) | (with_reducible refine After.out _ ?_ ?_) | (dsimp only; omega) | omega | (simp only [World.size_alloc, World.size_setCell, World.size_drew]; omega)))); (case qa2 => exact own_bel hown.out (by (repeat (first | (with_reducible exact Below.refl _ _) | (with_reducible assumption) | (with_reducible refine Later.out _ ?_) | (with_reducible refine bel_alloc ?_ _) | (with_reducible refine bel_drew ?_) | (with_reducible refine bel_drewN ?_ _) | (with_reducible refine bel_set ?_ ?_ _) | (with_reducible refine After.out _ ?_ ?_) | (dsimp only; omega) | omega | (simp only [World.size_alloc, World.size_setCell, World.size_drew]; omega))))); (case qa3 => (first | rfl | (simp [boolCells]; done) | (simp [intCells]; done) | (simp; done) | (first | omega | (simp only [List.length_append, List.length_cons, List.length_nil]; omega)))); (case qa4 => exact Row.madeAt (by simp only [World.size_alloc]; try rfl) rfl); (case qa5 => (intro u hu; simp at hu; subst hu; rfl)); (case qa6 => (unfold maxLen; (first | omega | (simp only [List.length_append, List.length_cons, List.length_nil]; omega)))); (case qa7 => (first | omega | (simp only [List.length_append, List.length_cons, List.length_nil]; omega))); intro a9 c9 x9 hown9)
        replace hown9 := Lib.hid hown9
        go_roundw
        case rel => exact ⟨k + 1, a9, c9, by omega, by go_num, by rw [X.out]; simp, by rw [X.out, intCells_snoc]; simpa using hown9.out, x9, rfl⟩
        case measure => first | (simp [intOf]; done) | (simp [intOf]; omega) | omega
      · have X := Lib.hid (alwTo_yes hv)
        rw [hv] at CFk
        replace CFk := Lib.hid CFk
        clear hv
        go_wp2_with fail
        with_reducible refine (CFk.out _ (HV.out.bel (by (repeat (first | (with_reducible exact Below.refl _ _) | (with_reducible assumption) | (with_reducible refine Later.out _ ?_) | (with_reducible refine bel_alloc ?_ _) | (with_reducible refine bel_drew ?_) | (with_reducible refine bel_drewN ?_ _) | (with_reducible refine bel_set ?_ ?_ _) | (with_reducible refine After.out _ ?_ ?_) | (dsimp only; omega) | omega | (simp only [World.size_alloc, World.size_setCell, World.size_drew]; omega))))) (by simp [go_sem, ↓IntWalk.iteOmega])).mono ?_
        rintro e w' ⟨rfl, y3, rfl⟩
        have hs3 := y3.bel.size
        (try simp only [World.size_alloc, World.size_setCell, World.size_drew] at hs3)
        go_wp2_with fail
        go_roundw
        case rel => exact ⟨k + 1, a5, c5, by omega, by go_num, by rw [X.out]; try rfl, by rw [X.out]; exact own_bel hown.out (by (repeat (first | (with_reducible exact Below.refl _ _) | (with_reducible assumption) | (with_reducible refine Later.out _ ?_) | (with_reducible refine bel_alloc ?_ _) | (with_reducible refine bel_drew ?_) | (with_reducible refine bel_drewN ?_ _) | (with_reducible refine bel_set ?_ ?_ _) | (with_reducible refine After.out _ ?_ ?_) | (dsimp only; omega) | omega | (simp only [World.size_alloc, World.size_setCell, World.size_drew]; omega)))), LaterC.mk (by (repeat (first | (with_reducible exact Below.refl _ _) | (with_reducible assumption) | (with_reducible refine Later.out _ ?_) | (with_reducible refine bel_alloc ?_ _) | (with_reducible refine bel_drew ?_) | (with_reducible refine bel_drewN ?_ _) | (with_reducible refine bel_set ?_ ?_ _) | (with_reducible refine After.out _ ?_ ?_) | (dsimp only; omega) | omega | (simp only [World.size_alloc, World.size_setCell, World.size_drew]; omega))))⟩
        case measure => first | (simp [intOf]; done) | (simp [intOf]; omega) | omega
    · obtain rfl : k = L.length := by omega
      go_wp2_with fail
      go_ret
      exact RetOwn.mk _ rfl (own_mono (own_bel hown.out (by (repeat (first | (with_reducible exact Below.refl _ _) | (with_reducible assumption) | (with_reducible refine Later.out _ ?_) | (with_reducible refine bel_alloc ?_ _) | (with_reducible refine bel_drew ?_) | (with_reducible refine bel_drewN ?_ _) | (with_reducible refine bel_set ?_ ?_ _) | (with_reducible refine After.out _ ?_ ?_) | (dsimp only; omega) | omega | (simp only [World.size_alloc, World.size_setCell, World.size_drew]; omega))))) (by ((try simp only [World.size_alloc, World.size_setCell, World.size_drew]); omega))) (by (repeat (first | (with_reducible exact Below.refl _ _) | (with_reducible assumption) | (with_reducible refine Later.out _ ?_) | (with_reducible refine bel_alloc ?_ _) | (with_reducible refine bel_drew ?_) | (with_reducible refine bel_drewN ?_ _) | (with_reducible refine bel_set ?_ ?_ _) | (with_reducible refine After.out _ ?_ ?_) | (dsimp only; omega) | omega | (simp only [World.size_alloc, World.size_setCell, World.size_drew]; omega))))
section
variable (L : List Clm) (a : Option Addr) (n c : Nat) (w : World) (hn : L.length = n) (hm : n ≤ 1048576) (hr : Row w a (clmsCells L)) (ok : ∀ c ∈ L, ClmOk c)
include hn hm hr ok
set_option maxRecDepth 8000 in
set_option maxHeartbeats 4000000 in
theorem alw_impl (hx : Max w) : Calls Tryz.prog 44 #[.slice a n c] w (RetOwn w 2 1 (alwR L).length (intCells (alwR L)) fun v => .tuple #[v, .int .i64 (alwK L)]) := by
  cases h1 : claimsB L
  · rw [show alwR L = [] by simp [alwR, h1], show alwK L = 1 by simp [alwK, h1]]
    have C1 := Lib.hid (areClaims_b (c := c) hn hm hr ok hx h1)
    clear ok h1 hn hr hx
    go_enter Tryz.func44, Tryz.ntmps44
    go_wp2_with fail
    with_reducible refine (C1.out).mono ?_
    rintro e w' ⟨rfl, y1, rfl⟩
    have hsy1 := y1.bel.size
    (try simp only [World.size_alloc, World.size_setCell, World.size_drew] at hsy1)
    go_wp2_with fail
    refine bodyPost_ret (by simp [results, Tryz.results44, go_sem, ↓IntWalk.iteOmega, *]; try rfl) rfl ?_
    refine RetOwn.mk (.slice none 0 0) rfl (World.ownsRow_nil _ _ _ _) ?_
    (repeat (first | (with_reducible exact Below.refl _ _) | (with_reducible assumption) | (with_reducible refine Later.out _ ?_) | (with_reducible refine bel_alloc ?_ _) | (with_reducible refine bel_drew ?_) | (with_reducible refine bel_drewN ?_ _) | (with_reducible refine bel_set ?_ ?_ _) | (with_reducible refine After.out _ ?_ ?_) | (dsimp only; omega) | omega | (simp only [World.size_alloc, World.size_setCell, World.size_drew]; omega)))
  have h12 := len_of_claims h1
  have C1 := Lib.hid (areClaims_b (c := c) hn hm hr ok hx h1)
  subst hn
  have CT := Lib.hid (fun (w : World) hr => minimalRepairs_any L a L.length c w rfl h12 hr)
  have hRx : ∀ T ∈ minZ (repG L) L.length [], Ixs L.length T := fun T hT => ((mem_minZ (repG_mono L) (ixs_nil _) T).1 hT).1
  have hRl := minZ_small (repG L) h12 []
  clear hRx hRl CT
  rw [show alwR L = alwTo (minZ (repG L) L.length []) L.length by simp [alwR, h1], show alwK L = 0 by simp [alwK, h1]]
  have CB := Lib.hid (fun (w : World) hr => alwaysKept_any L a c w h12 hr)
  obtain ⟨B, hB⟩ : ∃ B, alwTo (minZ (repG L) L.length []) L.length = B := ⟨_, rfl⟩
  simp only [hB] at CB ⊢
  replace hr := Lib.hid hr
  clear ok h1 hB hx
  go_enter Tryz.func44, Tryz.ntmps44
  go_wp2_with fail
  with_reducible refine (C1.out).mono ?_
  rintro e w' ⟨rfl, y1, rfl⟩
  have hsy1 := y1.bel.size
  (try simp only [World.size_alloc, World.size_setCell, World.size_drew] at hsy1)
  go_wp2_with fail
  with_reducible refine (CB.out _ (hr.out.bel (by (repeat (first | (with_reducible exact Below.refl _ _) | (with_reducible assumption) | (with_reducible refine Later.out _ ?_) | (with_reducible refine bel_alloc ?_ _) | (with_reducible refine bel_drew ?_) | (with_reducible refine bel_drewN ?_ _) | (with_reducible refine bel_set ?_ ?_ _) | (with_reducible refine After.out _ ?_ ?_) | (dsimp only; omega) | omega | (simp only [World.size_alloc, World.size_setCell, World.size_drew]; omega)))))).mono ?_
  rintro e w' ⟨a2, c2, rfl, hown, y2, rfl⟩
  have hsy2 := y2.bel.size
  (try simp only [World.size_alloc, World.size_setCell, World.size_drew] at hsy2)
  have H2 := Lib.hid (Owns.of hown)
  clear hown
  go_wp2_with fail
  refine bodyPost_ret (by simp [results, Tryz.results44, go_sem, ↓IntWalk.iteOmega, *]; try rfl) rfl ?_
  refine RetOwn.mk _ rfl (own_mono (own_bel H2.out.own (by (repeat (first | (with_reducible exact Below.refl _ _) | (with_reducible assumption) | (with_reducible refine Later.out _ ?_) | (with_reducible refine bel_alloc ?_ _) | (with_reducible refine bel_drew ?_) | (with_reducible refine bel_drewN ?_ _) | (with_reducible refine bel_set ?_ ?_ _) | (with_reducible refine After.out _ ?_ ?_) | (dsimp only; omega) | omega | (simp only [World.size_alloc, World.size_setCell, World.size_drew]; omega))))) (by ((try simp only [World.size_alloc, World.size_setCell, World.size_drew]); omega))) ?_
  (repeat (first | (with_reducible exact Below.refl _ _) | (with_reducible assumption) | (with_reducible refine Later.out _ ?_) | (with_reducible refine bel_alloc ?_ _) | (with_reducible refine bel_drew ?_) | (with_reducible refine bel_drewN ?_ _) | (with_reducible refine bel_set ?_ ?_ _) | (with_reducible refine After.out _ ?_ ?_) | (dsimp only; omega) | omega | (simp only [World.size_alloc, World.size_setCell, World.size_drew]; omega)))
set_option maxRecDepth 8000 in
set_option maxHeartbeats 4000000 in
theorem alw_spec : Calls Tryz.prog 45 #[.slice a n c] w (RetOwn w 2 1 (alwR L).length (intCells (alwR L)) fun v => .tuple #[v, .int .i64 (alwK L)]) := by
  cases h1 : claimsB L
  · rw [show alwR L = [] by simp [alwR, h1], show alwK L = 1 by simp [alwK, h1]]
    have C1 := Lib.hid (sAreClaims_b (c := c) hn hm hr ok h1)
    clear ok h1 hn hr
    go_enter Tryz.func45, Tryz.ntmps45
    go_wp2_with fail
    with_reducible refine (C1.out).mono ?_
    rintro e w' ⟨rfl, y1, rfl⟩
    have hsy1 := y1.bel.size
    (try simp only [World.size_alloc, World.size_setCell, World.size_drew] at hsy1)
    go_wp2_with fail
    refine bodyPost_ret (by simp [results, Tryz.results45, go_sem, ↓IntWalk.iteOmega, *]; try rfl) rfl ?_
    refine RetOwn.mk (.slice none 0 0) rfl (World.ownsRow_nil _ _ _ _) ?_
    (repeat (first | (with_reducible exact Below.refl _ _) | (with_reducible assumption) | (with_reducible refine Later.out _ ?_) | (with_reducible refine bel_alloc ?_ _) | (with_reducible refine bel_drew ?_) | (with_reducible refine bel_drewN ?_ _) | (with_reducible refine bel_set ?_ ?_ _) | (with_reducible refine After.out _ ?_ ?_) | (dsimp only; omega) | omega | (simp only [World.size_alloc, World.size_setCell, World.size_drew]; omega)))
  have h12 := len_of_claims h1
  have C1 := Lib.hid (sAreClaims_b (c := c) hn hm hr ok h1)
  subst hn
  have CT := Lib.hid (fun lo a2 c2 (w : World) hr hlo ho => sRepairs_any L a L.length c rfl h12 (named_of fun c hc => claim_of_claims h1 hc) (L.length + 1) [] (ixs_nil _) (by omega) lo a2 0 c2 w rfl hr hlo ho)
  have hRx : ∀ T ∈ minZ (repG L) L.length [], Ixs L.length T := fun T hT => ((mem_minZ (repG_mono L) (ixs_nil _) T).1 hT).1
  have hRl := minZ_small (repG L) h12 []
  obtain ⟨R, hR⟩ : ∃ R, minZ (repG L) L.length [] = R := ⟨_, rfl⟩
  rw [show alwR L = alwTo R L.length by simp [alwR, h1, hR], show alwK L = 0 by simp [alwK, h1]]
  rw [hR] at hRx hRl
  simp only [hR] at CT
  clear hR
  have hAl := Lib.hid (alwTo_le R)
  obtain ⟨ii, j1, j2, j3, j4⟩ := info_i64'
  have Jii := Lib.hid (And.intro j1 (And.intro j2 (And.intro j3 j4)))
  clear j1 j2 j3 j4
  replace CT := Lib.hid CT.out
  replace hr := Lib.hid hr
  replace hRx := Lib.hid hRx
  clear ok h1
  go_enter Tryz.func45, Tryz.ntmps45
  go_wp2_with fail
  with_reducible refine (C1.out).mono ?_
  rintro e w' ⟨rfl, y1, rfl⟩
  have hsy1 := y1.bel.size
  (try simp only [World.size_alloc, World.size_setCell, World.size_drew] at hsy1)
  go_wp2_with fail
  with_reducible refine (CT.out y1.w.heap.size _ _ _ (hr.out.bel (by (repeat (first | (with_reducible exact Below.refl _ _) | (with_reducible assumption) | (with_reducible refine Later.out _ ?_) | (with_reducible refine bel_alloc ?_ _) | (with_reducible refine bel_drew ?_) | (with_reducible refine bel_drewN ?_ _) | (with_reducible refine bel_set ?_ ?_ _) | (with_reducible refine After.out _ ?_ ?_) | (dsimp only; omega) | omega | (simp only [World.size_alloc, World.size_setCell, World.size_drew]; omega))))) (by ((try simp only [World.size_alloc, World.size_setCell, World.size_drew]); omega)) (Owns.of (World.ownsRow_lit (base := y1.w.heap.size) (e := 2) (size := 1) y1.w #[] 0 (Nat.le_refl _) (by unfold maxLen; omega) rfl))).mono ?_
  rintro e w' ⟨a2, c2, vs2, rfl, hnest, y2, rfl⟩
  have hsy2 := y2.bel.size
  (try simp only [World.size_alloc, World.size_setCell, World.size_drew] at hsy2)
  have H2 := Lib.hid hnest
  clear hnest
  have HV := Lib.hid H2.out.rowsV
  clear H2
  go_wp2_with fail
  go_loopw [5, 6] (fun t i wr => ∃ (k : Nat) (a5 : Option Addr) (c5 : Nat), k ≤ L.length ∧ i = .int .i64 k ∧ t = .slice a5 (alwTo R k).length c5 ∧ wr.ownsRow y2.w.heap.size 2 1 (.slice a5 (alwTo R k).length c5) (alwTo R k).length (intCells (alwTo R k)) ∧ ∃ z : Later y2.w, wr = z.w) (fun _ i _ => L.length - (intOf i).toNat)
  case atStart => exact ⟨0, _, _, Nat.zero_le _, rfl, rfl, World.ownsRow_lit y2.w #[] 0 (Nat.le_refl _) (by unfold maxLen; omega) rfl, LaterC.mk (by (repeat (first | (with_reducible exact Below.refl _ _) | (with_reducible assumption) | (with_reducible refine Later.out _ ?_) | (with_reducible refine bel_alloc ?_ _) | (with_reducible refine bel_drew ?_) | (with_reducible refine bel_drewN ?_ _) | (with_reducible refine bel_set ?_ ?_ _) | (with_reducible refine After.out _ ?_ ?_) | (dsimp only; omega) | omega | (simp only [World.size_alloc, World.size_setCell, World.size_drew]; omega))))⟩
  case round =>
    obtain ⟨k, a5, c5, hk, rfl, rfl, hown, z, rfl⟩ := hrel
    replace hown := Lib.hid hown
    have hzz := z.bel.size
    have hll := hAl.out k
    by_cases hlt : k < L.length
    · have hi1 : (k : Int) < (L.length : Int) := by omega
      have hYes := Lib.hid (fun h => alwTo_yes (R := R) (k := k) h)
      have hNo := Lib.hid (fun h => alwTo_no (R := R) (k := k) h)
      have hFull := Lib.hid (show ((R.take R.length).any fun x => x.contains (k : Int)) = R.any fun x => x.contains (k : Int) by rw [List.take_length])
      obtain ⟨A, hA⟩ : ∃ A, alwTo R k = A := ⟨_, rfl⟩
      rw [hA] at hown hll hYes hNo
      simp only [hA]
      clear hA
      go_wp2_with fail
      go_loopw [7, 8] (fun v i wr => ∃ m : Nat, m ≤ R.length ∧ i = .int .i64 m ∧ v = .bool (!(R.take m).any fun x => x.contains (k : Int)) ∧ ∃ z2 : Later z.w, wr = z2.w) (fun _ i _ => R.length - (intOf i).toNat)
      case atStart => exact ⟨0, Nat.zero_le _, rfl, rfl, LaterC.mk (by (repeat (first | (with_reducible exact Below.refl _ _) | (with_reducible assumption) | (with_reducible refine Later.out _ ?_) | (with_reducible refine bel_alloc ?_ _) | (with_reducible refine bel_drew ?_) | (with_reducible refine bel_drewN ?_ _) | (with_reducible refine bel_set ?_ ?_ _) | (with_reducible refine After.out _ ?_ ?_) | (dsimp only; omega) | omega | (simp only [World.size_alloc, World.size_setCell, World.size_drew]; omega))))⟩
      case round =>
        obtain ⟨m, hmm, rfl, rfl, z2, rfl⟩ := hrel
        have hz2 := z2.bel.size
        by_cases hlt2 : m < R.length
        · have hi2 : (m : Int) < (R.length : Int) := by omega
          have Y0 := any_take_R (p := fun x => x.contains (k : Int)) hlt2
          obtain ⟨b, o, ai, ci, rfl, hb, hcell, ev, rv⟩ := HV.out.get hlt2
          have lb1 : b < z.w.heap.size := by omega
          have lb2 : b < z2.w.heap.size := by omega
          have hTl := ixs_len (hRx.out _ (atL_mem hlt2))
          clear ev
          replace rv := Lib.hid rv
          cases hv : (R.take m).any fun x => x.contains (k : Int)
          · cases hv2 : (atL R m).contains (k : Int)
            · have Y := Lib.hid (show ((R.take (m + 1)).any fun x => x.contains (k : Int)) = false by rw [Y0, hv, hv2]; rfl)
              have CHas := Lib.hid (fun (w : World) hr => sHas_b (x := (k : Int)) (S := atL R m) (a := ai) (n := (atL R m).length) (c := ci) (w := w) rfl (by omega) hr hv2)
              clear Y0 hv hv2
              go_wp2_with (first | (go_at_call 122; (with_reducible refine (CHas.out _ (rv.out.bel (by (repeat (first | (with_reducible exact Below.refl _ _) | (with_reducible assumption) | (with_reducible refine Later.out _ ?_) | (with_reducible refine bel_alloc ?_ _) | (with_reducible refine bel_drew ?_) | (with_reducible refine bel_drewN ?_ _) | (with_reducible refine bel_set ?_ ?_ _) | (with_reducible refine After.out _ ?_ ?_) | (dsimp only; omega) | omega | (simp only [World.size_alloc, World.size_setCell, World.size_drew]; omega)))))).mono ?_); rintro e w' ⟨rfl, y4, rfl⟩))
              go_roundw
              case rel => exact ⟨m + 1, by omega, by go_num, by rw [Y.out]; try rfl, LaterC.mk (by (repeat (first | (with_reducible exact Below.refl _ _) | (with_reducible assumption) | (with_reducible refine Later.out _ ?_) | (with_reducible refine bel_alloc ?_ _) | (with_reducible refine bel_drew ?_) | (with_reducible refine bel_drewN ?_ _) | (with_reducible refine bel_set ?_ ?_ _) | (with_reducible refine After.out _ ?_ ?_) | (dsimp only; omega) | omega | (simp only [World.size_alloc, World.size_setCell, World.size_drew]; omega))))⟩
              case measure => first | (simp [intOf]; done) | (simp [intOf]; omega) | omega
            · have Y := Lib.hid (show ((R.take (m + 1)).any fun x => x.contains (k : Int)) = true by rw [Y0, hv, hv2]; rfl)
              have CHas := Lib.hid (fun (w : World) hr => sHas_b (x := (k : Int)) (S := atL R m) (a := ai) (n := (atL R m).length) (c := ci) (w := w) rfl (by omega) hr hv2)
              clear Y0 hv hv2
              go_wp2_with (first | (go_at_call 122; (with_reducible refine (CHas.out _ (rv.out.bel (by (repeat (first | (with_reducible exact Below.refl _ _) | (with_reducible assumption) | (with_reducible refine Later.out _ ?_) | (with_reducible refine bel_alloc ?_ _) | (with_reducible refine bel_drew ?_) | (with_reducible refine bel_drewN ?_ _) | (with_reducible refine bel_set ?_ ?_ _) | (with_reducible refine After.out _ ?_ ?_) | (dsimp only; omega) | omega | (simp only [World.size_alloc, World.size_setCell, World.size_drew]; omega)))))).mono ?_); rintro e w' ⟨rfl, y4, rfl⟩))
              go_roundw
              case rel => exact ⟨m + 1, by omega, by go_num, by rw [Y.out]; try rfl, LaterC.mk (by (repeat (first | (with_reducible exact Below.refl _ _) | (with_reducible assumption) | (with_reducible refine Later.out _ ?_) | (with_reducible refine bel_alloc ?_ _) | (with_reducible refine bel_drew ?_) | (with_reducible refine bel_drewN ?_ _) | (with_reducible refine bel_set ?_ ?_ _) | (with_reducible refine After.out _ ?_ ?_) | (dsimp only; omega) | omega | (simp only [World.size_alloc, World.size_setCell, World.size_drew]; omega))))⟩
              case measure => first | (simp [intOf]; done) | (simp [intOf]; omega) | omega
          · have Y := Lib.hid (show ((R.take (m + 1)).any fun x => x.contains (k : Int)) = true by rw [Y0, hv]; rfl)
            clear Y0 hv
            go_wp2_with fail
            go_roundw
            case rel => exact ⟨m + 1, by omega, by go_num, by rw [Y.out]; try rfl, LaterC.mk (by (repeat (first | (with_reducible exact Below.refl _ _) | (with_reducible assumption) | (with_reducible refine Later.out _ ?_) | (with_reducible refine bel_alloc ?_ _) | (with_reducible refine bel_drew ?_) | (with_reducible refine bel_drewN ?_ _) | (with_reducible refine bel_set ?_ ?_ _) | (with_reducible refine After.out _ ?_ ?_) | (dsimp only; omega) | omega | (simp only [World.size_alloc, World.size_setCell, World.size_drew]; omega))))⟩
            case measure => first | (simp [intOf]; done) | (simp [intOf]; omega) | omega
        · obtain rfl : m = R.length := by omega
          rw [hFull.out]
          cases hv : R.any fun x => x.contains (k : Int)
          · have X := Lib.hid (hNo.out hv)
            clear hv hFull hYes hNo
            go_wp2_with (at_builtin; (refine wpList_append_later _ rfl _ _ _ rfl 2 ii _ 1 8 Tryz.underlying35 Jii.out.1 Jii.out.2.1 Jii.out.2.2.1 Jii.out.2.2.2 rfl (by decide) (y2.w) ?qa8 _ _ _ (intCells A) rfl ?qa9 _ _ _ ([.int .i64 k]) rfl ?qa10 ?qa11 ?qa12 ?qa13 ?qa14 ?_); (case qa8 => (repeat (first | (with_reducible exact Below.refl _ _) | (with_reducible assumption) | (with_reducible refine Later.out _ ?_) | (with_reducible refine bel_alloc ?_ _) | (with_reducible refine bel_drew ?_) | (with_reducible refine bel_drewN ?_ _) | (with_reducible refine bel_set ?_ ?_ _) | (with_reducible refine After.out _ ?_ ?_) | (dsimp only; omega) | omega | (simp only [World.size_alloc, World.size_setCell, World.size_drew]; omega)))); (case qa9 => exact own_bel hown.out (by (repeat (first | (with_reducible exact Below.refl _ _) | (with_reducible assumption) | (with_reducible refine Later.out _ ?_) | (with_reducible refine bel_alloc ?_ _) | (with_reducible refine bel_drew ?_) | (with_reducible refine bel_drewN ?_ _) | (with_reducible refine bel_set ?_ ?_ _) | (with_reducible refine After.out _ ?_ ?_) | (dsimp only; omega) | omega | (simp only [World.size_alloc, World.size_setCell, World.size_drew]; omega))))); (case qa10 => (first | rfl | (simp [boolCells]; done) | (simp [intCells]; done) | (simp; done) | (first | omega | (simp only [List.length_append, List.length_cons, List.length_nil]; omega)))); (case qa11 => exact Row.madeAt (by simp only [World.size_alloc]; try rfl) rfl); (case qa12 => (intro u hu; simp at hu; subst hu; rfl)); (case qa13 => (unfold maxLen; (first | omega | (simp only [List.length_append, List.length_cons, List.length_nil]; omega)))); (case qa14 => (first | omega | (simp only [List.length_append, List.length_cons, List.length_nil]; omega))); intro a9 c9 x9 hown9)
            replace hown9 := Lib.hid hown9
            go_roundw
            case rel => exact ⟨k + 1, a9, c9, by omega, by go_num, by rw [X.out]; simp, by rw [X.out, intCells_snoc]; simpa using hown9.out, x9, rfl⟩
            case measure => first | (simp [intOf]; done) | (simp [intOf]; omega) | omega
          · have X := Lib.hid (hYes.out hv)
            clear hv hFull hYes hNo
            go_wp2_with fail
            go_roundw
            case rel => exact ⟨k + 1, a5, c5, by omega, by go_num, by rw [X.out]; try rfl, by rw [X.out]; exact own_bel hown.out (by (repeat (first | (with_reducible exact Below.refl _ _) | (with_reducible assumption) | (with_reducible refine Later.out _ ?_) | (with_reducible refine bel_alloc ?_ _) | (with_reducible refine bel_drew ?_) | (with_reducible refine bel_drewN ?_ _) | (with_reducible refine bel_set ?_ ?_ _) | (with_reducible refine After.out _ ?_ ?_) | (dsimp only; omega) | omega | (simp only [World.size_alloc, World.size_setCell, World.size_drew]; omega)))), LaterC.mk (by (repeat (first | (with_reducible exact Below.refl _ _) | (with_reducible assumption) | (with_reducible refine Later.out _ ?_) | (with_reducible refine bel_alloc ?_ _) | (with_reducible refine bel_drew ?_) | (with_reducible refine bel_drewN ?_ _) | (with_reducible refine bel_set ?_ ?_ _) | (with_reducible refine After.out _ ?_ ?_) | (dsimp only; omega) | omega | (simp only [World.size_alloc, World.size_setCell, World.size_drew]; omega))))⟩
            case measure => first | (simp [intOf]; done) | (simp [intOf]; omega) | omega
    · obtain rfl : k = L.length := by omega
      go_wp2_with fail
      refine bodyPost_ret (by simp [results, Tryz.results45, go_sem, ↓IntWalk.iteOmega, *]; try rfl) rfl ?_
      refine RetOwn.mk _ rfl (own_mono (own_bel hown.out (by (repeat (first | (with_reducible exact Below.refl _ _) | (with_reducible assumption) | (with_reducible refine Later.out _ ?_) | (with_reducible refine bel_alloc ?_ _) | (with_reducible refine bel_drew ?_) | (with_reducible refine bel_drewN ?_ _) | (with_reducible refine bel_set ?_ ?_ _) | (with_reducible refine After.out _ ?_ ?_) | (dsimp only; omega) | omega | (simp only [World.size_alloc, World.size_setCell, World.size_drew]; omega))))) (by ((try simp only [World.size_alloc, World.size_setCell, World.size_drew]); omega))) ?_
      (repeat (first | (with_reducible exact Below.refl _ _) | (with_reducible assumption) | (with_reducible refine Later.out _ ?_) | (with_reducible refine bel_alloc ?_ _) | (with_reducible refine bel_drew ?_) | (with_reducible refine bel_drewN ?_ _) | (with_reducible refine bel_set ?_ ?_ _) | (with_reducible refine After.out _ ?_ ?_) | (dsimp only; omega) | omega | (simp only [World.size_alloc, World.size_setCell, World.size_drew]; omega)))
end
end Go.Proofs.YtflcfdiochohgaaGreatDoor

/- InCores: both sides. -/
set_option linter.unusedSimpArgs false
set_option linter.unusedVariables false
namespace Go.Proofs.YtflcfdiochohgaaGreatDoor
open Go.RowKit
theorem Nest.cells {w : World} {lo hi : Nat} {a : Option Addr} {n c : Nat} {S : List (List Int)} {vs : List Value} (h : Nest w lo hi a n c S vs) {k : Nat} (hk : k < n) :
    ∃ b ai ci, a = some ⟨b, 0, none⟩ ∧ lo ≤ b ∧ b < hi ∧ w.cell? ⟨b, k, none⟩ = some (.slice ai (atL S k).length ci) ∧ ∀ m (hm : m < (atL S k).length), ∃ bi, ai = some ⟨bi, 0, none⟩ ∧ lo ≤ bi ∧ bi < hi ∧ w.cell? ⟨bi, m, none⟩ = some (.int .i64 ((atL S k).getD m 0)) := by
  have hv := h.vlen
  have hn := h.len
  obtain ⟨b, rfl, h1, h2, h3, _⟩ := h.own.at_ (j := k) (by omega)
  obtain ⟨ai, ci, h4, h5⟩ := h.at_ k (by omega)
  have e : atL S k = S[k] := by unfold atL; rw [getD_at (by omega)]
  rw [e]
  refine ⟨b, ai, ci, rfl, h1, h2, by rw [h3, h4], fun m hm => ?_⟩
  obtain ⟨bi, rfl, g1, g2, g3, _⟩ := h5.at_ (j := m) (by omega)
  exact ⟨bi, rfl, g1, g2, by rw [g3, getD_at hm]; simp [intCells, hm]⟩
/-- One more at a place. -/
def addAt (l : List Int) (i : Int) : List Int := l.set i.toNat (l.getD i.toNat 0 + 1)
theorem addAt_len (l : List Int) (i : Int) : (addAt l i).length = l.length := by simp [addAt]
/-- So many numbers, none negative and none above a bound. -/
def Few (n b : Nat) (l : List Int) : Prop := l.length = n ∧ ∀ i, 0 ≤ l.getD i 0 ∧ l.getD i 0 ≤ b
theorem Few.add {n b : Nat} {l : List Int} (h : Few n b l) (i : Int) : Few n (b + 1) (addAt l i) := by
  refine ⟨(addAt_len l i).trans h.1, fun j => ?_⟩
  unfold addAt
  have h1 := h.2 i.toNat
  have h2 := h.2 j
  by_cases hj : j < l.length
  · rw [getD_at (by simpa using hj), List.getElem_set]
    split
    · omega
    · rw [getD_at hj] at h2; omega
  · rw [getD_out (by simp; omega)]
    omega
theorem Few.mono {n b b' : Nat} {l : List Int} (h : Few n b l) (hb : b ≤ b') : Few n b' l := ⟨h.1, fun i => by have := h.2 i; omega⟩
section
variable (L : List Clm) (a : Option Addr) (n c : Nat) (w : World) (hn : L.length = n) (hm : n ≤ 1048576) (hr : Row w a (clmsCells L)) (ok : ∀ c ∈ L, ClmOk c)
include hn hm hr ok
end
end Go.Proofs.YtflcfdiochohgaaGreatDoor
