import Derived.Test.YtcpddgkloeklaaaGreatDoorRises
import Derived.Test.YtcpddgkloeklaaaGreatDoorListL
/- The weight of chosen claims. -/
set_option linter.unusedSimpArgs false
set_option linter.unusedVariables false
namespace Go.Proofs.YtcpddgkloeklaaaGreatDoor
open Go.RowKit
/-- The weight of the claim at an index. -/
def selW (L : List Clm) (i : Int) : Int := match L[i.toNat]? with | some c => c.wt | none => 0
theorem selW_at {L : List Clm} {j : Nat} (h : j < L.length) : selW L (j : Int) = L[j].wt := by simp [selW, h]
/-- The weight of the first `k` chosen claims. -/
def wtTo (L : List Clm) (l : List Int) : Nat → Int
  | 0 => 0
  | k + 1 => IntKind.i64.wrap (wtTo L l k + selW L (l.getD k 0))
theorem wtTo_at {L : List Clm} {l : List Int} {k j : Nat} (hk : k < l.length) (hj : l[k] = (j : Int)) (h : j < L.length) : wtTo L l (k + 1) = IntKind.i64.wrap (wtTo L l k + L[j].wt) := by
  show IntKind.i64.wrap (wtTo L l k + selW L (l.getD k 0)) = _
  rw [List.getD_eq_getElem?_getD, List.getElem?_eq_getElem hk, Option.getD_some, hj, selW_at h]
def wtZ (L : List Clm) (l : List Int) : Int := wtTo L l l.length
theorem rise_ix {l : List Int} {n k : Nat} (h : RiseAt l n k) (hk : k < l.length) : ∃ j : Nat, l[k] = (j : Int) ∧ j < n := by
  obtain ⟨x, h1, h2, h3, _⟩ := h
  rw [List.getElem?_eq_getElem hk] at h1
  obtain rfl := Option.some.inj h1
  exact ⟨l[k].toNat, by omega, by omega⟩
set_option maxRecDepth 4000 in
set_option maxHeartbeats 1000000 in
theorem weightOf_any (L : List Clm) (l : List Int) (a a' : Option Addr) (n c n' c' : Nat) (w : World) (hn : L.length = n) (hn' : l.length = n') (hm : n ≤ 1048576) (hm' : n' ≤ 1048576) (hr : Row w a (clmsCells L)) (hr' : Row w a' (intCells l)) (hR : Rises l n) :
    Calls Tryz.prog 94 #[.slice a n c, .slice a' n' c'] w (Ret w (.int .i64 (wtZ L l))) := by
  subst hn hn'
  replace hr := Lib.hid hr
  replace hr' := Lib.hid hr'
  replace hR := Lib.hid hR
  go_enter Tryz.func94, Tryz.ntmps94
  go_wp2_with fail
  go_loopw [5, 10] (fun s i wr => ∃ k : Nat, k ≤ l.length ∧ i = .int .i64 k ∧ s = .int .i64 (wtTo L l k) ∧ ∃ z : Later w, wr = z.w) (fun _ i _ => l.length - (intOf i).toNat)
  case atStart => exact ⟨0, Nat.zero_le _, rfl, rfl, ⟨_, Below.refl _ _⟩, rfl⟩
  case round =>
    obtain ⟨k, hk, rfl, rfl, z, rfl⟩ := hrel
    have hzz := z.bel.size
    by_cases hlt : k < l.length
    · obtain ⟨b', o', rfl, hb', hc'⟩ := hr'.out.int hlt
      obtain ⟨j, hj, hjn⟩ := rise_ix (hR.out k hlt) hlt
      obtain ⟨b, o, rfl, hb, q0, q1, q2, q3, q4, q5, q6⟩ := hr.out.clm hjn
      rw [hj] at hc'
      have X := Lib.hid (wtTo_at hlt hj hjn)
      clear hj
      go_wp2_with fail
      go_roundw
      case rel => exact ⟨k + 1, by omega, by go_num, by rw [X.out, IntWalk.i64_left], ⟨_, by (repeat (first | (with_reducible exact Below.refl _ _) | (with_reducible assumption) | (with_reducible refine Later.out _ ?_) | (with_reducible refine bel_alloc ?_ _) | (with_reducible refine bel_drew ?_) | (with_reducible refine bel_drewN ?_ _) | (with_reducible refine bel_set ?_ ?_ _) | (with_reducible refine After.out _ ?_ ?_) | (dsimp only; omega) | omega | (simp only [World.size_alloc, World.size_setCell, World.size_drew]; omega)))⟩, rfl⟩
      case measure => first | (simp [intOf]; done) | (simp [intOf]; omega) | omega
    · obtain rfl : k = l.length := by omega
      go_wp2_with fail
      go_ret
      exact .mk rfl (by (repeat (first | (with_reducible exact Below.refl _ _) | (with_reducible assumption) | (with_reducible refine Later.out _ ?_) | (with_reducible refine bel_alloc ?_ _) | (with_reducible refine bel_drew ?_) | (with_reducible refine bel_drewN ?_ _) | (with_reducible refine bel_set ?_ ?_ _) | (with_reducible refine After.out _ ?_ ?_) | (dsimp only; omega) | omega | (simp only [World.size_alloc, World.size_setCell, World.size_drew]; omega))))
set_option maxRecDepth 4000 in
set_option maxHeartbeats 1000000 in
theorem sWeight_any (L : List Clm) (l : List Int) (a a' : Option Addr) (n c n' c' : Nat) (w : World) (hn : L.length = n) (hn' : l.length = n') (hm : n ≤ 1048576) (hm' : n' ≤ 1048576) (hr : Row w a (clmsCells L)) (hr' : Row w a' (intCells l)) (hR : Rises l n) :
    Calls Tryz.prog 128 #[.slice a n c, .slice a' n' c'] w (Ret w (.int .i64 (wtZ L l))) := by
  subst hn hn'
  replace hr := Lib.hid hr
  replace hr' := Lib.hid hr'
  replace hR := Lib.hid hR
  go_enter Tryz.func128, Tryz.ntmps128
  go_wp2_with fail
  go_loopw [5, 6] (fun s i wr => ∃ k : Nat, k ≤ l.length ∧ i = .int .i64 k ∧ s = .int .i64 (wtTo L l k) ∧ ∃ z : Later w, wr = z.w) (fun _ i _ => l.length - (intOf i).toNat)
  case atStart => exact ⟨0, Nat.zero_le _, rfl, rfl, ⟨_, Below.refl _ _⟩, rfl⟩
  case round =>
    obtain ⟨k, hk, rfl, rfl, z, rfl⟩ := hrel
    have hzz := z.bel.size
    by_cases hlt : k < l.length
    · obtain ⟨b', o', rfl, hb', hc'⟩ := hr'.out.int hlt
      obtain ⟨j, hj, hjn⟩ := rise_ix (hR.out k hlt) hlt
      obtain ⟨b, o, rfl, hb, q0, q1, q2, q3, q4, q5, q6⟩ := hr.out.clm hjn
      rw [hj] at hc'
      have X := Lib.hid (wtTo_at hlt hj hjn)
      clear hj
      go_wp2_with fail
      go_roundw
      case rel => exact ⟨k + 1, by omega, by go_num, by rw [X.out, IntWalk.i64_left], ⟨_, by (repeat (first | (with_reducible exact Below.refl _ _) | (with_reducible assumption) | (with_reducible refine Later.out _ ?_) | (with_reducible refine bel_alloc ?_ _) | (with_reducible refine bel_drew ?_) | (with_reducible refine bel_drewN ?_ _) | (with_reducible refine bel_set ?_ ?_ _) | (with_reducible refine After.out _ ?_ ?_) | (dsimp only; omega) | omega | (simp only [World.size_alloc, World.size_setCell, World.size_drew]; omega)))⟩, rfl⟩
      case measure => first | (simp [intOf]; done) | (simp [intOf]; omega) | omega
    · obtain rfl : k = l.length := by omega
      go_wp2_with fail
      go_ret
      exact .mk rfl (by (repeat (first | (with_reducible exact Below.refl _ _) | (with_reducible assumption) | (with_reducible refine Later.out _ ?_) | (with_reducible refine bel_alloc ?_ _) | (with_reducible refine bel_drew ?_) | (with_reducible refine bel_drewN ?_ _) | (with_reducible refine bel_set ?_ ?_ _) | (with_reducible refine After.out _ ?_ ?_) | (dsimp only; omega) | omega | (simp only [World.size_alloc, World.size_setCell, World.size_drew]; omega))))
theorem lengthClaim_any (a : Option Addr) (n c : Nat) (w : World) : Calls Tryz.prog 76 #[.slice a n c] w (Ret w (.int .i64 n)) := by
  go_enter Tryz.func76, Tryz.ntmps76
  go_wp2_with fail
  go_ret
  exact .mk rfl (by (repeat (first | (with_reducible exact Below.refl _ _) | (with_reducible assumption) | (with_reducible refine Later.out _ ?_) | (with_reducible refine bel_alloc ?_ _) | (with_reducible refine bel_drew ?_) | (with_reducible refine bel_drewN ?_ _) | (with_reducible refine bel_set ?_ ?_ _) | (with_reducible refine After.out _ ?_ ?_) | (dsimp only; omega) | omega | (simp only [World.size_alloc, World.size_setCell, World.size_drew]; omega))))
/-- The code of a choice of claims. -/
noncomputable def codeZ (L : List Clm) (l : List Int) : Int := if claimsB L then (if risesB l L.length then 0 else 2) else 1
/-- The answer of WeightOf. -/
noncomputable def wtR (L : List Clm) (l : List Int) : Int := if codeZ L l = 0 then wtZ L l else 0
theorem code_rises {L : List Clm} {l : List Int} (h : codeZ L l = 0) : Rises l L.length := by
  unfold codeZ at h
  cases h1 : claimsB L
  · rw [h1] at h; cases h
  · cases h2 : risesB l L.length
    · rw [h1, h2] at h; cases h
    · exact rises_of h2
section
variable (L : List Clm) (l : List Int) (a a' : Option Addr) (n c n' c' : Nat) (w : World) (hn : L.length = n) (hn' : l.length = n') (hm : n ≤ 1048576) (hm' : n' ≤ 1048576) (hr : Row w a (clmsCells L)) (hr' : Row w a' (intCells l)) (ok : ∀ c ∈ L, ClmOk c)
include hn hn' hm hm' hr hr' ok
theorem chosenCode_any (hx : Max w) : Calls Tryz.prog 57 #[.slice a n c, .slice a' n' c'] w (Ret w (.int .i64 (codeZ L l))) := by
  cases h1 : claimsB L
  · have X := Lib.hid (show codeZ L l = 1 by simp [codeZ, h1])
    have C1 := Lib.hid (areClaims_b (c := c) hn hm hr ok hx h1)
    clear hr hr' ok hx h1
    go_enter Tryz.func57, Tryz.ntmps57
    go_wp2_with fail
    with_reducible refine (C1.out).mono ?_
    rintro e w' ⟨rfl, y1, rfl⟩
    have hsy1 := y1.bel.size
    (try simp only [World.size_alloc, World.size_setCell, World.size_drew] at hsy1)
    go_wp2_with fail
    go_ret
    exact .mk (by rw [X.out]; rfl) (by (repeat (first | (with_reducible exact Below.refl _ _) | (with_reducible assumption) | (with_reducible refine Later.out _ ?_) | (with_reducible refine bel_alloc ?_ _) | (with_reducible refine bel_drew ?_) | (with_reducible refine bel_drewN ?_ _) | (with_reducible refine bel_set ?_ ?_ _) | (with_reducible refine After.out _ ?_ ?_) | (dsimp only; omega) | omega | (simp only [World.size_alloc, World.size_setCell, World.size_drew]; omega))))
  cases h2 : risesB l L.length
  · have X := Lib.hid (show codeZ L l = 2 by simp [codeZ, h1, h2])
    have C1 := Lib.hid (areClaims_b (c := c) hn hm hr ok hx h1)
    rw [hn] at h2
    have C2 := Lib.hid (fun w hr' => areIndices_b (w := w) (a := a') (c := c') hn' hm' hr' (by omega) (by omega) h2)
    replace hr' := Lib.hid hr'
    clear hr ok hx h1 h2
    go_enter Tryz.func57, Tryz.ntmps57
    go_wp2_with fail
    with_reducible refine (C1.out).mono ?_
    rintro e w' ⟨rfl, y1, rfl⟩
    have hsy1 := y1.bel.size
    (try simp only [World.size_alloc, World.size_setCell, World.size_drew] at hsy1)
    go_wp2_with fail
    with_reducible refine (lengthClaim_any _ _ _ _).mono ?_
    rintro e w' ⟨rfl, y2, rfl⟩
    have hsy2 := y2.bel.size
    (try simp only [World.size_alloc, World.size_setCell, World.size_drew] at hsy2)
    go_wp2_with fail
    with_reducible refine (C2.out _ (hr'.out.bel (by (repeat (first | (with_reducible exact Below.refl _ _) | (with_reducible assumption) | (with_reducible refine Later.out _ ?_) | (with_reducible refine bel_alloc ?_ _) | (with_reducible refine bel_drew ?_) | (with_reducible refine bel_drewN ?_ _) | (with_reducible refine bel_set ?_ ?_ _) | (with_reducible refine After.out _ ?_ ?_) | (dsimp only; omega) | omega | (simp only [World.size_alloc, World.size_setCell, World.size_drew]; omega)))))).mono ?_
    rintro e w' ⟨rfl, y3, rfl⟩
    have hsy3 := y3.bel.size
    (try simp only [World.size_alloc, World.size_setCell, World.size_drew] at hsy3)
    go_wp2_with fail
    go_ret
    exact .mk (by rw [X.out]; rfl) (by (repeat (first | (with_reducible exact Below.refl _ _) | (with_reducible assumption) | (with_reducible refine Later.out _ ?_) | (with_reducible refine bel_alloc ?_ _) | (with_reducible refine bel_drew ?_) | (with_reducible refine bel_drewN ?_ _) | (with_reducible refine bel_set ?_ ?_ _) | (with_reducible refine After.out _ ?_ ?_) | (dsimp only; omega) | omega | (simp only [World.size_alloc, World.size_setCell, World.size_drew]; omega))))
  · have X := Lib.hid (show codeZ L l = 0 by simp [codeZ, h1, h2])
    have C1 := Lib.hid (areClaims_b (c := c) hn hm hr ok hx h1)
    rw [hn] at h2
    have C2 := Lib.hid (fun w hr' => areIndices_b (w := w) (a := a') (c := c') hn' hm' hr' (by omega) (by omega) h2)
    replace hr' := Lib.hid hr'
    clear hr ok hx h1 h2
    go_enter Tryz.func57, Tryz.ntmps57
    go_wp2_with fail
    with_reducible refine (C1.out).mono ?_
    rintro e w' ⟨rfl, y1, rfl⟩
    have hsy1 := y1.bel.size
    (try simp only [World.size_alloc, World.size_setCell, World.size_drew] at hsy1)
    go_wp2_with fail
    with_reducible refine (lengthClaim_any _ _ _ _).mono ?_
    rintro e w' ⟨rfl, y2, rfl⟩
    have hsy2 := y2.bel.size
    (try simp only [World.size_alloc, World.size_setCell, World.size_drew] at hsy2)
    go_wp2_with fail
    with_reducible refine (C2.out _ (hr'.out.bel (by (repeat (first | (with_reducible exact Below.refl _ _) | (with_reducible assumption) | (with_reducible refine Later.out _ ?_) | (with_reducible refine bel_alloc ?_ _) | (with_reducible refine bel_drew ?_) | (with_reducible refine bel_drewN ?_ _) | (with_reducible refine bel_set ?_ ?_ _) | (with_reducible refine After.out _ ?_ ?_) | (dsimp only; omega) | omega | (simp only [World.size_alloc, World.size_setCell, World.size_drew]; omega)))))).mono ?_
    rintro e w' ⟨rfl, y3, rfl⟩
    have hsy3 := y3.bel.size
    (try simp only [World.size_alloc, World.size_setCell, World.size_drew] at hsy3)
    go_wp2_with fail
    go_ret
    exact .mk (by rw [X.out]; rfl) (by (repeat (first | (with_reducible exact Below.refl _ _) | (with_reducible assumption) | (with_reducible refine Later.out _ ?_) | (with_reducible refine bel_alloc ?_ _) | (with_reducible refine bel_drew ?_) | (with_reducible refine bel_drewN ?_ _) | (with_reducible refine bel_set ?_ ?_ _) | (with_reducible refine After.out _ ?_ ?_) | (dsimp only; omega) | omega | (simp only [World.size_alloc, World.size_setCell, World.size_drew]; omega))))
end
end Go.Proofs.YtcpddgkloeklaaaGreatDoor
