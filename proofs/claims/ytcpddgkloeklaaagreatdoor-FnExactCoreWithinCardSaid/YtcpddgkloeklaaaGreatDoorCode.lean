import Derived.Test.YtcpddgkloeklaaaGreatDoorWt
import Derived.Test.YtcpddgkloeklaaaGreatDoorPick
import Derived.Test.YtcpddgkloeklaaaGreatDoorMin
/- The code of a choice of claims: the reference's side, and what it says. -/
set_option linter.unusedSimpArgs false
set_option linter.unusedVariables false
namespace Go.Proofs.YtcpddgkloeklaaaGreatDoor
open Go.RowKit
theorem code_claims {L : List Clm} {l : List Int} (h : codeZ L l = 0) : claimsB L = true := by
  unfold codeZ at h
  cases h1 : claimsB L
  · rw [h1] at h; cases h
  · rfl
theorem within_len : ∀ (n : Nat) (l : List Int), l.Nodup → Within n l → l.length ≤ n
  | 0, [], _, _ => Nat.le_refl _
  | 0, x :: l, _, h => by have := h x (by simp); omega
  | n + 1, l, hd, h => by
    have h1 := within_len n (l.erase (n : Int)) (hd.erase _) fun x hx => by
      have h2 := (List.Nodup.mem_erase_iff hd).1 hx
      have := h x h2.2
      have := h2.1
      omega
    have h2 := List.length_erase (a := (n : Int)) (l := l)
    split at h2 <;> omega
theorem rises_nodup {l : List Int} {n : Nat} (h : Rises l n) : l.Nodup := (ixs_of_rises h).nodup
theorem rises_len {l : List Int} {n : Nat} (h : Rises l n) : l.length ≤ n := within_len n l (rises_nodup h) (within_of_rises h)
section
variable (L : List Clm) (l : List Int) (a a' : Option Addr) (n c n' c' : Nat) (w : World) (hn : L.length = n) (hn' : l.length = n') (hm : n ≤ 1048576) (hm' : n' ≤ 1048576) (hr : Row w a (clmsCells L)) (hr' : Row w a' (intCells l)) (ok : ∀ c ∈ L, ClmOk c)
include hn hn' hm hm' hr hr' ok
theorem sCode_any : Calls Tryz.prog 54 #[.slice a n c, .slice a' n' c'] w (Ret w (.int .i64 (codeZ L l))) := by
  cases h1 : claimsB L
  · have X := Lib.hid (show codeZ L l = 1 by simp [codeZ, h1])
    have C1 := Lib.hid (sAreClaims_b (c := c) hn hm hr ok h1)
    clear hr hr' ok h1
    go_enter Tryz.func54, Tryz.ntmps54
    go_wp2_with fail
    with_reducible refine (C1.out).mono ?_
    rintro e w' ⟨rfl, y1, rfl⟩
    have hsy1 := y1.bel.size
    (try simp only [World.size_alloc, World.size_setCell, World.size_drew] at hsy1)
    go_wp2_with fail
    go_ret
    exact .mk (by rw [X.out]; rfl) (by (repeat (first | (with_reducible exact Below.refl _ _) | (with_reducible assumption) | (with_reducible refine Later.out _ ?_) | (with_reducible refine bel_alloc ?_ _) | (with_reducible refine bel_drew ?_) | (with_reducible refine bel_drewN ?_ _) | (with_reducible refine bel_set ?_ ?_ _) | (with_reducible refine After.out _ ?_ ?_) | (dsimp only; omega) | omega | (simp only [World.size_alloc, World.size_setCell, World.size_drew]; omega))))
  cases h2 : risesB l L.length
  · have X := Lib.hid (show codeZ L l = 2 by simp [codeZ, h1, h2])
    have C1 := Lib.hid (sAreClaims_b (c := c) hn hm hr ok h1)
    rw [hn] at h2
    have C2 := Lib.hid (fun w hr' => l01Rises_b (w := w) (a := a') (c := c') hn' hm' hr' (by omega) (by omega) h2)
    replace hr' := Lib.hid hr'
    clear hr ok h1 h2
    go_enter Tryz.func54, Tryz.ntmps54
    go_wp2_with fail
    with_reducible refine (C1.out).mono ?_
    rintro e w' ⟨rfl, y1, rfl⟩
    have hsy1 := y1.bel.size
    (try simp only [World.size_alloc, World.size_setCell, World.size_drew] at hsy1)
    go_wp2_with fail
    with_reducible refine (C2.out _ (hr'.out.bel (by (repeat (first | (with_reducible exact Below.refl _ _) | (with_reducible assumption) | (with_reducible refine Later.out _ ?_) | (with_reducible refine bel_alloc ?_ _) | (with_reducible refine bel_drew ?_) | (with_reducible refine bel_drewN ?_ _) | (with_reducible refine bel_set ?_ ?_ _) | (with_reducible refine After.out _ ?_ ?_) | (dsimp only; omega) | omega | (simp only [World.size_alloc, World.size_setCell, World.size_drew]; omega)))))).mono ?_
    rintro e w' ⟨rfl, y3, rfl⟩
    have hsy3 := y3.bel.size
    (try simp only [World.size_alloc, World.size_setCell, World.size_drew] at hsy3)
    go_wp2_with fail
    go_ret
    exact .mk (by rw [X.out]; rfl) (by (repeat (first | (with_reducible exact Below.refl _ _) | (with_reducible assumption) | (with_reducible refine Later.out _ ?_) | (with_reducible refine bel_alloc ?_ _) | (with_reducible refine bel_drew ?_) | (with_reducible refine bel_drewN ?_ _) | (with_reducible refine bel_set ?_ ?_ _) | (with_reducible refine After.out _ ?_ ?_) | (dsimp only; omega) | omega | (simp only [World.size_alloc, World.size_setCell, World.size_drew]; omega))))
  · have X := Lib.hid (show codeZ L l = 0 by simp [codeZ, h1, h2])
    have C1 := Lib.hid (sAreClaims_b (c := c) hn hm hr ok h1)
    rw [hn] at h2
    have C2 := Lib.hid (fun w hr' => l01Rises_b (w := w) (a := a') (c := c') hn' hm' hr' (by omega) (by omega) h2)
    replace hr' := Lib.hid hr'
    clear hr ok h1 h2
    go_enter Tryz.func54, Tryz.ntmps54
    go_wp2_with fail
    with_reducible refine (C1.out).mono ?_
    rintro e w' ⟨rfl, y1, rfl⟩
    have hsy1 := y1.bel.size
    (try simp only [World.size_alloc, World.size_setCell, World.size_drew] at hsy1)
    go_wp2_with fail
    with_reducible refine (C2.out _ (hr'.out.bel (by (repeat (first | (with_reducible exact Below.refl _ _) | (with_reducible assumption) | (with_reducible refine Later.out _ ?_) | (with_reducible refine bel_alloc ?_ _) | (with_reducible refine bel_drew ?_) | (with_reducible refine bel_drewN ?_ _) | (with_reducible refine bel_set ?_ ?_ _) | (with_reducible refine After.out _ ?_ ?_) | (dsimp only; omega) | omega | (simp only [World.size_alloc, World.size_setCell, World.size_drew]; omega)))))).mono ?_
    rintro e w' ⟨rfl, y3, rfl⟩
    have hsy3 := y3.bel.size
    (try simp only [World.size_alloc, World.size_setCell, World.size_drew] at hsy3)
    go_wp2_with fail
    go_ret
    exact .mk (by rw [X.out]; rfl) (by (repeat (first | (with_reducible exact Below.refl _ _) | (with_reducible assumption) | (with_reducible refine Later.out _ ?_) | (with_reducible refine bel_alloc ?_ _) | (with_reducible refine bel_drew ?_) | (with_reducible refine bel_drewN ?_ _) | (with_reducible refine bel_set ?_ ?_ _) | (with_reducible refine After.out _ ?_ ?_) | (dsimp only; omega) | omega | (simp only [World.size_alloc, World.size_setCell, World.size_drew]; omega))))
end
end Go.Proofs.YtcpddgkloeklaaaGreatDoor
