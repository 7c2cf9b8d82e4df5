import Derived.Test.YtcpddgkloeklaaaGreatDoorPackD
import Derived.Test.YtcpddgkloeklaaaGreatDoorPackC
import Derived.Test.YtcpddgkloeklaaaGreatDoorPackB
import Derived.Test.YtcpddgkloeklaaaGreatDoorPackAb
import Derived.Test.YtcpddgkloeklaaaGreatDoorPackA
import Derived.StillTailTactics
/- Several of my texts, one behind the other: ResT, MinF, QTail, MinG, ResS, Best, ResB. -/
/- CoresOf and MinimalRepairs: both sides. -/
set_option linter.unusedSimpArgs false
set_option linter.unusedVariables false
namespace Go.Proofs.YtcpddgkloeklaaaGreatDoor
open Go.RowKit
noncomputable def crsR (L : List Clm) : List (List Int) := if claimsB L then (if 60 < (minZ (coreG L) L.length []).length then [] else minZ (coreG L) L.length []) else []
noncomputable def crsK (L : List Clm) : Int := if claimsB L then (if 60 < (minZ (coreG L) L.length []).length then 3 else 0) else 1
theorem crsR_len (L : List Clm) {n : Nat} (hn : L.length = n) (hm : n ≤ 1048576) : (crsR L).length ≤ 1048576 := by
  unfold crsR
  split
  · split
    · simp
    · omega
  · simp
theorem crsR_el (L : List Clm) : ∀ l ∈ crsR L, l.length ≤ 1000 := by
  intro l hl
  unfold crsR at hl
  split at hl
  · rename_i h
    have h12 := len_of_claims h
    split at hl
    · simp at hl
    · have := ixs_len ((mem_minZ (coreG_mono L) (ixs_nil _) l).1 hl).1
      omega
  · simp at hl
section
variable (L : List Clm) (a : Option Addr) (n c : Nat) (w : World) (hn : L.length = n) (hm : n ≤ 1048576) (hr : Row w a (clmsCells L)) (ok : ∀ c ∈ L, ClmOk c)
include hn hm hr ok
set_option maxRecDepth 8000 in
set_option maxHeartbeats 4000000 in
theorem crs_impl (hx : Max w) : Calls Tryz.prog 39 #[.slice a n c] w (RetNest w (crsR L) fun v => .tuple #[v, .int .i64 (crsK L)]) := by
  cases h1 : claimsB L
  · rw [show crsR L = [] by simp [crsR, h1], show crsK L = 1 by simp [crsK, h1]]
    have C1 := Lib.hid (areClaims_b (c := c) hn hm hr ok hx h1)
    clear ok h1 hn hr hx
    go_enter Tryz.func39, Tryz.ntmps39
    go_wp2_with fail
    with_reducible refine (C1.out).mono ?_
    rintro e w' ⟨rfl, y1, rfl⟩
    have hsy1 := y1.bel.size
    (try simp only [World.size_alloc, World.size_setCell, World.size_drew] at hsy1)
    go_wp2_with fail
    refine bodyPost_ret (by simp [results, Tryz.results39, go_sem, ↓IntWalk.iteOmega, *]; try rfl) rfl ?_
    refine RetNest.mk' rfl (Nest.nil _ _ _) ?_
    (repeat (first | (with_reducible exact Below.refl _ _) | (with_reducible assumption) | (with_reducible refine Later.out _ ?_) | (with_reducible refine bel_alloc ?_ _) | (with_reducible refine bel_drew ?_) | (with_reducible refine bel_drewN ?_ _) | (with_reducible refine bel_set ?_ ?_ _) | (with_reducible refine After.out _ ?_ ?_) | (dsimp only; omega) | omega | (simp only [World.size_alloc, World.size_setCell, World.size_drew]; omega)))
  have h12 := len_of_claims h1
  have C1 := Lib.hid (areClaims_b (c := c) hn hm hr ok hx h1)
  subst hn
  have CT := Lib.hid (fun (w : World) hr => coresOf_any L a L.length c w rfl h12 hr)
  have hRx : ∀ T ∈ minZ (coreG L) L.length [], Ixs L.length T := fun T hT => ((mem_minZ (coreG_mono L) (ixs_nil _) T).1 hT).1
  have hRl := minZ_small (coreG L) h12 []
  obtain ⟨R, hR⟩ : ∃ R, minZ (coreG L) L.length [] = R := ⟨_, rfl⟩
  have eR : crsR L = if 60 < R.length then [] else R := by simp [crsR, h1, hR]
  have eK : crsK L = if 60 < R.length then 3 else 0 := by simp [crsK, h1, hR]
  rw [eR, eK]
  rw [hR] at hRx hRl
  simp only [hR] at CT
  clear eR eK hR
  by_cases h60 : 60 < R.length
  · rw [if_pos h60, if_pos h60]
    have h61 : (60 : Int) < (R.length : Int) := by omega
    replace CT := Lib.hid CT.out
    replace hr := Lib.hid hr
    replace hRx := Lib.hid hRx
    clear ok h1 hx
    go_enter Tryz.func39, Tryz.ntmps39
    go_wp2_with fail
    with_reducible refine (C1.out).mono ?_
    rintro e w' ⟨rfl, y1, rfl⟩
    have hsy1 := y1.bel.size
    (try simp only [World.size_alloc, World.size_setCell, World.size_drew] at hsy1)
    go_wp2_with fail
    with_reducible refine (CT.out _ (hr.out.bel (by (repeat (first | (with_reducible exact Below.refl _ _) | (with_reducible assumption) | (with_reducible refine Later.out _ ?_) | (with_reducible refine bel_alloc ?_ _) | (with_reducible refine bel_drew ?_) | (with_reducible refine bel_drewN ?_ _) | (with_reducible refine bel_set ?_ ?_ _) | (with_reducible refine After.out _ ?_ ?_) | (dsimp only; omega) | omega | (simp only [World.size_alloc, World.size_setCell, World.size_drew]; omega)))))).mono ?_
    rintro e w' ⟨a2, c2, vs2, rfl, hnest, y2, rfl⟩
    have hsy2 := y2.bel.size
    (try simp only [World.size_alloc, World.size_setCell, World.size_drew] at hsy2)
    have H2 := Lib.hid hnest
    clear hnest
    go_wp2_with fail
    refine bodyPost_ret (by simp [results, Tryz.results39, go_sem, ↓IntWalk.iteOmega, *]; try rfl) rfl ?_
    refine RetNest.mk' rfl (Nest.nil _ _ _) ?_
    (repeat (first | (with_reducible exact Below.refl _ _) | (with_reducible assumption) | (with_reducible refine Later.out _ ?_) | (with_reducible refine bel_alloc ?_ _) | (with_reducible refine bel_drew ?_) | (with_reducible refine bel_drewN ?_ _) | (with_reducible refine bel_set ?_ ?_ _) | (with_reducible refine After.out _ ?_ ?_) | (dsimp only; omega) | omega | (simp only [World.size_alloc, World.size_setCell, World.size_drew]; omega)))
  · rw [if_neg h60, if_neg h60]
    have h61 : ¬ (60 : Int) < (R.length : Int) := by omega
    replace CT := Lib.hid CT.out
    replace hr := Lib.hid hr
    replace hRx := Lib.hid hRx
    clear ok h1 hx
    go_enter Tryz.func39, Tryz.ntmps39
    go_wp2_with fail
    with_reducible refine (C1.out).mono ?_
    rintro e w' ⟨rfl, y1, rfl⟩
    have hsy1 := y1.bel.size
    (try simp only [World.size_alloc, World.size_setCell, World.size_drew] at hsy1)
    go_wp2_with fail
    with_reducible refine (CT.out _ (hr.out.bel (by (repeat (first | (with_reducible exact Below.refl _ _) | (with_reducible assumption) | (with_reducible refine Later.out _ ?_) | (with_reducible refine bel_alloc ?_ _) | (with_reducible refine bel_drew ?_) | (with_reducible refine bel_drewN ?_ _) | (with_reducible refine bel_set ?_ ?_ _) | (with_reducible refine After.out _ ?_ ?_) | (dsimp only; omega) | omega | (simp only [World.size_alloc, World.size_setCell, World.size_drew]; omega)))))).mono ?_
    rintro e w' ⟨a2, c2, vs2, rfl, hnest, y2, rfl⟩
    have hsy2 := y2.bel.size
    (try simp only [World.size_alloc, World.size_setCell, World.size_drew] at hsy2)
    have H2 := Lib.hid hnest
    clear hnest
    go_wp2_with fail
    refine bodyPost_ret (by simp [results, Tryz.results39, go_sem, ↓IntWalk.iteOmega, *]; try rfl) rfl ?_
    refine RetNest.mk' rfl (H2.out.mono (by ((try simp only [World.size_alloc, World.size_setCell, World.size_drew]); omega)) (Nat.le_refl _)) ?_
    (repeat (first | (with_reducible exact Below.refl _ _) | (with_reducible assumption) | (with_reducible refine Later.out _ ?_) | (with_reducible refine bel_alloc ?_ _) | (with_reducible refine bel_drew ?_) | (with_reducible refine bel_drewN ?_ _) | (with_reducible refine bel_set ?_ ?_ _) | (with_reducible refine After.out _ ?_ ?_) | (dsimp only; omega) | omega | (simp only [World.size_alloc, World.size_setCell, World.size_drew]; omega)))
set_option maxRecDepth 8000 in
set_option maxHeartbeats 4000000 in
theorem crs_spec : Calls Tryz.prog 38 #[.slice a n c] w (RetNest w (crsR L) fun v => .tuple #[v, .int .i64 (crsK L)]) := by
  cases h1 : claimsB L
  · rw [show crsR L = [] by simp [crsR, h1], show crsK L = 1 by simp [crsK, h1]]
    have C1 := Lib.hid (sAreClaims_b (c := c) hn hm hr ok h1)
    clear ok h1 hn hr
    go_enter Tryz.func38, Tryz.ntmps38
    go_wp2_with fail
    with_reducible refine (C1.out).mono ?_
    rintro e w' ⟨rfl, y1, rfl⟩
    have hsy1 := y1.bel.size
    (try simp only [World.size_alloc, World.size_setCell, World.size_drew] at hsy1)
    go_wp2_with fail
    refine bodyPost_ret (by simp [results, Tryz.results38, go_sem, ↓IntWalk.iteOmega, *]; try rfl) rfl ?_
    refine RetNest.mk' rfl (Nest.nil _ _ _) ?_
    (repeat (first | (with_reducible exact Below.refl _ _) | (with_reducible assumption) | (with_reducible refine Later.out _ ?_) | (with_reducible refine bel_alloc ?_ _) | (with_reducible refine bel_drew ?_) | (with_reducible refine bel_drewN ?_ _) | (with_reducible refine bel_set ?_ ?_ _) | (with_reducible refine After.out _ ?_ ?_) | (dsimp only; omega) | omega | (simp only [World.size_alloc, World.size_setCell, World.size_drew]; omega)))
  have h12 := len_of_claims h1
  have C1 := Lib.hid (sAreClaims_b (c := c) hn hm hr ok h1)
  subst hn
  have CT := Lib.hid (fun lo a2 c2 (w : World) hr hlo ho => sCores_any L a L.length c rfl h12 (named_of fun c hc => claim_of_claims h1 hc) (L.length + 1) [] (ixs_nil _) (by omega) lo a2 0 c2 w rfl hr hlo ho)
  have hRx : ∀ T ∈ minZ (coreG L) L.length [], Ixs L.length T := fun T hT => ((mem_minZ (coreG_mono L) (ixs_nil _) T).1 hT).1
  have hRl := minZ_small (coreG L) h12 []
  obtain ⟨R, hR⟩ : ∃ R, minZ (coreG L) L.length [] = R := ⟨_, rfl⟩
  have eR : crsR L = if 60 < R.length then [] else R := by simp [crsR, h1, hR]
  have eK : crsK L = if 60 < R.length then 3 else 0 := by simp [crsK, h1, hR]
  rw [eR, eK]
  rw [hR] at hRx hRl
  simp only [hR] at CT
  clear eR eK hR
  by_cases h60 : 60 < R.length
  · rw [if_pos h60, if_pos h60]
    have h61 : (60 : Int) < (R.length : Int) := by omega
    replace CT := Lib.hid CT.out
    replace hr := Lib.hid hr
    replace hRx := Lib.hid hRx
    clear ok h1
    go_enter Tryz.func38, Tryz.ntmps38
    go_wp2_with fail
    with_reducible refine (C1.out).mono ?_
    rintro e w' ⟨rfl, y1, rfl⟩
    have hsy1 := y1.bel.size
    (try simp only [World.size_alloc, World.size_setCell, World.size_drew] at hsy1)
    go_wp2_with fail
    with_reducible refine (CT.out y1.w.heap.size _ _ _ (hr.out.bel (by (repeat (first | (with_reducible exact Below.refl _ _) | (with_reducible assumption) | (with_reducible refine Later.out _ ?_) | (with_reducible refine bel_alloc ?_ _) | (with_reducible refine bel_drew ?_) | (with_reducible refine bel_drewN ?_ _) | (with_reducible refine bel_set ?_ ?_ _) | (with_reducible refine After.out _ ?_ ?_) | (dsimp only; omega) | omega | (simp only [World.size_alloc, World.size_setCell, World.size_drew]; omega))))) (by ((try simp only [World.size_alloc, World.size_setCell, World.size_drew]); omega)) (Owns.of (World.ownsRow_lit (base := y1.w.heap.size) (e := 2) (size := 1) y1.w #[] 0 (Nat.le_refl _) (by unfold maxLen; omega) rfl))).mono ?_
    rintro e w' ⟨a2, c2, vs2, rfl, hnest, y2, rfl⟩
    have hsy2 := y2.bel.size
    (try simp only [World.size_alloc, World.size_setCell, World.size_drew] at hsy2)
    have H2 := Lib.hid hnest
    clear hnest
    go_wp2_with fail
    refine bodyPost_ret (by simp [results, Tryz.results38, go_sem, ↓IntWalk.iteOmega, *]; try rfl) rfl ?_
    refine RetNest.mk' rfl (Nest.nil _ _ _) ?_
    (repeat (first | (with_reducible exact Below.refl _ _) | (with_reducible assumption) | (with_reducible refine Later.out _ ?_) | (with_reducible refine bel_alloc ?_ _) | (with_reducible refine bel_drew ?_) | (with_reducible refine bel_drewN ?_ _) | (with_reducible refine bel_set ?_ ?_ _) | (with_reducible refine After.out _ ?_ ?_) | (dsimp only; omega) | omega | (simp only [World.size_alloc, World.size_setCell, World.size_drew]; omega)))
  · rw [if_neg h60, if_neg h60]
    have h61 : ¬ (60 : Int) < (R.length : Int) := by omega
    replace CT := Lib.hid CT.out
    replace hr := Lib.hid hr
    replace hRx := Lib.hid hRx
    clear ok h1
    go_enter Tryz.func38, Tryz.ntmps38
    go_wp2_with fail
    with_reducible refine (C1.out).mono ?_
    rintro e w' ⟨rfl, y1, rfl⟩
    have hsy1 := y1.bel.size
    (try simp only [World.size_alloc, World.size_setCell, World.size_drew] at hsy1)
    go_wp2_with fail
    with_reducible refine (CT.out y1.w.heap.size _ _ _ (hr.out.bel (by (repeat (first | (with_reducible exact Below.refl _ _) | (with_reducible assumption) | (with_reducible refine Later.out _ ?_) | (with_reducible refine bel_alloc ?_ _) | (with_reducible refine bel_drew ?_) | (with_reducible refine bel_drewN ?_ _) | (with_reducible refine bel_set ?_ ?_ _) | (with_reducible refine After.out _ ?_ ?_) | (dsimp only; omega) | omega | (simp only [World.size_alloc, World.size_setCell, World.size_drew]; omega))))) (by ((try simp only [World.size_alloc, World.size_setCell, World.size_drew]); omega)) (Owns.of (World.ownsRow_lit (base := y1.w.heap.size) (e := 2) (size := 1) y1.w #[] 0 (Nat.le_refl _) (by unfold maxLen; omega) rfl))).mono ?_
    rintro e w' ⟨a2, c2, vs2, rfl, hnest, y2, rfl⟩
    have hsy2 := y2.bel.size
    (try simp only [World.size_alloc, World.size_setCell, World.size_drew] at hsy2)
    have H2 := Lib.hid hnest
    clear hnest
    go_wp2_with fail
    refine bodyPost_ret (by simp [results, Tryz.results38, go_sem, ↓IntWalk.iteOmega, *]; try rfl) rfl ?_
    refine RetNest.mk' rfl (H2.out.mono (by ((try simp only [World.size_alloc, World.size_setCell, World.size_drew]); omega)) (Nat.le_refl _)) ?_
    (repeat (first | (with_reducible exact Below.refl _ _) | (with_reducible assumption) | (with_reducible refine Later.out _ ?_) | (with_reducible refine bel_alloc ?_ _) | (with_reducible refine bel_drew ?_) | (with_reducible refine bel_drewN ?_ _) | (with_reducible refine bel_set ?_ ?_ _) | (with_reducible refine After.out _ ?_ ?_) | (dsimp only; omega) | omega | (simp only [World.size_alloc, World.size_setCell, World.size_drew]; omega)))
end
noncomputable def mrsR (L : List Clm) : List (List Int) := if claimsB L then (if 60 < (minZ (repG L) L.length []).length then [] else minZ (repG L) L.length []) else []
noncomputable def mrsK (L : List Clm) : Int := if claimsB L then (if 60 < (minZ (repG L) L.length []).length then 3 else 0) else 1
theorem mrsR_len (L : List Clm) {n : Nat} (hn : L.length = n) (hm : n ≤ 1048576) : (mrsR L).length ≤ 1048576 := by
  unfold mrsR
  split
  · split
    · simp
    · omega
  · simp
theorem mrsR_el (L : List Clm) : ∀ l ∈ mrsR L, l.length ≤ 1000 := by
  intro l hl
  unfold mrsR at hl
  split at hl
  · rename_i h
    have h12 := len_of_claims h
    split at hl
    · simp at hl
    · have := ixs_len ((mem_minZ (repG_mono L) (ixs_nil _) l).1 hl).1
      omega
  · simp at hl
section
variable (L : List Clm) (a : Option Addr) (n c : Nat) (w : World) (hn : L.length = n) (hm : n ≤ 1048576) (hr : Row w a (clmsCells L)) (ok : ∀ c ∈ L, ClmOk c)
include hn hm hr ok
set_option maxRecDepth 8000 in
set_option maxHeartbeats 4000000 in
theorem mrs_impl (hx : Max w) : Calls Tryz.prog 48 #[.slice a n c] w (RetNest w (mrsR L) fun v => .tuple #[v, .int .i64 (mrsK L)]) := by
  cases h1 : claimsB L
  · rw [show mrsR L = [] by simp [mrsR, h1], show mrsK L = 1 by simp [mrsK, h1]]
    have C1 := Lib.hid (areClaims_b (c := c) hn hm hr ok hx h1)
    clear ok h1 hn hr hx
    go_enter Tryz.func48, Tryz.ntmps48
    go_wp2_with fail
    with_reducible refine (C1.out).mono ?_
    rintro e w' ⟨rfl, y1, rfl⟩
    have hsy1 := y1.bel.size
    (try simp only [World.size_alloc, World.size_setCell, World.size_drew] at hsy1)
    go_wp2_with fail
    refine bodyPost_ret (by simp [results, Tryz.results48, go_sem, ↓IntWalk.iteOmega, *]; try rfl) rfl ?_
    refine RetNest.mk' rfl (Nest.nil _ _ _) ?_
    (repeat (first | (with_reducible exact Below.refl _ _) | (with_reducible assumption) | (with_reducible refine Later.out _ ?_) | (with_reducible refine bel_alloc ?_ _) | (with_reducible refine bel_drew ?_) | (with_reducible refine bel_drewN ?_ _) | (with_reducible refine bel_set ?_ ?_ _) | (with_reducible refine After.out _ ?_ ?_) | (dsimp only; omega) | omega | (simp only [World.size_alloc, World.size_setCell, World.size_drew]; omega)))
  have h12 := len_of_claims h1
  have C1 := Lib.hid (areClaims_b (c := c) hn hm hr ok hx h1)
  subst hn
  have CT := Lib.hid (fun (w : World) hr => minimalRepairs_any L a L.length c w rfl h12 hr)
  have hRx : ∀ T ∈ minZ (repG L) L.length [], Ixs L.length T := fun T hT => ((mem_minZ (repG_mono L) (ixs_nil _) T).1 hT).1
  have hRl := minZ_small (repG L) h12 []
  obtain ⟨R, hR⟩ : ∃ R, minZ (repG L) L.length [] = R := ⟨_, rfl⟩
  have eR : mrsR L = if 60 < R.length then [] else R := by simp [mrsR, h1, hR]
  have eK : mrsK L = if 60 < R.length then 3 else 0 := by simp [mrsK, h1, hR]
  rw [eR, eK]
  rw [hR] at hRx hRl
  simp only [hR] at CT
  clear eR eK hR
  by_cases h60 : 60 < R.length
  · rw [if_pos h60, if_pos h60]
    have h61 : (60 : Int) < (R.length : Int) := by omega
    replace CT := Lib.hid CT.out
    replace hr := Lib.hid hr
    replace hRx := Lib.hid hRx
    clear ok h1 hx
    go_enter Tryz.func48, Tryz.ntmps48
    go_wp2_with fail
    with_reducible refine (C1.out).mono ?_
    rintro e w' ⟨rfl, y1, rfl⟩
    have hsy1 := y1.bel.size
    (try simp only [World.size_alloc, World.size_setCell, World.size_drew] at hsy1)
    go_wp2_with fail
    with_reducible refine (CT.out _ (hr.out.bel (by (repeat (first | (with_reducible exact Below.refl _ _) | (with_reducible assumption) | (with_reducible refine Later.out _ ?_) | (with_reducible refine bel_alloc ?_ _) | (with_reducible refine bel_drew ?_) | (with_reducible refine bel_drewN ?_ _) | (with_reducible refine bel_set ?_ ?_ _) | (with_reducible refine After.out _ ?_ ?_) | (dsimp only; omega) | omega | (simp only [World.size_alloc, World.size_setCell, World.size_drew]; omega)))))).mono ?_
    rintro e w' ⟨a2, c2, vs2, rfl, hnest, y2, rfl⟩
    have hsy2 := y2.bel.size
    (try simp only [World.size_alloc, World.size_setCell, World.size_drew] at hsy2)
    have H2 := Lib.hid hnest
    clear hnest
    go_wp2_with fail
    refine bodyPost_ret (by simp [results, Tryz.results48, go_sem, ↓IntWalk.iteOmega, *]; try rfl) rfl ?_
    refine RetNest.mk' rfl (Nest.nil _ _ _) ?_
    (repeat (first | (with_reducible exact Below.refl _ _) | (with_reducible assumption) | (with_reducible refine Later.out _ ?_) | (with_reducible refine bel_alloc ?_ _) | (with_reducible refine bel_drew ?_) | (with_reducible refine bel_drewN ?_ _) | (with_reducible refine bel_set ?_ ?_ _) | (with_reducible refine After.out _ ?_ ?_) | (dsimp only; omega) | omega | (simp only [World.size_alloc, World.size_setCell, World.size_drew]; omega)))
  · rw [if_neg h60, if_neg h60]
    have h61 : ¬ (60 : Int) < (R.length : Int) := by omega
    replace CT := Lib.hid CT.out
    replace hr := Lib.hid hr
    replace hRx := Lib.hid hRx
    clear ok h1 hx
    go_enter Tryz.func48, Tryz.ntmps48
    go_wp2_with fail
    with_reducible refine (C1.out).mono ?_
    rintro e w' ⟨rfl, y1, rfl⟩
    have hsy1 := y1.bel.size
    (try simp only [World.size_alloc, World.size_setCell, World.size_drew] at hsy1)
    go_wp2_with fail
    with_reducible refine (CT.out _ (hr.out.bel (by (repeat (first | (with_reducible exact Below.refl _ _) | (with_reducible assumption) | (with_reducible refine Later.out _ ?_) | (with_reducible refine bel_alloc ?_ _) | (with_reducible refine bel_drew ?_) | (with_reducible refine bel_drewN ?_ _) | (with_reducible refine bel_set ?_ ?_ _) | (with_reducible refine After.out _ ?_ ?_) | (dsimp only; omega) | omega | (simp only [World.size_alloc, World.size_setCell, World.size_drew]; omega)))))).mono ?_
    rintro e w' ⟨a2, c2, vs2, rfl, hnest, y2, rfl⟩
    have hsy2 := y2.bel.size
    (try simp only [World.size_alloc, World.size_setCell, World.size_drew] at hsy2)
    have H2 := Lib.hid hnest
    clear hnest
    go_wp2_with fail
    refine bodyPost_ret (by simp [results, Tryz.results48, go_sem, ↓IntWalk.iteOmega, *]; try rfl) rfl ?_
    refine RetNest.mk' rfl (H2.out.mono (by ((try simp only [World.size_alloc, World.size_setCell, World.size_drew]); omega)) (Nat.le_refl _)) ?_
    (repeat (first | (with_reducible exact Below.refl _ _) | (with_reducible assumption) | (with_reducible refine Later.out _ ?_) | (with_reducible refine bel_alloc ?_ _) | (with_reducible refine bel_drew ?_) | (with_reducible refine bel_drewN ?_ _) | (with_reducible refine bel_set ?_ ?_ _) | (with_reducible refine After.out _ ?_ ?_) | (dsimp only; omega) | omega | (simp only [World.size_alloc, World.size_setCell, World.size_drew]; omega)))
set_option maxRecDepth 8000 in
set_option maxHeartbeats 4000000 in
theorem mrs_spec : Calls Tryz.prog 47 #[.slice a n c] w (RetNest w (mrsR L) fun v => .tuple #[v, .int .i64 (mrsK L)]) := by
  cases h1 : claimsB L
  · rw [show mrsR L = [] by simp [mrsR, h1], show mrsK L = 1 by simp [mrsK, h1]]
    have C1 := Lib.hid (sAreClaims_b (c := c) hn hm hr ok h1)
    clear ok h1 hn hr
    go_enter Tryz.func47, Tryz.ntmps47
    go_wp2_with fail
    with_reducible refine (C1.out).mono ?_
    rintro e w' ⟨rfl, y1, rfl⟩
    have hsy1 := y1.bel.size
    (try simp only [World.size_alloc, World.size_setCell, World.size_drew] at hsy1)
    go_wp2_with fail
    refine bodyPost_ret (by simp [results, Tryz.results47, go_sem, ↓IntWalk.iteOmega, *]; try rfl) rfl ?_
    refine RetNest.mk' rfl (Nest.nil _ _ _) ?_
    (repeat (first | (with_reducible exact Below.refl _ _) | (with_reducible assumption) | (with_reducible refine Later.out _ ?_) | (with_reducible refine bel_alloc ?_ _) | (with_reducible refine bel_drew ?_) | (with_reducible refine bel_drewN ?_ _) | (with_reducible refine bel_set ?_ ?_ _) | (with_reducible refine After.out _ ?_ ?_) | (dsimp only; omega) | omega | (simp only [World.size_alloc, World.size_setCell, World.size_drew]; omega)))
  have h12 := len_of_claims h1
  have C1 := Lib.hid (sAreClaims_b (c := c) hn hm hr ok h1)
  subst hn
  have CT := Lib.hid (fun lo a2 c2 (w : World) hr hlo ho => sRepairs_any L a L.length c rfl h12 (named_of fun c hc => claim_of_claims h1 hc) (L.length + 1) [] (ixs_nil _) (by omega) lo a2 0 c2 w rfl hr hlo ho)
  have hRx : ∀ T ∈ minZ (repG L) L.length [], Ixs L.length T := fun T hT => ((mem_minZ (repG_mono L) (ixs_nil _) T).1 hT).1
  have hRl := minZ_small (repG L) h12 []
  obtain ⟨R, hR⟩ : ∃ R, minZ (repG L) L.length [] = R := ⟨_, rfl⟩
  have eR : mrsR L = if 60 < R.length then [] else R := by simp [mrsR, h1, hR]
  have eK : mrsK L = if 60 < R.length then 3 else 0 := by simp [mrsK, h1, hR]
  rw [eR, eK]
  rw [hR] at hRx hRl
  simp only [hR] at CT
  clear eR eK hR
  by_cases h60 : 60 < R.length
  · rw [if_pos h60, if_pos h60]
    have h61 : (60 : Int) < (R.length : Int) := by omega
    replace CT := Lib.hid CT.out
    replace hr := Lib.hid hr
    replace hRx := Lib.hid hRx
    clear ok h1
    go_enter Tryz.func47, Tryz.ntmps47
    go_wp2_with fail
    with_reducible refine (C1.out).mono ?_
    rintro e w' ⟨rfl, y1, rfl⟩
    have hsy1 := y1.bel.size
    (try simp only [World.size_alloc, World.size_setCell, World.size_drew] at hsy1)
    go_wp2_with fail
    with_reducible refine (CT.out y1.w.heap.size _ _ _ (hr.out.bel (by (repeat (first | (with_reducible exact Below.refl _ _) | (with_reducible assumption) | (with_reducible refine Later.out _ ?_) | (with_reducible refine bel_alloc ?_ _) | (with_reducible refine bel_drew ?_) | (with_reducible refine bel_drewN ?_ _) | (with_reducible refine bel_set ?_ ?_ _) | (with_reducible refine After.out _ ?_ ?_) | (dsimp only; omega) | omega | (simp only [World.size_alloc, World.size_setCell, World.size_drew]; omega))))) (by ((try simp only [World.size_alloc, World.size_setCell, World.size_drew]); omega)) (Owns.of (World.ownsRow_lit (base := y1.w.heap.size) (e := 2) (size := 1) y1.w #[] 0 (Nat.le_refl _) (by unfold maxLen; omega) rfl))).mono ?_
    rintro e w' ⟨a2, c2, vs2, rfl, hnest, y2, rfl⟩
    have hsy2 := y2.bel.size
    (try simp only [World.size_alloc, World.size_setCell, World.size_drew] at hsy2)
    have H2 := Lib.hid hnest
    clear hnest
    go_wp2_with fail
    refine bodyPost_ret (by simp [results, Tryz.results47, go_sem, ↓IntWalk.iteOmega, *]; try rfl) rfl ?_
    refine RetNest.mk' rfl (Nest.nil _ _ _) ?_
    (repeat (first | (with_reducible exact Below.refl _ _) | (with_reducible assumption) | (with_reducible refine Later.out _ ?_) | (with_reducible refine bel_alloc ?_ _) | (with_reducible refine bel_drew ?_) | (with_reducible refine bel_drewN ?_ _) | (with_reducible refine bel_set ?_ ?_ _) | (with_reducible refine After.out _ ?_ ?_) | (dsimp only; omega) | omega | (simp only [World.size_alloc, World.size_setCell, World.size_drew]; omega)))
  · rw [if_neg h60, if_neg h60]
    have h61 : ¬ (60 : Int) < (R.length : Int) := by omega
    replace CT := Lib.hid CT.out
    replace hr := Lib.hid hr
    replace hRx := Lib.hid hRx
    clear ok h1
    go_enter Tryz.func47, Tryz.ntmps47
    go_wp2_with fail
    with_reducible refine (C1.out).mono ?_
    rintro e w' ⟨rfl, y1, rfl⟩
    have hsy1 := y1.bel.size
    (try simp only [World.size_alloc, World.size_setCell, World.size_drew] at hsy1)
    go_wp2_with fail
    with_reducible refine (CT.out y1.w.heap.size _ _ _ (hr.out.bel (by (repeat (first | (with_reducible exact Below.refl _ _) | (with_reducible assumption) | (with_reducible refine Later.out _ ?_) | (with_reducible refine bel_alloc ?_ _) | (with_reducible refine bel_drew ?_) | (with_reducible refine bel_drewN ?_ _) | (with_reducible refine bel_set ?_ ?_ _) | (with_reducible refine After.out _ ?_ ?_) | (dsimp only; omega) | omega | (simp only [World.size_alloc, World.size_setCell, World.size_drew]; omega))))) (by ((try simp only [World.size_alloc, World.size_setCell, World.size_drew]); omega)) (Owns.of (World.ownsRow_lit (base := y1.w.heap.size) (e := 2) (size := 1) y1.w #[] 0 (Nat.le_refl _) (by unfold maxLen; omega) rfl))).mono ?_
    rintro e w' ⟨a2, c2, vs2, rfl, hnest, y2, rfl⟩
    have hsy2 := y2.bel.size
    (try simp only [World.size_alloc, World.size_setCell, World.size_drew] at hsy2)
    have H2 := Lib.hid hnest
    clear hnest
    go_wp2_with fail
    refine bodyPost_ret (by simp [results, Tryz.results47, go_sem, ↓IntWalk.iteOmega, *]; try rfl) rfl ?_
    refine RetNest.mk' rfl (H2.out.mono (by ((try simp only [World.size_alloc, World.size_setCell, World.size_drew]); omega)) (Nat.le_refl _)) ?_
    (repeat (first | (with_reducible exact Below.refl _ _) | (with_reducible assumption) | (with_reducible refine Later.out _ ?_) | (with_reducible refine bel_alloc ?_ _) | (with_reducible refine bel_drew ?_) | (with_reducible refine bel_drewN ?_ _) | (with_reducible refine bel_set ?_ ?_ _) | (with_reducible refine After.out _ ?_ ?_) | (dsimp only; omega) | omega | (simp only [World.size_alloc, World.size_setCell, World.size_drew]; omega)))
end
end Go.Proofs.YtcpddgkloeklaaaGreatDoor

/- slices.MinFunc over slices of numbers, cmp.Compare, cmp.Or. -/
set_option linter.unusedSimpArgs false
set_option linter.unusedVariables false
namespace Go.Proofs.YtcpddgkloeklaaaGreatDoor
open Go.RowKit
/-- Slices of slices of numbers, with the values that hold them. -/
structure RowsV (w : World) (a : Option Addr) (S : List (List Int)) (vs : List Value) : Prop where
  len : vs.length = S.length
  row : Row w a vs
  at_ : ∀ i (h : i < S.length), ∃ ai ci, vs[i]? = some (.slice ai S[i].length ci) ∧ Row w ai (intCells S[i])
theorem Nest.rowsV {w : World} {lo hi : Nat} {a : Option Addr} {n c : Nat} {S : List (List Int)} {vs : List Value} (h : Nest w lo hi a n c S vs) : RowsV w a S vs :=
  ⟨by rw [h.vlen, h.len], h.own.row, fun i hi => by
    obtain ⟨ai, ci, h1, h2⟩ := h.at_ i hi
    exact ⟨ai, ci, h1, h2.row⟩⟩
theorem RowsV.bel {w w' : World} {a : Option Addr} {S : List (List Int)} {vs : List Value} (h : RowsV w a S vs) (hb : Below w.heap.size w w') : RowsV w' a S vs :=
  ⟨h.len, h.row.bel hb, fun i hi => by
    obtain ⟨ai, ci, h4, h5⟩ := h.at_ i hi
    exact ⟨ai, ci, h4, h5.bel hb⟩⟩
theorem RowsV.get {w : World} {a : Option Addr} {S : List (List Int)} {vs : List Value} (h : RowsV w a S vs) {k : Nat} (hk : k < S.length) :
    ∃ b o ai ci, a = some ⟨b, o, none⟩ ∧ b < w.heap.size ∧ w.cell? ⟨b, o + k, none⟩ = some (.slice ai (atL S k).length ci) ∧ atV vs k = .slice ai (atL S k).length ci ∧ Row w ai (intCells (atL S k)) := by
  obtain ⟨ai, ci, h4, h5⟩ := h.at_ k hk
  obtain ⟨b, o, rfl, hc⟩ := h.row k _ h4
  have e : atL S k = S[k] := by unfold atL; rw [getD_at hk]
  rw [e]
  exact ⟨b, o, ai, ci, rfl, World.block_lt_of_cell? w _ hc, hc, by unfold atV; rw [List.getD_eq_getElem?_getD, h4]; rfl, h5⟩
theorem atL_mem {S : List (List Int)} {k : Nat} (hk : k < S.length) : atL S k ∈ S := by
  unfold atL
  rw [getD_at hk]
  exact List.getElem_mem hk
/-- What a function value must do for two of a table's lists: compare them, whenever it is called later. -/
def TellsC (g : Nat) (lb : Array Value) (cf : List Int → List Int → Int) (S : List (List Int)) (w : World) : Prop :=
  ∀ x ∈ S, ∀ y ∈ S, ∀ (ax : Option Addr) (cx : Nat) (ay : Option Addr) (cy : Nat) (w' : World), Below w.heap.size w w' → Row w' ax (intCells x) → Row w' ay (intCells y) →
    Calls Tryz.prog g (#[.slice ax x.length cx, .slice ay y.length cy] ++ lb) w' (Ret w' (.int .i64 (cf x y)))
def ltC (cf : List Int → List Int → Int) (x y : List Int) : Bool := decide (cf x y < 0)
set_option maxRecDepth 8000 in
set_option maxHeartbeats 2000000 in
theorem minFunc_any (g : Nat) (lb : Array Value) (cf : List Int → List Int → Int) (S : List (List Int)) (vs : List Value) (a : Option Addr) (n c : Nat) (w : World) (eg : ∀ args w, (callFunc g args).run Tryz.prog w = .ok (.enter g args) w)
    (hn : S.length = n) (h0 : 0 < n) (hm : n ≤ 1048576) (hr : RowsV w a S vs) (hp : TellsC g lb cf S w) :
    Calls Tryz.prog 81 #[.slice a n c, .func (.func g) #[] lb] w (Ret w (atV vs (minI (ltC cf) S (n - 1)))) := by
  subst hn
  obtain ⟨b, o, ai0, ci0, rfl, hb, hc0, e0, r0⟩ := hr.get h0
  rw [Nat.add_zero] at hc0
  replace e0 := Lib.hid e0
  replace hr := Lib.hid hr
  replace hp := Lib.hid hp
  have EG := Lib.hid eg
  go_enter Tryz.func81, Tryz.ntmps81
  go_wp2_with fail
  go_loopw [5, 6] (fun m i wr => ∃ k : Nat, k < S.length ∧ m = atV vs (minI (ltC cf) S k) ∧ i = .int .i64 ((k + 1 : Nat) : Int) ∧ ∃ z : Later w, wr = z.w) (fun _ i _ => S.length - (intOf i).toNat)
  case atStart => exact ⟨0, h0, e0.out.symm, rfl, LaterC.mk (by (repeat (first | (with_reducible exact Below.refl _ _) | (with_reducible assumption) | (with_reducible refine Later.out _ ?_) | (with_reducible refine bel_alloc ?_ _) | (with_reducible refine bel_drew ?_) | (with_reducible refine bel_drewN ?_ _) | (with_reducible refine bel_set ?_ ?_ _) | (with_reducible refine After.out _ ?_ ?_) | (dsimp only; omega) | omega | (simp only [World.size_alloc, World.size_setCell, World.size_drew]; omega))))⟩
  case round =>
    obtain ⟨k, hk, rfl, rfl, z, rfl⟩ := hrel
    have hzz := z.bel.size
    have hle := minI_le (ltC cf) S k
    obtain ⟨_, _, am, cm, -, -, -, em, rm⟩ := hr.out.get (k := minI (ltC cf) S k) (by omega)
    rw [em]
    obtain ⟨q, hq⟩ : ∃ q : Nat, k + 1 = q := ⟨_, rfl⟩
    rw [hq]
    by_cases hlt : q < S.length
    · have hi1 : (q : Int) < (S.length : Int) := by omega
      obtain ⟨b', o', ai, ci, eb, -, hc, e2, r2⟩ := hr.out.get hlt
      cases eb
      have hX := hp.out (atL S q) (atL_mem hlt) (atL S (minI (ltC cf) S k)) (atL_mem (by omega)) ai ci am cm z.w z.bel (r2.bel z.bel) (rm.bel z.bel)
      have hY : ltC cf (atL S q) (atL S (minI (ltC cf) S k)) = decide (cf (atL S q) (atL S (minI (ltC cf) S k)) < 0) := rfl
      obtain ⟨v, hv⟩ : ∃ v, cf (atL S q) (atL S (minI (ltC cf) S k)) = v := ⟨_, rfl⟩
      rw [hv] at hX hY
      replace hX := Lib.hid hX
      by_cases hneg : v < 0
      · have X := Lib.hid (show minI (ltC cf) S q = q by rw [← hq]; refine minI_yes ?_; rw [hq]; show ltC cf (atL S q) (atL S (minI (ltC cf) S k)) = true; rw [hY]; exact decide_eq_true hneg)
        replace e2 := Lib.hid e2
        clear hY hv em
        go_wp2_with (go_at_fn g; (with_reducible refine hX.out.mono ?_); rintro e w' ⟨rfl, y1, rfl⟩)
        go_roundw
        case rel => exact ⟨q, hlt, by rw [X.out]; exact e2.out.symm, by go_num, LaterC.mk (by (repeat (first | (with_reducible exact Below.refl _ _) | (with_reducible assumption) | (with_reducible refine Later.out _ ?_) | (with_reducible refine bel_alloc ?_ _) | (with_reducible refine bel_drew ?_) | (with_reducible refine bel_drewN ?_ _) | (with_reducible refine bel_set ?_ ?_ _) | (with_reducible refine After.out _ ?_ ?_) | (dsimp only; omega) | omega | (simp only [World.size_alloc, World.size_setCell, World.size_drew]; omega))))⟩
        case measure => first | (simp [intOf]; done) | (simp [intOf]; omega) | omega
      · have X := Lib.hid (show minI (ltC cf) S q = minI (ltC cf) S k by rw [← hq]; refine minI_no ?_; rw [hq]; show ltC cf (atL S q) (atL S (minI (ltC cf) S k)) = false; rw [hY]; exact decide_eq_false hneg)
        replace em := Lib.hid em
        clear hY hv e2
        go_wp2_with (go_at_fn g; (with_reducible refine hX.out.mono ?_); rintro e w' ⟨rfl, y1, rfl⟩)
        go_roundw
        case rel => exact ⟨q, hlt, by rw [X.out]; exact em.out.symm, by go_num, LaterC.mk (by (repeat (first | (with_reducible exact Below.refl _ _) | (with_reducible assumption) | (with_reducible refine Later.out _ ?_) | (with_reducible refine bel_alloc ?_ _) | (with_reducible refine bel_drew ?_) | (with_reducible refine bel_drewN ?_ _) | (with_reducible refine bel_set ?_ ?_ _) | (with_reducible refine After.out _ ?_ ?_) | (dsimp only; omega) | omega | (simp only [World.size_alloc, World.size_setCell, World.size_drew]; omega))))⟩
        case measure => first | (simp [intOf]; done) | (simp [intOf]; omega) | omega
    · obtain rfl : k = S.length - 1 := by omega
      replace em := Lib.hid em
      go_wp2_with fail
      go_ret
      exact .mk (by rw [em.out]; rfl) (by (repeat (first | (with_reducible exact Below.refl _ _) | (with_reducible assumption) | (with_reducible refine Later.out _ ?_) | (with_reducible refine bel_alloc ?_ _) | (with_reducible refine bel_drew ?_) | (with_reducible refine bel_drewN ?_ _) | (with_reducible refine bel_set ?_ ?_ _) | (with_reducible refine After.out _ ?_ ?_) | (dsimp only; omega) | omega | (simp only [World.size_alloc, World.size_setCell, World.size_drew]; omega))))
theorem cmpZ_lt {x y : Int} (h : x < y) : cmpZ x y = -1 := if_pos h
theorem cmpZ_gt {x y : Int} (h : y < x) : cmpZ x y = 1 := by unfold cmpZ; rw [if_neg (by omega), if_pos h]
theorem cmpZ_eq {x y : Int} (h : x = y) : cmpZ x y = 0 := by unfold cmpZ; rw [if_neg (by omega), if_neg (by omega)]
set_option maxHeartbeats 1000000 in
theorem cmpInt_any (x y : Int) (w : World) : Calls Tryz.prog 84 #[.int .i64 x, .int .i64 y] w (Ret w (.int .i64 (cmpZ x y))) := by
  rcases Int.lt_trichotomy x y with h | h | h
  · rw [cmpZ_lt h]
    go_enter Tryz.func84, Tryz.ntmps84
    go_wp2_with go_in
    go_ret
    exact .mk rfl (by (repeat (first | (with_reducible exact Below.refl _ _) | (with_reducible assumption) | (with_reducible refine Later.out _ ?_) | (with_reducible refine bel_alloc ?_ _) | (with_reducible refine bel_drew ?_) | (with_reducible refine bel_drewN ?_ _) | (with_reducible refine bel_set ?_ ?_ _) | (with_reducible refine After.out _ ?_ ?_) | (dsimp only; omega) | omega | (simp only [World.size_alloc, World.size_setCell, World.size_drew]; omega))))
  · rw [cmpZ_eq h]
    subst h
    go_enter Tryz.func84, Tryz.ntmps84
    go_wp2_with go_in
    go_ret
    exact .mk rfl (by (repeat (first | (with_reducible exact Below.refl _ _) | (with_reducible assumption) | (with_reducible refine Later.out _ ?_) | (with_reducible refine bel_alloc ?_ _) | (with_reducible refine bel_drew ?_) | (with_reducible refine bel_drewN ?_ _) | (with_reducible refine bel_set ?_ ?_ _) | (with_reducible refine After.out _ ?_ ?_) | (dsimp only; omega) | omega | (simp only [World.size_alloc, World.size_setCell, World.size_drew]; omega))))
  · rw [cmpZ_gt h]
    have h2 : ¬ x < y := by omega
    go_enter Tryz.func84, Tryz.ntmps84
    go_wp2_with go_in
    go_ret
    exact .mk rfl (by (repeat (first | (with_reducible exact Below.refl _ _) | (with_reducible assumption) | (with_reducible refine Later.out _ ?_) | (with_reducible refine bel_alloc ?_ _) | (with_reducible refine bel_drew ?_) | (with_reducible refine bel_drewN ?_ _) | (with_reducible refine bel_set ?_ ?_ _) | (with_reducible refine After.out _ ?_ ?_) | (dsimp only; omega) | omega | (simp only [World.size_alloc, World.size_setCell, World.size_drew]; omega))))
set_option maxHeartbeats 1000000 in
theorem cmpI64_any (x y : Int) (w : World) : Calls Tryz.prog 118 #[.int .i64 x, .int .i64 y] w (Ret w (.int .i64 (cmpZ x y))) := by
  rcases Int.lt_trichotomy x y with h | h | h
  · rw [cmpZ_lt h]
    go_enter Tryz.func118, Tryz.ntmps118
    go_wp2_with go_in
    go_ret
    exact .mk rfl (by (repeat (first | (with_reducible exact Below.refl _ _) | (with_reducible assumption) | (with_reducible refine Later.out _ ?_) | (with_reducible refine bel_alloc ?_ _) | (with_reducible refine bel_drew ?_) | (with_reducible refine bel_drewN ?_ _) | (with_reducible refine bel_set ?_ ?_ _) | (with_reducible refine After.out _ ?_ ?_) | (dsimp only; omega) | omega | (simp only [World.size_alloc, World.size_setCell, World.size_drew]; omega))))
  · rw [cmpZ_eq h]
    subst h
    go_enter Tryz.func118, Tryz.ntmps118
    go_wp2_with go_in
    go_ret
    exact .mk rfl (by (repeat (first | (with_reducible exact Below.refl _ _) | (with_reducible assumption) | (with_reducible refine Later.out _ ?_) | (with_reducible refine bel_alloc ?_ _) | (with_reducible refine bel_drew ?_) | (with_reducible refine bel_drewN ?_ _) | (with_reducible refine bel_set ?_ ?_ _) | (with_reducible refine After.out _ ?_ ?_) | (dsimp only; omega) | omega | (simp only [World.size_alloc, World.size_setCell, World.size_drew]; omega))))
  · rw [cmpZ_gt h]
    have h2 : ¬ x < y := by omega
    go_enter Tryz.func118, Tryz.ntmps118
    go_wp2_with go_in
    go_ret
    exact .mk rfl (by (repeat (first | (with_reducible exact Below.refl _ _) | (with_reducible assumption) | (with_reducible refine Later.out _ ?_) | (with_reducible refine bel_alloc ?_ _) | (with_reducible refine bel_drew ?_) | (with_reducible refine bel_drewN ?_ _) | (with_reducible refine bel_set ?_ ?_ _) | (with_reducible refine After.out _ ?_ ?_) | (dsimp only; omega) | omega | (simp only [World.size_alloc, World.size_setCell, World.size_drew]; omega))))
end Go.Proofs.YtcpddgkloeklaaaGreatDoor

/- A drawn region whose first operations read or call quietly, in any order, before a chain of others. -/
set_option linter.unusedSimpArgs false
set_option linter.unusedVariables false
namespace Go.Proofs.YtcpddgkloeklaaaGreatDoor
open Go.RowKit
section
variable {P : Program} {ops : Array Oper} {C : World → Prop} {md : Region.Mode}
/-- The first `f` to come up lie in the head, and each is quiet in every world of the class. -/
def headQ (P : Program) (md : Region.Mode) (ops : Array Oper) (C : World → Prop) (n : Nat) (L : Array Bool → Act → Prop) : Nat → Array Bool → Act → Prop
  | 0, listed, a => L listed a
  | f + 1, listed, a => Region.ready md ops listed ≠ [] ∧ ∀ i ∈ Region.ready md ops listed, i < n ∧ qOp P ops C i (headQ P md ops C n L f (listed.setIfInBounds i true)) a
theorem any_of_headQ {n g : Nat} {L : Array Bool → Act → Prop} {Q' : Exit → Act → World → Prop} (hL : ∀ listed a w, C w → L listed a → wpAny P md ops Q' g listed a w) :
    ∀ (f : Nat) (listed : Array Bool) (a : Act) (w : World), C w → headQ P md ops C n L f listed a → wpAny P md ops Q' (f + g) listed a w
  | 0, listed, a, w, hw, h => by rw [Nat.zero_add]; exact hL _ _ w hw h
  | f + 1, listed, a, w, hw, h => by
    rw [show f + 1 + g = (f + g) + 1 by omega]
    exact ⟨fun h0 => absurd h0 h.1, fun i hi => wpOp_of_qOp hw (fun a' w' hw' h' => any_of_headQ hL f _ a' w' hw' h') (h.2 i hi).2⟩
theorem headQ_first {n i : Nat} {oi : Oper} {v : Value} {L : Array Bool → Act → Prop} (hi : ops[i]? = some oi) (hsel : ∀ (j : Nat) (o : Oper) cs b, ops[j]? = some o → o.op ≠ .select cs b)
    (hs : Region.sinkB md ops n = true) (hc : Region.chainB md ops n = true) (hn : n < ops.size) (hin : i < n) (hdone : ∀ listed a, L listed a → ∀ j ∈ Region.ready md ops listed, n ≤ j) :
    ∀ (f : Nat) (listed : Array Bool) (a : Act), HeadInv md ops n listed →
      (∀ j oj, ops[j]? = some oj → j ≠ i → listed.getD j true = false → (∀ e ∈ oj.after, Region.binds md e = true → e.on ≠ i) → oi.apart ops oj = true) →
      i ∈ Region.ready md ops listed → YieldsIn P ops C oi v a → headQ P md ops C n L f (listed.setIfInBounds i true) (a.put oi.dst v) → headQ P md ops C n L (f + 1) listed a := by
  intro f
  induction f with
  | zero =>
    intro listed a inv _ hr hy H
    have hun := (mem_ready.1 hr).1
    refine ⟨fun h => (by rw [h] at hr; cases hr), fun j hj => ?_⟩
    have hjn : j < n := Nat.lt_of_not_le fun h => tail_waits hs hc hn inv _ i rfl hin hun j h hj
    refine ⟨hjn, ?_⟩
    by_cases hji : j = i
    · subst hji; exact hy.qOp hi H
    · exact absurd (hdone _ _ H j (ready_mono hj hji)) (by omega)
  | succ f ih =>
    intro listed a inv hfree hr hy H
    have hun := (mem_ready.1 hr).1
    refine ⟨fun h => (by rw [h] at hr; cases hr), fun j hj => ?_⟩
    have hjn : j < n := Nat.lt_of_not_le fun h => tail_waits hs hc hn inv _ i rfl hin hun j h hj
    refine ⟨hjn, ?_⟩
    by_cases hji : j = i
    · subst hji; exact hy.qOp hi H
    · have h1 := (H.2 j (ready_mono hj hji)).2
      obtain ⟨hjun, oj, hoj, hall⟩ := mem_ready.1 hj
      have hnot : ∀ e ∈ oj.after, Region.binds md e = true → e.on ≠ i := fun e he hb heq => by
        have h2 := hall e he hb
        rw [heq, getD_both hun] at h2
        cases h2
      have h2 := qOp_put hoj (hfree j oj hoj hji hjun hnot) (fun cs b => hsel i oi cs b hi) (fun cs b => hsel j oj cs b hoj) hy h1
      have hfree' : ∀ k ok, ops[k]? = some ok → k ≠ i → (listed.setIfInBounds j true).getD k true = false →
          (∀ e ∈ ok.after, Region.binds md e = true → e.on ≠ i) → oi.apart ops ok = true := fun k ok hk hki hkun hno => by
        refine hfree k ok hk hki ?_ hno
        by_cases hjk : j = k
        · subst hjk; exact hjun
        · rw [getD_set_ne true hjk] at hkun; exact hkun
      refine qOp_mono (fun a' h3 => ih (listed.setIfInBounds j true) a' (inv.set hj hjn) hfree' (ready_mono hr (Ne.symm hji)) h3.1 ?_) h2
      rw [Array.setIfInBounds_comm _ _ hji]
      exact h3.2
theorem headQ_lex {n g : Nat} {Lq : Act → Prop} (hsel : Region.noSelect ops = true) (hs : Region.sinkB md ops n = true) (hc : Region.chainB md ops n = true) (hn : n < ops.size) :
    ∀ (l : List Oper) (k : Nat) (listed : Array Bool) (a : Act), (∀ j, j < l.length → l[j]? = ops[k + j]?) → k + l.length = n → HeadInv md ops n listed →
    Region.lexHead md ops g l.length k listed = true → wpQuiet P ops C Lq l a → headQ P md ops C n (fun listed' a' => Region.seqB md ops g n listed' = true ∧ Lq a') l.length listed a
  | [], k, listed, a, _, hk, _, hB, h => by
    obtain rfl : k = n := by simpa using hk
    exact ⟨by simpa [Region.lexHead] using hB, h⟩
  | o :: l, k, listed, a, hl, hk, inv, hB, h => by
    have h0 : ops[k]? = some o := by simpa using (hl 0 (by simp)).symm
    simp only [List.length_cons, Region.lexHead, Bool.and_eq_true] at hB
    obtain ⟨⟨hr, hf⟩, hB'⟩ := hB
    simp only [List.length_cons] at hk
    have hr' : k ∈ Region.ready md ops listed := by simpa using hr
    have hst : qOp P ops C k (wpQuiet P ops C Lq l) a := by unfold qOp; simp only [h0]; exact h
    obtain ⟨v, hy, hK⟩ := yieldsIn_of_qOp h0 hst
    exact headQ_first h0 (Region.noSelect_spec hsel) hs hc hn (by omega) (fun listed' a' hL => seqB_ready hL.1) l.length listed a inv (Region.free_spec h0 hf) hr' hy
      (headQ_lex hsel hs hc hn l (k + 1) _ _ (fun j hj => by have := hl (j + 1) (by simp; omega); simpa [Nat.add_assoc, Nat.add_comm 1 j] using this) (by omega) (inv.set hr' (by omega)) hB' hK)
theorem wp_region_quiet_tail {id : Nat} {Q : Exit → Act → World → Prop} {a : Act} {W : World} {l : List Oper} (n : Nat) (hm : P.follows .mixedOrders = true) (hB : Region.lexTailB .any l.toArray n = true) (hC : C W.drew)
    (h : wpQuiet P l.toArray C (fun a' => ∀ w', C w' → wpList P l.toArray Q (l.drop n) a' w') (l.take n) a) : (Code.region id l.toArray true).wp P Q a W := by
  simp only [Region.lexTailB, Bool.and_eq_true, decide_eq_true_eq] at hB
  obtain ⟨⟨⟨⟨hsel, hn⟩, hs⟩, hc⟩, hlex⟩ := hB
  have hn' : n < l.length := by simpa using hn
  have htl : (l.take n).length = n := by simp; omega
  have hdl : (l.drop n).length = l.toArray.size - n := by simp
  have inv0 : HeadInv .any l.toArray n (Array.replicate l.toArray.size false) :=
    ⟨by simp, fun j oj _ hl => (by rw [getD_replicate_false] at hl; cases hl), fun t _ ht => getD_in (by simpa using ht) (getD_replicate_false _ _)⟩
  have H := headQ_lex (md := .any) (g := l.toArray.size - n) hsel hs hc hn (l.take n) 0 _ a (fun j hj => by
    have hj' : j < n := by rw [htl] at hj; exact hj
    simp [hj']) (by simpa using htl) inv0 (by rw [htl]; exact hlex) h
  refine wp_region_any hm ?_
  have := any_of_headQ (Q' := Q) (g := l.toArray.size - n) (fun listed a' w' hw' hL => by
    have := wpAny_of_seq (md := .any) (Q' := Q) (l.drop n) n listed a' w' (fun j => by simp [List.getElem?_drop]) (by rw [hdl]; exact hL.1) (hL.2 w' hw')
    rwa [hdl] at this) _ _ _ _ hC H
  rw [htl, show n + (l.toArray.size - n) = l.toArray.size by omega] at this
  exact this
end
end Go.Proofs.YtcpddgkloeklaaaGreatDoor

/- cmp.Or; the comparisons of SmallestCore and BestRepair; the best of a table. -/
set_option linter.unusedSimpArgs false
set_option linter.unusedVariables false
namespace Go.Proofs.YtcpddgkloeklaaaGreatDoor
open Go.RowKit
def orL (l : List Int) : Int := match l.find? (fun x => x != 0) with | some x => x | none => 0
theorem orL_two (a b : Int) : orL [a, b] = orZ a b := by
  unfold orL orZ
  by_cases h : a = 0
  · subst h
    by_cases h2 : b = 0
    · subst h2; rfl
    · simp [h2]
  · simp [h]
theorem orL_three (a b c : Int) : orL [a, b, c] = orZ a (orZ b c) := by
  unfold orL orZ
  by_cases h : a = 0
  · subst h
    by_cases h2 : b = 0
    · subst h2
      by_cases h3 : c = 0
      · subst h3; rfl
      · simp [h3]
    · simp [h2]
  · simp [h]
theorem orL_some {l : List Int} {k : Nat} (hk : k < l.length) (h1 : l[k] ≠ 0) (h : ∀ j (hj : j < l.length), j < k → l[j] = 0) : orL l = l[k] := by
  have : l.find? (fun x => x != 0) = some l[k] := by
    rw [List.find?_eq_some_iff_getElem]
    exact ⟨by simpa using h1, k, hk, rfl, fun j hj => by simp [h j (by omega) hj]⟩
  simp [orL, this]
theorem orL_none {l : List Int} (h : ∀ j (hj : j < l.length), l[j] = 0) : orL l = 0 := by
  have : l.find? (fun x => x != 0) = none := by
    rw [List.find?_eq_none]
    intro x hx
    obtain ⟨j, hj, rfl⟩ := List.mem_iff_getElem.1 hx
    simp [h j hj]
  simp [orL, this]
set_option maxHeartbeats 1000000 in
theorem cmpOr_any (l : List Int) (a : Option Addr) (n c : Nat) (w : World) (hn : l.length = n) (hm : n ≤ 1000) (hr : Row w a (intCells l)) : Calls Tryz.prog 83 #[.slice a n c] w (Ret w (.int .i64 (orL l))) := by
  subst hn
  replace hr := Lib.hid hr
  go_enter Tryz.func83, Tryz.ntmps83
  go_wp2_with fail
  go_loopw [8] (fun i wr => ∃ k : Nat, k ≤ l.length ∧ i = .int .i64 k ∧ (∀ j (hj : j < l.length), j < k → l[j] = 0) ∧ ∃ z : Later w, wr = z.w) (fun i _ => l.length - (intOf i).toNat)
  case atStart => exact ⟨0, Nat.zero_le _, rfl, fun j _ h => absurd h (by omega), LaterC.mk (by (repeat (first | (with_reducible exact Below.refl _ _) | (with_reducible assumption) | (with_reducible refine Later.out _ ?_) | (with_reducible refine bel_alloc ?_ _) | (with_reducible refine bel_drew ?_) | (with_reducible refine bel_drewN ?_ _) | (with_reducible refine bel_set ?_ ?_ _) | (with_reducible refine After.out _ ?_ ?_) | (dsimp only; omega) | omega | (simp only [World.size_alloc, World.size_setCell, World.size_drew]; omega))))⟩
  case round =>
    obtain ⟨k, hk, rfl, hall, z, rfl⟩ := hrel
    replace hall := Lib.hid hall
    by_cases hlt : k < l.length
    · have hi1 : (k : Int) < (l.length : Int) := by omega
      obtain ⟨b, o, rfl, hb, hc⟩ := hr.out.int hlt
      by_cases hv : l[k] = 0
      · have X := Lib.hid (show ∀ j (hj : j < l.length), j < k + 1 → l[j] = 0 from fun j hj h => by
          rcases Nat.lt_or_ge j k with h1 | h1
          · exact hall.out j hj h1
          · obtain rfl : j = k := by omega
            exact hv)
        rw [hv] at hc
        clear hv
        go_wp2_with fail
        go_roundw
        case rel => exact ⟨k + 1, by omega, by go_num, X.out, LaterC.mk (by (repeat (first | (with_reducible exact Below.refl _ _) | (with_reducible assumption) | (with_reducible refine Later.out _ ?_) | (with_reducible refine bel_alloc ?_ _) | (with_reducible refine bel_drew ?_) | (with_reducible refine bel_drewN ?_ _) | (with_reducible refine bel_set ?_ ?_ _) | (with_reducible refine After.out _ ?_ ?_) | (dsimp only; omega) | omega | (simp only [World.size_alloc, World.size_setCell, World.size_drew]; omega))))⟩
        case measure => first | (simp [intOf]; done) | (simp [intOf]; omega) | omega
      · have X := Lib.hid (orL_some hlt hv fun j hj h => hall.out j hj h)
        obtain ⟨x, hx⟩ : ∃ x, l[k] = x := ⟨_, rfl⟩
        rw [hx] at hc hv X
        clear hx
        go_wp2_with fail
        go_ret
        exact .mk (by rw [X.out]; rfl) (by (repeat (first | (with_reducible exact Below.refl _ _) | (with_reducible assumption) | (with_reducible refine Later.out _ ?_) | (with_reducible refine bel_alloc ?_ _) | (with_reducible refine bel_drew ?_) | (with_reducible refine bel_drewN ?_ _) | (with_reducible refine bel_set ?_ ?_ _) | (with_reducible refine After.out _ ?_ ?_) | (dsimp only; omega) | omega | (simp only [World.size_alloc, World.size_setCell, World.size_drew]; omega))))
    · obtain rfl : k = l.length := by omega
      have X := Lib.hid (orL_none fun j hj => hall.out j hj hj)
      go_wp2_with fail
      go_ret
      exact .mk (by rw [X.out]; rfl) (by (repeat (first | (with_reducible exact Below.refl _ _) | (with_reducible assumption) | (with_reducible refine Later.out _ ?_) | (with_reducible refine bel_alloc ?_ _) | (with_reducible refine bel_drew ?_) | (with_reducible refine bel_drewN ?_ _) | (with_reducible refine bel_set ?_ ?_ _) | (with_reducible refine After.out _ ?_ ?_) | (dsimp only; omega) | omega | (simp only [World.size_alloc, World.size_setCell, World.size_drew]; omega))))
def coreCf (x y : List Int) : Int := orL [cmpZ x.length y.length, cmpL x y]
theorem coreCf_lt (x y : List Int) : ltC coreCf x y = coreLt x y := by unfold ltC coreCf coreLt; rw [orL_two]
theorem enters_small1 : ∀ args w, (callFunc 82 args).run Tryz.prog w = .ok (.enter 82 args) w := fun _ _ => by kernel_rfl
set_option maxHeartbeats 1000000 in
theorem small1_any (x y : List Int) (ax : Option Addr) (cx : Nat) (ay : Option Addr) (cy : Nat) (w : World) (hx : x.length ≤ 1048576) (hy : y.length ≤ 1048576) (rx : Row w ax (intCells x)) (ry : Row w ay (intCells y)) :
    Calls Tryz.prog 82 #[.slice ax x.length cx, .slice ay y.length cy] w (Ret w (.int .i64 (coreCf x y))) := by
  replace rx := Lib.hid rx
  replace ry := Lib.hid ry
  have CC := Lib.hid (fun w rx ry => compare_any x y ax x.length cx ay y.length cy w rfl rfl hx hy rx ry)
  have CZ := Lib.hid (fun (w : World) => cmpInt_any x.length y.length w)
  have CO := Lib.hid (fun a c w hr => cmpOr_any [cmpZ x.length y.length, cmpL x y] a 2 c w rfl (by omega) hr)
  have hE := Lib.hid (show orL [cmpZ x.length y.length, cmpL x y] = coreCf x y from rfl)
  obtain ⟨u, hu⟩ : ∃ u, cmpZ (x.length : Int) y.length = u := ⟨_, rfl⟩
  obtain ⟨v, hv⟩ : ∃ v, cmpL x y = v := ⟨_, rfl⟩
  rw [hu] at CZ hE
  rw [hv] at CC hE
  simp only [hu, hv] at CO
  clear hu hv
  go_enter Tryz.func82, Tryz.ntmps82
  go_wp2_with fail
  with_reducible refine (CZ.out _).mono ?_
  rintro e w' ⟨rfl, y1, rfl⟩
  have hsy1 := y1.bel.size
  (try simp only [World.size_alloc, World.size_setCell, World.size_drew] at hsy1)
  go_wp2_with fail
  with_reducible refine (CC.out _ (rx.out.bel (by (repeat (first | (with_reducible exact Below.refl _ _) | (with_reducible assumption) | (with_reducible refine Later.out _ ?_) | (with_reducible refine bel_alloc ?_ _) | (with_reducible refine bel_drew ?_) | (with_reducible refine bel_drewN ?_ _) | (with_reducible refine bel_set ?_ ?_ _) | (with_reducible refine After.out _ ?_ ?_) | (dsimp only; omega) | omega | (simp only [World.size_alloc, World.size_setCell, World.size_drew]; omega))))) (ry.out.bel (by (repeat (first | (with_reducible exact Below.refl _ _) | (with_reducible assumption) | (with_reducible refine Later.out _ ?_) | (with_reducible refine bel_alloc ?_ _) | (with_reducible refine bel_drew ?_) | (with_reducible refine bel_drewN ?_ _) | (with_reducible refine bel_set ?_ ?_ _) | (with_reducible refine After.out _ ?_ ?_) | (dsimp only; omega) | omega | (simp only [World.size_alloc, World.size_setCell, World.size_drew]; omega)))))).mono ?_
  rintro e w' ⟨rfl, y2, rfl⟩
  have hsy2 := y2.bel.size
  (try simp only [World.size_alloc, World.size_setCell, World.size_drew] at hsy2)
  go_wp2_with fail
  with_reducible refine (CO.out _ _ _ (Row.madeAt (w := y2.w) (cs := #[.int .i64 u, .int .i64 v]) (e := 3) rfl rfl)).mono ?_
  rintro e w' ⟨rfl, y3, rfl⟩
  have hsy3 := y3.bel.size
  (try simp only [World.size_alloc, World.size_setCell, World.size_drew] at hsy3)
  go_wp2_with fail
  go_ret
  exact .mk (by rw [← hE.out]; rfl) (by (repeat (first | (with_reducible exact Below.refl _ _) | (with_reducible assumption) | (with_reducible refine Later.out _ ?_) | (with_reducible refine bel_alloc ?_ _) | (with_reducible refine bel_drew ?_) | (with_reducible refine bel_drewN ?_ _) | (with_reducible refine bel_set ?_ ?_ _) | (with_reducible refine After.out _ ?_ ?_) | (dsimp only; omega) | omega | (simp only [World.size_alloc, World.size_setCell, World.size_drew]; omega))))
theorem tells_small1 {S : List (List Int)} {w : World} (hl : ∀ l ∈ S, l.length ≤ 1048576) : TellsC 82 #[] coreCf S w :=
  fun x hx y hy ax cx ay cy w' hb rx ry => by simpa using small1_any x y ax cx ay cy w' (hl x hx) (hl y hy) rx ry
theorem Nest.pickAt {w : World} {lo hi : Nat} {a : Option Addr} {n c m : Nat} {S : List (List Int)} {vs : List Value} (h : Nest w lo hi a n c S vs) (hm : m < n) :
    ∃ ai ci, atV vs m = .slice ai (atL S m).length ci ∧ Owns w lo hi 2 1 (atL S m).length ai ci (intCells (atL S m)) := by
  have hl := h.len
  obtain ⟨ai, ci, h4, h5⟩ := h.at_ m (by omega)
  have e : atL S m = S[m] := by unfold atL; rw [getD_at (by omega)]
  rw [e]
  exact ⟨ai, ci, by unfold atV; rw [List.getD_eq_getElem?_getD, h4]; rfl, h5⟩
end Go.Proofs.YtcpddgkloeklaaaGreatDoor

/- SmallestCore: both sides. -/
set_option linter.unusedSimpArgs false
set_option linter.unusedVariables false
namespace Go.Proofs.YtcpddgkloeklaaaGreatDoor
open Go.RowKit
theorem pick_upto (L : List Clm) : ∀ k, k ≤ L.length → pick L ((List.range k).map fun (i : Nat) => (i : Int)) = L.take k
  | 0, _ => by simp [pick]
  | k + 1, h => by
    have ih := pick_upto L k (by omega)
    unfold pick at ih ⊢
    rw [List.range_succ, List.map_append, List.filterMap_append, ih, List.take_succ_eq_append_getElem (by omega)]
    simp [List.getElem?_eq_getElem (show k < L.length by omega)]
theorem pick_all (L : List Clm) : pick L (restTo [] L.length) = L := by
  have e : restTo [] L.length = (List.range L.length).map fun (i : Nat) => (i : Int) := by unfold restTo; exact List.filter_eq_self.2 (by simp)
  rw [e, pick_upto L _ (Nat.le_refl _), List.take_length]
theorem cores_empty {L : List Clm} (h : consB L = true) : minZ (coreG L) L.length [] = [] := by
  rw [List.eq_nil_iff_forall_not_mem]
  intro T hT
  obtain ⟨hI, _, hm⟩ := (mem_minZ (coreG_mono L) (ixs_nil _) T).1 hT
  have hsub : T.Sublist (restTo [] L.length) := sorted_sub hI.inc (ixs_rest [] _).inc fun x hx => mem_rest.2 ⟨hI.bd x hx, by simp⟩
  have h1 := (minB_iff.1 hm).1
  unfold coreG at h1
  rw [cons_sub_b (pick_sub hsub) (by rw [pick_all]; exact h)] at h1
  cases h1
theorem cores_some {L : List Clm} (h : consB L = false) : 0 < (minZ (coreG L) L.length []).length := by
  have hg : coreG L (restTo [] L.length) = true := by unfold coreG; rw [pick_all, h]; rfl
  obtain ⟨T, hT, _⟩ := least_in (coreG_mono L) (ixs_rest [] L.length) hg
  exact List.length_pos_of_mem hT
noncomputable def smcR (L : List Clm) : List Int := if claimsB L then bestL lenLt (minZ (coreG L) L.length []) else []
noncomputable def smcK (L : List Clm) : Int := if claimsB L then (if consB L then 4 else 0) else 1
theorem smcR_len (L : List Clm) {n : Nat} (hn : L.length = n) (hm : n ≤ 1048576) : (smcR L).length ≤ 1048576 := by
  unfold smcR
  split
  · rename_i h
    have h12 := len_of_claims h
    unfold bestL
    rcases Nat.lt_or_ge (minI lenLt (minZ (coreG L) L.length []) ((minZ (coreG L) L.length []).length - 1)) (minZ (coreG L) L.length []).length with h1 | h1
    · rw [getD_at h1]
      have := ixs_len ((mem_minZ (coreG_mono L) (ixs_nil _) _).1 (List.getElem_mem h1)).1
      omega
    · rw [getD_out h1]; simp
  · simp
section
variable (L : List Clm) (a : Option Addr) (n c : Nat) (w : World) (hn : L.length = n) (hm : n ≤ 1048576) (hr : Row w a (clmsCells L)) (ok : ∀ c ∈ L, ClmOk c)
include hn hm hr ok
set_option maxRecDepth 8000 in
set_option maxHeartbeats 4000000 in
theorem smc_impl (hcp : n ≤ c) (hx : Max w) : Calls Tryz.prog 44 #[.slice a n c] w (RetOwn w 2 1 (smcR L).length (intCells (smcR L)) fun v => .tuple #[v, .int .i64 (smcK L)]) := by
  cases h1 : claimsB L
  · rw [show smcR L = [] by simp [smcR, h1], show smcK L = 1 by simp [smcK, h1]]
    have C1 := Lib.hid (areClaims_b (c := c) hn hm hr ok hx h1)
    clear ok h1 hn hr hx
    go_enter Tryz.func44, Tryz.ntmps44
    go_wp2_with fail
    with_reducible refine (C1.out).mono ?_
    rintro e w' ⟨rfl, y1, rfl⟩
    have hsy1 := y1.bel.size
    (try simp only [World.size_alloc, World.size_setCell, World.size_drew] at hsy1)
    go_wp2_with fail
    refine bodyPost_ret (by simp [results, Tryz.results44, go_sem, ↓IntWalk.iteOmega, *]; try rfl) rfl ?_
    refine RetOwn.mk (.slice none 0 0) rfl (World.ownsRow_nil _ _ _ _) ?_
    (repeat (first | (with_reducible exact Below.refl _ _) | (with_reducible assumption) | (with_reducible refine Later.out _ ?_) | (with_reducible refine bel_alloc ?_ _) | (with_reducible refine bel_drew ?_) | (with_reducible refine bel_drewN ?_ _) | (with_reducible refine bel_set ?_ ?_ _) | (with_reducible refine After.out _ ?_ ?_) | (dsimp only; omega) | omega | (simp only [World.size_alloc, World.size_setCell, World.size_drew]; omega)))
  have h12 := len_of_claims h1
  have C1 := Lib.hid (areClaims_b (c := c) hn hm hr ok hx h1)
  subst hn
  have CT := Lib.hid (fun (w : World) hr => coresOf_any L a L.length c w rfl h12 hr)
  have hRx : ∀ T ∈ minZ (coreG L) L.length [], Ixs L.length T := fun T hT => ((mem_minZ (coreG_mono L) (ixs_nil _) T).1 hT).1
  have hRl := minZ_small (coreG L) h12 []
  have hRs := minZ_sorted (coreG_mono L) (ixs_nil L.length)
  cases hc : consB L
  · have hRp := cores_some hc
    rw [show smcR L = bestL lenLt (minZ (coreG L) L.length []) by simp [smcR, h1], show smcK L = 0 by simp [smcK, h1, hc]]
    obtain ⟨R, hR⟩ : ∃ R, minZ (coreG L) L.length [] = R := ⟨_, rfl⟩
    rw [hR] at hRx hRl hRs hRp ⊢
    simp only [hR] at CT
    have hRm : ∀ T ∈ R, T.length ≤ 1048576 := fun T hT => by have := ixs_len (hRx T hT); omega
    have hBe := Lib.hid (core_lenLt hRs (R.length - 1) (by omega))
    have hle := minI_le lenLt R (R.length - 1)
    have hCf : ltC coreCf = coreLt := by funext x y; exact coreCf_lt x y
    have CB := Lib.hid (fun a c (w : World) hcp hr => areConsistent_b (L := L) (a := a) (c := c) (w := w) (n := L.length) rfl (by omega) hcp hr hc)
    clear hR hRs hc
    replace CT := Lib.hid CT.out
    replace hr := Lib.hid hr
    replace hRx := Lib.hid hRx
    clear ok h1 hx
    go_enter Tryz.func44, Tryz.ntmps44
    go_wp2_with fail
    with_reducible refine (C1.out).mono ?_
    rintro e w' ⟨rfl, y1, rfl⟩
    have hsy1 := y1.bel.size
    (try simp only [World.size_alloc, World.size_setCell, World.size_drew] at hsy1)
    go_wp2_with fail
    with_reducible refine (CB.out _ _ _ (hcp) (hr.out.bel (by (repeat (first | (with_reducible exact Below.refl _ _) | (with_reducible assumption) | (with_reducible refine Later.out _ ?_) | (with_reducible refine bel_alloc ?_ _) | (with_reducible refine bel_drew ?_) | (with_reducible refine bel_drewN ?_ _) | (with_reducible refine bel_set ?_ ?_ _) | (with_reducible refine After.out _ ?_ ?_) | (dsimp only; omega) | omega | (simp only [World.size_alloc, World.size_setCell, World.size_drew]; omega)))))).mono ?_
    rintro e w' ⟨rfl, y7, rfl⟩
    have hsy7 := y7.bel.size
    (try simp only [World.size_alloc, World.size_setCell, World.size_drew] at hsy7)
    go_wp2_with fail
    with_reducible refine (CT.out _ (hr.out.bel (by (repeat (first | (with_reducible exact Below.refl _ _) | (with_reducible assumption) | (with_reducible refine Later.out _ ?_) | (with_reducible refine bel_alloc ?_ _) | (with_reducible refine bel_drew ?_) | (with_reducible refine bel_drewN ?_ _) | (with_reducible refine bel_set ?_ ?_ _) | (with_reducible refine After.out _ ?_ ?_) | (dsimp only; omega) | omega | (simp only [World.size_alloc, World.size_setCell, World.size_drew]; omega)))))).mono ?_
    rintro e w' ⟨a2, c2, vs2, rfl, hnest, y2, rfl⟩
    have hsy2 := y2.bel.size
    (try simp only [World.size_alloc, World.size_setCell, World.size_drew] at hsy2)
    have H2 := Lib.hid hnest
    clear hnest
    go_wp2_with fail
    with_reducible refine (minFunc_any 82 #[] coreCf R vs2 _ _ _ _ enters_small1 rfl hRp (by omega) H2.out.rowsV (tells_small1 hRm)).mono ?_
    rintro e w' ⟨rfl, y3, rfl⟩
    have hsy3 := y3.bel.size
    (try simp only [World.size_alloc, World.size_setCell, World.size_drew] at hsy3)
    go_wp2_with fail
    refine bodyPost_ret (by simp [results, Tryz.results44, go_sem, ↓IntWalk.iteOmega, *]; try rfl) rfl ?_
    rw [hBe.out]
    obtain ⟨ai, ci, e1, o1⟩ := H2.out.pickAt (m := minI lenLt R (R.length - 1)) (by omega)
    rw [e1]
    refine RetOwn.mk _ rfl (own_mono (own_bel o1.own (by (repeat (first | (with_reducible exact Below.refl _ _) | (with_reducible assumption) | (with_reducible refine Later.out _ ?_) | (with_reducible refine bel_alloc ?_ _) | (with_reducible refine bel_drew ?_) | (with_reducible refine bel_drewN ?_ _) | (with_reducible refine bel_set ?_ ?_ _) | (with_reducible refine After.out _ ?_ ?_) | (dsimp only; omega) | omega | (simp only [World.size_alloc, World.size_setCell, World.size_drew]; omega))))) (by ((try simp only [World.size_alloc, World.size_setCell, World.size_drew]); omega))) ?_
    (repeat (first | (with_reducible exact Below.refl _ _) | (with_reducible assumption) | (with_reducible refine Later.out _ ?_) | (with_reducible refine bel_alloc ?_ _) | (with_reducible refine bel_drew ?_) | (with_reducible refine bel_drewN ?_ _) | (with_reducible refine bel_set ?_ ?_ _) | (with_reducible refine After.out _ ?_ ?_) | (dsimp only; omega) | omega | (simp only [World.size_alloc, World.size_setCell, World.size_drew]; omega)))
  · have hZ := cores_empty hc
    rw [show smcR L = [] by simp [smcR, h1, hZ, bestL], show smcK L = 4 by simp [smcK, h1, hc]]
    have CB := Lib.hid (fun a c (w : World) hcp hr => areConsistent_b (L := L) (a := a) (c := c) (w := w) (n := L.length) rfl (by omega) hcp hr hc)
    replace hr := Lib.hid hr
    clear ok h1 hx hc hZ CT hRx hRl hRs
    go_enter Tryz.func44, Tryz.ntmps44
    go_wp2_with fail
    with_reducible refine (C1.out).mono ?_
    rintro e w' ⟨rfl, y1, rfl⟩
    have hsy1 := y1.bel.size
    (try simp only [World.size_alloc, World.size_setCell, World.size_drew] at hsy1)
    go_wp2_with fail
    with_reducible refine (CB.out _ _ _ (hcp) (hr.out.bel (by (repeat (first | (with_reducible exact Below.refl _ _) | (with_reducible assumption) | (with_reducible refine Later.out _ ?_) | (with_reducible refine bel_alloc ?_ _) | (with_reducible refine bel_drew ?_) | (with_reducible refine bel_drewN ?_ _) | (with_reducible refine bel_set ?_ ?_ _) | (with_reducible refine After.out _ ?_ ?_) | (dsimp only; omega) | omega | (simp only [World.size_alloc, World.size_setCell, World.size_drew]; omega)))))).mono ?_
    rintro e w' ⟨rfl, y7, rfl⟩
    have hsy7 := y7.bel.size
    (try simp only [World.size_alloc, World.size_setCell, World.size_drew] at hsy7)
    go_wp2_with fail
    refine bodyPost_ret (by simp [results, Tryz.results44, go_sem, ↓IntWalk.iteOmega, *]; try rfl) rfl ?_
    refine RetOwn.mk (.slice none 0 0) rfl (World.ownsRow_nil _ _ _ _) ?_
    (repeat (first | (with_reducible exact Below.refl _ _) | (with_reducible assumption) | (with_reducible refine Later.out _ ?_) | (with_reducible refine bel_alloc ?_ _) | (with_reducible refine bel_drew ?_) | (with_reducible refine bel_drewN ?_ _) | (with_reducible refine bel_set ?_ ?_ _) | (with_reducible refine After.out _ ?_ ?_) | (dsimp only; omega) | omega | (simp only [World.size_alloc, World.size_setCell, World.size_drew]; omega)))
set_option maxRecDepth 8000 in
set_option maxHeartbeats 4000000 in
theorem smc_spec : Calls Tryz.prog 43 #[.slice a n c] w (RetOwn w 2 1 (smcR L).length (intCells (smcR L)) fun v => .tuple #[v, .int .i64 (smcK L)]) := by
  cases h1 : claimsB L
  · rw [show smcR L = [] by simp [smcR, h1], show smcK L = 1 by simp [smcK, h1]]
    have C1 := Lib.hid (sAreClaims_b (c := c) hn hm hr ok h1)
    clear ok h1 hn hr
    go_enter Tryz.func43, Tryz.ntmps43
    go_wp2_with fail
    with_reducible refine (C1.out).mono ?_
    rintro e w' ⟨rfl, y1, rfl⟩
    have hsy1 := y1.bel.size
    (try simp only [World.size_alloc, World.size_setCell, World.size_drew] at hsy1)
    go_wp2_with fail
    refine bodyPost_ret (by simp [results, Tryz.results43, go_sem, ↓IntWalk.iteOmega, *]; try rfl) rfl ?_
    refine RetOwn.mk (.slice none 0 0) rfl (World.ownsRow_nil _ _ _ _) ?_
    (repeat (first | (with_reducible exact Below.refl _ _) | (with_reducible assumption) | (with_reducible refine Later.out _ ?_) | (with_reducible refine bel_alloc ?_ _) | (with_reducible refine bel_drew ?_) | (with_reducible refine bel_drewN ?_ _) | (with_reducible refine bel_set ?_ ?_ _) | (with_reducible refine After.out _ ?_ ?_) | (dsimp only; omega) | omega | (simp only [World.size_alloc, World.size_setCell, World.size_drew]; omega)))
  have h12 := len_of_claims h1
  have C1 := Lib.hid (sAreClaims_b (c := c) hn hm hr ok h1)
  subst hn
  have CT := Lib.hid (fun lo a2 c2 (w : World) hr hlo ho => sCores_any L a L.length c rfl h12 (named_of fun c hc => claim_of_claims h1 hc) (L.length + 1) [] (ixs_nil _) (by omega) lo a2 0 c2 w rfl hr hlo ho)
  have hRx : ∀ T ∈ minZ (coreG L) L.length [], Ixs L.length T := fun T hT => ((mem_minZ (coreG_mono L) (ixs_nil _) T).1 hT).1
  have hRl := minZ_small (coreG L) h12 []
  cases hc : consB L
  · have hRp := cores_some hc
    rw [show smcR L = bestL lenLt (minZ (coreG L) L.length []) by simp [smcR, h1], show smcK L = 0 by simp [smcK, h1, hc]]
    obtain ⟨R, hR⟩ : ∃ R, minZ (coreG L) L.length [] = R := ⟨_, rfl⟩
    rw [hR] at hRx hRl hRp ⊢
    simp only [hR] at CT
    have hle := Lib.hid (minI_le lenLt R)
    clear hR hc
    replace CT := Lib.hid CT.out
    replace hr := Lib.hid hr
    replace hRx := Lib.hid hRx
    clear ok h1
    go_enter Tryz.func43, Tryz.ntmps43
    go_wp2_with fail
    with_reducible refine (C1.out).mono ?_
    rintro e w' ⟨rfl, y1, rfl⟩
    have hsy1 := y1.bel.size
    (try simp only [World.size_alloc, World.size_setCell, World.size_drew] at hsy1)
    go_wp2_with fail
    with_reducible refine (CT.out y1.w.heap.size _ _ _ (hr.out.bel (by (repeat (first | (with_reducible exact Below.refl _ _) | (with_reducible assumption) | (with_reducible refine Later.out _ ?_) | (with_reducible refine bel_alloc ?_ _) | (with_reducible refine bel_drew ?_) | (with_reducible refine bel_drewN ?_ _) | (with_reducible refine bel_set ?_ ?_ _) | (with_reducible refine After.out _ ?_ ?_) | (dsimp only; omega) | omega | (simp only [World.size_alloc, World.size_setCell, World.size_drew]; omega))))) (by ((try simp only [World.size_alloc, World.size_setCell, World.size_drew]); omega)) (Owns.of (World.ownsRow_lit (base := y1.w.heap.size) (e := 2) (size := 1) y1.w #[] 0 (Nat.le_refl _) (by unfold maxLen; omega) rfl))).mono ?_
    rintro e w' ⟨a2, c2, vs2, rfl, hnest, y2, rfl⟩
    have hsy2 := y2.bel.size
    (try simp only [World.size_alloc, World.size_setCell, World.size_drew] at hsy2)
    have H2 := Lib.hid hnest
    clear hnest
    have HV := Lib.hid H2.out.rowsV
    obtain ⟨b, o, ai0, ci0, eb0, hb0, hc0, e0, r0⟩ := HV.out.get hRp
    subst eb0
    rw [Nat.add_zero] at hc0
    replace e0 := Lib.hid e0
    have hRp1 : ¬ ((R.length : Int) = 0) := by omega
    go_wp2_with fail
    go_loopw [5, 6] (fun m i wr => ∃ k : Nat, k ≤ R.length ∧ m = atV vs2 (minI lenLt R (k - 1)) ∧ i = .int .i64 k ∧ ∃ z : Later y2.w, wr = z.w) (fun _ i _ => R.length - (intOf i).toNat)
    case atStart => exact ⟨0, Nat.zero_le _, e0.out.symm, rfl, LaterC.mk (by (repeat (first | (with_reducible exact Below.refl _ _) | (with_reducible assumption) | (with_reducible refine Later.out _ ?_) | (with_reducible refine bel_alloc ?_ _) | (with_reducible refine bel_drew ?_) | (with_reducible refine bel_drewN ?_ _) | (with_reducible refine bel_set ?_ ?_ _) | (with_reducible refine After.out _ ?_ ?_) | (dsimp only; omega) | omega | (simp only [World.size_alloc, World.size_setCell, World.size_drew]; omega))))⟩
    case round =>
      obtain ⟨k, hk, rfl, rfl, z, rfl⟩ := hrel
      have hzz := z.bel.size
      have hlk := hle.out (k - 1)
      obtain ⟨_, _, am, cm, -, -, -, em, rm⟩ := HV.out.get (k := minI lenLt R (k - 1)) (by omega)
      rw [em]
      by_cases hlt : k < R.length
      · have hi1 : (k : Int) < (R.length : Int) := by omega
        obtain ⟨b', o', ai, ci, eb, -, hcc, e2, r2⟩ := HV.out.get hlt
        cases eb
        have hY : lenLt (atL R k) (atL R (minI lenLt R (k - 1))) = decide (((atL R k).length : Int) < (atL R (minI lenLt R (k - 1))).length) := rfl
        by_cases hneg : ((atL R k).length : Int) < (atL R (minI lenLt R (k - 1))).length
        · have X := Lib.hid (show minI lenLt R (k + 1 - 1) = k by
            obtain ⟨q, rfl⟩ : ∃ q, k = q + 1 := ⟨k - 1, by
              rcases Nat.eq_zero_or_pos k with h0 | h0
              · subst h0
                exact absurd hneg (Int.lt_irrefl _)
              · omega⟩
            exact minI_yes (by rw [show q + 1 - 1 = q by omega] at hY hneg; exact hY.trans (decide_eq_true hneg)))
          replace e2 := Lib.hid e2
          clear hY em
          go_wp2_with fail
          go_roundw
          case rel => exact ⟨k + 1, by omega, by rw [X.out]; exact e2.out.symm, by go_num, LaterC.mk (by (repeat (first | (with_reducible exact Below.refl _ _) | (with_reducible assumption) | (with_reducible refine Later.out _ ?_) | (with_reducible refine bel_alloc ?_ _) | (with_reducible refine bel_drew ?_) | (with_reducible refine bel_drewN ?_ _) | (with_reducible refine bel_set ?_ ?_ _) | (with_reducible refine After.out _ ?_ ?_) | (dsimp only; omega) | omega | (simp only [World.size_alloc, World.size_setCell, World.size_drew]; omega))))⟩
          case measure => first | (simp [intOf]; done) | (simp [intOf]; omega) | omega
        · have X := Lib.hid (show minI lenLt R (k + 1 - 1) = minI lenLt R (k - 1) by
            rcases Nat.eq_zero_or_pos k with h0 | h0
            · subst h0; rfl
            · obtain ⟨q, rfl⟩ : ∃ q, k = q + 1 := ⟨k - 1, by omega⟩
              exact minI_no (by rw [show q + 1 - 1 = q by omega] at hY hneg; exact hY.trans (decide_eq_false hneg)))
          replace em := Lib.hid em
          clear hY e2
          go_wp2_with fail
          go_roundw
          case rel => exact ⟨k + 1, by omega, by rw [X.out]; exact em.out.symm, by go_num, LaterC.mk (by (repeat (first | (with_reducible exact Below.refl _ _) | (with_reducible assumption) | (with_reducible refine Later.out _ ?_) | (with_reducible refine bel_alloc ?_ _) | (with_reducible refine bel_drew ?_) | (with_reducible refine bel_drewN ?_ _) | (with_reducible refine bel_set ?_ ?_ _) | (with_reducible refine After.out _ ?_ ?_) | (dsimp only; omega) | omega | (simp only [World.size_alloc, World.size_setCell, World.size_drew]; omega))))⟩
          case measure => first | (simp [intOf]; done) | (simp [intOf]; omega) | omega
      · obtain rfl : k = R.length := by omega
        obtain ⟨ai, ci, e1, o1⟩ := H2.out.pickAt (m := minI lenLt R (R.length - 1)) (by omega)
        rw [em] at e1
        cases e1
        have hO := Lib.hid o1
        go_wp2_with fail
        refine bodyPost_ret (by simp [results, Tryz.results43, go_sem, ↓IntWalk.iteOmega, *]; try rfl) rfl ?_
        refine RetOwn.mk _ rfl (own_mono (own_bel hO.out.own (by (repeat (first | (with_reducible exact Below.refl _ _) | (with_reducible assumption) | (with_reducible refine Later.out _ ?_) | (with_reducible refine bel_alloc ?_ _) | (with_reducible refine bel_drew ?_) | (with_reducible refine bel_drewN ?_ _) | (with_reducible refine bel_set ?_ ?_ _) | (with_reducible refine After.out _ ?_ ?_) | (dsimp only; omega) | omega | (simp only [World.size_alloc, World.size_setCell, World.size_drew]; omega))))) (by ((try simp only [World.size_alloc, World.size_setCell, World.size_drew]); omega))) ?_
        (repeat (first | (with_reducible exact Below.refl _ _) | (with_reducible assumption) | (with_reducible refine Later.out _ ?_) | (with_reducible refine bel_alloc ?_ _) | (with_reducible refine bel_drew ?_) | (with_reducible refine bel_drewN ?_ _) | (with_reducible refine bel_set ?_ ?_ _) | (with_reducible refine After.out _ ?_ ?_) | (dsimp only; omega) | omega | (simp only [World.size_alloc, World.size_setCell, World.size_drew]; omega)))
  · have hZ := cores_empty hc
    rw [show smcR L = [] by simp [smcR, h1, hZ, bestL], show smcK L = 4 by simp [smcK, h1, hc]]
    simp only [hZ] at CT
    clear hZ hc hRl
    replace CT := Lib.hid CT.out
    replace hr := Lib.hid hr
    replace hRx := Lib.hid hRx
    clear ok h1
    go_enter Tryz.func43, Tryz.ntmps43
    go_wp2_with fail
    with_reducible refine (C1.out).mono ?_
    rintro e w' ⟨rfl, y1, rfl⟩
    have hsy1 := y1.bel.size
    (try simp only [World.size_alloc, World.size_setCell, World.size_drew] at hsy1)
    go_wp2_with fail
    with_reducible refine (CT.out y1.w.heap.size _ _ _ (hr.out.bel (by (repeat (first | (with_reducible exact Below.refl _ _) | (with_reducible assumption) | (with_reducible refine Later.out _ ?_) | (with_reducible refine bel_alloc ?_ _) | (with_reducible refine bel_drew ?_) | (with_reducible refine bel_drewN ?_ _) | (with_reducible refine bel_set ?_ ?_ _) | (with_reducible refine After.out _ ?_ ?_) | (dsimp only; omega) | omega | (simp only [World.size_alloc, World.size_setCell, World.size_drew]; omega))))) (by ((try simp only [World.size_alloc, World.size_setCell, World.size_drew]); omega)) (Owns.of (World.ownsRow_lit (base := y1.w.heap.size) (e := 2) (size := 1) y1.w #[] 0 (Nat.le_refl _) (by unfold maxLen; omega) rfl))).mono ?_
    rintro e w' ⟨a2, c2, vs2, rfl, hnest, y2, rfl⟩
    have hsy2 := y2.bel.size
    (try simp only [World.size_alloc, World.size_setCell, World.size_drew] at hsy2)
    have H2 := Lib.hid hnest
    clear hnest
    go_wp2_with fail
    refine bodyPost_ret (by simp [results, Tryz.results43, go_sem, ↓IntWalk.iteOmega, *]; try rfl) rfl ?_
    refine RetOwn.mk (.slice none 0 0) rfl (World.ownsRow_nil _ _ _ _) ?_
    (repeat (first | (with_reducible exact Below.refl _ _) | (with_reducible assumption) | (with_reducible refine Later.out _ ?_) | (with_reducible refine bel_alloc ?_ _) | (with_reducible refine bel_drew ?_) | (with_reducible refine bel_drewN ?_ _) | (with_reducible refine bel_set ?_ ?_ _) | (with_reducible refine After.out _ ?_ ?_) | (dsimp only; omega) | omega | (simp only [World.size_alloc, World.size_setCell, World.size_drew]; omega)))
end
end Go.Proofs.YtcpddgkloeklaaaGreatDoor

/- The best repair: the plain law, the program's comparison, both sides' best. -/
set_option linter.unusedSimpArgs false
set_option linter.unusedVariables false
namespace Go.Proofs.YtcpddgkloeklaaaGreatDoor
open Go.RowKit
def bestCf (L : List Clm) (x y : List Int) : Int := orL [cmpZ (wtZ L x) (wtZ L y), cmpZ x.length y.length, cmpL x y]
def wtLt (L : List Clm) (x y : List Int) : Bool := decide (wtZ L x < wtZ L y) || (decide (wtZ L x = wtZ L y) && decide ((x.length : Int) < y.length))
theorem orZ_wt {a b c : Int} : orZ (cmpZ a b) c < 0 ↔ a < b ∨ (a = b ∧ c < 0) := by
  unfold orZ cmpZ
  by_cases h1 : a < b
  · simp [h1]
  · by_cases h2 : b < a
    · simp [h1, h2]; omega
    · simp [h1, h2]; omega
theorem best_wtLt (L : List Clm) {S : List (List Int)} (hs : S.Pairwise (· < ·)) : ∀ k, k < S.length → minI (ltC (bestCf L)) S k = minI (wtLt L) S k :=
  minI_congr fun i j hij hi => by
    have h1 := getD_sorted hs hij hi
    have h2 : ¬ cmpL (S.getD i []) (S.getD j []) < 0 := fun h => listInt_asymm h1 (cmpL_neg.1 h)
    unfold ltC bestCf wtLt
    rw [orL_three, Bool.eq_iff_iff]
    simp only [Bool.or_eq_true, Bool.and_eq_true, decide_eq_true_eq]
    rw [orZ_wt, orZ_len h2]
theorem repairs_some (L : List Clm) : 0 < (minZ (repG L) L.length []).length := by
  have e : restTo (restTo [] L.length) L.length = [] := by
    rw [List.eq_nil_iff_forall_not_mem]
    intro x hx
    obtain ⟨h1, h2⟩ := mem_rest.1 hx
    exact h2 (mem_rest.2 ⟨h1, by simp⟩)
  have hg : repG L (restTo [] L.length) = true := by unfold repG keptL; rw [e]; exact bof_true cons_nil
  obtain ⟨T, hT, _⟩ := least_in (repG_mono L) (ixs_rest [] L.length) hg
  exact List.length_pos_of_mem hT
theorem enters_best1 : ∀ args w, (callFunc 129 args).run Tryz.prog w = .ok (.enter 129 args) w := fun _ _ => by kernel_rfl
set_option maxRecDepth 8000 in
set_option maxHeartbeats 4000000 in
theorem best1_any (L : List Clm) (x y : List Int) (a : Option Addr) (n c gx : Nat) (ax : Option Addr) (cx : Nat) (ay : Option Addr) (cy : Nat) (w : World) (hn : L.length = n) (hm : n ≤ 12) (hx : Ixs n x) (hy : Ixs n y) (hr : Row w a (clmsCells L)) (hbx : w.cell? ⟨gx, 0, none⟩ = some (.slice a n c)) (rx : Row w ax (intCells x)) (ry : Row w ay (intCells y)) :
    Calls Tryz.prog 129 #[.slice ax x.length cx, .slice ay y.length cy, .pointer (some ⟨gx, 0, none⟩)] w (Ret w (.int .i64 (bestCf L x y))) := by
  have lgx := World.block_lt_of_cell? w _ hbx
  have hlx := ixs_len hx
  have hly := ixs_len hy
  have W1 := Lib.hid (fun (w : World) hr rx => weightOf_any L x a ax n c x.length cx w hn rfl (by omega) (by omega) hr rx hx.rises)
  have W2 := Lib.hid (fun (w : World) hr ry => weightOf_any L y a ay n c y.length cy w hn rfl (by omega) (by omega) hr ry hy.rises)
  replace hr := Lib.hid hr
  replace rx := Lib.hid rx
  replace ry := Lib.hid ry
  have CC := Lib.hid (fun w rx ry => compare_any x y ax x.length cx ay y.length cy w rfl rfl (by omega) (by omega) rx ry)
  have CZ := Lib.hid (fun (w : World) => cmpInt_any x.length y.length w)
  have CW := Lib.hid (fun (w : World) => cmpI64_any (wtZ L x) (wtZ L y) w)
  have CO := Lib.hid (fun a c w hr => cmpOr_any [cmpZ (wtZ L x) (wtZ L y), cmpZ x.length y.length, cmpL x y] a 3 c w rfl (by omega) hr)
  have hE := Lib.hid (show orL [cmpZ (wtZ L x) (wtZ L y), cmpZ x.length y.length, cmpL x y] = bestCf L x y from rfl)
  obtain ⟨wx, hwx⟩ : ∃ u, wtZ L x = u := ⟨_, rfl⟩
  obtain ⟨wy, hwy⟩ : ∃ u, wtZ L y = u := ⟨_, rfl⟩
  rw [hwx] at W1 CW hE
  rw [hwy] at W2 CW hE
  simp only [hwx, hwy] at CO
  obtain ⟨t, ht⟩ : ∃ u, cmpZ wx wy = u := ⟨_, rfl⟩
  obtain ⟨u, hu⟩ : ∃ u, cmpZ (x.length : Int) y.length = u := ⟨_, rfl⟩
  obtain ⟨v, hv⟩ : ∃ v, cmpL x y = v := ⟨_, rfl⟩
  rw [ht] at CW hE
  rw [hu] at CZ hE
  rw [hv] at CC hE
  simp only [ht, hu, hv] at CO
  clear ht hu hv hwx hwy hx hy
  go_enter Tryz.func129, Tryz.ntmps129
  go_wp2_with fail
  refine wp_region_quiet_tail 15 (C := fun w' => ∃ x : Later _, w' = x.w) (by kernel_rfl) (by kernel_rfl) ⟨⟨_, (Below.refl _ _).drew⟩, rfl⟩ ?_
  simp only [List.take_succ_cons, List.take_zero, List.drop_succ_cons, List.drop_zero]
  repeat (go_big_quiet_step ((first | (go_at_call 94; first | with_reducible exact Calls.later (W1.out _ (hr.out.bel (by (repeat (first | (with_reducible exact Below.refl _ _) | (with_reducible assumption) | (with_reducible refine Later.out _ ?_) | (with_reducible refine bel_alloc ?_ _) | (with_reducible refine bel_drew ?_) | (with_reducible refine bel_drewN ?_ _) | (with_reducible refine bel_set ?_ ?_ _) | (with_reducible refine After.out _ ?_ ?_) | (dsimp only; omega) | omega | (simp only [World.size_alloc, World.size_setCell, World.size_drew]; omega))))) (rx.out.bel (by (repeat (first | (with_reducible exact Below.refl _ _) | (with_reducible assumption) | (with_reducible refine Later.out _ ?_) | (with_reducible refine bel_alloc ?_ _) | (with_reducible refine bel_drew ?_) | (with_reducible refine bel_drewN ?_ _) | (with_reducible refine bel_set ?_ ?_ _) | (with_reducible refine After.out _ ?_ ?_) | (dsimp only; omega) | omega | (simp only [World.size_alloc, World.size_setCell, World.size_drew]; omega)))))) | with_reducible exact Calls.later (W2.out _ (hr.out.bel (by (repeat (first | (with_reducible exact Below.refl _ _) | (with_reducible assumption) | (with_reducible refine Later.out _ ?_) | (with_reducible refine bel_alloc ?_ _) | (with_reducible refine bel_drew ?_) | (with_reducible refine bel_drewN ?_ _) | (with_reducible refine bel_set ?_ ?_ _) | (with_reducible refine After.out _ ?_ ?_) | (dsimp only; omega) | omega | (simp only [World.size_alloc, World.size_setCell, World.size_drew]; omega))))) (ry.out.bel (by (repeat (first | (with_reducible exact Below.refl _ _) | (with_reducible assumption) | (with_reducible refine Later.out _ ?_) | (with_reducible refine bel_alloc ?_ _) | (with_reducible refine bel_drew ?_) | (with_reducible refine bel_drewN ?_ _) | (with_reducible refine bel_set ?_ ?_ _) | (with_reducible refine After.out _ ?_ ?_) | (dsimp only; omega) | omega | (simp only [World.size_alloc, World.size_setCell, World.size_drew]; omega))))))) | (go_at_call 118; exact Calls.later (CW.out _)) | (go_at_call 84; exact Calls.later (CZ.out _)) | (go_at_call 85; exact Calls.later (CC.out _ (rx.out.bel (by (repeat (first | (with_reducible exact Below.refl _ _) | (with_reducible assumption) | (with_reducible refine Later.out _ ?_) | (with_reducible refine bel_alloc ?_ _) | (with_reducible refine bel_drew ?_) | (with_reducible refine bel_drewN ?_ _) | (with_reducible refine bel_set ?_ ?_ _) | (with_reducible refine After.out _ ?_ ?_) | (dsimp only; omega) | omega | (simp only [World.size_alloc, World.size_setCell, World.size_drew]; omega))))) (ry.out.bel (by (repeat (first | (with_reducible exact Below.refl _ _) | (with_reducible assumption) | (with_reducible refine Later.out _ ?_) | (with_reducible refine bel_alloc ?_ _) | (with_reducible refine bel_drew ?_) | (with_reducible refine bel_drewN ?_ _) | (with_reducible refine bel_set ?_ ?_ _) | (with_reducible refine After.out _ ?_ ?_) | (dsimp only; omega) | omega | (simp only [World.size_alloc, World.size_setCell, World.size_drew]; omega))))))))))
  refine wpQuiet_nil ?_
  rintro _ ⟨xq, rfl⟩
  go_wp2_with fail
  with_reducible refine (CO.out _ _ _ (Row.madeAt (w := xq.w) (cs := #[.int .i64 t, .int .i64 u, .int .i64 v]) (e := 3) rfl rfl)).mono ?_
  rintro e w' ⟨rfl, y3, rfl⟩
  go_wp2_with fail
  go_ret
  exact .mk (by rw [← hE.out]; rfl) (by (repeat (first | (with_reducible exact Below.refl _ _) | (with_reducible assumption) | (with_reducible refine Later.out _ ?_) | (with_reducible refine bel_alloc ?_ _) | (with_reducible refine bel_drew ?_) | (with_reducible refine bel_drewN ?_ _) | (with_reducible refine bel_set ?_ ?_ _) | (with_reducible refine After.out _ ?_ ?_) | (dsimp only; omega) | omega | (simp only [World.size_alloc, World.size_setCell, World.size_drew]; omega))))
theorem tells_best1 {L : List Clm} {S : List (List Int)} {a : Option Addr} {n c gx : Nat} {w : World} (hn : L.length = n) (hm : n ≤ 12) (hS : ∀ T ∈ S, Ixs n T) (hr : Row w a (clmsCells L)) (hbx : w.cell? ⟨gx, 0, none⟩ = some (.slice a n c)) : TellsC 129 #[.pointer (some ⟨gx, 0, none⟩)] (bestCf L) S w :=
  fun x hx y hy ax cx ay cy w' hb rx ry => best1_any L x y a n c gx ax cx ay cy w' hn hm (hS x hx) (hS y hy) (hr.bel hb) ((hb.cell (World.block_lt_of_cell? w _ hbx)).trans hbx) rx ry
end Go.Proofs.YtcpddgkloeklaaaGreatDoor

/- BestRepair: both sides. -/
set_option linter.unusedSimpArgs false
set_option linter.unusedVariables false
namespace Go.Proofs.YtcpddgkloeklaaaGreatDoor
open Go.RowKit
noncomputable def bestR (L : List Clm) : List Int := bestL (wtLt L) (minZ (repG L) L.length [])
theorem bestR_ix {L : List Clm} : Ixs L.length (bestR L) := by
  have h := repairs_some L
  have h2 := minI_le (wtLt L) (minZ (repG L) L.length []) ((minZ (repG L) L.length []).length - 1)
  unfold bestR bestL
  rw [getD_at (by omega)]
  exact ((mem_minZ (repG_mono L) (ixs_nil _) _).1 (List.getElem_mem (by omega))).1
set_option maxRecDepth 8000 in
set_option maxHeartbeats 4000000 in
theorem bestRepair_any (L : List Clm) (a : Option Addr) (c : Nat) (w : World) (h12 : L.length ≤ 12) (hr : Row w a (clmsCells L)) : Calls Tryz.prog 93 #[.slice a L.length c] w (RetOwn w 2 1 (bestR L).length (intCells (bestR L)) id) := by
  have CT := Lib.hid (fun (w : World) hr => minimalRepairs_any L a L.length c w rfl h12 hr)
  have hRx : ∀ T ∈ minZ (repG L) L.length [], Ixs L.length T := fun T hT => ((mem_minZ (repG_mono L) (ixs_nil _) T).1 hT).1
  have hRl := minZ_small (repG L) h12 []
  have hRs := minZ_sorted (repG_mono L) (ixs_nil L.length)
  have hRp := repairs_some L
  unfold bestR
  obtain ⟨R, hR⟩ : ∃ R, minZ (repG L) L.length [] = R := ⟨_, rfl⟩
  rw [hR] at hRx hRl hRs hRp ⊢
  simp only [hR] at CT
  have hBe := Lib.hid (best_wtLt L hRs (R.length - 1) (by omega))
  have hle := minI_le (wtLt L) R (R.length - 1)
  replace hr := Lib.hid hr
  replace hRx := Lib.hid hRx
  clear hR hRs
  go_enter Tryz.func93, Tryz.ntmps93
  go_wp2_with fail
  with_reducible refine (CT.out _ (hr.out.bel (by (repeat (first | (with_reducible exact Below.refl _ _) | (with_reducible assumption) | (with_reducible refine Later.out _ ?_) | (with_reducible refine bel_alloc ?_ _) | (with_reducible refine bel_drew ?_) | (with_reducible refine bel_drewN ?_ _) | (with_reducible refine bel_set ?_ ?_ _) | (with_reducible refine After.out _ ?_ ?_) | (dsimp only; omega) | omega | (simp only [World.size_alloc, World.size_setCell, World.size_drew]; omega)))))).mono ?_
  rintro e w' ⟨a2, c2, vs2, rfl, hnest, y2, rfl⟩
  have hsy2 := y2.bel.size
  (try simp only [World.size_alloc, World.size_setCell, World.size_drew] at hsy2)
  have H2 := Lib.hid hnest
  clear hnest
  have hbx : y2.w.cell? ⟨w.heap.size, 0, none⟩ = some (.slice a L.length c) := (Below.cell y2.bel (by simp only [World.size_alloc]; omega)).trans (by simp [go_sem, ↓IntWalk.iteOmega])
  go_wp2_with fail
  with_reducible refine (minFunc_any 129 #[.pointer (some ⟨w.heap.size, 0, none⟩)] (bestCf L) R vs2 _ _ _ _ enters_best1 rfl hRp (by omega) H2.out.rowsV (tells_best1 rfl h12 hRx.out (hr.out.bel (by (repeat (first | (with_reducible exact Below.refl _ _) | (with_reducible assumption) | (with_reducible refine Later.out _ ?_) | (with_reducible refine bel_alloc ?_ _) | (with_reducible refine bel_drew ?_) | (with_reducible refine bel_drewN ?_ _) | (with_reducible refine bel_set ?_ ?_ _) | (with_reducible refine After.out _ ?_ ?_) | (dsimp only; omega) | omega | (simp only [World.size_alloc, World.size_setCell, World.size_drew]; omega))))) hbx)).mono ?_
  rintro e w' ⟨rfl, y3, rfl⟩
  have hsy3 := y3.bel.size
  (try simp only [World.size_alloc, World.size_setCell, World.size_drew] at hsy3)
  go_wp2_with fail
  go_ret
  rw [hBe.out]
  obtain ⟨ai, ci, e1, o1⟩ := H2.out.pickAt (m := minI (wtLt L) R (R.length - 1)) (by omega)
  rw [e1]
  refine RetOwn.mk _ rfl (own_mono (own_bel o1.own (by (repeat (first | (with_reducible exact Below.refl _ _) | (with_reducible assumption) | (with_reducible refine Later.out _ ?_) | (with_reducible refine bel_alloc ?_ _) | (with_reducible refine bel_drew ?_) | (with_reducible refine bel_drewN ?_ _) | (with_reducible refine bel_set ?_ ?_ _) | (with_reducible refine After.out _ ?_ ?_) | (dsimp only; omega) | omega | (simp only [World.size_alloc, World.size_setCell, World.size_drew]; omega))))) (by ((try simp only [World.size_alloc, World.size_setCell, World.size_drew]); omega))) ?_
  (repeat (first | (with_reducible exact Below.refl _ _) | (with_reducible assumption) | (with_reducible refine Later.out _ ?_) | (with_reducible refine bel_alloc ?_ _) | (with_reducible refine bel_drew ?_) | (with_reducible refine bel_drewN ?_ _) | (with_reducible refine bel_set ?_ ?_ _) | (with_reducible refine After.out _ ?_ ?_) | (dsimp only; omega) | omega | (simp only [World.size_alloc, World.size_setCell, World.size_drew]; omega)))
set_option maxRecDepth 8000 in
set_option maxHeartbeats 8000000 in
theorem sBest_any (L : List Clm) (a : Option Addr) (c : Nat) (w : World) (h12 : L.length ≤ 12) (hv : Named L) (hr : Row w a (clmsCells L)) : Calls Tryz.prog 92 #[.slice a L.length c] w (RetOwn w 2 1 (bestR L).length (intCells (bestR L)) fun v => .tuple #[v, .int .i64 (wtZ L (bestR L))]) := by
  have CT := fun lo a2 c2 (w : World) hr hlo ho => sRepairs_any L a L.length c rfl h12 hv (L.length + 1) [] (ixs_nil _) (by omega) lo a2 0 c2 w rfl hr hlo ho
  have hRx : ∀ T ∈ minZ (repG L) L.length [], Ixs L.length T := fun T hT => ((mem_minZ (repG_mono L) (ixs_nil _) T).1 hT).1
  have hRl := minZ_small (repG L) h12 []
  have hRp := repairs_some L
  unfold bestR
  obtain ⟨R, hR⟩ : ∃ R, minZ (repG L) L.length [] = R := ⟨_, rfl⟩
  rw [hR] at hRx hRl hRp ⊢
  simp only [hR] at CT
  have hle := Lib.hid (minI_le (wtLt L) R)
  have CW := Lib.hid (fun (T : List Int) (hT : Ixs L.length T) a' c' (w : World) hr hr' => sWeight_any L T a a' L.length c T.length c' w rfl rfl (by omega) (by have := ixs_len hT; omega) hr hr' hT.rises)
  replace CT := Lib.hid CT
  replace hr := Lib.hid hr
  replace hRx := Lib.hid hRx
  clear hR hv
  go_enter Tryz.func92, Tryz.ntmps92
  go_wp2_with fail
  with_reducible refine (CT.out w.heap.size _ _ _ (hr.out.bel (by (repeat (first | (with_reducible exact Below.refl _ _) | (with_reducible assumption) | (with_reducible refine Later.out _ ?_) | (with_reducible refine bel_alloc ?_ _) | (with_reducible refine bel_drew ?_) | (with_reducible refine bel_drewN ?_ _) | (with_reducible refine bel_set ?_ ?_ _) | (with_reducible refine After.out _ ?_ ?_) | (dsimp only; omega) | omega | (simp only [World.size_alloc, World.size_setCell, World.size_drew]; omega))))) (by ((try simp only [World.size_alloc, World.size_setCell, World.size_drew]); omega)) (Owns.of (World.ownsRow_lit (base := w.heap.size) (e := 2) (size := 1) w #[] 0 (Nat.le_refl _) (by unfold maxLen; omega) rfl))).mono ?_
  rintro e w' ⟨a2, c2, vs2, rfl, hnest, y2, rfl⟩
  have hsy2 := y2.bel.size
  (try simp only [World.size_alloc, World.size_setCell, World.size_drew] at hsy2)
  have H2 := Lib.hid hnest
  clear hnest
  have HV := Lib.hid H2.out.rowsV
  obtain ⟨b, o, ai0, ci0, eb0, hb0, hc0, e0, r0⟩ := HV.out.get hRp
  subst eb0
  rw [Nat.add_zero] at hc0
  replace e0 := Lib.hid e0
  go_wp2_with fail
  go_loopw [5, 6] (fun m i wr => ∃ k : Nat, k ≤ R.length ∧ m = atV vs2 (minI (wtLt L) R (k - 1)) ∧ i = .int .i64 k ∧ ∃ z : Later y2.w, wr = z.w) (fun _ i _ => R.length - (intOf i).toNat)
  case atStart => exact ⟨0, Nat.zero_le _, e0.out.symm, rfl, LaterC.mk (by (repeat (first | (with_reducible exact Below.refl _ _) | (with_reducible assumption) | (with_reducible refine Later.out _ ?_) | (with_reducible refine bel_alloc ?_ _) | (with_reducible refine bel_drew ?_) | (with_reducible refine bel_drewN ?_ _) | (with_reducible refine bel_set ?_ ?_ _) | (with_reducible refine After.out _ ?_ ?_) | (dsimp only; omega) | omega | (simp only [World.size_alloc, World.size_setCell, World.size_drew]; omega))))⟩
  case round =>
    obtain ⟨k, hk, rfl, rfl, z, rfl⟩ := hrel
    have hzz := z.bel.size
    have hlk := hle.out (k - 1)
    obtain ⟨_, _, am, cm, -, -, -, em, rm⟩ := HV.out.get (k := minI (wtLt L) R (k - 1)) (by omega)
    rw [em]
    by_cases hlt : k < R.length
    · have hi1 : (k : Int) < (R.length : Int) := by omega
      obtain ⟨b', o', ai, ci, eb, -, hcc, e2, r2⟩ := HV.out.get hlt
      cases eb
      have hY : wtLt L (atL R k) (atL R (minI (wtLt L) R (k - 1))) = (decide (wtZ L (atL R k) < wtZ L (atL R (minI (wtLt L) R (k - 1)))) || (decide (wtZ L (atL R k) = wtZ L (atL R (minI (wtLt L) R (k - 1)))) && decide (((atL R k).length : Int) < (atL R (minI (wtLt L) R (k - 1))).length))) := rfl
      have WK := CW.out (atL R k) (hRx.out _ (atL_mem hlt))
      have WM := CW.out (atL R (minI (wtLt L) R (k - 1))) (hRx.out _ (atL_mem (by omega)))
      have yes : wtLt L (atL R k) (atL R (minI (wtLt L) R (k - 1))) = true → minI (wtLt L) R (k + 1 - 1) = k := fun h => by
        rcases Nat.eq_zero_or_pos k with h0 | h0
        · subst h0
          exfalso
          rw [hY] at h
          change (decide (wtZ L (atL R 0) < wtZ L (atL R 0)) || (decide (wtZ L (atL R 0) = wtZ L (atL R 0)) && decide (((atL R 0).length : Int) < (atL R 0).length))) = true at h
          simp at h
        · obtain ⟨q, rfl⟩ : ∃ q, k = q + 1 := ⟨k - 1, by omega⟩
          exact minI_yes (by rw [show q + 1 - 1 = q by omega] at h; exact h)
      have no : wtLt L (atL R k) (atL R (minI (wtLt L) R (k - 1))) = false → minI (wtLt L) R (k + 1 - 1) = minI (wtLt L) R (k - 1) := fun h => by
        rcases Nat.eq_zero_or_pos k with h0 | h0
        · subst h0; rfl
        · obtain ⟨q, rfl⟩ : ∃ q, k = q + 1 := ⟨k - 1, by omega⟩
          exact minI_no (by rw [show q + 1 - 1 = q by omega] at h; exact h)
      obtain ⟨va, hva⟩ : ∃ v, wtZ L (atL R k) = v := ⟨_, rfl⟩
      obtain ⟨vb, hvb⟩ : ∃ v, wtZ L (atL R (minI (wtLt L) R (k - 1))) = v := ⟨_, rfl⟩
      rw [hva, hvb] at hY
      rw [hva] at WK
      rw [hvb] at WM
      replace WK := Lib.hid WK
      replace WM := Lib.hid WM
      replace e2 := Lib.hid e2
      replace em := Lib.hid em
      replace r2 := Lib.hid r2
      replace rm := Lib.hid rm
      clear hva hvb
      by_cases hab : va < vb
      · have X := Lib.hid (yes (by rw [hY, decide_eq_true hab]; rfl))
        clear hY yes no
        go_wp2_with fail
        with_reducible refine (WK.out ai ci _ (hr.out.bel (by (repeat (first | (with_reducible exact Below.refl _ _) | (with_reducible assumption) | (with_reducible refine Later.out _ ?_) | (with_reducible refine bel_alloc ?_ _) | (with_reducible refine bel_drew ?_) | (with_reducible refine bel_drewN ?_ _) | (with_reducible refine bel_set ?_ ?_ _) | (with_reducible refine After.out _ ?_ ?_) | (dsimp only; omega) | omega | (simp only [World.size_alloc, World.size_setCell, World.size_drew]; omega))))) (r2.out.bel (by (repeat (first | (with_reducible exact Below.refl _ _) | (with_reducible assumption) | (with_reducible refine Later.out _ ?_) | (with_reducible refine bel_alloc ?_ _) | (with_reducible refine bel_drew ?_) | (with_reducible refine bel_drewN ?_ _) | (with_reducible refine bel_set ?_ ?_ _) | (with_reducible refine After.out _ ?_ ?_) | (dsimp only; omega) | omega | (simp only [World.size_alloc, World.size_setCell, World.size_drew]; omega)))))).mono ?_
        rintro e w' ⟨rfl, y3, rfl⟩
        have hsy3 := y3.bel.size
        (try simp only [World.size_alloc, World.size_setCell, World.size_drew] at hsy3)
        go_wp2_with fail
        with_reducible refine (WM.out am cm _ (hr.out.bel (by (repeat (first | (with_reducible exact Below.refl _ _) | (with_reducible assumption) | (with_reducible refine Later.out _ ?_) | (with_reducible refine bel_alloc ?_ _) | (with_reducible refine bel_drew ?_) | (with_reducible refine bel_drewN ?_ _) | (with_reducible refine bel_set ?_ ?_ _) | (with_reducible refine After.out _ ?_ ?_) | (dsimp only; omega) | omega | (simp only [World.size_alloc, World.size_setCell, World.size_drew]; omega))))) (rm.out.bel (by (repeat (first | (with_reducible exact Below.refl _ _) | (with_reducible assumption) | (with_reducible refine Later.out _ ?_) | (with_reducible refine bel_alloc ?_ _) | (with_reducible refine bel_drew ?_) | (with_reducible refine bel_drewN ?_ _) | (with_reducible refine bel_set ?_ ?_ _) | (with_reducible refine After.out _ ?_ ?_) | (dsimp only; omega) | omega | (simp only [World.size_alloc, World.size_setCell, World.size_drew]; omega)))))).mono ?_
        rintro e w' ⟨rfl, y4, rfl⟩
        have hsy4 := y4.bel.size
        (try simp only [World.size_alloc, World.size_setCell, World.size_drew] at hsy4)
        go_wp2_with fail
        go_roundw
        case rel => exact ⟨k + 1, by omega, by rw [X.out]; exact e2.out.symm, by go_num, LaterC.mk (by (repeat (first | (with_reducible exact Below.refl _ _) | (with_reducible assumption) | (with_reducible refine Later.out _ ?_) | (with_reducible refine bel_alloc ?_ _) | (with_reducible refine bel_drew ?_) | (with_reducible refine bel_drewN ?_ _) | (with_reducible refine bel_set ?_ ?_ _) | (with_reducible refine After.out _ ?_ ?_) | (dsimp only; omega) | omega | (simp only [World.size_alloc, World.size_setCell, World.size_drew]; omega))))⟩
        case measure => first | (simp [intOf]; done) | (simp [intOf]; omega) | omega
      · by_cases hqq : va = vb
        · subst hqq
          by_cases hll : ((atL R k).length : Int) < (atL R (minI (wtLt L) R (k - 1))).length
          · have X := Lib.hid (yes (by rw [hY, decide_eq_false hab, decide_eq_true rfl, decide_eq_true hll]; rfl))
            clear hY yes no
            go_wp2_with fail
            with_reducible refine (WK.out ai ci _ (hr.out.bel (by (repeat (first | (with_reducible exact Below.refl _ _) | (with_reducible assumption) | (with_reducible refine Later.out _ ?_) | (with_reducible refine bel_alloc ?_ _) | (with_reducible refine bel_drew ?_) | (with_reducible refine bel_drewN ?_ _) | (with_reducible refine bel_set ?_ ?_ _) | (with_reducible refine After.out _ ?_ ?_) | (dsimp only; omega) | omega | (simp only [World.size_alloc, World.size_setCell, World.size_drew]; omega))))) (r2.out.bel (by (repeat (first | (with_reducible exact Below.refl _ _) | (with_reducible assumption) | (with_reducible refine Later.out _ ?_) | (with_reducible refine bel_alloc ?_ _) | (with_reducible refine bel_drew ?_) | (with_reducible refine bel_drewN ?_ _) | (with_reducible refine bel_set ?_ ?_ _) | (with_reducible refine After.out _ ?_ ?_) | (dsimp only; omega) | omega | (simp only [World.size_alloc, World.size_setCell, World.size_drew]; omega)))))).mono ?_
            rintro e w' ⟨rfl, y3, rfl⟩
            have hsy3 := y3.bel.size
            (try simp only [World.size_alloc, World.size_setCell, World.size_drew] at hsy3)
            go_wp2_with fail
            with_reducible refine (WM.out am cm _ (hr.out.bel (by (repeat (first | (with_reducible exact Below.refl _ _) | (with_reducible assumption) | (with_reducible refine Later.out _ ?_) | (with_reducible refine bel_alloc ?_ _) | (with_reducible refine bel_drew ?_) | (with_reducible refine bel_drewN ?_ _) | (with_reducible refine bel_set ?_ ?_ _) | (with_reducible refine After.out _ ?_ ?_) | (dsimp only; omega) | omega | (simp only [World.size_alloc, World.size_setCell, World.size_drew]; omega))))) (rm.out.bel (by (repeat (first | (with_reducible exact Below.refl _ _) | (with_reducible assumption) | (with_reducible refine Later.out _ ?_) | (with_reducible refine bel_alloc ?_ _) | (with_reducible refine bel_drew ?_) | (with_reducible refine bel_drewN ?_ _) | (with_reducible refine bel_set ?_ ?_ _) | (with_reducible refine After.out _ ?_ ?_) | (dsimp only; omega) | omega | (simp only [World.size_alloc, World.size_setCell, World.size_drew]; omega)))))).mono ?_
            rintro e w' ⟨rfl, y4, rfl⟩
            have hsy4 := y4.bel.size
            (try simp only [World.size_alloc, World.size_setCell, World.size_drew] at hsy4)
            go_wp2_with fail
            go_roundw
            case rel => exact ⟨k + 1, by omega, by rw [X.out]; exact e2.out.symm, by go_num, LaterC.mk (by (repeat (first | (with_reducible exact Below.refl _ _) | (with_reducible assumption) | (with_reducible refine Later.out _ ?_) | (with_reducible refine bel_alloc ?_ _) | (with_reducible refine bel_drew ?_) | (with_reducible refine bel_drewN ?_ _) | (with_reducible refine bel_set ?_ ?_ _) | (with_reducible refine After.out _ ?_ ?_) | (dsimp only; omega) | omega | (simp only [World.size_alloc, World.size_setCell, World.size_drew]; omega))))⟩
            case measure => first | (simp [intOf]; done) | (simp [intOf]; omega) | omega
          · have X := Lib.hid (no (by rw [hY, decide_eq_false hab, decide_eq_true rfl, decide_eq_false hll]; rfl))
            clear hY yes no
            go_wp2_with fail
            with_reducible refine (WK.out ai ci _ (hr.out.bel (by (repeat (first | (with_reducible exact Below.refl _ _) | (with_reducible assumption) | (with_reducible refine Later.out _ ?_) | (with_reducible refine bel_alloc ?_ _) | (with_reducible refine bel_drew ?_) | (with_reducible refine bel_drewN ?_ _) | (with_reducible refine bel_set ?_ ?_ _) | (with_reducible refine After.out _ ?_ ?_) | (dsimp only; omega) | omega | (simp only [World.size_alloc, World.size_setCell, World.size_drew]; omega))))) (r2.out.bel (by (repeat (first | (with_reducible exact Below.refl _ _) | (with_reducible assumption) | (with_reducible refine Later.out _ ?_) | (with_reducible refine bel_alloc ?_ _) | (with_reducible refine bel_drew ?_) | (with_reducible refine bel_drewN ?_ _) | (with_reducible refine bel_set ?_ ?_ _) | (with_reducible refine After.out _ ?_ ?_) | (dsimp only; omega) | omega | (simp only [World.size_alloc, World.size_setCell, World.size_drew]; omega)))))).mono ?_
            rintro e w' ⟨rfl, y3, rfl⟩
            have hsy3 := y3.bel.size
            (try simp only [World.size_alloc, World.size_setCell, World.size_drew] at hsy3)
            go_wp2_with fail
            with_reducible refine (WM.out am cm _ (hr.out.bel (by (repeat (first | (with_reducible exact Below.refl _ _) | (with_reducible assumption) | (with_reducible refine Later.out _ ?_) | (with_reducible refine bel_alloc ?_ _) | (with_reducible refine bel_drew ?_) | (with_reducible refine bel_drewN ?_ _) | (with_reducible refine bel_set ?_ ?_ _) | (with_reducible refine After.out _ ?_ ?_) | (dsimp only; omega) | omega | (simp only [World.size_alloc, World.size_setCell, World.size_drew]; omega))))) (rm.out.bel (by (repeat (first | (with_reducible exact Below.refl _ _) | (with_reducible assumption) | (with_reducible refine Later.out _ ?_) | (with_reducible refine bel_alloc ?_ _) | (with_reducible refine bel_drew ?_) | (with_reducible refine bel_drewN ?_ _) | (with_reducible refine bel_set ?_ ?_ _) | (with_reducible refine After.out _ ?_ ?_) | (dsimp only; omega) | omega | (simp only [World.size_alloc, World.size_setCell, World.size_drew]; omega)))))).mono ?_
            rintro e w' ⟨rfl, y4, rfl⟩
            have hsy4 := y4.bel.size
            (try simp only [World.size_alloc, World.size_setCell, World.size_drew] at hsy4)
            go_wp2_with fail
            go_roundw
            case rel => exact ⟨k + 1, by omega, by rw [X.out]; exact em.out.symm, by go_num, LaterC.mk (by (repeat (first | (with_reducible exact Below.refl _ _) | (with_reducible assumption) | (with_reducible refine Later.out _ ?_) | (with_reducible refine bel_alloc ?_ _) | (with_reducible refine bel_drew ?_) | (with_reducible refine bel_drewN ?_ _) | (with_reducible refine bel_set ?_ ?_ _) | (with_reducible refine After.out _ ?_ ?_) | (dsimp only; omega) | omega | (simp only [World.size_alloc, World.size_setCell, World.size_drew]; omega))))⟩
            case measure => first | (simp [intOf]; done) | (simp [intOf]; omega) | omega
        · have X := Lib.hid (no (by rw [hY, decide_eq_false hab, decide_eq_false hqq]; rfl))
          have hqq2 : (va == vb) = false := by simpa using hqq
          clear hY yes no
          go_wp2_with fail
          with_reducible refine (WK.out ai ci _ (hr.out.bel (by (repeat (first | (with_reducible exact Below.refl _ _) | (with_reducible assumption) | (with_reducible refine Later.out _ ?_) | (with_reducible refine bel_alloc ?_ _) | (with_reducible refine bel_drew ?_) | (with_reducible refine bel_drewN ?_ _) | (with_reducible refine bel_set ?_ ?_ _) | (with_reducible refine After.out _ ?_ ?_) | (dsimp only; omega) | omega | (simp only [World.size_alloc, World.size_setCell, World.size_drew]; omega))))) (r2.out.bel (by (repeat (first | (with_reducible exact Below.refl _ _) | (with_reducible assumption) | (with_reducible refine Later.out _ ?_) | (with_reducible refine bel_alloc ?_ _) | (with_reducible refine bel_drew ?_) | (with_reducible refine bel_drewN ?_ _) | (with_reducible refine bel_set ?_ ?_ _) | (with_reducible refine After.out _ ?_ ?_) | (dsimp only; omega) | omega | (simp only [World.size_alloc, World.size_setCell, World.size_drew]; omega)))))).mono ?_
          rintro e w' ⟨rfl, y3, rfl⟩
          have hsy3 := y3.bel.size
          (try simp only [World.size_alloc, World.size_setCell, World.size_drew] at hsy3)
          go_wp2_with fail
          with_reducible refine (WM.out am cm _ (hr.out.bel (by (repeat (first | (with_reducible exact Below.refl _ _) | (with_reducible assumption) | (with_reducible refine Later.out _ ?_) | (with_reducible refine bel_alloc ?_ _) | (with_reducible refine bel_drew ?_) | (with_reducible refine bel_drewN ?_ _) | (with_reducible refine bel_set ?_ ?_ _) | (with_reducible refine After.out _ ?_ ?_) | (dsimp only; omega) | omega | (simp only [World.size_alloc, World.size_setCell, World.size_drew]; omega))))) (rm.out.bel (by (repeat (first | (with_reducible exact Below.refl _ _) | (with_reducible assumption) | (with_reducible refine Later.out _ ?_) | (with_reducible refine bel_alloc ?_ _) | (with_reducible refine bel_drew ?_) | (with_reducible refine bel_drewN ?_ _) | (with_reducible refine bel_set ?_ ?_ _) | (with_reducible refine After.out _ ?_ ?_) | (dsimp only; omega) | omega | (simp only [World.size_alloc, World.size_setCell, World.size_drew]; omega)))))).mono ?_
          rintro e w' ⟨rfl, y4, rfl⟩
          have hsy4 := y4.bel.size
          (try simp only [World.size_alloc, World.size_setCell, World.size_drew] at hsy4)
          go_wp2_with fail
          go_roundw
          case rel => exact ⟨k + 1, by omega, by rw [X.out]; exact em.out.symm, by go_num, LaterC.mk (by (repeat (first | (with_reducible exact Below.refl _ _) | (with_reducible assumption) | (with_reducible refine Later.out _ ?_) | (with_reducible refine bel_alloc ?_ _) | (with_reducible refine bel_drew ?_) | (with_reducible refine bel_drewN ?_ _) | (with_reducible refine bel_set ?_ ?_ _) | (with_reducible refine After.out _ ?_ ?_) | (dsimp only; omega) | omega | (simp only [World.size_alloc, World.size_setCell, World.size_drew]; omega))))⟩
          case measure => first | (simp [intOf]; done) | (simp [intOf]; omega) | omega
    · obtain rfl : k = R.length := by omega
      obtain ⟨ai, ci, e1, o1⟩ := H2.out.pickAt (m := minI (wtLt L) R (R.length - 1)) (by omega)
      have WM := Lib.hid (CW.out (atL R (minI (wtLt L) R (R.length - 1))) (hRx.out _ (atL_mem (by omega))))
      rw [em] at e1
      cases e1
      have hO := Lib.hid o1
      replace rm := Lib.hid rm
      go_wp2_with fail
      with_reducible refine (WM.out am cm _ (hr.out.bel (by (repeat (first | (with_reducible exact Below.refl _ _) | (with_reducible assumption) | (with_reducible refine Later.out _ ?_) | (with_reducible refine bel_alloc ?_ _) | (with_reducible refine bel_drew ?_) | (with_reducible refine bel_drewN ?_ _) | (with_reducible refine bel_set ?_ ?_ _) | (with_reducible refine After.out _ ?_ ?_) | (dsimp only; omega) | omega | (simp only [World.size_alloc, World.size_setCell, World.size_drew]; omega))))) (rm.out.bel (by (repeat (first | (with_reducible exact Below.refl _ _) | (with_reducible assumption) | (with_reducible refine Later.out _ ?_) | (with_reducible refine bel_alloc ?_ _) | (with_reducible refine bel_drew ?_) | (with_reducible refine bel_drewN ?_ _) | (with_reducible refine bel_set ?_ ?_ _) | (with_reducible refine After.out _ ?_ ?_) | (dsimp only; omega) | omega | (simp only [World.size_alloc, World.size_setCell, World.size_drew]; omega)))))).mono ?_
      rintro e w' ⟨rfl, y4, rfl⟩
      have hsy4 := y4.bel.size
      (try simp only [World.size_alloc, World.size_setCell, World.size_drew] at hsy4)
      go_wp2_with fail
      refine bodyPost_ret (by simp [results, Tryz.results92, go_sem, ↓IntWalk.iteOmega, *]; try rfl) rfl ?_
      refine RetOwn.mk _ rfl (own_mono (own_bel hO.out.own (by (repeat (first | (with_reducible exact Below.refl _ _) | (with_reducible assumption) | (with_reducible refine Later.out _ ?_) | (with_reducible refine bel_alloc ?_ _) | (with_reducible refine bel_drew ?_) | (with_reducible refine bel_drewN ?_ _) | (with_reducible refine bel_set ?_ ?_ _) | (with_reducible refine After.out _ ?_ ?_) | (dsimp only; omega) | omega | (simp only [World.size_alloc, World.size_setCell, World.size_drew]; omega))))) (by ((try simp only [World.size_alloc, World.size_setCell, World.size_drew]); omega))) ?_
      (repeat (first | (with_reducible exact Below.refl _ _) | (with_reducible assumption) | (with_reducible refine Later.out _ ?_) | (with_reducible refine bel_alloc ?_ _) | (with_reducible refine bel_drew ?_) | (with_reducible refine bel_drewN ?_ _) | (with_reducible refine bel_set ?_ ?_ _) | (with_reducible refine After.out _ ?_ ?_) | (dsimp only; omega) | omega | (simp only [World.size_alloc, World.size_setCell, World.size_drew]; omega)))
noncomputable def bstR (L : List Clm) : List Int := if claimsB L then bestR L else []
noncomputable def bstK0 (L : List Clm) : Int := if claimsB L then wtZ L (bestR L) else 0
noncomputable def bstK (L : List Clm) : Int := if claimsB L then 0 else 1
theorem bstR_len (L : List Clm) {n : Nat} (hn : L.length = n) (hm : n ≤ 1048576) : (bstR L).length ≤ 1048576 := by
  unfold bstR
  split
  · rename_i h
    have h12 := len_of_claims h
    have := ixs_len (bestR_ix (L := L))
    omega
  · simp
section
variable (L : List Clm) (a : Option Addr) (n c : Nat) (w : World) (hn : L.length = n) (hm : n ≤ 1048576) (hr : Row w a (clmsCells L)) (ok : ∀ c ∈ L, ClmOk c)
include hn hm hr ok
set_option maxRecDepth 8000 in
set_option maxHeartbeats 4000000 in
theorem bst_impl (hx : Max w) : Calls Tryz.prog 52 #[.slice a n c] w (RetOwn w 2 1 (bstR L).length (intCells (bstR L)) fun v => .tuple #[v, .int .i64 (bstK0 L), .int .i64 (bstK L)]) := by
  cases h1 : claimsB L
  · rw [show bstR L = [] by simp [bstR, h1], show bstK0 L = 0 by simp [bstK0, h1], show bstK L = 1 by simp [bstK, h1]]
    have C1 := Lib.hid (areClaims_b (c := c) hn hm hr ok hx h1)
    clear ok h1 hn hr hx
    go_enter Tryz.func52, Tryz.ntmps52
    go_wp2_with fail
    with_reducible refine (C1.out).mono ?_
    rintro e w' ⟨rfl, y1, rfl⟩
    have hsy1 := y1.bel.size
    (try simp only [World.size_alloc, World.size_setCell, World.size_drew] at hsy1)
    go_wp2_with fail
    refine bodyPost_ret (by simp [results, Tryz.results52, go_sem, ↓IntWalk.iteOmega, *]; try rfl) rfl ?_
    refine RetOwn.mk (.slice none 0 0) rfl (World.ownsRow_nil _ _ _ _) ?_
    (repeat (first | (with_reducible exact Below.refl _ _) | (with_reducible assumption) | (with_reducible refine Later.out _ ?_) | (with_reducible refine bel_alloc ?_ _) | (with_reducible refine bel_drew ?_) | (with_reducible refine bel_drewN ?_ _) | (with_reducible refine bel_set ?_ ?_ _) | (with_reducible refine After.out _ ?_ ?_) | (dsimp only; omega) | omega | (simp only [World.size_alloc, World.size_setCell, World.size_drew]; omega)))
  have h12 := len_of_claims h1
  have C1 := Lib.hid (areClaims_b (c := c) hn hm hr ok hx h1)
  subst hn
  have CT := Lib.hid (fun (w : World) hr => minimalRepairs_any L a L.length c w rfl h12 hr)
  have hRx : ∀ T ∈ minZ (repG L) L.length [], Ixs L.length T := fun T hT => ((mem_minZ (repG_mono L) (ixs_nil _) T).1 hT).1
  have hRl := minZ_small (repG L) h12 []
  clear hRx hRl CT
  have hix := bestR_ix (L := L)
  rw [show bstR L = bestR L by simp [bstR, h1], show bstK0 L = wtZ L (bestR L) by simp [bstK0, h1], show bstK L = 0 by simp [bstK, h1]]
  have CB := Lib.hid (fun (w : World) hr => bestRepair_any L a c w h12 hr)
  have CW := Lib.hid (fun a' c' (w : World) hr hr' => weightOf_any L (bestR L) a a' L.length c (bestR L).length c' w rfl rfl (by omega) (by have := ixs_len hix; omega) hr hr' hix.rises)
  obtain ⟨B, hB⟩ : ∃ B, bestR L = B := ⟨_, rfl⟩
  obtain ⟨v, hv⟩ : ∃ v, wtZ L (bestR L) = v := ⟨_, rfl⟩
  rw [hv] at CW ⊢
  rw [hB] at CB CW ⊢
  replace hr := Lib.hid hr
  clear ok h1 hix hB hv hx
  go_enter Tryz.func52, Tryz.ntmps52
  go_wp2_with fail
  with_reducible refine (C1.out).mono ?_
  rintro e w' ⟨rfl, y1, rfl⟩
  have hsy1 := y1.bel.size
  (try simp only [World.size_alloc, World.size_setCell, World.size_drew] at hsy1)
  go_wp2_with fail
  with_reducible refine (CB.out _ (hr.out.bel (by (repeat (first | (with_reducible exact Below.refl _ _) | (with_reducible assumption) | (with_reducible refine Later.out _ ?_) | (with_reducible refine bel_alloc ?_ _) | (with_reducible refine bel_drew ?_) | (with_reducible refine bel_drewN ?_ _) | (with_reducible refine bel_set ?_ ?_ _) | (with_reducible refine After.out _ ?_ ?_) | (dsimp only; omega) | omega | (simp only [World.size_alloc, World.size_setCell, World.size_drew]; omega)))))).mono ?_
  rintro e w' ⟨a2, c2, rfl, hown, y2, rfl⟩
  have hsy2 := y2.bel.size
  (try simp only [World.size_alloc, World.size_setCell, World.size_drew] at hsy2)
  have H2 := Lib.hid (Owns.of hown)
  clear hown
  go_wp2_with fail
  with_reducible refine (CW.out _ _ _ (hr.out.bel (by (repeat (first | (with_reducible exact Below.refl _ _) | (with_reducible assumption) | (with_reducible refine Later.out _ ?_) | (with_reducible refine bel_alloc ?_ _) | (with_reducible refine bel_drew ?_) | (with_reducible refine bel_drewN ?_ _) | (with_reducible refine bel_set ?_ ?_ _) | (with_reducible refine After.out _ ?_ ?_) | (dsimp only; omega) | omega | (simp only [World.size_alloc, World.size_setCell, World.size_drew]; omega))))) H2.out.row).mono ?_
  rintro e w' ⟨rfl, y3, rfl⟩
  have hsy3 := y3.bel.size
  (try simp only [World.size_alloc, World.size_setCell, World.size_drew] at hsy3)
  go_wp2_with fail
  refine bodyPost_ret (by simp [results, Tryz.results52, go_sem, ↓IntWalk.iteOmega, *]; try rfl) rfl ?_
  refine RetOwn.mk _ rfl (own_mono (own_bel H2.out.own (by (repeat (first | (with_reducible exact Below.refl _ _) | (with_reducible assumption) | (with_reducible refine Later.out _ ?_) | (with_reducible refine bel_alloc ?_ _) | (with_reducible refine bel_drew ?_) | (with_reducible refine bel_drewN ?_ _) | (with_reducible refine bel_set ?_ ?_ _) | (with_reducible refine After.out _ ?_ ?_) | (dsimp only; omega) | omega | (simp only [World.size_alloc, World.size_setCell, World.size_drew]; omega))))) (by ((try simp only [World.size_alloc, World.size_setCell, World.size_drew]); omega))) ?_
  (repeat (first | (with_reducible exact Below.refl _ _) | (with_reducible assumption) | (with_reducible refine Later.out _ ?_) | (with_reducible refine bel_alloc ?_ _) | (with_reducible refine bel_drew ?_) | (with_reducible refine bel_drewN ?_ _) | (with_reducible refine bel_set ?_ ?_ _) | (with_reducible refine After.out _ ?_ ?_) | (dsimp only; omega) | omega | (simp only [World.size_alloc, World.size_setCell, World.size_drew]; omega)))
set_option maxRecDepth 8000 in
set_option maxHeartbeats 4000000 in
theorem bst_spec : Calls Tryz.prog 51 #[.slice a n c] w (RetOwn w 2 1 (bstR L).length (intCells (bstR L)) fun v => .tuple #[v, .int .i64 (bstK0 L), .int .i64 (bstK L)]) := by
  cases h1 : claimsB L
  · rw [show bstR L = [] by simp [bstR, h1], show bstK0 L = 0 by simp [bstK0, h1], show bstK L = 1 by simp [bstK, h1]]
    have C1 := Lib.hid (sAreClaims_b (c := c) hn hm hr ok h1)
    clear ok h1 hn hr
    go_enter Tryz.func51, Tryz.ntmps51
    go_wp2_with fail
    with_reducible refine (C1.out).mono ?_
    rintro e w' ⟨rfl, y1, rfl⟩
    have hsy1 := y1.bel.size
    (try simp only [World.size_alloc, World.size_setCell, World.size_drew] at hsy1)
    go_wp2_with fail
    refine bodyPost_ret (by simp [results, Tryz.results51, go_sem, ↓IntWalk.iteOmega, *]; try rfl) rfl ?_
    refine RetOwn.mk (.slice none 0 0) rfl (World.ownsRow_nil _ _ _ _) ?_
    (repeat (first | (with_reducible exact Below.refl _ _) | (with_reducible assumption) | (with_reducible refine Later.out _ ?_) | (with_reducible refine bel_alloc ?_ _) | (with_reducible refine bel_drew ?_) | (with_reducible refine bel_drewN ?_ _) | (with_reducible refine bel_set ?_ ?_ _) | (with_reducible refine After.out _ ?_ ?_) | (dsimp only; omega) | omega | (simp only [World.size_alloc, World.size_setCell, World.size_drew]; omega)))
  have h12 := len_of_claims h1
  have C1 := Lib.hid (sAreClaims_b (c := c) hn hm hr ok h1)
  subst hn
  have CT := Lib.hid (fun lo a2 c2 (w : World) hr hlo ho => sRepairs_any L a L.length c rfl h12 (named_of fun c hc => claim_of_claims h1 hc) (L.length + 1) [] (ixs_nil _) (by omega) lo a2 0 c2 w rfl hr hlo ho)
  have hRx : ∀ T ∈ minZ (repG L) L.length [], Ixs L.length T := fun T hT => ((mem_minZ (repG_mono L) (ixs_nil _) T).1 hT).1
  have hRl := minZ_small (repG L) h12 []
  clear hRx hRl CT
  have hix := bestR_ix (L := L)
  rw [show bstR L = bestR L by simp [bstR, h1], show bstK0 L = wtZ L (bestR L) by simp [bstK0, h1], show bstK L = 0 by simp [bstK, h1]]
  have CB := Lib.hid (fun (w : World) hr => sBest_any L a c w h12 (named_of fun c hc => claim_of_claims h1 hc) hr)
  obtain ⟨B, hB⟩ : ∃ B, bestR L = B := ⟨_, rfl⟩
  obtain ⟨v, hv⟩ : ∃ v, wtZ L (bestR L) = v := ⟨_, rfl⟩
  simp only [hv] at CB ⊢
  simp only [hB] at CB ⊢
  replace hr := Lib.hid hr
  clear ok h1 hix hB hv
  go_enter Tryz.func51, Tryz.ntmps51
  go_wp2_with fail
  with_reducible refine (C1.out).mono ?_
  rintro e w' ⟨rfl, y1, rfl⟩
  have hsy1 := y1.bel.size
  (try simp only [World.size_alloc, World.size_setCell, World.size_drew] at hsy1)
  go_wp2_with fail
  with_reducible refine (CB.out _ (hr.out.bel (by (repeat (first | (with_reducible exact Below.refl _ _) | (with_reducible assumption) | (with_reducible refine Later.out _ ?_) | (with_reducible refine bel_alloc ?_ _) | (with_reducible refine bel_drew ?_) | (with_reducible refine bel_drewN ?_ _) | (with_reducible refine bel_set ?_ ?_ _) | (with_reducible refine After.out _ ?_ ?_) | (dsimp only; omega) | omega | (simp only [World.size_alloc, World.size_setCell, World.size_drew]; omega)))))).mono ?_
  rintro e w' ⟨a2, c2, rfl, hown, y2, rfl⟩
  have hsy2 := y2.bel.size
  (try simp only [World.size_alloc, World.size_setCell, World.size_drew] at hsy2)
  have H2 := Lib.hid (Owns.of hown)
  clear hown
  go_wp2_with fail
  refine bodyPost_ret (by simp [results, Tryz.results51, go_sem, ↓IntWalk.iteOmega, *]; try rfl) rfl ?_
  refine RetOwn.mk _ rfl (own_mono (own_bel H2.out.own (by (repeat (first | (with_reducible exact Below.refl _ _) | (with_reducible assumption) | (with_reducible refine Later.out _ ?_) | (with_reducible refine bel_alloc ?_ _) | (with_reducible refine bel_drew ?_) | (with_reducible refine bel_drewN ?_ _) | (with_reducible refine bel_set ?_ ?_ _) | (with_reducible refine After.out _ ?_ ?_) | (dsimp only; omega) | omega | (simp only [World.size_alloc, World.size_setCell, World.size_drew]; omega))))) (by ((try simp only [World.size_alloc, World.size_setCell, World.size_drew]); omega))) ?_
  (repeat (first | (with_reducible exact Below.refl _ _) | (with_reducible assumption) | (with_reducible refine Later.out _ ?_) | (with_reducible refine bel_alloc ?_ _) | (with_reducible refine bel_drew ?_) | (with_reducible refine bel_drewN ?_ _) | (with_reducible refine bel_set ?_ ?_ _) | (with_reducible refine After.out _ ?_ ?_) | (dsimp only; omega) | omega | (simp only [World.size_alloc, World.size_setCell, World.size_drew]; omega)))
end
end Go.Proofs.YtcpddgkloeklaaaGreatDoor
