import Derived.Test.YtflcfdiochohgaaGreatDoorPackD
import Derived.Test.YtflcfdiochohgaaGreatDoorPackC
import Derived.Test.YtflcfdiochohgaaGreatDoorPackEa
/- Several of my texts, one behind the other: ResT, ResS, Best, ResB. -/
/- CoresOf and MinimalRepairs: both sides. -/
set_option linter.unusedSimpArgs false
set_option linter.unusedVariables false
namespace Go.Proofs.YtflcfdiochohgaaGreatDoor
open Go.RowKit
noncomputable def crsR (L : List Clm) : List (List Int) := if claimsB L then (if 60 < (minZ (coreG L) L.length []).length then [] else minZ (coreG L) L.length []) else []
noncomputable def crsK (L : List Clm) : Int := if claimsB L then (if 60 < (minZ (coreG L) L.length []).length then 3 else 0) else 1
theorem crsR_len (L : List Clm) {n : Nat} (hn : L.length = n) (hm : n ≤ 1048576) : (crsR L).length ≤ 1048576 := by
  unfold crsR
  split
  · split
    · simp
    · omega
  · simp
section
variable (L : List Clm) (a : Option Addr) (n c : Nat) (w : World) (hn : L.length = n) (hm : n ≤ 1048576) (hr : Row w a (clmsCells L)) (ok : ∀ c ∈ L, ClmOk c)
include hn hm hr ok
set_option maxRecDepth 8000 in
set_option maxHeartbeats 4000000 in
theorem crs_impl (hx : Max w) : Calls Tryz.prog 49 #[.slice a n c] w (RetNest w (crsR L) fun v => .tuple #[v, .int .i64 (crsK L)]) := by
  cases h1 : claimsB L
  · rw [show crsR L = [] by simp [crsR, h1], show crsK L = 1 by simp [crsK, h1]]
    have C1 := Lib.hid (areClaims_b (c := c) hn hm hr ok hx h1)
    clear ok h1 hn hr hx
    go_enter Tryz.func49, Tryz.ntmps49
    go_wp2_with fail
    with_reducible refine (C1.out).mono ?_
    rintro e w' ⟨rfl, y1, rfl⟩
    have hsy1 := y1.bel.size
    (try simp only [World.size_alloc, World.size_setCell, World.size_drew] at hsy1)
    go_wp2_with fail
    refine bodyPost_ret (by simp [results, Tryz.results49, go_sem, ↓IntWalk.iteOmega, *]; try rfl) rfl ?_
    refine RetNest.mk' rfl (Nest.nil _ _ _) ?_
    (repeat (first | (with_reducible exact Below.refl _ _) | (with_reducible assumption) | (with_reducible refine Later.out _ ?_) | (with_reducible refine bel_alloc ?_ _) | (with_reducible refine bel_drew ?_) | (with_reducible refine bel_drewN ?_ _) | (with_reducible refine bel_set ?_ ?_ _) | (with_reducible refine After.out _ ?_ ?_) | (dsimp only; omega) | omega | (simp only [World.size_alloc, World.size_setCell, World.size_drew]; omega)))
  have h12 := len_of_claims h1
  have C1 := Lib.hid (areClaims_b (c := c) hn hm hr ok hx h1)
  subst hn
  have CT := Lib.hid (fun (w : World) hr => coresOf_any L a L.length c w rfl h12 hr)
  have hRx : ∀ T ∈ minZ (coreG L) L.length [], Ixs L.length T := fun T hT => ((mem_minZ (coreG_mono L) (ixs_nil _) T).1 hT).1
  have hRl := minZ_small (coreG L) h12 []
  obtain ⟨R, hR⟩ : ∃ R, minZ (coreG L) L.length [] = R := ⟨_, rfl⟩
  have eR : crsR L = if 60 < R.length then [] else R := by simp [crsR, h1, hR]
  have eK : crsK L = if 60 < R.length then 3 else 0 := by simp [crsK, h1, hR]
  rw [eR, eK]
  rw [hR] at hRx hRl
  simp only [hR] at CT
  clear eR eK hR
  by_cases h60 : 60 < R.length
  · rw [if_pos h60, if_pos h60]
    have h61 : (60 : Int) < (R.length : Int) := by omega
    replace CT := Lib.hid CT.out
    replace hr := Lib.hid hr
    replace hRx := Lib.hid hRx
    clear ok h1 hx
    go_enter Tryz.func49, Tryz.ntmps49
    go_wp2_with fail
    with_reducible refine (C1.out).mono ?_
    rintro e w' ⟨rfl, y1, rfl⟩
    have hsy1 := y1.bel.size
    (try simp only [World.size_alloc, World.size_setCell, World.size_drew] at hsy1)
    go_wp2_with fail
    with_reducible refine (CT.out _ (hr.out.bel (by (repeat (first | (with_reducible exact Below.refl _ _) | (with_reducible assumption) | (with_reducible refine Later.out _ ?_) | (with_reducible refine bel_alloc ?_ _) | (with_reducible refine bel_drew ?_) | (with_reducible refine bel_drewN ?_ _) | (with_reducible refine bel_set ?_ ?_ _) | (with_reducible refine After.out _ ?_ ?_) | (dsimp only; omega) | omega | (simp only [World.size_alloc, World.size_setCell, World.size_drew]; omega)))))).mono ?_
    rintro e w' ⟨a2, c2, vs2, rfl, hnest, y2, rfl⟩
    have hsy2 := y2.bel.size
    (try simp only [World.size_alloc, World.size_setCell, World.size_drew] at hsy2)
    have H2 := Lib.hid hnest
    clear hnest
    go_wp2_with fail
    refine bodyPost_ret (by simp [results, Tryz.results49, go_sem, ↓IntWalk.iteOmega, *]; try rfl) rfl ?_
    refine RetNest.mk' rfl (Nest.nil _ _ _) ?_
    (repeat (first | (with_reducible exact Below.refl _ _) | (with_reducible assumption) | (with_reducible refine Later.out _ ?_) | (with_reducible refine bel_alloc ?_ _) | (with_reducible refine bel_drew ?_) | (with_reducible refine bel_drewN ?_ _) | (with_reducible refine bel_set ?_ ?_ _) | (with_reducible refine After.out _ ?_ ?_) | (dsimp only; omega) | omega | (simp only [World.size_alloc, World.size_setCell, World.size_drew]; omega)))
  · rw [if_neg h60, if_neg h60]
    have h61 : ¬ (60 : Int) < (R.length : Int) := by omega
    replace CT := Lib.hid CT.out
    replace hr := Lib.hid hr
    replace hRx := Lib.hid hRx
    clear ok h1 hx
    go_enter Tryz.func49, Tryz.ntmps49
    go_wp2_with fail
    with_reducible refine (C1.out).mono ?_
    rintro e w' ⟨rfl, y1, rfl⟩
    have hsy1 := y1.bel.size
    (try simp only [World.size_alloc, World.size_setCell, World.size_drew] at hsy1)
    go_wp2_with fail
    with_reducible refine (CT.out _ (hr.out.bel (by (repeat (first | (with_reducible exact Below.refl _ _) | (with_reducible assumption) | (with_reducible refine Later.out _ ?_) | (with_reducible refine bel_alloc ?_ _) | (with_reducible refine bel_drew ?_) | (with_reducible refine bel_drewN ?_ _) | (with_reducible refine bel_set ?_ ?_ _) | (with_reducible refine After.out _ ?_ ?_) | (dsimp only; omega) | omega | (simp only [World.size_alloc, World.size_setCell, World.size_drew]; omega)))))).mono ?_
    rintro e w' ⟨a2, c2, vs2, rfl, hnest, y2, rfl⟩
    have hsy2 := y2.bel.size
    (try simp only [World.size_alloc, World.size_setCell, World.size_drew] at hsy2)
    have H2 := Lib.hid hnest
    clear hnest
    go_wp2_with fail
    refine bodyPost_ret (by simp [results, Tryz.results49, go_sem, ↓IntWalk.iteOmega, *]; try rfl) rfl ?_
    refine RetNest.mk' rfl (H2.out.mono (by ((try simp only [World.size_alloc, World.size_setCell, World.size_drew]); omega)) (Nat.le_refl _)) ?_
    (repeat (first | (with_reducible exact Below.refl _ _) | (with_reducible assumption) | (with_reducible refine Later.out _ ?_) | (with_reducible refine bel_alloc ?_ _) | (with_reducible refine bel_drew ?_) | (with_reducible refine bel_drewN ?_ _) | (with_reducible refine bel_set ?_ ?_ _) | (with_reducible refine After.out _ ?_ ?_) | (dsimp only; omega) | omega | (simp only [World.size_alloc, World.size_setCell, World.size_drew]; omega)))
set_option maxRecDepth 8000 in
set_option maxHeartbeats 4000000 in
theorem crs_spec : Calls Tryz.prog 50 #[.slice a n c] w (RetNest w (crsR L) fun v => .tuple #[v, .int .i64 (crsK L)]) := by
  cases h1 : claimsB L
  · rw [show crsR L = [] by simp [crsR, h1], show crsK L = 1 by simp [crsK, h1]]
    have C1 := Lib.hid (sAreClaims_b (c := c) hn hm hr ok h1)
    clear ok h1 hn hr
    go_enter Tryz.func50, Tryz.ntmps50
    go_wp2_with fail
    with_reducible refine (C1.out).mono ?_
    rintro e w' ⟨rfl, y1, rfl⟩
    have hsy1 := y1.bel.size
    (try simp only [World.size_alloc, World.size_setCell, World.size_drew] at hsy1)
    go_wp2_with fail
    refine bodyPost_ret (by simp [results, Tryz.results50, go_sem, ↓IntWalk.iteOmega, *]; try rfl) rfl ?_
    refine RetNest.mk' rfl (Nest.nil _ _ _) ?_
    (repeat (first | (with_reducible exact Below.refl _ _) | (with_reducible assumption) | (with_reducible refine Later.out _ ?_) | (with_reducible refine bel_alloc ?_ _) | (with_reducible refine bel_drew ?_) | (with_reducible refine bel_drewN ?_ _) | (with_reducible refine bel_set ?_ ?_ _) | (with_reducible refine After.out _ ?_ ?_) | (dsimp only; omega) | omega | (simp only [World.size_alloc, World.size_setCell, World.size_drew]; omega)))
  have h12 := len_of_claims h1
  have C1 := Lib.hid (sAreClaims_b (c := c) hn hm hr ok h1)
  subst hn
  have CT := Lib.hid (fun lo a2 c2 (w : World) hr hlo ho => sCores_any L a L.length c rfl h12 (named_of fun c hc => claim_of_claims h1 hc) (L.length + 1) [] (ixs_nil _) (by omega) lo a2 0 c2 w rfl hr hlo ho)
  have hRx : ∀ T ∈ minZ (coreG L) L.length [], Ixs L.length T := fun T hT => ((mem_minZ (coreG_mono L) (ixs_nil _) T).1 hT).1
  have hRl := minZ_small (coreG L) h12 []
  obtain ⟨R, hR⟩ : ∃ R, minZ (coreG L) L.length [] = R := ⟨_, rfl⟩
  have eR : crsR L = if 60 < R.length then [] else R := by simp [crsR, h1, hR]
  have eK : crsK L = if 60 < R.length then 3 else 0 := by simp [crsK, h1, hR]
  rw [eR, eK]
  rw [hR] at hRx hRl
  simp only [hR] at CT
  clear eR eK hR
  by_cases h60 : 60 < R.length
  · rw [if_pos h60, if_pos h60]
    have h61 : (60 : Int) < (R.length : Int) := by omega
    replace CT := Lib.hid CT.out
    replace hr := Lib.hid hr
    replace hRx := Lib.hid hRx
    clear ok h1
    go_enter Tryz.func50, Tryz.ntmps50
    go_wp2_with fail
    with_reducible refine (C1.out).mono ?_
    rintro e w' ⟨rfl, y1, rfl⟩
    have hsy1 := y1.bel.size
    (try simp only [World.size_alloc, World.size_setCell, World.size_drew] at hsy1)
    go_wp2_with fail
    with_reducible refine (CT.out y1.w.heap.size _ _ _ (hr.out.bel (by (repeat (first | (with_reducible exact Below.refl _ _) | (with_reducible assumption) | (with_reducible refine Later.out _ ?_) | (with_reducible refine bel_alloc ?_ _) | (with_reducible refine bel_drew ?_) | (with_reducible refine bel_drewN ?_ _) | (with_reducible refine bel_set ?_ ?_ _) | (with_reducible refine After.out _ ?_ ?_) | (dsimp only; omega) | omega | (simp only [World.size_alloc, World.size_setCell, World.size_drew]; omega))))) (by ((try simp only [World.size_alloc, World.size_setCell, World.size_drew]); omega)) (Owns.of (World.ownsRow_lit (base := y1.w.heap.size) (e := 2) (size := 1) y1.w #[] 0 (Nat.le_refl _) (by unfold maxLen; omega) rfl))).mono ?_
    rintro e w' ⟨a2, c2, vs2, rfl, hnest, y2, rfl⟩
    have hsy2 := y2.bel.size
    (try simp only [World.size_alloc, World.size_setCell, World.size_drew] at hsy2)
    have H2 := Lib.hid hnest
    clear hnest
    go_wp2_with fail
    refine bodyPost_ret (by simp [results, Tryz.results50, go_sem, ↓IntWalk.iteOmega, *]; try rfl) rfl ?_
    refine RetNest.mk' rfl (Nest.nil _ _ _) ?_
    (repeat (first | (with_reducible exact Below.refl _ _) | (with_reducible assumption) | (with_reducible refine Later.out _ ?_) | (with_reducible refine bel_alloc ?_ _) | (with_reducible refine bel_drew ?_) | (with_reducible refine bel_drewN ?_ _) | (with_reducible refine bel_set ?_ ?_ _) | (with_reducible refine After.out _ ?_ ?_) | (dsimp only; omega) | omega | (simp only [World.size_alloc, World.size_setCell, World.size_drew]; omega)))
  · rw [if_neg h60, if_neg h60]
    have h61 : ¬ (60 : Int) < (R.length : Int) := by omega
    replace CT := Lib.hid CT.out
    replace hr := Lib.hid hr
    replace hRx := Lib.hid hRx
    clear ok h1
    go_enter Tryz.func50, Tryz.ntmps50
    go_wp2_with fail
    with_reducible refine (C1.out).mono ?_
    rintro e w' ⟨rfl, y1, rfl⟩
    have hsy1 := y1.bel.size
    (try simp only [World.size_alloc, World.size_setCell, World.size_drew] at hsy1)
    go_wp2_with fail
    with_reducible refine (CT.out y1.w.heap.size _ _ _ (hr.out.bel (by (repeat (first | (with_reducible exact Below.refl _ _) | (with_reducible assumption) | (with_reducible refine Later.out _ ?_) | (with_reducible refine bel_alloc ?_ _) | (with_reducible refine bel_drew ?_) | (with_reducible refine bel_drewN ?_ _) | (with_reducible refine bel_set ?_ ?_ _) | (with_reducible refine After.out _ ?_ ?_) | (dsimp only; omega) | omega | (simp only [World.size_alloc, World.size_setCell, World.size_drew]; omega))))) (by ((try simp only [World.size_alloc, World.size_setCell, World.size_drew]); omega)) (Owns.of (World.ownsRow_lit (base := y1.w.heap.size) (e := 2) (size := 1) y1.w #[] 0 (Nat.le_refl _) (by unfold maxLen; omega) rfl))).mono ?_
    rintro e w' ⟨a2, c2, vs2, rfl, hnest, y2, rfl⟩
    have hsy2 := y2.bel.size
    (try simp only [World.size_alloc, World.size_setCell, World.size_drew] at hsy2)
    have H2 := Lib.hid hnest
    clear hnest
    go_wp2_with fail
    refine bodyPost_ret (by simp [results, Tryz.results50, go_sem, ↓IntWalk.iteOmega, *]; try rfl) rfl ?_
    refine RetNest.mk' rfl (H2.out.mono (by ((try simp only [World.size_alloc, World.size_setCell, World.size_drew]); omega)) (Nat.le_refl _)) ?_
    (repeat (first | (with_reducible exact Below.refl _ _) | (with_reducible assumption) | (with_reducible refine Later.out _ ?_) | (with_reducible refine bel_alloc ?_ _) | (with_reducible refine bel_drew ?_) | (with_reducible refine bel_drewN ?_ _) | (with_reducible refine bel_set ?_ ?_ _) | (with_reducible refine After.out _ ?_ ?_) | (dsimp only; omega) | omega | (simp only [World.size_alloc, World.size_setCell, World.size_drew]; omega)))
end
section
variable (L : List Clm) (a : Option Addr) (n c : Nat) (w : World) (hn : L.length = n) (hm : n ≤ 1048576) (hr : Row w a (clmsCells L)) (ok : ∀ c ∈ L, ClmOk c)
include hn hm hr ok
end
end Go.Proofs.YtflcfdiochohgaaGreatDoor

/- SmallestCore: both sides. -/
set_option linter.unusedSimpArgs false
set_option linter.unusedVariables false
namespace Go.Proofs.YtflcfdiochohgaaGreatDoor
open Go.RowKit
theorem pick_upto (L : List Clm) : ∀ k, k ≤ L.length → pick L ((List.range k).map fun (i : Nat) => (i : Int)) = L.take k
  | 0, _ => by simp [pick]
  | k + 1, h => by
    have ih := pick_upto L k (by omega)
    unfold pick at ih ⊢
    rw [List.range_succ, List.map_append, List.filterMap_append, ih, List.take_succ_eq_append_getElem (by omega)]
    simp [List.getElem?_eq_getElem (show k < L.length by omega)]
theorem pick_all (L : List Clm) : pick L (restTo [] L.length) = L := by
  have e : restTo [] L.length = (List.range L.length).map fun (i : Nat) => (i : Int) := by unfold restTo; exact List.filter_eq_self.2 (by simp)
  rw [e, pick_upto L _ (Nat.le_refl _), List.take_length]
theorem cores_empty {L : List Clm} (h : consB L = true) : minZ (coreG L) L.length [] = [] := by
  rw [List.eq_nil_iff_forall_not_mem]
  intro T hT
  obtain ⟨hI, _, hm⟩ := (mem_minZ (coreG_mono L) (ixs_nil _) T).1 hT
  have hsub : T.Sublist (restTo [] L.length) := sorted_sub hI.inc (ixs_rest [] _).inc fun x hx => mem_rest.2 ⟨hI.bd x hx, by simp⟩
  have h1 := (minB_iff.1 hm).1
  unfold coreG at h1
  rw [cons_sub_b (pick_sub hsub) (by rw [pick_all]; exact h)] at h1
  cases h1
theorem cores_some {L : List Clm} (h : consB L = false) : 0 < (minZ (coreG L) L.length []).length := by
  have hg : coreG L (restTo [] L.length) = true := by unfold coreG; rw [pick_all, h]; rfl
  obtain ⟨T, hT, _⟩ := least_in (coreG_mono L) (ixs_rest [] L.length) hg
  exact List.length_pos_of_mem hT
noncomputable def smcR (L : List Clm) : List Int := if claimsB L then bestL lenLt (minZ (coreG L) L.length []) else []
noncomputable def smcK (L : List Clm) : Int := if claimsB L then (if consB L then 4 else 0) else 1
theorem smcR_len (L : List Clm) {n : Nat} (hn : L.length = n) (hm : n ≤ 1048576) : (smcR L).length ≤ 1048576 := by
  unfold smcR
  split
  · rename_i h
    have h12 := len_of_claims h
    unfold bestL
    rcases Nat.lt_or_ge (minI lenLt (minZ (coreG L) L.length []) ((minZ (coreG L) L.length []).length - 1)) (minZ (coreG L) L.length []).length with h1 | h1
    · rw [getD_at h1]
      have := ixs_len ((mem_minZ (coreG_mono L) (ixs_nil _) _).1 (List.getElem_mem h1)).1
      omega
    · rw [getD_out h1]; simp
  · simp
section
variable (L : List Clm) (a : Option Addr) (n c : Nat) (w : World) (hn : L.length = n) (hm : n ≤ 1048576) (hr : Row w a (clmsCells L)) (ok : ∀ c ∈ L, ClmOk c)
include hn hm hr ok
set_option maxRecDepth 8000 in
set_option maxHeartbeats 4000000 in
theorem smc_impl (hcp : n ≤ c) (hx : Max w) : Calls Tryz.prog 53 #[.slice a n c] w (RetOwn w 2 1 (smcR L).length (intCells (smcR L)) fun v => .tuple #[v, .int .i64 (smcK L)]) := by
  cases h1 : claimsB L
  · rw [show smcR L = [] by simp [smcR, h1], show smcK L = 1 by simp [smcK, h1]]
    have C1 := Lib.hid (areClaims_b (c := c) hn hm hr ok hx h1)
    clear ok h1 hn hr hx
    go_enter Tryz.func53, Tryz.ntmps53
    go_wp2_with fail
    with_reducible refine (C1.out).mono ?_
    rintro e w' ⟨rfl, y1, rfl⟩
    have hsy1 := y1.bel.size
    (try simp only [World.size_alloc, World.size_setCell, World.size_drew] at hsy1)
    go_wp2_with fail
    refine bodyPost_ret (by simp [results, Tryz.results53, go_sem, ↓IntWalk.iteOmega, *]; try rfl) rfl ?_
    refine RetOwn.mk (.slice none 0 0) rfl (World.ownsRow_nil _ _ _ _) ?_
    (repeat (first | (with_reducible exact Below.refl _ _) | (with_reducible assumption) | (with_reducible refine Later.out _ ?_) | (with_reducible refine bel_alloc ?_ _) | (with_reducible refine bel_drew ?_) | (with_reducible refine bel_drewN ?_ _) | (with_reducible refine bel_set ?_ ?_ _) | (with_reducible refine After.out _ ?_ ?_) | (dsimp only; omega) | omega | (simp only [World.size_alloc, World.size_setCell, World.size_drew]; omega)))
  have h12 := len_of_claims h1
  have C1 := Lib.hid (areClaims_b (c := c) hn hm hr ok hx h1)
  subst hn
  have CT := Lib.hid (fun (w : World) hr => coresOf_any L a L.length c w rfl h12 hr)
  have hRx : ∀ T ∈ minZ (coreG L) L.length [], Ixs L.length T := fun T hT => ((mem_minZ (coreG_mono L) (ixs_nil _) T).1 hT).1
  have hRl := minZ_small (coreG L) h12 []
  have hRs := minZ_sorted (coreG_mono L) (ixs_nil L.length)
  cases hc : consB L
  · have hRp := cores_some hc
    rw [show smcR L = bestL lenLt (minZ (coreG L) L.length []) by simp [smcR, h1], show smcK L = 0 by simp [smcK, h1, hc]]
    obtain ⟨R, hR⟩ : ∃ R, minZ (coreG L) L.length [] = R := ⟨_, rfl⟩
    rw [hR] at hRx hRl hRs hRp ⊢
    simp only [hR] at CT
    have hRm : ∀ T ∈ R, T.length ≤ 1048576 := fun T hT => by have := ixs_len (hRx T hT); omega
    have hBe := Lib.hid (core_lenLt hRs (R.length - 1) (by omega))
    have hle := minI_le lenLt R (R.length - 1)
    have hCf : ltC coreCf = coreLt := by funext x y; exact coreCf_lt x y
    have CB := Lib.hid (fun a c (w : World) hcp hr => areConsistent_b (L := L) (a := a) (c := c) (w := w) (n := L.length) rfl (by omega) hcp hr hc)
    clear hR hRs hc
    replace CT := Lib.hid CT.out
    replace hr := Lib.hid hr
    replace hRx := Lib.hid hRx
    clear ok h1 hx
    go_enter Tryz.func53, Tryz.ntmps53
    go_wp2_with fail
    with_reducible refine (C1.out).mono ?_
    rintro e w' ⟨rfl, y1, rfl⟩
    have hsy1 := y1.bel.size
    (try simp only [World.size_alloc, World.size_setCell, World.size_drew] at hsy1)
    go_wp2_with fail
    with_reducible refine (CB.out _ _ _ (hcp) (hr.out.bel (by (repeat (first | (with_reducible exact Below.refl _ _) | (with_reducible assumption) | (with_reducible refine Later.out _ ?_) | (with_reducible refine bel_alloc ?_ _) | (with_reducible refine bel_drew ?_) | (with_reducible refine bel_drewN ?_ _) | (with_reducible refine bel_set ?_ ?_ _) | (with_reducible refine After.out _ ?_ ?_) | (dsimp only; omega) | omega | (simp only [World.size_alloc, World.size_setCell, World.size_drew]; omega)))))).mono ?_
    rintro e w' ⟨rfl, y7, rfl⟩
    have hsy7 := y7.bel.size
    (try simp only [World.size_alloc, World.size_setCell, World.size_drew] at hsy7)
    go_wp2_with fail
    with_reducible refine (CT.out _ (hr.out.bel (by (repeat (first | (with_reducible exact Below.refl _ _) | (with_reducible assumption) | (with_reducible refine Later.out _ ?_) | (with_reducible refine bel_alloc ?_ _) | (with_reducible refine bel_drew ?_) | (with_reducible refine bel_drewN ?_ _) | (with_reducible refine bel_set ?_ ?_ _) | (with_reducible refine After.out _ ?_ ?_) | (dsimp only; omega) | omega | (simp only [World.size_alloc, World.size_setCell, World.size_drew]; omega)))))).mono ?_
    rintro e w' ⟨a2, c2, vs2, rfl, hnest, y2, rfl⟩
    have hsy2 := y2.bel.size
    (try simp only [World.size_alloc, World.size_setCell, World.size_drew] at hsy2)
    have H2 := Lib.hid hnest
    clear hnest
    go_wp2_with fail
    with_reducible refine (minFunc_any 129 #[] coreCf R vs2 _ _ _ _ enters_small1 rfl hRp (by omega) H2.out.rowsV (tells_small1 hRm)).mono ?_
    rintro e w' ⟨rfl, y3, rfl⟩
    have hsy3 := y3.bel.size
    (try simp only [World.size_alloc, World.size_setCell, World.size_drew] at hsy3)
    go_wp2_with fail
    refine bodyPost_ret (by simp [results, Tryz.results53, go_sem, ↓IntWalk.iteOmega, *]; try rfl) rfl ?_
    rw [hBe.out]
    obtain ⟨ai, ci, e1, o1⟩ := H2.out.pickAt (m := minI lenLt R (R.length - 1)) (by omega)
    rw [e1]
    refine RetOwn.mk _ rfl (own_mono (own_bel o1.own (by (repeat (first | (with_reducible exact Below.refl _ _) | (with_reducible assumption) | (with_reducible refine Later.out _ ?_) | (with_reducible refine bel_alloc ?_ _) | (with_reducible refine bel_drew ?_) | (with_reducible refine bel_drewN ?_ _) | (with_reducible refine bel_set ?_ ?_ _) | (with_reducible refine After.out _ ?_ ?_) | (dsimp only; omega) | omega | (simp only [World.size_alloc, World.size_setCell, World.size_drew]; omega))))) (by ((try simp only [World.size_alloc, World.size_setCell, World.size_drew]); omega))) ?_
    (repeat (first | (with_reducible exact Below.refl _ _) | (with_reducible assumption) | (with_reducible refine Later.out _ ?_) | (with_reducible refine bel_alloc ?_ _) | (with_reducible refine bel_drew ?_) | (with_reducible refine bel_drewN ?_ _) | (with_reducible refine bel_set ?_ ?_ _) | (with_reducible refine After.out _ ?_ ?_) | (dsimp only; omega) | omega | (simp only [World.size_alloc, World.size_setCell, World.size_drew]; omega)))
  · have hZ := cores_empty hc
    rw [show smcR L = [] by simp [smcR, h1, hZ, bestL], show smcK L = 4 by simp [smcK, h1, hc]]
    have CB := Lib.hid (fun a c (w : World) hcp hr => areConsistent_b (L := L) (a := a) (c := c) (w := w) (n := L.length) rfl (by omega) hcp hr hc)
    replace hr := Lib.hid hr
    clear ok h1 hx hc hZ CT hRx hRl hRs
    go_enter Tryz.func53, Tryz.ntmps53
    go_wp2_with fail
    with_reducible refine (C1.out).mono ?_
    rintro e w' ⟨rfl, y1, rfl⟩
    have hsy1 := y1.bel.size
    (try simp only [World.size_alloc, World.size_setCell, World.size_drew] at hsy1)
    go_wp2_with fail
    with_reducible refine (CB.out _ _ _ (hcp) (hr.out.bel (by (repeat (first | (with_reducible exact Below.refl _ _) | (with_reducible assumption) | (with_reducible refine Later.out _ ?_) | (with_reducible refine bel_alloc ?_ _) | (with_reducible refine bel_drew ?_) | (with_reducible refine bel_drewN ?_ _) | (with_reducible refine bel_set ?_ ?_ _) | (with_reducible refine After.out _ ?_ ?_) | (dsimp only; omega) | omega | (simp only [World.size_alloc, World.size_setCell, World.size_drew]; omega)))))).mono ?_
    rintro e w' ⟨rfl, y7, rfl⟩
    have hsy7 := y7.bel.size
    (try simp only [World.size_alloc, World.size_setCell, World.size_drew] at hsy7)
    go_wp2_with fail
    refine bodyPost_ret (by simp [results, Tryz.results53, go_sem, ↓IntWalk.iteOmega, *]; try rfl) rfl ?_
    refine RetOwn.mk (.slice none 0 0) rfl (World.ownsRow_nil _ _ _ _) ?_
    (repeat (first | (with_reducible exact Below.refl _ _) | (with_reducible assumption) | (with_reducible refine Later.out _ ?_) | (with_reducible refine bel_alloc ?_ _) | (with_reducible refine bel_drew ?_) | (with_reducible refine bel_drewN ?_ _) | (with_reducible refine bel_set ?_ ?_ _) | (with_reducible refine After.out _ ?_ ?_) | (dsimp only; omega) | omega | (simp only [World.size_alloc, World.size_setCell, World.size_drew]; omega)))
set_option maxRecDepth 8000 in
set_option maxHeartbeats 4000000 in
theorem smc_spec : Calls Tryz.prog 54 #[.slice a n c] w (RetOwn w 2 1 (smcR L).length (intCells (smcR L)) fun v => .tuple #[v, .int .i64 (smcK L)]) := by
  cases h1 : claimsB L
  · rw [show smcR L = [] by simp [smcR, h1], show smcK L = 1 by simp [smcK, h1]]
    have C1 := Lib.hid (sAreClaims_b (c := c) hn hm hr ok h1)
    clear ok h1 hn hr
    go_enter Tryz.func54, Tryz.ntmps54
    go_wp2_with fail
    with_reducible refine (C1.out).mono ?_
    rintro e w' ⟨rfl, y1, rfl⟩
    have hsy1 := y1.bel.size
    (try simp only [World.size_alloc, World.size_setCell, World.size_drew] at hsy1)
    go_wp2_with fail
    refine bodyPost_ret (by simp [results, Tryz.results54, go_sem, ↓IntWalk.iteOmega, *]; try rfl) rfl ?_
    refine RetOwn.mk (.slice none 0 0) rfl (World.ownsRow_nil _ _ _ _) ?_
    (repeat (first | (with_reducible exact Below.refl _ _) | (with_reducible assumption) | (with_reducible refine Later.out _ ?_) | (with_reducible refine bel_alloc ?_ _) | (with_reducible refine bel_drew ?_) | (with_reducible refine bel_drewN ?_ _) | (with_reducible refine bel_set ?_ ?_ _) | (with_reducible refine After.out _ ?_ ?_) | (dsimp only; omega) | omega | (simp only [World.size_alloc, World.size_setCell, World.size_drew]; omega)))
  have h12 := len_of_claims h1
  have C1 := Lib.hid (sAreClaims_b (c := c) hn hm hr ok h1)
  subst hn
  have CT := Lib.hid (fun lo a2 c2 (w : World) hr hlo ho => sCores_any L a L.length c rfl h12 (named_of fun c hc => claim_of_claims h1 hc) (L.length + 1) [] (ixs_nil _) (by omega) lo a2 0 c2 w rfl hr hlo ho)
  have hRx : ∀ T ∈ minZ (coreG L) L.length [], Ixs L.length T := fun T hT => ((mem_minZ (coreG_mono L) (ixs_nil _) T).1 hT).1
  have hRl := minZ_small (coreG L) h12 []
  cases hc : consB L
  · have hRp := cores_some hc
    rw [show smcR L = bestL lenLt (minZ (coreG L) L.length []) by simp [smcR, h1], show smcK L = 0 by simp [smcK, h1, hc]]
    obtain ⟨R, hR⟩ : ∃ R, minZ (coreG L) L.length [] = R := ⟨_, rfl⟩
    rw [hR] at hRx hRl hRp ⊢
    simp only [hR] at CT
    have hle := Lib.hid (minI_le lenLt R)
    clear hR hc
    replace CT := Lib.hid CT.out
    replace hr := Lib.hid hr
    replace hRx := Lib.hid hRx
    clear ok h1
    go_enter Tryz.func54, Tryz.ntmps54
    go_wp2_with fail
    with_reducible refine (C1.out).mono ?_
    rintro e w' ⟨rfl, y1, rfl⟩
    have hsy1 := y1.bel.size
    (try simp only [World.size_alloc, World.size_setCell, World.size_drew] at hsy1)
    go_wp2_with fail
    with_reducible refine (CT.out y1.w.heap.size _ _ _ (hr.out.bel (by (repeat (first | (with_reducible exact Below.refl _ _) | (with_reducible assumption) | (with_reducible refine Later.out _ ?_) | (with_reducible refine bel_alloc ?_ _) | (with_reducible refine bel_drew ?_) | (with_reducible refine bel_drewN ?_ _) | (with_reducible refine bel_set ?_ ?_ _) | (with_reducible refine After.out _ ?_ ?_) | (dsimp only; omega) | omega | (simp only [World.size_alloc, World.size_setCell, World.size_drew]; omega))))) (by ((try simp only [World.size_alloc, World.size_setCell, World.size_drew]); omega)) (Owns.of (World.ownsRow_lit (base := y1.w.heap.size) (e := 2) (size := 1) y1.w #[] 0 (Nat.le_refl _) (by unfold maxLen; omega) rfl))).mono ?_
    rintro e w' ⟨a2, c2, vs2, rfl, hnest, y2, rfl⟩
    have hsy2 := y2.bel.size
    (try simp only [World.size_alloc, World.size_setCell, World.size_drew] at hsy2)
    have H2 := Lib.hid hnest
    clear hnest
    have HV := Lib.hid H2.out.rowsV
    obtain ⟨b, o, ai0, ci0, eb0, hb0, hc0, e0, r0⟩ := HV.out.get hRp
    subst eb0
    rw [Nat.add_zero] at hc0
    replace e0 := Lib.hid e0
    have hRp1 : ¬ ((R.length : Int) = 0) := by omega
    go_wp2_with fail
    go_loopw [5, 6] (fun m i wr => ∃ k : Nat, k ≤ R.length ∧ m = atV vs2 (minI lenLt R (k - 1)) ∧ i = .int .i64 k ∧ ∃ z : Later y2.w, wr = z.w) (fun _ i _ => R.length - (intOf i).toNat)
    case atStart => exact ⟨0, Nat.zero_le _, e0.out.symm, rfl, LaterC.mk (by (repeat (first | (with_reducible exact Below.refl _ _) | (with_reducible assumption) | (with_reducible refine Later.out _ ?_) | (with_reducible refine bel_alloc ?_ _) | (with_reducible refine bel_drew ?_) | (with_reducible refine bel_drewN ?_ _) | (with_reducible refine bel_set ?_ ?_ _) | (with_reducible refine After.out _ ?_ ?_) | (dsimp only; omega) | omega | (simp only [World.size_alloc, World.size_setCell, World.size_drew]; omega))))⟩
    case round =>
      obtain ⟨k, hk, rfl, rfl, z, rfl⟩ := hrel
      have hzz := z.bel.size
      have hlk := hle.out (k - 1)
      obtain ⟨_, _, am, cm, -, -, -, em, rm⟩ := HV.out.get (k := minI lenLt R (k - 1)) (by omega)
      rw [em]
      by_cases hlt : k < R.length
      · have hi1 : (k : Int) < (R.length : Int) := by omega
        obtain ⟨b', o', ai, ci, eb, -, hcc, e2, r2⟩ := HV.out.get hlt
        cases eb
        have hY : lenLt (atL R k) (atL R (minI lenLt R (k - 1))) = decide (((atL R k).length : Int) < (atL R (minI lenLt R (k - 1))).length) := rfl
        by_cases hneg : ((atL R k).length : Int) < (atL R (minI lenLt R (k - 1))).length
        · have X := Lib.hid (show minI lenLt R (k + 1 - 1) = k by
            obtain ⟨q, rfl⟩ : ∃ q, k = q + 1 := ⟨k - 1, by
              rcases Nat.eq_zero_or_pos k with h0 | h0
              · subst h0
                exact absurd hneg (Int.lt_irrefl _)
              · omega⟩
            exact minI_yes (by rw [show q + 1 - 1 = q by omega] at hY hneg; exact hY.trans (decide_eq_true hneg)))
          replace e2 := Lib.hid e2
          clear hY em
          go_wp2_with fail
          go_roundw
          case rel => exact ⟨k + 1, by omega, by rw [X.out]; exact e2.out.symm, by go_num, LaterC.mk (by (repeat (first | (with_reducible exact Below.refl _ _) | (with_reducible assumption) | (with_reducible refine Later.out _ ?_) | (with_reducible refine bel_alloc ?_ _) | (with_reducible refine bel_drew ?_) | (with_reducible refine bel_drewN ?_ _) | (with_reducible refine bel_set ?_ ?_ _) | (with_reducible refine After.out _ ?_ ?_) | (dsimp only; omega) | omega | (simp only [World.size_alloc, World.size_setCell, World.size_drew]; omega))))⟩
          case measure => first | (simp [intOf]; done) | (simp [intOf]; omega) | omega
        · have X := Lib.hid (show minI lenLt R (k + 1 - 1) = minI lenLt R (k - 1) by
            rcases Nat.eq_zero_or_pos k with h0 | h0
            · subst h0; rfl
            · obtain ⟨q, rfl⟩ : ∃ q, k = q + 1 := ⟨k - 1, by omega⟩
              exact minI_no (by rw [show q + 1 - 1 = q by omega] at hY hneg; exact hY.trans (decide_eq_false hneg)))
          replace em := Lib.hid em
          clear hY e2
          go_wp2_with fail
          go_roundw
          case rel => exact ⟨k + 1, by omega, by rw [X.out]; exact em.out.symm, by go_num, LaterC.mk (by (repeat (first | (with_reducible exact Below.refl _ _) | (with_reducible assumption) | (with_reducible refine Later.out _ ?_) | (with_reducible refine bel_alloc ?_ _) | (with_reducible refine bel_drew ?_) | (with_reducible refine bel_drewN ?_ _) | (with_reducible refine bel_set ?_ ?_ _) | (with_reducible refine After.out _ ?_ ?_) | (dsimp only; omega) | omega | (simp only [World.size_alloc, World.size_setCell, World.size_drew]; omega))))⟩
          case measure => first | (simp [intOf]; done) | (simp [intOf]; omega) | omega
      · obtain rfl : k = R.length := by omega
        obtain ⟨ai, ci, e1, o1⟩ := H2.out.pickAt (m := minI lenLt R (R.length - 1)) (by omega)
        rw [em] at e1
        cases e1
        have hO := Lib.hid o1
        go_wp2_with fail
        refine bodyPost_ret (by simp [results, Tryz.results54, go_sem, ↓IntWalk.iteOmega, *]; try rfl) rfl ?_
        refine RetOwn.mk _ rfl (own_mono (own_bel hO.out.own (by (repeat (first | (with_reducible exact Below.refl _ _) | (with_reducible assumption) | (with_reducible refine Later.out _ ?_) | (with_reducible refine bel_alloc ?_ _) | (with_reducible refine bel_drew ?_) | (with_reducible refine bel_drewN ?_ _) | (with_reducible refine bel_set ?_ ?_ _) | (with_reducible refine After.out _ ?_ ?_) | (dsimp only; omega) | omega | (simp only [World.size_alloc, World.size_setCell, World.size_drew]; omega))))) (by ((try simp only [World.size_alloc, World.size_setCell, World.size_drew]); omega))) ?_
        (repeat (first | (with_reducible exact Below.refl _ _) | (with_reducible assumption) | (with_reducible refine Later.out _ ?_) | (with_reducible refine bel_alloc ?_ _) | (with_reducible refine bel_drew ?_) | (with_reducible refine bel_drewN ?_ _) | (with_reducible refine bel_set ?_ ?_ _) | (with_reducible refine After.out _ ?_ ?_) | (dsimp only; omega) | omega | (simp only [World.size_alloc, World.size_setCell, World.size_drew]; omega)))
  · have hZ := cores_empty hc
    rw [show smcR L = [] by simp [smcR, h1, hZ, bestL], show smcK L = 4 by simp [smcK, h1, hc]]
    simp only [hZ] at CT
    clear hZ hc hRl
    replace CT := Lib.hid CT.out
    replace hr := Lib.hid hr
    replace hRx := Lib.hid hRx
    clear ok h1
    go_enter Tryz.func54, Tryz.ntmps54
    go_wp2_with fail
    with_reducible refine (C1.out).mono ?_
    rintro e w' ⟨rfl, y1, rfl⟩
    have hsy1 := y1.bel.size
    (try simp only [World.size_alloc, World.size_setCell, World.size_drew] at hsy1)
    go_wp2_with fail
    with_reducible refine (CT.out y1.w.heap.size _ _ _ (hr.out.bel (by (repeat (first | (with_reducible exact Below.refl _ _) | (with_reducible assumption) | (with_reducible refine Later.out _ ?_) | (with_reducible refine bel_alloc ?_ _) | (with_reducible refine bel_drew ?_) | (with_reducible refine bel_drewN ?_ _) | (with_reducible refine bel_set ?_ ?_ _) | (with_reducible refine After.out _ ?_ ?_) | (dsimp only; omega) | omega | (simp only [World.size_alloc, World.size_setCell, World.size_drew]; omega))))) (by ((try simp only [World.size_alloc, World.size_setCell, World.size_drew]); omega)) (Owns.of (World.ownsRow_lit (base := y1.w.heap.size) (e := 2) (size := 1) y1.w #[] 0 (Nat.le_refl _) (by unfold maxLen; omega) rfl))).mono ?_
    rintro e w' ⟨a2, c2, vs2, rfl, hnest, y2, rfl⟩
    have hsy2 := y2.bel.size
    (try simp only [World.size_alloc, World.size_setCell, World.size_drew] at hsy2)
    have H2 := Lib.hid hnest
    clear hnest
    go_wp2_with fail
    refine bodyPost_ret (by simp [results, Tryz.results54, go_sem, ↓IntWalk.iteOmega, *]; try rfl) rfl ?_
    refine RetOwn.mk (.slice none 0 0) rfl (World.ownsRow_nil _ _ _ _) ?_
    (repeat (first | (with_reducible exact Below.refl _ _) | (with_reducible assumption) | (with_reducible refine Later.out _ ?_) | (with_reducible refine bel_alloc ?_ _) | (with_reducible refine bel_drew ?_) | (with_reducible refine bel_drewN ?_ _) | (with_reducible refine bel_set ?_ ?_ _) | (with_reducible refine After.out _ ?_ ?_) | (dsimp only; omega) | omega | (simp only [World.size_alloc, World.size_setCell, World.size_drew]; omega)))
end
end Go.Proofs.YtflcfdiochohgaaGreatDoor

/- The best repair: the plain law, the program's comparison, both sides' best. -/
set_option linter.unusedSimpArgs false
set_option linter.unusedVariables false
namespace Go.Proofs.YtflcfdiochohgaaGreatDoor
open Go.RowKit
def wtLt (L : List Clm) (x y : List Int) : Bool := decide (wtZ L x < wtZ L y) || (decide (wtZ L x = wtZ L y) && decide ((x.length : Int) < y.length))
theorem repairs_some (L : List Clm) : 0 < (minZ (repG L) L.length []).length := by
  have e : restTo (restTo [] L.length) L.length = [] := by
    rw [List.eq_nil_iff_forall_not_mem]
    intro x hx
    obtain ⟨h1, h2⟩ := mem_rest.1 hx
    exact h2 (mem_rest.2 ⟨h1, by simp⟩)
  have hg : repG L (restTo [] L.length) = true := by unfold repG keptL; rw [e]; exact bof_true cons_nil
  obtain ⟨T, hT, _⟩ := least_in (repG_mono L) (ixs_rest [] L.length) hg
  exact List.length_pos_of_mem hT
end Go.Proofs.YtflcfdiochohgaaGreatDoor

/- BestRepair: both sides. -/
set_option linter.unusedSimpArgs false
set_option linter.unusedVariables false
namespace Go.Proofs.YtflcfdiochohgaaGreatDoor
open Go.RowKit
noncomputable def bestR (L : List Clm) : List Int := bestL (wtLt L) (minZ (repG L) L.length [])
set_option maxRecDepth 8000 in
set_option maxHeartbeats 8000000 in
theorem sBest_any (L : List Clm) (a : Option Addr) (c : Nat) (w : World) (h12 : L.length ≤ 12) (hv : Named L) (hr : Row w a (clmsCells L)) : Calls Tryz.prog 171 #[.slice a L.length c] w (RetOwn w 2 1 (bestR L).length (intCells (bestR L)) fun v => .tuple #[v, .int .i64 (wtZ L (bestR L))]) := by
  have CT := fun lo a2 c2 (w : World) hr hlo ho => sRepairs_any L a L.length c rfl h12 hv (L.length + 1) [] (ixs_nil _) (by omega) lo a2 0 c2 w rfl hr hlo ho
  have hRx : ∀ T ∈ minZ (repG L) L.length [], Ixs L.length T := fun T hT => ((mem_minZ (repG_mono L) (ixs_nil _) T).1 hT).1
  have hRl := minZ_small (repG L) h12 []
  have hRp := repairs_some L
  unfold bestR
  obtain ⟨R, hR⟩ : ∃ R, minZ (repG L) L.length [] = R := ⟨_, rfl⟩
  rw [hR] at hRx hRl hRp ⊢
  simp only [hR] at CT
  have hle := Lib.hid (minI_le (wtLt L) R)
  have CW := Lib.hid (fun (T : List Int) (hT : Ixs L.length T) a' c' (w : World) hr hr' => sWeight_any L T a a' L.length c T.length c' w rfl rfl (by omega) (by have := ixs_len hT; omega) hr hr' hT.rises)
  replace CT := Lib.hid CT
  replace hr := Lib.hid hr
  replace hRx := Lib.hid hRx
  clear hR hv
  go_enter Tryz.func171, Tryz.ntmps171
  go_wp2_with fail
  with_reducible refine (CT.out w.heap.size _ _ _ (hr.out.bel (by (repeat (first | (with_reducible exact Below.refl _ _) | (with_reducible assumption) | (with_reducible refine Later.out _ ?_) | (with_reducible refine bel_alloc ?_ _) | (with_reducible refine bel_drew ?_) | (with_reducible refine bel_drewN ?_ _) | (with_reducible refine bel_set ?_ ?_ _) | (with_reducible refine After.out _ ?_ ?_) | (dsimp only; omega) | omega | (simp only [World.size_alloc, World.size_setCell, World.size_drew]; omega))))) (by ((try simp only [World.size_alloc, World.size_setCell, World.size_drew]); omega)) (Owns.of (World.ownsRow_lit (base := w.heap.size) (e := 2) (size := 1) w #[] 0 (Nat.le_refl _) (by unfold maxLen; omega) rfl))).mono ?_
  rintro e w' ⟨a2, c2, vs2, rfl, hnest, y2, rfl⟩
  have hsy2 := y2.bel.size
  (try simp only [World.size_alloc, World.size_setCell, World.size_drew] at hsy2)
  have H2 := Lib.hid hnest
  clear hnest
  have HV := Lib.hid H2.out.rowsV
  obtain ⟨b, o, ai0, ci0, eb0, hb0, hc0, e0, r0⟩ := HV.out.get hRp
  subst eb0
  rw [Nat.add_zero] at hc0
  replace e0 := Lib.hid e0
  go_wp2_with fail
  go_loopw [5, 6] (fun m i wr => ∃ k : Nat, k ≤ R.length ∧ m = atV vs2 (minI (wtLt L) R (k - 1)) ∧ i = .int .i64 k ∧ ∃ z : Later y2.w, wr = z.w) (fun _ i _ => R.length - (intOf i).toNat)
  case atStart => exact ⟨0, Nat.zero_le _, e0.out.symm, rfl, LaterC.mk (by (repeat (first | (with_reducible exact Below.refl _ _) | (with_reducible assumption) | (with_reducible refine Later.out _ ?_) | (with_reducible refine bel_alloc ?_ _) | (with_reducible refine bel_drew ?_) | (with_reducible refine bel_drewN ?_ _) | (with_reducible refine bel_set ?_ ?_ _) | (with_reducible refine After.out _ ?_ ?_) | (dsimp only; omega) | omega | (simp only [World.size_alloc, World.size_setCell, World.size_drew]; omega))))⟩
  case round =>
    obtain ⟨k, hk, rfl, rfl, z, rfl⟩ := hrel
    have hzz := z.bel.size
    have hlk := hle.out (k - 1)
    obtain ⟨_, _, am, cm, -, -, -, em, rm⟩ := HV.out.get (k := minI (wtLt L) R (k - 1)) (by omega)
    rw [em]
    by_cases hlt : k < R.length
    · have hi1 : (k : Int) < (R.length : Int) := by omega
      obtain ⟨b', o', ai, ci, eb, -, hcc, e2, r2⟩ := HV.out.get hlt
      cases eb
      have hY : wtLt L (atL R k) (atL R (minI (wtLt L) R (k - 1))) = (decide (wtZ L (atL R k) < wtZ L (atL R (minI (wtLt L) R (k - 1)))) || (decide (wtZ L (atL R k) = wtZ L (atL R (minI (wtLt L) R (k - 1)))) && decide (((atL R k).length : Int) < (atL R (minI (wtLt L) R (k - 1))).length))) := rfl
      have WK := CW.out (atL R k) (hRx.out _ (atL_mem hlt))
      have WM := CW.out (atL R (minI (wtLt L) R (k - 1))) (hRx.out _ (atL_mem (by omega)))
      have yes : wtLt L (atL R k) (atL R (minI (wtLt L) R (k - 1))) = true → minI (wtLt L) R (k + 1 - 1) = k := fun h => by
        rcases Nat.eq_zero_or_pos k with h0 | h0
        · subst h0
          exfalso
          rw [hY] at h
          change (decide (wtZ L (atL R 0) < wtZ L (atL R 0)) || (decide (wtZ L (atL R 0) = wtZ L (atL R 0)) && decide (((atL R 0).length : Int) < (atL R 0).length))) = true at h
          simp at h
        · obtain ⟨q, rfl⟩ : ∃ q, k = q + 1 := ⟨k - 1, by omega⟩
          exact minI_yes (by rw [show q + 1 - 1 = q by omega] at h; exact h)
      have no : wtLt L (atL R k) (atL R (minI (wtLt L) R (k - 1))) = false → minI (wtLt L) R (k + 1 - 1) = minI (wtLt L) R (k - 1) := fun h => by
        rcases Nat.eq_zero_or_pos k with h0 | h0
        · subst h0; rfl
        · obtain ⟨q, rfl⟩ : ∃ q, k = q + 1 := ⟨k - 1, by omega⟩
          exact minI_no (by rw [show q + 1 - 1 = q by omega] at h; exact h)
      obtain ⟨va, hva⟩ : ∃ v, wtZ L (atL R k) = v := ⟨_, rfl⟩
      obtain ⟨vb, hvb⟩ : ∃ v, wtZ L (atL R (minI (wtLt L) R (k - 1))) = v := ⟨_, rfl⟩
      rw [hva, hvb] at hY
      rw [hva] at WK
      rw [hvb] at WM
      replace WK := Lib.hid WK
      replace WM := Lib.hid WM
      replace e2 := Lib.hid e2
      replace em := Lib.hid em
      replace r2 := Lib.hid r2
      replace rm := Lib.hid rm
      clear hva hvb
      by_cases hab : va < vb
      · have X := Lib.hid (yes (by rw [hY, decide_eq_true hab]; rfl))
        clear hY yes no
        go_wp2_with fail
        with_reducible refine (WK.out ai ci _ (hr.out.bel (by (repeat (first | (with_reducible exact Below.refl _ _) | (with_reducible assumption) | (with_reducible refine Later.out _ ?_) | (with_reducible refine bel_alloc ?_ _) | (with_reducible refine bel_drew ?_) | (with_reducible refine bel_drewN ?_ _) | (with_reducible refine bel_set ?_ ?_ _) | (with_reducible refine After.out _ ?_ ?_) | (dsimp only; omega) | omega | (simp only [World.size_alloc, World.size_setCell, World.size_drew]; omega))))) (r2.out.bel (by (repeat (first | (with_reducible exact Below.refl _ _) | (with_reducible assumption) | (with_reducible refine Later.out _ ?_) | (with_reducible refine bel_alloc ?_ _) | (with_reducible refine bel_drew ?_) | (with_reducible refine bel_drewN ?_ _) | (with_reducible refine bel_set ?_ ?_ _) | (with_reducible refine After.out _ ?_ ?_) | (dsimp only; omega) | omega | (simp only [World.size_alloc, World.size_setCell, World.size_drew]; omega)))))).mono ?_
        rintro e w' ⟨rfl, y3, rfl⟩
        have hsy3 := y3.bel.size
        (try simp only [World.size_alloc, World.size_setCell, World.size_drew] at hsy3)
        go_wp2_with fail
        with_reducible refine (WM.out am cm _ (hr.out.bel (by (repeat (first | (with_reducible exact Below.refl _ _) | (with_reducible assumption) | (with_reducible refine Later.out _ ?_) | (with_reducible refine bel_alloc ?_ _) | (with_reducible refine bel_drew ?_) | (with_reducible refine bel_drewN ?_ _) | (with_reducible refine bel_set ?_ ?_ _) | (with_reducible refine After.out _ ?_ ?_) | (dsimp only; omega) | omega | (simp only [World.size_alloc, World.size_setCell, World.size_drew]; omega))))) (rm.out.bel (by (repeat (first | (with_reducible exact Below.refl _ _) | (with_reducible assumption) | (with_reducible refine Later.out _ ?_) | (with_reducible refine bel_alloc ?_ _) | (with_reducible refine bel_drew ?_) | (with_reducible refine bel_drewN ?_ _) | (with_reducible refine bel_set ?_ ?_ _) | (with_reducible refine After.out _ ?_ ?_) | (dsimp only; omega) | omega | (simp only [World.size_alloc, World.size_setCell, World.size_drew]; omega)))))).mono ?_
        rintro e w' ⟨rfl, y4, rfl⟩
        have hsy4 := y4.bel.size
        (try simp only [World.size_alloc, World.size_setCell, World.size_drew] at hsy4)
        go_wp2_with fail
        go_roundw
        case rel => exact ⟨k + 1, by omega, by rw [X.out]; exact e2.out.symm, by go_num, LaterC.mk (by (repeat (first | (with_reducible exact Below.refl _ _) | (with_reducible assumption) | (with_reducible refine Later.out _ ?_) | (with_reducible refine bel_alloc ?_ _) | (with_reducible refine bel_drew ?_) | (with_reducible refine bel_drewN ?_ _) | (with_reducible refine bel_set ?_ ?_ _) | (with_reducible refine After.out _ ?_ ?_) | (dsimp only; omega) | omega | (simp only [World.size_alloc, World.size_setCell, World.size_drew]; omega))))⟩
        case measure => first | (simp [intOf]; done) | (simp [intOf]; omega) | omega
      · by_cases hqq : va = vb
        · subst hqq
          by_cases hll : ((atL R k).length : Int) < (atL R (minI (wtLt L) R (k - 1))).length
          · have X := Lib.hid (yes (by rw [hY, decide_eq_false hab, decide_eq_true rfl, decide_eq_true hll]; rfl))
            clear hY yes no
            go_wp2_with fail
            with_reducible refine (WK.out ai ci _ (hr.out.bel (by (repeat (first | (with_reducible exact Below.refl _ _) | (with_reducible assumption) | (with_reducible refine Later.out _ ?_) | (with_reducible refine bel_alloc ?_ _) | (with_reducible refine bel_drew ?_) | (with_reducible refine bel_drewN ?_ _) | (with_reducible refine bel_set ?_ ?_ _) | (with_reducible refine After.out _ ?_ ?_) | (dsimp only; omega) | omega | (simp only [World.size_alloc, World.size_setCell, World.size_drew]; omega))))) (r2.out.bel (by (repeat (first | (with_reducible exact Below.refl _ _) | (with_reducible assumption) | (with_reducible refine Later.out _ ?_) | (with_reducible refine bel_alloc ?_ _) | (with_reducible refine bel_drew ?_) | (with_reducible refine bel_drewN ?_ _) | (with_reducible refine bel_set ?_ ?_ _) | (with_reducible refine After.out _ ?_ ?_) | (dsimp only; omega) | omega | (simp only [World.size_alloc, World.size_setCell, World.size_drew]; omega)))))).mono ?_
            rintro e w' ⟨rfl, y3, rfl⟩
            have hsy3 := y3.bel.size
            (try simp only [World.size_alloc, World.size_setCell, World.size_drew] at hsy3)
            go_wp2_with fail
            with_reducible refine (WM.out am cm _ (hr.out.bel (by (repeat (first | (with_reducible exact Below.refl _ _) | (with_reducible assumption) | (with_reducible refine Later.out _ ?_) | (with_reducible refine bel_alloc ?_ _) | (with_reducible refine bel_drew ?_) | (with_reducible refine bel_drewN ?_ _) | (with_reducible refine bel_set ?_ ?_ _) | (with_reducible refine After.out _ ?_ ?_) | (dsimp only; omega) | omega | (simp only [World.size_alloc, World.size_setCell, World.size_drew]; omega))))) (rm.out.bel (by (repeat (first | (with_reducible exact Below.refl _ _) | (with_reducible assumption) | (with_reducible refine Later.out _ ?_) | (with_reducible refine bel_alloc ?_ _) | (with_reducible refine bel_drew ?_) | (with_reducible refine bel_drewN ?_ _) | (with_reducible refine bel_set ?_ ?_ _) | (with_reducible refine After.out _ ?_ ?_) | (dsimp only; omega) | omega | (simp only [World.size_alloc, World.size_setCell, World.size_drew]; omega)))))).mono ?_
            rintro e w' ⟨rfl, y4, rfl⟩
            have hsy4 := y4.bel.size
            (try simp only [World.size_alloc, World.size_setCell, World.size_drew] at hsy4)
            go_wp2_with fail
            go_roundw
            case rel => exact ⟨k + 1, by omega, by rw [X.out]; exact e2.out.symm, by go_num, LaterC.mk (by (repeat (first | (with_reducible exact Below.refl _ _) | (with_reducible assumption) | (with_reducible refine Later.out _ ?_) | (with_reducible refine bel_alloc ?_ _) | (with_reducible refine bel_drew ?_) | (with_reducible refine bel_drewN ?_ _) | (with_reducible refine bel_set ?_ ?_ _) | (with_reducible refine After.out _ ?_ ?_) | (dsimp only; omega) | omega | (simp only [World.size_alloc, World.size_setCell, World.size_drew]; omega))))⟩
            case measure => first | (simp [intOf]; done) | (simp [intOf]; omega) | omega
          · have X := Lib.hid (no (by rw [hY, decide_eq_false hab, decide_eq_true rfl, decide_eq_false hll]; rfl))
            clear hY yes no
            go_wp2_with fail
            with_reducible refine (WK.out ai ci _ (hr.out.bel (by (repeat (first | (with_reducible exact Below.refl _ _) | (with_reducible assumption) | (with_reducible refine Later.out _ ?_) | (with_reducible refine bel_alloc ?_ _) | (with_reducible refine bel_drew ?_) | (with_reducible refine bel_drewN ?_ _) | (with_reducible refine bel_set ?_ ?_ _) | (with_reducible refine After.out _ ?_ ?_) | (dsimp only; omega) | omega | (simp only [World.size_alloc, World.size_setCell, World.size_drew]; omega))))) (r2.out.bel (by (repeat (first | (with_reducible exact Below.refl _ _) | (with_reducible assumption) | (with_reducible refine Later.out _ ?_) | (with_reducible refine bel_alloc ?_ _) | (with_reducible refine bel_drew ?_) | (with_reducible refine bel_drewN ?_ _) | (with_reducible refine bel_set ?_ ?_ _) | (with_reducible refine After.out _ ?_ ?_) | (dsimp only; omega) | omega | (simp only [World.size_alloc, World.size_setCell, World.size_drew]; omega)))))).mono ?_
            rintro e w' ⟨rfl, y3, rfl⟩
            have hsy3 := y3.bel.size
            (try simp only [World.size_alloc, World.size_setCell, World.size_drew] at hsy3)
            go_wp2_with fail
            with_reducible refine (WM.out am cm _ (hr.out.bel (by (repeat (first | (with_reducible exact Below.refl _ _) | (with_reducible assumption) | (with_reducible refine Later.out _ ?_) | (with_reducible refine bel_alloc ?_ _) | (with_reducible refine bel_drew ?_) | (with_reducible refine bel_drewN ?_ _) | (with_reducible refine bel_set ?_ ?_ _) | (with_reducible refine After.out _ ?_ ?_) | (dsimp only; omega) | omega | (simp only [World.size_alloc, World.size_setCell, World.size_drew]; omega))))) (rm.out.bel (by (repeat (first | (with_reducible exact Below.refl _ _) | (with_reducible assumption) | (with_reducible refine Later.out _ ?_) | (with_reducible refine bel_alloc ?_ _) | (with_reducible refine bel_drew ?_) | (with_reducible refine bel_drewN ?_ _) | (with_reducible refine bel_set ?_ ?_ _) | (with_reducible refine After.out _ ?_ ?_) | (dsimp only; omega) | omega | (simp only [World.size_alloc, World.size_setCell, World.size_drew]; omega)))))).mono ?_
            rintro e w' ⟨rfl, y4, rfl⟩
            have hsy4 := y4.bel.size
            (try simp only [World.size_alloc, World.size_setCell, World.size_drew] at hsy4)
            go_wp2_with fail
            go_roundw
            case rel => exact ⟨k + 1, by omega, by rw [X.out]; exact em.out.symm, by go_num, LaterC.mk (by (repeat (first | (with_reducible exact Below.refl _ _) | (with_reducible assumption) | (with_reducible refine Later.out _ ?_) | (with_reducible refine bel_alloc ?_ _) | (with_reducible refine bel_drew ?_) | (with_reducible refine bel_drewN ?_ _) | (with_reducible refine bel_set ?_ ?_ _) | (with_reducible refine After.out _ ?_ ?_) | (dsimp only; omega) | omega | (simp only [World.size_alloc, World.size_setCell, World.size_drew]; omega))))⟩
            case measure => first | (simp [intOf]; done) | (simp [intOf]; omega) | omega
        · have X := Lib.hid (no (by rw [hY, decide_eq_false hab, decide_eq_false hqq]; rfl))
          have hqq2 : (va == vb) = false := by simpa using hqq
          clear hY yes no
          go_wp2_with fail
          with_reducible refine (WK.out ai ci _ (hr.out.bel (by (repeat (first | (with_reducible exact Below.refl _ _) | (with_reducible assumption) | (with_reducible refine Later.out _ ?_) | (with_reducible refine bel_alloc ?_ _) | (with_reducible refine bel_drew ?_) | (with_reducible refine bel_drewN ?_ _) | (with_reducible refine bel_set ?_ ?_ _) | (with_reducible refine After.out _ ?_ ?_) | (dsimp only; omega) | omega | (simp only [World.size_alloc, World.size_setCell, World.size_drew]; omega))))) (r2.out.bel (by (repeat (first | (with_reducible exact Below.refl _ _) | (with_reducible assumption) | (with_reducible refine Later.out _ ?_) | (with_reducible refine bel_alloc ?_ _) | (with_reducible refine bel_drew ?_) | (with_reducible refine bel_drewN ?_ _) | (with_reducible refine bel_set ?_ ?_ _) | (with_reducible refine After.out _ ?_ ?_) | (dsimp only; omega) | omega | (simp only [World.size_alloc, World.size_setCell, World.size_drew]; omega)))))).mono ?_
          rintro e w' ⟨rfl, y3, rfl⟩
          have hsy3 := y3.bel.size
          (try simp only [World.size_alloc, World.size_setCell, World.size_drew] at hsy3)
          go_wp2_with fail
          with_reducible refine (WM.out am cm _ (hr.out.bel (by (repeat (first | (with_reducible exact Below.refl _ _) | (with_reducible assumption) | (with_reducible refine Later.out _ ?_) | (with_reducible refine bel_alloc ?_ _) | (with_reducible refine bel_drew ?_) | (with_reducible refine bel_drewN ?_ _) | (with_reducible refine bel_set ?_ ?_ _) | (with_reducible refine After.out _ ?_ ?_) | (dsimp only; omega) | omega | (simp only [World.size_alloc, World.size_setCell, World.size_drew]; omega))))) (rm.out.bel (by (repeat (first | (with_reducible exact Below.refl _ _) | (with_reducible assumption) | (with_reducible refine Later.out _ ?_) | (with_reducible refine bel_alloc ?_ _) | (with_reducible refine bel_drew ?_) | (with_reducible refine bel_drewN ?_ _) | (with_reducible refine bel_set ?_ ?_ _) | (with_reducible refine After.out _ ?_ ?_) | (dsimp only; omega) | omega | (simp only [World.size_alloc, World.size_setCell, World.size_drew]; omega)))))).mono ?_
          rintro e w' ⟨rfl, y4, rfl⟩
          have hsy4 := y4.bel.size
          (try simp only [World.size_alloc, World.size_setCell, World.size_drew] at hsy4)
          go_wp2_with fail
          go_roundw
          case rel => exact ⟨k + 1, by omega, by rw [X.out]; exact em.out.symm, by go_num, LaterC.mk (by (repeat (first | (with_reducible exact Below.refl _ _) | (with_reducible assumption) | (with_reducible refine Later.out _ ?_) | (with_reducible refine bel_alloc ?_ _) | (with_reducible refine bel_drew ?_) | (with_reducible refine bel_drewN ?_ _) | (with_reducible refine bel_set ?_ ?_ _) | (with_reducible refine After.out _ ?_ ?_) | (dsimp only; omega) | omega | (simp only [World.size_alloc, World.size_setCell, World.size_drew]; omega))))⟩
          case measure => first | (simp [intOf]; done) | (simp [intOf]; omega) | omega
    · obtain rfl : k = R.length := by omega
      obtain ⟨ai, ci, e1, o1⟩ := H2.out.pickAt (m := minI (wtLt L) R (R.length - 1)) (by omega)
      have WM := Lib.hid (CW.out (atL R (minI (wtLt L) R (R.length - 1))) (hRx.out _ (atL_mem (by omega))))
      rw [em] at e1
      cases e1
      have hO := Lib.hid o1
      replace rm := Lib.hid rm
      go_wp2_with fail
      with_reducible refine (WM.out am cm _ (hr.out.bel (by (repeat (first | (with_reducible exact Below.refl _ _) | (with_reducible assumption) | (with_reducible refine Later.out _ ?_) | (with_reducible refine bel_alloc ?_ _) | (with_reducible refine bel_drew ?_) | (with_reducible refine bel_drewN ?_ _) | (with_reducible refine bel_set ?_ ?_ _) | (with_reducible refine After.out _ ?_ ?_) | (dsimp only; omega) | omega | (simp only [World.size_alloc, World.size_setCell, World.size_drew]; omega))))) (rm.out.bel (by (repeat (first | (with_reducible exact Below.refl _ _) | (with_reducible assumption) | (with_reducible refine Later.out _ ?_) | (with_reducible refine bel_alloc ?_ _) | (with_reducible refine bel_drew ?_) | (with_reducible refine bel_drewN ?_ _) | (with_reducible refine bel_set ?_ ?_ _) | (with_reducible refine After.out _ ?_ ?_) | (dsimp only; omega) | omega | (simp only [World.size_alloc, World.size_setCell, World.size_drew]; omega)))))).mono ?_
      rintro e w' ⟨rfl, y4, rfl⟩
      have hsy4 := y4.bel.size
      (try simp only [World.size_alloc, World.size_setCell, World.size_drew] at hsy4)
      go_wp2_with fail
      refine bodyPost_ret (by simp [results, Tryz.results171, go_sem, ↓IntWalk.iteOmega, *]; try rfl) rfl ?_
      refine RetOwn.mk _ rfl (own_mono (own_bel hO.out.own (by (repeat (first | (with_reducible exact Below.refl _ _) | (with_reducible assumption) | (with_reducible refine Later.out _ ?_) | (with_reducible refine bel_alloc ?_ _) | (with_reducible refine bel_drew ?_) | (with_reducible refine bel_drewN ?_ _) | (with_reducible refine bel_set ?_ ?_ _) | (with_reducible refine After.out _ ?_ ?_) | (dsimp only; omega) | omega | (simp only [World.size_alloc, World.size_setCell, World.size_drew]; omega))))) (by ((try simp only [World.size_alloc, World.size_setCell, World.size_drew]); omega))) ?_
      (repeat (first | (with_reducible exact Below.refl _ _) | (with_reducible assumption) | (with_reducible refine Later.out _ ?_) | (with_reducible refine bel_alloc ?_ _) | (with_reducible refine bel_drew ?_) | (with_reducible refine bel_drewN ?_ _) | (with_reducible refine bel_set ?_ ?_ _) | (with_reducible refine After.out _ ?_ ?_) | (dsimp only; omega) | omega | (simp only [World.size_alloc, World.size_setCell, World.size_drew]; omega)))
section
variable (L : List Clm) (a : Option Addr) (n c : Nat) (w : World) (hn : L.length = n) (hm : n ≤ 1048576) (hr : Row w a (clmsCells L)) (ok : ∀ c ∈ L, ClmOk c)
include hn hm hr ok
end
end Go.Proofs.YtflcfdiochohgaaGreatDoor
