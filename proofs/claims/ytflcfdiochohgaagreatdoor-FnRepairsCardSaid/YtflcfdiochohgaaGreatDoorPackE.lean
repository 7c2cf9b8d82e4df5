import Derived.Test.YtflcfdiochohgaaGreatDoorPackD
import Derived.Test.YtflcfdiochohgaaGreatDoorPackC
import Derived.Test.YtflcfdiochohgaaGreatDoorPackEa
/- Several of my texts, one behind the other: ResT, ResS, Best, ResB. -/
/- CoresOf and MinimalRepairs: both sides. -/
set_option linter.unusedSimpArgs false
set_option linter.unusedVariables false
namespace Go.Proofs.YtflcfdiochohgaaGreatDoor
open Go.RowKit
section
variable (L : List Clm) (a : Option Addr) (n c : Nat) (w : World) (hn : L.length = n) (hm : n ≤ 1048576) (hr : Row w a (clmsCells L)) (ok : ∀ c ∈ L, ClmOk c)
include hn hm hr ok
end
noncomputable def mrsR (L : List Clm) : List (List Int) := if claimsB L then (if 60 < (minZ (repG L) L.length []).length then [] else minZ (repG L) L.length []) else []
noncomputable def mrsK (L : List Clm) : Int := if claimsB L then (if 60 < (minZ (repG L) L.length []).length then 3 else 0) else 1
theorem mrsR_len (L : List Clm) {n : Nat} (hn : L.length = n) (hm : n ≤ 1048576) : (mrsR L).length ≤ 1048576 := by
  unfold mrsR
  split
  · split
    · simp
    · omega
  · simp
section
variable (L : List Clm) (a : Option Addr) (n c : Nat) (w : World) (hn : L.length = n) (hm : n ≤ 1048576) (hr : Row w a (clmsCells L)) (ok : ∀ c ∈ L, ClmOk c)
include hn hm hr ok
set_option maxRecDepth 8000 in
set_option maxHeartbeats 4000000 in
theorem mrs_impl (hx : Max w) : Calls Tryz.prog 31 #[.slice a n c] w (RetNest w (mrsR L) fun v => .tuple #[v, .int .i64 (mrsK L)]) := by
  cases h1 : claimsB L
  · rw [show mrsR L = [] by simp [mrsR, h1], show mrsK L = 1 by simp [mrsK, h1]]
    have C1 := Lib.hid (areClaims_b (c := c) hn hm hr ok hx h1)
    clear ok h1 hn hr hx
    go_enter Tryz.func31, Tryz.ntmps31
    go_wp2_with fail
    with_reducible refine (C1.out).mono ?_
    rintro e w' ⟨rfl, y1, rfl⟩
    have hsy1 := y1.bel.size
    (try simp only [World.size_alloc, World.size_setCell, World.size_drew] at hsy1)
    go_wp2_with fail
    refine bodyPost_ret (by simp [results, Tryz.results31, go_sem, ↓IntWalk.iteOmega, *]; try rfl) rfl ?_
    refine RetNest.mk' rfl (Nest.nil _ _ _) ?_
    (repeat (first | (with_reducible exact Below.refl _ _) | (with_reducible assumption) | (with_reducible refine Later.out _ ?_) | (with_reducible refine bel_alloc ?_ _) | (with_reducible refine bel_drew ?_) | (with_reducible refine bel_drewN ?_ _) | (with_reducible refine bel_set ?_ ?_ _) | (with_reducible refine After.out _ ?_ ?_) | (dsimp only; omega) | omega | (simp only [World.size_alloc, World.size_setCell, World.size_drew]; omega)))
  have h12 := len_of_claims h1
  have C1 := Lib.hid (areClaims_b (c := c) hn hm hr ok hx h1)
  subst hn
  have CT := Lib.hid (fun (w : World) hr => minimalRepairs_any L a L.length c w rfl h12 hr)
  have hRx : ∀ T ∈ minZ (repG L) L.length [], Ixs L.length T := fun T hT => ((mem_minZ (repG_mono L) (ixs_nil _) T).1 hT).1
  have hRl := minZ_small (repG L) h12 []
  obtain ⟨R, hR⟩ : ∃ R, minZ (repG L) L.length [] = R := ⟨_, rfl⟩
  have eR : mrsR L = if 60 < R.length then [] else R := by simp [mrsR, h1, hR]
  have eK : mrsK L = if 60 < R.length then 3 else 0 := by simp [mrsK, h1, hR]
  rw [eR, eK]
  rw [hR] at hRx hRl
  simp only [hR] at CT
  clear eR eK hR
  by_cases h60 : 60 < R.length
  · rw [if_pos h60, if_pos h60]
    have h61 : (60 : Int) < (R.length : Int) := by omega
    replace CT := Lib.hid CT.out
    replace hr := Lib.hid hr
    replace hRx := Lib.hid hRx
    clear ok h1 hx
    go_enter Tryz.func31, Tryz.ntmps31
    go_wp2_with fail
    with_reducible refine (C1.out).mono ?_
    rintro e w' ⟨rfl, y1, rfl⟩
    have hsy1 := y1.bel.size
    (try simp only [World.size_alloc, World.size_setCell, World.size_drew] at hsy1)
    go_wp2_with fail
    with_reducible refine (CT.out _ (hr.out.bel (by (repeat (first | (with_reducible exact Below.refl _ _) | (with_reducible assumption) | (with_reducible refine Later.out _ ?_) | (with_reducible refine bel_alloc ?_ _) | (with_reducible refine bel_drew ?_) | (with_reducible refine bel_drewN ?_ _) | (with_reducible refine bel_set ?_ ?_ _) | (with_reducible refine After.out _ ?_ ?_) | (dsimp only; omega) | omega | (simp only [World.size_alloc, World.size_setCell, World.size_drew]; omega)))))).mono ?_
    rintro e w' ⟨a2, c2, vs2, rfl, hnest, y2, rfl⟩
    have hsy2 := y2.bel.size
    (try simp only [World.size_alloc, World.size_setCell, World.size_drew] at hsy2)
    have H2 := Lib.hid hnest
    clear hnest
    go_wp2_with fail
    refine bodyPost_ret (by simp [results, Tryz.results31, go_sem, ↓IntWalk.iteOmega, *]; try rfl) rfl ?_
    refine RetNest.mk' rfl (Nest.nil _ _ _) ?_
    (repeat (first | (with_reducible exact Below.refl _ _) | (with_reducible assumption) | (with_reducible refine Later.out _ ?_) | (with_reducible refine bel_alloc ?_ _) | (with_reducible refine bel_drew ?_) | (with_reducible refine bel_drewN ?_ _) | (with_reducible refine bel_set ?_ ?_ _) | (with_reducible refine After.out _ ?_ ?_) | (dsimp only; omega) | omega | (simp only [World.size_alloc, World.size_setCell, World.size_drew]; omega)))
  · rw [if_neg h60, if_neg h60]
    have h61 : ¬ (60 : Int) < (R.length : Int) := by omega
    replace CT := Lib.hid CT.out
    replace hr := Lib.hid hr
    replace hRx := Lib.hid hRx
    clear ok h1 hx
    go_enter Tryz.func31, Tryz.ntmps31
    go_wp2_with fail
    with_reducible refine (C1.out).mono ?_
    rintro e w' ⟨rfl, y1, rfl⟩
    have hsy1 := y1.bel.size
    (try simp only [World.size_alloc, World.size_setCell, World.size_drew] at hsy1)
    go_wp2_with fail
    with_reducible refine (CT.out _ (hr.out.bel (by (repeat (first | (with_reducible exact Below.refl _ _) | (with_reducible assumption) | (with_reducible refine Later.out _ ?_) | (with_reducible refine bel_alloc ?_ _) | (with_reducible refine bel_drew ?_) | (with_reducible refine bel_drewN ?_ _) | (with_reducible refine bel_set ?_ ?_ _) | (with_reducible refine After.out _ ?_ ?_) | (dsimp only; omega) | omega | (simp only [World.size_alloc, World.size_setCell, World.size_drew]; omega)))))).mono ?_
    rintro e w' ⟨a2, c2, vs2, rfl, hnest, y2, rfl⟩
    have hsy2 := y2.bel.size
    (try simp only [World.size_alloc, World.size_setCell, World.size_drew] at hsy2)
    have H2 := Lib.hid hnest
    clear hnest
    go_wp2_with fail
    refine bodyPost_ret (by simp [results, Tryz.results31, go_sem, ↓IntWalk.iteOmega, *]; try rfl) rfl ?_
    refine RetNest.mk' rfl (H2.out.mono (by ((try simp only [World.size_alloc, World.size_setCell, World.size_drew]); omega)) (Nat.le_refl _)) ?_
    (repeat (first | (with_reducible exact Below.refl _ _) | (with_reducible assumption) | (with_reducible refine Later.out _ ?_) | (with_reducible refine bel_alloc ?_ _) | (with_reducible refine bel_drew ?_) | (with_reducible refine bel_drewN ?_ _) | (with_reducible refine bel_set ?_ ?_ _) | (with_reducible refine After.out _ ?_ ?_) | (dsimp only; omega) | omega | (simp only [World.size_alloc, World.size_setCell, World.size_drew]; omega)))
set_option maxRecDepth 8000 in
set_option maxHeartbeats 4000000 in
theorem mrs_spec : Calls Tryz.prog 32 #[.slice a n c] w (RetNest w (mrsR L) fun v => .tuple #[v, .int .i64 (mrsK L)]) := by
  cases h1 : claimsB L
  · rw [show mrsR L = [] by simp [mrsR, h1], show mrsK L = 1 by simp [mrsK, h1]]
    have C1 := Lib.hid (sAreClaims_b (c := c) hn hm hr ok h1)
    clear ok h1 hn hr
    go_enter Tryz.func32, Tryz.ntmps32
    go_wp2_with fail
    with_reducible refine (C1.out).mono ?_
    rintro e w' ⟨rfl, y1, rfl⟩
    have hsy1 := y1.bel.size
    (try simp only [World.size_alloc, World.size_setCell, World.size_drew] at hsy1)
    go_wp2_with fail
    refine bodyPost_ret (by simp [results, Tryz.results32, go_sem, ↓IntWalk.iteOmega, *]; try rfl) rfl ?_
    refine RetNest.mk' rfl (Nest.nil _ _ _) ?_
    (repeat (first | (with_reducible exact Below.refl _ _) | (with_reducible assumption) | (with_reducible refine Later.out _ ?_) | (with_reducible refine bel_alloc ?_ _) | (with_reducible refine bel_drew ?_) | (with_reducible refine bel_drewN ?_ _) | (with_reducible refine bel_set ?_ ?_ _) | (with_reducible refine After.out _ ?_ ?_) | (dsimp only; omega) | omega | (simp only [World.size_alloc, World.size_setCell, World.size_drew]; omega)))
  have h12 := len_of_claims h1
  have C1 := Lib.hid (sAreClaims_b (c := c) hn hm hr ok h1)
  subst hn
  have CT := Lib.hid (fun lo a2 c2 (w : World) hr hlo ho => sRepairs_any L a L.length c rfl h12 (named_of fun c hc => claim_of_claims h1 hc) (L.length + 1) [] (ixs_nil _) (by omega) lo a2 0 c2 w rfl hr hlo ho)
  have hRx : ∀ T ∈ minZ (repG L) L.length [], Ixs L.length T := fun T hT => ((mem_minZ (repG_mono L) (ixs_nil _) T).1 hT).1
  have hRl := minZ_small (repG L) h12 []
  obtain ⟨R, hR⟩ : ∃ R, minZ (repG L) L.length [] = R := ⟨_, rfl⟩
  have eR : mrsR L = if 60 < R.length then [] else R := by simp [mrsR, h1, hR]
  have eK : mrsK L = if 60 < R.length then 3 else 0 := by simp [mrsK, h1, hR]
  rw [eR, eK]
  rw [hR] at hRx hRl
  simp only [hR] at CT
  clear eR eK hR
  by_cases h60 : 60 < R.length
  · rw [if_pos h60, if_pos h60]
    have h61 : (60 : Int) < (R.length : Int) := by omega
    replace CT := Lib.hid CT.out
    replace hr := Lib.hid hr
    replace hRx := Lib.hid hRx
    clear ok h1
    go_enter Tryz.func32, Tryz.ntmps32
    go_wp2_with fail
    with_reducible refine (C1.out).mono ?_
    rintro e w' ⟨rfl, y1, rfl⟩
    have hsy1 := y1.bel.size
    (try simp only [World.size_alloc, World.size_setCell, World.size_drew] at hsy1)
    go_wp2_with fail
    with_reducible refine (CT.out y1.w.heap.size _ _ _ (hr.out.bel (by (repeat (first | (with_reducible exact Below.refl _ _) | (with_reducible assumption) | (with_reducible refine Later.out _ ?_) | (with_reducible refine bel_alloc ?_ _) | (with_reducible refine bel_drew ?_) | (with_reducible refine bel_drewN ?_ _) | (with_reducible refine bel_set ?_ ?_ _) | (with_reducible refine After.out _ ?_ ?_) | (dsimp only; omega) | omega | (simp only [World.size_alloc, World.size_setCell, World.size_drew]; omega))))) (by ((try simp only [World.size_alloc, World.size_setCell, World.size_drew]); omega)) (Owns.of (World.ownsRow_lit (base := y1.w.heap.size) (e := 2) (size := 1) y1.w #[] 0 (Nat.le_refl _) (by unfold maxLen; omega) rfl))).mono ?_
    rintro e w' ⟨a2, c2, vs2, rfl, hnest, y2, rfl⟩
    have hsy2 := y2.bel.size
    (try simp only [World.size_alloc, World.size_setCell, World.size_drew] at hsy2)
    have H2 := Lib.hid hnest
    clear hnest
    go_wp2_with fail
    refine bodyPost_ret (by simp [results, Tryz.results32, go_sem, ↓IntWalk.iteOmega, *]; try rfl) rfl ?_
    refine RetNest.mk' rfl (Nest.nil _ _ _) ?_
    (repeat (first | (with_reducible exact Below.refl _ _) | (with_reducible assumption) | (with_reducible refine Later.out _ ?_) | (with_reducible refine bel_alloc ?_ _) | (with_reducible refine bel_drew ?_) | (with_reducible refine bel_drewN ?_ _) | (with_reducible refine bel_set ?_ ?_ _) | (with_reducible refine After.out _ ?_ ?_) | (dsimp only; omega) | omega | (simp only [World.size_alloc, World.size_setCell, World.size_drew]; omega)))
  · rw [if_neg h60, if_neg h60]
    have h61 : ¬ (60 : Int) < (R.length : Int) := by omega
    replace CT := Lib.hid CT.out
    replace hr := Lib.hid hr
    replace hRx := Lib.hid hRx
    clear ok h1
    go_enter Tryz.func32, Tryz.ntmps32
    go_wp2_with fail
    with_reducible refine (C1.out).mono ?_
    rintro e w' ⟨rfl, y1, rfl⟩
    have hsy1 := y1.bel.size
    (try simp only [World.size_alloc, World.size_setCell, World.size_drew] at hsy1)
    go_wp2_with fail
    with_reducible refine (CT.out y1.w.heap.size _ _ _ (hr.out.bel (by (repeat (first | (with_reducible exact Below.refl _ _) | (with_reducible assumption) | (with_reducible refine Later.out _ ?_) | (with_reducible refine bel_alloc ?_ _) | (with_reducible refine bel_drew ?_) | (with_reducible refine bel_drewN ?_ _) | (with_reducible refine bel_set ?_ ?_ _) | (with_reducible refine After.out _ ?_ ?_) | (dsimp only; omega) | omega | (simp only [World.size_alloc, World.size_setCell, World.size_drew]; omega))))) (by ((try simp only [World.size_alloc, World.size_setCell, World.size_drew]); omega)) (Owns.of (World.ownsRow_lit (base := y1.w.heap.size) (e := 2) (size := 1) y1.w #[] 0 (Nat.le_refl _) (by unfold maxLen; omega) rfl))).mono ?_
    rintro e w' ⟨a2, c2, vs2, rfl, hnest, y2, rfl⟩
    have hsy2 := y2.bel.size
    (try simp only [World.size_alloc, World.size_setCell, World.size_drew] at hsy2)
    have H2 := Lib.hid hnest
    clear hnest
    go_wp2_with fail
    refine bodyPost_ret (by simp [results, Tryz.results32, go_sem, ↓IntWalk.iteOmega, *]; try rfl) rfl ?_
    refine RetNest.mk' rfl (H2.out.mono (by ((try simp only [World.size_alloc, World.size_setCell, World.size_drew]); omega)) (Nat.le_refl _)) ?_
    (repeat (first | (with_reducible exact Below.refl _ _) | (with_reducible assumption) | (with_reducible refine Later.out _ ?_) | (with_reducible refine bel_alloc ?_ _) | (with_reducible refine bel_drew ?_) | (with_reducible refine bel_drewN ?_ _) | (with_reducible refine bel_set ?_ ?_ _) | (with_reducible refine After.out _ ?_ ?_) | (dsimp only; omega) | omega | (simp only [World.size_alloc, World.size_setCell, World.size_drew]; omega)))
end
end Go.Proofs.YtflcfdiochohgaaGreatDoor

/- SmallestCore: both sides. -/
set_option linter.unusedSimpArgs false
set_option linter.unusedVariables false
namespace Go.Proofs.YtflcfdiochohgaaGreatDoor
open Go.RowKit
section
variable (L : List Clm) (a : Option Addr) (n c : Nat) (w : World) (hn : L.length = n) (hm : n ≤ 1048576) (hr : Row w a (clmsCells L)) (ok : ∀ c ∈ L, ClmOk c)
include hn hm hr ok
end
end Go.Proofs.YtflcfdiochohgaaGreatDoor

/- The best repair: the plain law, the program's comparison, both sides' best. -/
set_option linter.unusedSimpArgs false
set_option linter.unusedVariables false
namespace Go.Proofs.YtflcfdiochohgaaGreatDoor
open Go.RowKit
def bestCf (L : List Clm) (x y : List Int) : Int := orL [cmpZ (wtZ L x) (wtZ L y), cmpZ x.length y.length, cmpL x y]
def wtLt (L : List Clm) (x y : List Int) : Bool := decide (wtZ L x < wtZ L y) || (decide (wtZ L x = wtZ L y) && decide ((x.length : Int) < y.length))
theorem orZ_wt {a b c : Int} : orZ (cmpZ a b) c < 0 ↔ a < b ∨ (a = b ∧ c < 0) := by
  unfold orZ cmpZ
  by_cases h1 : a < b
  · simp [h1]
  · by_cases h2 : b < a
    · simp [h1, h2]; omega
    · simp [h1, h2]; omega
theorem best_wtLt (L : List Clm) {S : List (List Int)} (hs : S.Pairwise (· < ·)) : ∀ k, k < S.length → minI (ltC (bestCf L)) S k = minI (wtLt L) S k :=
  minI_congr fun i j hij hi => by
    have h1 := getD_sorted hs hij hi
    have h2 : ¬ cmpL (S.getD i []) (S.getD j []) < 0 := fun h => listInt_asymm h1 (cmpL_neg.1 h)
    unfold ltC bestCf wtLt
    rw [orL_three, Bool.eq_iff_iff]
    simp only [Bool.or_eq_true, Bool.and_eq_true, decide_eq_true_eq]
    rw [orZ_wt, orZ_len h2]
theorem repairs_some (L : List Clm) : 0 < (minZ (repG L) L.length []).length := by
  have e : restTo (restTo [] L.length) L.length = [] := by
    rw [List.eq_nil_iff_forall_not_mem]
    intro x hx
    obtain ⟨h1, h2⟩ := mem_rest.1 hx
    exact h2 (mem_rest.2 ⟨h1, by simp⟩)
  have hg : repG L (restTo [] L.length) = true := by unfold repG keptL; rw [e]; exact bof_true cons_nil
  obtain ⟨T, hT, _⟩ := least_in (repG_mono L) (ixs_rest [] L.length) hg
  exact List.length_pos_of_mem hT
theorem enters_best1 : ∀ args w, (callFunc 176 args).run Tryz.prog w = .ok (.enter 176 args) w := fun _ _ => by kernel_rfl
set_option maxRecDepth 8000 in
set_option maxHeartbeats 4000000 in
theorem best1_any (L : List Clm) (x y : List Int) (a : Option Addr) (n c gx : Nat) (ax : Option Addr) (cx : Nat) (ay : Option Addr) (cy : Nat) (w : World) (hn : L.length = n) (hm : n ≤ 12) (hx : Ixs n x) (hy : Ixs n y) (hr : Row w a (clmsCells L)) (hbx : w.cell? ⟨gx, 0, none⟩ = some (.slice a n c)) (rx : Row w ax (intCells x)) (ry : Row w ay (intCells y)) :
    Calls Tryz.prog 176 #[.slice ax x.length cx, .slice ay y.length cy, .pointer (some ⟨gx, 0, none⟩)] w (Ret w (.int .i64 (bestCf L x y))) := by
  have lgx := World.block_lt_of_cell? w _ hbx
  have hlx := ixs_len hx
  have hly := ixs_len hy
  have W1 := Lib.hid (fun (w : World) hr rx => weightOf_any L x a ax n c x.length cx w hn rfl (by omega) (by omega) hr rx hx.rises)
  have W2 := Lib.hid (fun (w : World) hr ry => weightOf_any L y a ay n c y.length cy w hn rfl (by omega) (by omega) hr ry hy.rises)
  replace hr := Lib.hid hr
  replace rx := Lib.hid rx
  replace ry := Lib.hid ry
  have CC := Lib.hid (fun w rx ry => compare_any x y ax x.length cx ay y.length cy w rfl rfl (by omega) (by omega) rx ry)
  have CZ := Lib.hid (fun (w : World) => cmpInt_any x.length y.length w)
  have CW := Lib.hid (fun (w : World) => cmpI64_any (wtZ L x) (wtZ L y) w)
  have CO := Lib.hid (fun a c w hr => cmpOr_any [cmpZ (wtZ L x) (wtZ L y), cmpZ x.length y.length, cmpL x y] a 3 c w rfl (by omega) hr)
  have hE := Lib.hid (show orL [cmpZ (wtZ L x) (wtZ L y), cmpZ x.length y.length, cmpL x y] = bestCf L x y from rfl)
  obtain ⟨wx, hwx⟩ : ∃ u, wtZ L x = u := ⟨_, rfl⟩
  obtain ⟨wy, hwy⟩ : ∃ u, wtZ L y = u := ⟨_, rfl⟩
  rw [hwx] at W1 CW hE
  rw [hwy] at W2 CW hE
  simp only [hwx, hwy] at CO
  obtain ⟨t, ht⟩ : ∃ u, cmpZ wx wy = u := ⟨_, rfl⟩
  obtain ⟨u, hu⟩ : ∃ u, cmpZ (x.length : Int) y.length = u := ⟨_, rfl⟩
  obtain ⟨v, hv⟩ : ∃ v, cmpL x y = v := ⟨_, rfl⟩
  rw [ht] at CW hE
  rw [hu] at CZ hE
  rw [hv] at CC hE
  simp only [ht, hu, hv] at CO
  clear ht hu hv hwx hwy hx hy
  go_enter Tryz.func176, Tryz.ntmps176
  go_wp2_with fail
  refine wp_region_quiet_tail 15 (C := fun w' => ∃ x : Later _, w' = x.w) (by kernel_rfl) (by kernel_rfl) ⟨⟨_, (Below.refl _ _).drew⟩, rfl⟩ ?_
  simp only [List.take_succ_cons, List.take_zero, List.drop_succ_cons, List.drop_zero]
  repeat (go_big_quiet_step ((first | (go_at_call 98; first | with_reducible exact Calls.later (W1.out _ (hr.out.bel (by (repeat (first | (with_reducible exact Below.refl _ _) | (with_reducible assumption) | (with_reducible refine Later.out _ ?_) | (with_reducible refine bel_alloc ?_ _) | (with_reducible refine bel_drew ?_) | (with_reducible refine bel_drewN ?_ _) | (with_reducible refine bel_set ?_ ?_ _) | (with_reducible refine After.out _ ?_ ?_) | (dsimp only; omega) | omega | (simp only [World.size_alloc, World.size_setCell, World.size_drew]; omega))))) (rx.out.bel (by (repeat (first | (with_reducible exact Below.refl _ _) | (with_reducible assumption) | (with_reducible refine Later.out _ ?_) | (with_reducible refine bel_alloc ?_ _) | (with_reducible refine bel_drew ?_) | (with_reducible refine bel_drewN ?_ _) | (with_reducible refine bel_set ?_ ?_ _) | (with_reducible refine After.out _ ?_ ?_) | (dsimp only; omega) | omega | (simp only [World.size_alloc, World.size_setCell, World.size_drew]; omega)))))) | with_reducible exact Calls.later (W2.out _ (hr.out.bel (by (repeat (first | (with_reducible exact Below.refl _ _) | (with_reducible assumption) | (with_reducible refine Later.out _ ?_) | (with_reducible refine bel_alloc ?_ _) | (with_reducible refine bel_drew ?_) | (with_reducible refine bel_drewN ?_ _) | (with_reducible refine bel_set ?_ ?_ _) | (with_reducible refine After.out _ ?_ ?_) | (dsimp only; omega) | omega | (simp only [World.size_alloc, World.size_setCell, World.size_drew]; omega))))) (ry.out.bel (by (repeat (first | (with_reducible exact Below.refl _ _) | (with_reducible assumption) | (with_reducible refine Later.out _ ?_) | (with_reducible refine bel_alloc ?_ _) | (with_reducible refine bel_drew ?_) | (with_reducible refine bel_drewN ?_ _) | (with_reducible refine bel_set ?_ ?_ _) | (with_reducible refine After.out _ ?_ ?_) | (dsimp only; omega) | omega | (simp only [World.size_alloc, World.size_setCell, World.size_drew]; omega))))))) | (go_at_call 177; exact Calls.later (CW.out _)) | (go_at_call 131; exact Calls.later (CZ.out _)) | (go_at_call 132; exact Calls.later (CC.out _ (rx.out.bel (by (repeat (first | (with_reducible exact Below.refl _ _) | (with_reducible assumption) | (with_reducible refine Later.out _ ?_) | (with_reducible refine bel_alloc ?_ _) | (with_reducible refine bel_drew ?_) | (with_reducible refine bel_drewN ?_ _) | (with_reducible refine bel_set ?_ ?_ _) | (with_reducible refine After.out _ ?_ ?_) | (dsimp only; omega) | omega | (simp only [World.size_alloc, World.size_setCell, World.size_drew]; omega))))) (ry.out.bel (by (repeat (first | (with_reducible exact Below.refl _ _) | (with_reducible assumption) | (with_reducible refine Later.out _ ?_) | (with_reducible refine bel_alloc ?_ _) | (with_reducible refine bel_drew ?_) | (with_reducible refine bel_drewN ?_ _) | (with_reducible refine bel_set ?_ ?_ _) | (with_reducible refine After.out _ ?_ ?_) | (dsimp only; omega) | omega | (simp only [World.size_alloc, World.size_setCell, World.size_drew]; omega))))))))))
  refine wpQuiet_nil ?_
  rintro _ ⟨xq, rfl⟩
  go_wp2_with fail
  with_reducible refine (CO.out _ _ _ (Row.madeAt (w := xq.w) (cs := #[.int .i64 t, .int .i64 u, .int .i64 v]) (e := 3) rfl rfl)).mono ?_
  rintro e w' ⟨rfl, y3, rfl⟩
  go_wp2_with fail
  go_ret
  exact .mk (by rw [← hE.out]; rfl) (by (repeat (first | (with_reducible exact Below.refl _ _) | (with_reducible assumption) | (with_reducible refine Later.out _ ?_) | (with_reducible refine bel_alloc ?_ _) | (with_reducible refine bel_drew ?_) | (with_reducible refine bel_drewN ?_ _) | (with_reducible refine bel_set ?_ ?_ _) | (with_reducible refine After.out _ ?_ ?_) | (dsimp only; omega) | omega | (simp only [World.size_alloc, World.size_setCell, World.size_drew]; omega))))
theorem tells_best1 {L : List Clm} {S : List (List Int)} {a : Option Addr} {n c gx : Nat} {w : World} (hn : L.length = n) (hm : n ≤ 12) (hS : ∀ T ∈ S, Ixs n T) (hr : Row w a (clmsCells L)) (hbx : w.cell? ⟨gx, 0, none⟩ = some (.slice a n c)) : TellsC 176 #[.pointer (some ⟨gx, 0, none⟩)] (bestCf L) S w :=
  fun x hx y hy ax cx ay cy w' hb rx ry => best1_any L x y a n c gx ax cx ay cy w' hn hm (hS x hx) (hS y hy) (hr.bel hb) ((hb.cell (World.block_lt_of_cell? w _ hbx)).trans hbx) rx ry
end Go.Proofs.YtflcfdiochohgaaGreatDoor

/- BestRepair: both sides. -/
set_option linter.unusedSimpArgs false
set_option linter.unusedVariables false
namespace Go.Proofs.YtflcfdiochohgaaGreatDoor
open Go.RowKit
noncomputable def bestR (L : List Clm) : List Int := bestL (wtLt L) (minZ (repG L) L.length [])
theorem bestR_ix {L : List Clm} : Ixs L.length (bestR L) := by
  have h := repairs_some L
  have h2 := minI_le (wtLt L) (minZ (repG L) L.length []) ((minZ (repG L) L.length []).length - 1)
  unfold bestR bestL
  rw [getD_at (by omega)]
  exact ((mem_minZ (repG_mono L) (ixs_nil _) _).1 (List.getElem_mem (by omega))).1
set_option maxRecDepth 8000 in
set_option maxHeartbeats 4000000 in
theorem bestRepair_any (L : List Clm) (a : Option Addr) (c : Nat) (w : World) (h12 : L.length ≤ 12) (hr : Row w a (clmsCells L)) : Calls Tryz.prog 123 #[.slice a L.length c] w (RetOwn w 2 1 (bestR L).length (intCells (bestR L)) id) := by
  have CT := Lib.hid (fun (w : World) hr => minimalRepairs_any L a L.length c w rfl h12 hr)
  have hRx : ∀ T ∈ minZ (repG L) L.length [], Ixs L.length T := fun T hT => ((mem_minZ (repG_mono L) (ixs_nil _) T).1 hT).1
  have hRl := minZ_small (repG L) h12 []
  have hRs := minZ_sorted (repG_mono L) (ixs_nil L.length)
  have hRp := repairs_some L
  unfold bestR
  obtain ⟨R, hR⟩ : ∃ R, minZ (repG L) L.length [] = R := ⟨_, rfl⟩
  rw [hR] at hRx hRl hRs hRp ⊢
  simp only [hR] at CT
  have hBe := Lib.hid (best_wtLt L hRs (R.length - 1) (by omega))
  have hle := minI_le (wtLt L) R (R.length - 1)
  replace hr := Lib.hid hr
  replace hRx := Lib.hid hRx
  clear hR hRs
  go_enter Tryz.func123, Tryz.ntmps123
  go_wp2_with fail
  with_reducible refine (CT.out _ (hr.out.bel (by (repeat (first | (with_reducible exact Below.refl _ _) | (with_reducible assumption) | (with_reducible refine Later.out _ ?_) | (with_reducible refine bel_alloc ?_ _) | (with_reducible refine bel_drew ?_) | (with_reducible refine bel_drewN ?_ _) | (with_reducible refine bel_set ?_ ?_ _) | (with_reducible refine After.out _ ?_ ?_) | (dsimp only; omega) | omega | (simp only [World.size_alloc, World.size_setCell, World.size_drew]; omega)))))).mono ?_
  rintro e w' ⟨a2, c2, vs2, rfl, hnest, y2, rfl⟩
  have hsy2 := y2.bel.size
  (try simp only [World.size_alloc, World.size_setCell, World.size_drew] at hsy2)
  have H2 := Lib.hid hnest
  clear hnest
  have hbx : y2.w.cell? ⟨w.heap.size, 0, none⟩ = some (.slice a L.length c) := (Below.cell y2.bel (by simp only [World.size_alloc]; omega)).trans (by simp [go_sem, ↓IntWalk.iteOmega])
  go_wp2_with fail
  with_reducible refine (minFunc_any 176 #[.pointer (some ⟨w.heap.size, 0, none⟩)] (bestCf L) R vs2 _ _ _ _ enters_best1 rfl hRp (by omega) H2.out.rowsV (tells_best1 rfl h12 hRx.out (hr.out.bel (by (repeat (first | (with_reducible exact Below.refl _ _) | (with_reducible assumption) | (with_reducible refine Later.out _ ?_) | (with_reducible refine bel_alloc ?_ _) | (with_reducible refine bel_drew ?_) | (with_reducible refine bel_drewN ?_ _) | (with_reducible refine bel_set ?_ ?_ _) | (with_reducible refine After.out _ ?_ ?_) | (dsimp only; omega) | omega | (simp only [World.size_alloc, World.size_setCell, World.size_drew]; omega))))) hbx)).mono ?_
  rintro e w' ⟨rfl, y3, rfl⟩
  have hsy3 := y3.bel.size
  (try simp only [World.size_alloc, World.size_setCell, World.size_drew] at hsy3)
  go_wp2_with fail
  go_ret
  rw [hBe.out]
  obtain ⟨ai, ci, e1, o1⟩ := H2.out.pickAt (m := minI (wtLt L) R (R.length - 1)) (by omega)
  rw [e1]
  refine RetOwn.mk _ rfl (own_mono (own_bel o1.own (by (repeat (first | (with_reducible exact Below.refl _ _) | (with_reducible assumption) | (with_reducible refine Later.out _ ?_) | (with_reducible refine bel_alloc ?_ _) | (with_reducible refine bel_drew ?_) | (with_reducible refine bel_drewN ?_ _) | (with_reducible refine bel_set ?_ ?_ _) | (with_reducible refine After.out _ ?_ ?_) | (dsimp only; omega) | omega | (simp only [World.size_alloc, World.size_setCell, World.size_drew]; omega))))) (by ((try simp only [World.size_alloc, World.size_setCell, World.size_drew]); omega))) ?_
  (repeat (first | (with_reducible exact Below.refl _ _) | (with_reducible assumption) | (with_reducible refine Later.out _ ?_) | (with_reducible refine bel_alloc ?_ _) | (with_reducible refine bel_drew ?_) | (with_reducible refine bel_drewN ?_ _) | (with_reducible refine bel_set ?_ ?_ _) | (with_reducible refine After.out _ ?_ ?_) | (dsimp only; omega) | omega | (simp only [World.size_alloc, World.size_setCell, World.size_drew]; omega)))
set_option maxRecDepth 8000 in
set_option maxHeartbeats 8000000 in
theorem sBest_any (L : List Clm) (a : Option Addr) (c : Nat) (w : World) (h12 : L.length ≤ 12) (hv : Named L) (hr : Row w a (clmsCells L)) : Calls Tryz.prog 171 #[.slice a L.length c] w (RetOwn w 2 1 (bestR L).length (intCells (bestR L)) fun v => .tuple #[v, .int .i64 (wtZ L (bestR L))]) := by
  have CT := fun lo a2 c2 (w : World) hr hlo ho => sRepairs_any L a L.length c rfl h12 hv (L.length + 1) [] (ixs_nil _) (by omega) lo a2 0 c2 w rfl hr hlo ho
  have hRx : ∀ T ∈ minZ (repG L) L.length [], Ixs L.length T := fun T hT => ((mem_minZ (repG_mono L) (ixs_nil _) T).1 hT).1
  have hRl := minZ_small (repG L) h12 []
  have hRp := repairs_some L
  unfold bestR
  obtain ⟨R, hR⟩ : ∃ R, minZ (repG L) L.length [] = R := ⟨_, rfl⟩
  rw [hR] at hRx hRl hRp ⊢
  simp only [hR] at CT
  have hle := Lib.hid (minI_le (wtLt L) R)
  have CW := Lib.hid (fun (T : List Int) (hT : Ixs L.length T) a' c' (w : World) hr hr' => sWeight_any L T a a' L.length c T.length c' w rfl rfl (by omega) (by have := ixs_len hT; omega) hr hr' hT.rises)
  replace CT := Lib.hid CT
  replace hr := Lib.hid hr
  replace hRx := Lib.hid hRx
  clear hR hv
  go_enter Tryz.func171, Tryz.ntmps171
  go_wp2_with fail
  with_reducible refine (CT.out w.heap.size _ _ _ (hr.out.bel (by (repeat (first | (with_reducible exact Below.refl _ _) | (with_reducible assumption) | (with_reducible refine Later.out _ ?_) | (with_reducible refine bel_alloc ?_ _) | (with_reducible refine bel_drew ?_) | (with_reducible refine bel_drewN ?_ _) | (with_reducible refine bel_set ?_ ?_ _) | (with_reducible refine After.out _ ?_ ?_) | (dsimp only; omega) | omega | (simp only [World.size_alloc, World.size_setCell, World.size_drew]; omega))))) (by ((try simp only [World.size_alloc, World.size_setCell, World.size_drew]); omega)) (Owns.of (World.ownsRow_lit (base := w.heap.size) (e := 2) (size := 1) w #[] 0 (Nat.le_refl _) (by unfold maxLen; omega) rfl))).mono ?_
  rintro e w' ⟨a2, c2, vs2, rfl, hnest, y2, rfl⟩
  have hsy2 := y2.bel.size
  (try simp only [World.size_alloc, World.size_setCell, World.size_drew] at hsy2)
  have H2 := Lib.hid hnest
  clear hnest
  have HV := Lib.hid H2.out.rowsV
  obtain ⟨b, o, ai0, ci0, eb0, hb0, hc0, e0, r0⟩ := HV.out.get hRp
  subst eb0
  rw [Nat.add_zero] at hc0
  replace e0 := Lib.hid e0
  go_wp2_with fail
  go_loopw [5, 6] (fun m i wr => ∃ k : Nat, k ≤ R.length ∧ m = atV vs2 (minI (wtLt L) R (k - 1)) ∧ i = .int .i64 k ∧ ∃ z : Later y2.w, wr = z.w) (fun _ i _ => R.length - (intOf i).toNat)
  case atStart => exact ⟨0, Nat.zero_le _, e0.out.symm, rfl, LaterC.mk (by (repeat (first | (with_reducible exact Below.refl _ _) | (with_reducible assumption) | (with_reducible refine Later.out _ ?_) | (with_reducible refine bel_alloc ?_ _) | (with_reducible refine bel_drew ?_) | (with_reducible refine bel_drewN ?_ _) | (with_reducible refine bel_set ?_ ?_ _) | (with_reducible refine After.out _ ?_ ?_) | (dsimp only; omega) | omega | (simp only [World.size_alloc, World.size_setCell, World.size_drew]; omega))))⟩
  case round =>
    obtain ⟨k, hk, rfl, rfl, z, rfl⟩ := hrel
    have hzz := z.bel.size
    have hlk := hle.out (k - 1)
    obtain ⟨_, _, am, cm, -, -, -, em, rm⟩ := HV.out.get (k := minI (wtLt L) R (k - 1)) (by omega)
    rw [em]
    by_cases hlt : k < R.length
    · have hi1 : (k : Int) < (R.length : Int) := by omega
      obtain ⟨b', o', ai, ci, eb, -, hcc, e2, r2⟩ := HV.out.get hlt
      cases eb
      have hY : wtLt L (atL R k) (atL R (minI (wtLt L) R (k - 1))) = (decide (wtZ L (atL R k) < wtZ L (atL R (minI (wtLt L) R (k - 1)))) || (decide (wtZ L (atL R k) = wtZ L (atL R (minI (wtLt L) R (k - 1)))) && decide (((atL R k).length : Int) < (atL R (minI (wtLt L) R (k - 1))).length))) := rfl
      have WK := CW.out (atL R k) (hRx.out _ (atL_mem hlt))
      have WM := CW.out (atL R (minI (wtLt L) R (k - 1))) (hRx.out _ (atL_mem (by omega)))
      have yes : wtLt L (atL R k) (atL R (minI (wtLt L) R (k - 1))) = true → minI (wtLt L) R (k + 1 - 1) = k := fun h => by
        rcases Nat.eq_zero_or_pos k with h0 | h0
        · subst h0
          exfalso
          rw [hY] at h
          change (decide (wtZ L (atL R 0) < wtZ L (atL R 0)) || (decide (wtZ L (atL R 0) = wtZ L (atL R 0)) && decide (((atL R 0).length : Int) < (atL R 0).length))) = true at h
          simp at h
        · obtain ⟨q, rfl⟩ : ∃ q, k = q + 1 := ⟨k - 1, by omega⟩
          exact minI_yes (by rw [show q + 1 - 1 = q by omega] at h; exact h)
      have no : wtLt L (atL R k) (atL R (minI (wtLt L) R (k - 1))) = false → minI (wtLt L) R (k + 1 - 1) = minI (wtLt L) R (k - 1) := fun h => by
        rcases Nat.eq_zero_or_pos k with h0 | h0
        · subst h0; rfl
        · obtain ⟨q, rfl⟩ : ∃ q, k = q + 1 := ⟨k - 1, by omega⟩
          exact minI_no (by rw [show q + 1 - 1 = q by omega] at h; exact h)
      obtain ⟨va, hva⟩ : ∃ v, wtZ L (atL R k) = v := ⟨_, rfl⟩
      obtain ⟨vb, hvb⟩ : ∃ v, wtZ L (atL R (minI (wtLt L) R (k - 1))) = v := ⟨_, rfl⟩
      rw [hva, hvb] at hY
      rw [hva] at WK
      rw [hvb] at WM
      replace WK := Lib.hid WK
      replace WM := Lib.hid WM
      replace e2 := Lib.hid e2
      replace em := Lib.hid em
      replace r2 := Lib.hid r2
      replace rm := Lib.hid rm
      clear hva hvb
      by_cases hab : va < vb
      · have X := Lib.hid (yes (by rw [hY, decide_eq_true hab]; rfl))
        clear hY yes no
        go_wp2_with fail
        with_reducible refine (WK.out ai ci _ (hr.out.bel (by (repeat (first | (with_reducible exact Below.refl _ _) | (with_reducible assumption) | (with_reducible refine Later.out _ ?_) | (with_reducible refine bel_alloc ?_ _) | (with_reducible refine bel_drew ?_) | (with_reducible refine bel_drewN ?_ _) | (with_reducible refine bel_set ?_ ?_ _) | (with_reducible refine After.out _ ?_ ?_) | (dsimp only; omega) | omega | (simp only [World.size_alloc, World.size_setCell, World.size_drew]; omega))))) (r2.out.bel (by (repeat (first | (with_reducible exact Below.refl _ _) | (with_reducible assumption) | (with_reducible refine Later.out _ ?_) | (with_reducible refine bel_alloc ?_ _) | (with_reducible refine bel_drew ?_) | (with_reducible refine bel_drewN ?_ _) | (with_reducible refine bel_set ?_ ?_ _) | (with_reducible refine After.out _ ?_ ?_) | (dsimp only; omega) | omega | (simp only [World.size_alloc, World.size_setCell, World.size_drew]; omega)))))).mono ?_
        rintro e w' ⟨rfl, y3, rfl⟩
        have hsy3 := y3.bel.size
        (try simp only [World.size_alloc, World.size_setCell, World.size_drew] at hsy3)
        go_wp2_with fail
        with_reducible refine (WM.out am cm _ (hr.out.bel (by (repeat (first | (with_reducible exact Below.refl _ _) | (with_reducible assumption) | (with_reducible refine Later.out _ ?_) | (with_reducible refine bel_alloc ?_ _) | (with_reducible refine bel_drew ?_) | (with_reducible refine bel_drewN ?_ _) | (with_reducible refine bel_set ?_ ?_ _) | (with_reducible refine After.out _ ?_ ?_) | (dsimp only; omega) | omega | (simp only [World.size_alloc, World.size_setCell, World.size_drew]; omega))))) (rm.out.bel (by (repeat (first | (with_reducible exact Below.refl _ _) | (with_reducible assumption) | (with_reducible refine Later.out _ ?_) | (with_reducible refine bel_alloc ?_ _) | (with_reducible refine bel_drew ?_) | (with_reducible refine bel_drewN ?_ _) | (with_reducible refine bel_set ?_ ?_ _) | (with_reducible refine After.out _ ?_ ?_) | (dsimp only; omega) | omega | (simp only [World.size_alloc, World.size_setCell, World.size_drew]; omega)))))).mono ?_
        rintro e w' ⟨rfl, y4, rfl⟩
        have hsy4 := y4.bel.size
        (try simp only [World.size_alloc, World.size_setCell, World.size_drew] at hsy4)
        go_wp2_with fail
        go_roundw
        case rel => exact ⟨k + 1, by omega, by rw [X.out]; exact e2.out.symm, by go_num, LaterC.mk (by (repeat (first | (with_reducible exact Below.refl _ _) | (with_reducible assumption) | (with_reducible refine Later.out _ ?_) | (with_reducible refine bel_alloc ?_ _) | (with_reducible refine bel_drew ?_) | (with_reducible refine bel_drewN ?_ _) | (with_reducible refine bel_set ?_ ?_ _) | (with_reducible refine After.out _ ?_ ?_) | (dsimp only; omega) | omega | (simp only [World.size_alloc, World.size_setCell, World.size_drew]; omega))))⟩
        case measure => first | (simp [intOf]; done) | (simp [intOf]; omega) | omega
      · by_cases hqq : va = vb
        · subst hqq
          by_cases hll : ((atL R k).length : Int) < (atL R (minI (wtLt L) R (k - 1))).length
          · have X := Lib.hid (yes (by rw [hY, decide_eq_false hab, decide_eq_true rfl, decide_eq_true hll]; rfl))
            clear hY yes no
            go_wp2_with fail
            with_reducible refine (WK.out ai ci _ (hr.out.bel (by (repeat (first | (with_reducible exact Below.refl _ _) | (with_reducible assumption) | (with_reducible refine Later.out _ ?_) | (with_reducible refine bel_alloc ?_ _) | (with_reducible refine bel_drew ?_) | (with_reducible refine bel_drewN ?_ _) | (with_reducible refine bel_set ?_ ?_ _) | (with_reducible refine After.out _ ?_ ?_) | (dsimp only; omega) | omega | (simp only [World.size_alloc, World.size_setCell, World.size_drew]; omega))))) (r2.out.bel (by (repeat (first | (with_reducible exact Below.refl _ _) | (with_reducible assumption) | (with_reducible refine Later.out _ ?_) | (with_reducible refine bel_alloc ?_ _) | (with_reducible refine bel_drew ?_) | (with_reducible refine bel_drewN ?_ _) | (with_reducible refine bel_set ?_ ?_ _) | (with_reducible refine After.out _ ?_ ?_) | (dsimp only; omega) | omega | (simp only [World.size_alloc, World.size_setCell, World.size_drew]; omega)))))).mono ?_
            rintro e w' ⟨rfl, y3, rfl⟩
            have hsy3 := y3.bel.size
            (try simp only [World.size_alloc, World.size_setCell, World.size_drew] at hsy3)
            go_wp2_with fail
            with_reducible refine (WM.out am cm _ (hr.out.bel (by (repeat (first | (with_reducible exact Below.refl _ _) | (with_reducible assumption) | (with_reducible refine Later.out _ ?_) | (with_reducible refine bel_alloc ?_ _) | (with_reducible refine bel_drew ?_) | (with_reducible refine bel_drewN ?_ _) | (with_reducible refine bel_set ?_ ?_ _) | (with_reducible refine After.out _ ?_ ?_) | (dsimp only; omega) | omega | (simp only [World.size_alloc, World.size_setCell, World.size_drew]; omega))))) (rm.out.bel (by (repeat (first | (with_reducible exact Below.refl _ _) | (with_reducible assumption) | (with_reducible refine Later.out _ ?_) | (with_reducible refine bel_alloc ?_ _) | (with_reducible refine bel_drew ?_) | (with_reducible refine bel_drewN ?_ _) | (with_reducible refine bel_set ?_ ?_ _) | (with_reducible refine After.out _ ?_ ?_) | (dsimp only; omega) | omega | (simp only [World.size_alloc, World.size_setCell, World.size_drew]; omega)))))).mono ?_
            rintro e w' ⟨rfl, y4, rfl⟩
            have hsy4 := y4.bel.size
            (try simp only [World.size_alloc, World.size_setCell, World.size_drew] at hsy4)
            go_wp2_with fail
            go_roundw
            case rel => exact ⟨k + 1, by omega, by rw [X.out]; exact e2.out.symm, by go_num, LaterC.mk (by (repeat (first | (with_reducible exact Below.refl _ _) | (with_reducible assumption) | (with_reducible refine Later.out _ ?_) | (with_reducible refine bel_alloc ?_ _) | (with_reducible refine bel_drew ?_) | (with_reducible refine bel_drewN ?_ _) | (with_reducible refine bel_set ?_ ?_ _) | (with_reducible refine After.out _ ?_ ?_) | (dsimp only; omega) | omega | (simp only [World.size_alloc, World.size_setCell, World.size_drew]; omega))))⟩
            case measure => first | (simp [intOf]; done) | (simp [intOf]; omega) | omega
          · have X := Lib.hid (no (by rw [hY, decide_eq_false hab, decide_eq_true rfl, decide_eq_false hll]; rfl))
            clear hY yes no
            go_wp2_with fail
            with_reducible refine (WK.out ai ci _ (hr.out.bel (by (repeat (first | (with_reducible exact Below.refl _ _) | (with_reducible assumption) | (with_reducible refine Later.out _ ?_) | (with_reducible refine bel_alloc ?_ _) | (with_reducible refine bel_drew ?_) | (with_reducible refine bel_drewN ?_ _) | (with_reducible refine bel_set ?_ ?_ _) | (with_reducible refine After.out _ ?_ ?_) | (dsimp only; omega) | omega | (simp only [World.size_alloc, World.size_setCell, World.size_drew]; omega))))) (r2.out.bel (by (repeat (first | (with_reducible exact Below.refl _ _) | (with_reducible assumption) | (with_reducible refine Later.out _ ?_) | (with_reducible refine bel_alloc ?_ _) | (with_reducible refine bel_drew ?_) | (with_reducible refine bel_drewN ?_ _) | (with_reducible refine bel_set ?_ ?_ _) | (with_reducible refine After.out _ ?_ ?_) | (dsimp only; omega) | omega | (simp only [World.size_alloc, World.size_setCell, World.size_drew]; omega)))))).mono ?_
            rintro e w' ⟨rfl, y3, rfl⟩
            have hsy3 := y3.bel.size
            (try simp only [World.size_alloc, World.size_setCell, World.size_drew] at hsy3)
            go_wp2_with fail
            with_reducible refine (WM.out am cm _ (hr.out.bel (by (repeat (first | (with_reducible exact Below.refl _ _) | (with_reducible assumption) | (with_reducible refine Later.out _ ?_) | (with_reducible refine bel_alloc ?_ _) | (with_reducible refine bel_drew ?_) | (with_reducible refine bel_drewN ?_ _) | (with_reducible refine bel_set ?_ ?_ _) | (with_reducible refine After.out _ ?_ ?_) | (dsimp only; omega) | omega | (simp only [World.size_alloc, World.size_setCell, World.size_drew]; omega))))) (rm.out.bel (by (repeat (first | (with_reducible exact Below.refl _ _) | (with_reducible assumption) | (with_reducible refine Later.out _ ?_) | (with_reducible refine bel_alloc ?_ _) | (with_reducible refine bel_drew ?_) | (with_reducible refine bel_drewN ?_ _) | (with_reducible refine bel_set ?_ ?_ _) | (with_reducible refine After.out _ ?_ ?_) | (dsimp only; omega) | omega | (simp only [World.size_alloc, World.size_setCell, World.size_drew]; omega)))))).mono ?_
            rintro e w' ⟨rfl, y4, rfl⟩
            have hsy4 := y4.bel.size
            (try simp only [World.size_alloc, World.size_setCell, World.size_drew] at hsy4)
            go_wp2_with fail
            go_roundw
            case rel => exact ⟨k + 1, by omega, by rw [X.out]; exact em.out.symm, by go_num, LaterC.mk (by (repeat (first | (with_reducible exact Below.refl _ _) | (with_reducible assumption) | (with_reducible refine Later.out _ ?_) | (with_reducible refine bel_alloc ?_ _) | (with_reducible refine bel_drew ?_) | (with_reducible refine bel_drewN ?_ _) | (with_reducible refine bel_set ?_ ?_ _) | (with_reducible refine After.out _ ?_ ?_) | (dsimp only; omega) | omega | (simp only [World.size_alloc, World.size_setCell, World.size_drew]; omega))))⟩
            case measure => first | (simp [intOf]; done) | (simp [intOf]; omega) | omega
        · have X := Lib.hid (no (by rw [hY, decide_eq_false hab, decide_eq_false hqq]; rfl))
          have hqq2 : (va == vb) = false := by simpa using hqq
          clear hY yes no
          go_wp2_with fail
          with_reducible refine (WK.out ai ci _ (hr.out.bel (by (repeat (first | (with_reducible exact Below.refl _ _) | (with_reducible assumption) | (with_reducible refine Later.out _ ?_) | (with_reducible refine bel_alloc ?_ _) | (with_reducible refine bel_drew ?_) | (with_reducible refine bel_drewN ?_ _) | (with_reducible refine bel_set ?_ ?_ _) | (with_reducible refine After.out _ ?_ ?_) | (dsimp only; omega) | omega | (simp only [World.size_alloc, World.size_setCell, World.size_drew]; omega))))) (r2.out.bel (by (repeat (first | (with_reducible exact Below.refl _ _) | (with_reducible assumption) | (with_reducible refine Later.out _ ?_) | (with_reducible refine bel_alloc ?_ _) | (with_reducible refine bel_drew ?_) | (with_reducible refine bel_drewN ?_ _) | (with_reducible refine bel_set ?_ ?_ _) | (with_reducible refine After.out _ ?_ ?_) | (dsimp only; omega) | omega | (simp only [World.size_alloc, World.size_setCell, World.size_drew]; omega)))))).mono ?_
          rintro e w' ⟨rfl, y3, rfl⟩
          have hsy3 := y3.bel.size
          (try simp only [World.size_alloc, World.size_setCell, World.size_drew] at hsy3)
          go_wp2_with fail
          with_reducible refine (WM.out am cm _ (hr.out.bel (by (repeat (first | (with_reducible exact Below.refl _ _) | (with_reducible assumption) | (with_reducible refine Later.out _ ?_) | (with_reducible refine bel_alloc ?_ _) | (with_reducible refine bel_drew ?_) | (with_reducible refine bel_drewN ?_ _) | (with_reducible refine bel_set ?_ ?_ _) | (with_reducible refine After.out _ ?_ ?_) | (dsimp only; omega) | omega | (simp only [World.size_alloc, World.size_setCell, World.size_drew]; omega))))) (rm.out.bel (by (repeat (first | (with_reducible exact Below.refl _ _) | (with_reducible assumption) | (with_reducible refine Later.out _ ?_) | (with_reducible refine bel_alloc ?_ _) | (with_reducible refine bel_drew ?_) | (with_reducible refine bel_drewN ?_ _) | (with_reducible refine bel_set ?_ ?_ _) | (with_reducible refine After.out _ ?_ ?_) | (dsimp only; omega) | omega | (simp only [World.size_alloc, World.size_setCell, World.size_drew]; omega)))))).mono ?_
          rintro e w' ⟨rfl, y4, rfl⟩
          have hsy4 := y4.bel.size
          (try simp only [World.size_alloc, World.size_setCell, World.size_drew] at hsy4)
          go_wp2_with fail
          go_roundw
          case rel => exact ⟨k + 1, by omega, by rw [X.out]; exact em.out.symm, by go_num, LaterC.mk (by (repeat (first | (with_reducible exact Below.refl _ _) | (with_reducible assumption) | (with_reducible refine Later.out _ ?_) | (with_reducible refine bel_alloc ?_ _) | (with_reducible refine bel_drew ?_) | (with_reducible refine bel_drewN ?_ _) | (with_reducible refine bel_set ?_ ?_ _) | (with_reducible refine After.out _ ?_ ?_) | (dsimp only; omega) | omega | (simp only [World.size_alloc, World.size_setCell, World.size_drew]; omega))))⟩
          case measure => first | (simp [intOf]; done) | (simp [intOf]; omega) | omega
    · obtain rfl : k = R.length := by omega
      obtain ⟨ai, ci, e1, o1⟩ := H2.out.pickAt (m := minI (wtLt L) R (R.length - 1)) (by omega)
      have WM := Lib.hid (CW.out (atL R (minI (wtLt L) R (R.length - 1))) (hRx.out _ (atL_mem (by omega))))
      rw [em] at e1
      cases e1
      have hO := Lib.hid o1
      replace rm := Lib.hid rm
      go_wp2_with fail
      with_reducible refine (WM.out am cm _ (hr.out.bel (by (repeat (first | (with_reducible exact Below.refl _ _) | (with_reducible assumption) | (with_reducible refine Later.out _ ?_) | (with_reducible refine bel_alloc ?_ _) | (with_reducible refine bel_drew ?_) | (with_reducible refine bel_drewN ?_ _) | (with_reducible refine bel_set ?_ ?_ _) | (with_reducible refine After.out _ ?_ ?_) | (dsimp only; omega) | omega | (simp only [World.size_alloc, World.size_setCell, World.size_drew]; omega))))) (rm.out.bel (by (repeat (first | (with_reducible exact Below.refl _ _) | (with_reducible assumption) | (with_reducible refine Later.out _ ?_) | (with_reducible refine bel_alloc ?_ _) | (with_reducible refine bel_drew ?_) | (with_reducible refine bel_drewN ?_ _) | (with_reducible refine bel_set ?_ ?_ _) | (with_reducible refine After.out _ ?_ ?_) | (dsimp only; omega) | omega | (simp only [World.size_alloc, World.size_setCell, World.size_drew]; omega)))))).mono ?_
      rintro e w' ⟨rfl, y4, rfl⟩
      have hsy4 := y4.bel.size
      (try simp only [World.size_alloc, World.size_setCell, World.size_drew] at hsy4)
      go_wp2_with fail
      refine bodyPost_ret (by simp [results, Tryz.results171, go_sem, ↓IntWalk.iteOmega, *]; try rfl) rfl ?_
      refine RetOwn.mk _ rfl (own_mono (own_bel hO.out.own (by (repeat (first | (with_reducible exact Below.refl _ _) | (with_reducible assumption) | (with_reducible refine Later.out _ ?_) | (with_reducible refine bel_alloc ?_ _) | (with_reducible refine bel_drew ?_) | (with_reducible refine bel_drewN ?_ _) | (with_reducible refine bel_set ?_ ?_ _) | (with_reducible refine After.out _ ?_ ?_) | (dsimp only; omega) | omega | (simp only [World.size_alloc, World.size_setCell, World.size_drew]; omega))))) (by ((try simp only [World.size_alloc, World.size_setCell, World.size_drew]); omega))) ?_
      (repeat (first | (with_reducible exact Below.refl _ _) | (with_reducible assumption) | (with_reducible refine Later.out _ ?_) | (with_reducible refine bel_alloc ?_ _) | (with_reducible refine bel_drew ?_) | (with_reducible refine bel_drewN ?_ _) | (with_reducible refine bel_set ?_ ?_ _) | (with_reducible refine After.out _ ?_ ?_) | (dsimp only; omega) | omega | (simp only [World.size_alloc, World.size_setCell, World.size_drew]; omega)))
noncomputable def bstR (L : List Clm) : List Int := if claimsB L then bestR L else []
noncomputable def bstK0 (L : List Clm) : Int := if claimsB L then wtZ L (bestR L) else 0
noncomputable def bstK (L : List Clm) : Int := if claimsB L then 0 else 1
section
variable (L : List Clm) (a : Option Addr) (n c : Nat) (w : World) (hn : L.length = n) (hm : n ≤ 1048576) (hr : Row w a (clmsCells L)) (ok : ∀ c ∈ L, ClmOk c)
include hn hm hr ok
set_option maxRecDepth 8000 in
set_option maxHeartbeats 4000000 in
theorem bst_impl (hx : Max w) : Calls Tryz.prog 47 #[.slice a n c] w (RetOwn w 2 1 (bstR L).length (intCells (bstR L)) fun v => .tuple #[v, .int .i64 (bstK0 L), .int .i64 (bstK L)]) := by
  cases h1 : claimsB L
  · rw [show bstR L = [] by simp [bstR, h1], show bstK0 L = 0 by simp [bstK0, h1], show bstK L = 1 by simp [bstK, h1]]
    have C1 := Lib.hid (areClaims_b (c := c) hn hm hr ok hx h1)
    clear ok h1 hn hr hx
    go_enter Tryz.func47, Tryz.ntmps47
    go_wp2_with fail
    with_reducible refine (C1.out).mono ?_
    rintro e w' ⟨rfl, y1, rfl⟩
    have hsy1 := y1.bel.size
    (try simp only [World.size_alloc, World.size_setCell, World.size_drew] at hsy1)
    go_wp2_with fail
    refine bodyPost_ret (by simp [results, Tryz.results47, go_sem, ↓IntWalk.iteOmega, *]; try rfl) rfl ?_
    refine RetOwn.mk (.slice none 0 0) rfl (World.ownsRow_nil _ _ _ _) ?_
    (repeat (first | (with_reducible exact Below.refl _ _) | (with_reducible assumption) | (with_reducible refine Later.out _ ?_) | (with_reducible refine bel_alloc ?_ _) | (with_reducible refine bel_drew ?_) | (with_reducible refine bel_drewN ?_ _) | (with_reducible refine bel_set ?_ ?_ _) | (with_reducible refine After.out _ ?_ ?_) | (dsimp only; omega) | omega | (simp only [World.size_alloc, World.size_setCell, World.size_drew]; omega)))
  have h12 := len_of_claims h1
  have C1 := Lib.hid (areClaims_b (c := c) hn hm hr ok hx h1)
  subst hn
  have CT := Lib.hid (fun (w : World) hr => minimalRepairs_any L a L.length c w rfl h12 hr)
  have hRx : ∀ T ∈ minZ (repG L) L.length [], Ixs L.length T := fun T hT => ((mem_minZ (repG_mono L) (ixs_nil _) T).1 hT).1
  have hRl := minZ_small (repG L) h12 []
  clear hRx hRl CT
  have hix := bestR_ix (L := L)
  rw [show bstR L = bestR L by simp [bstR, h1], show bstK0 L = wtZ L (bestR L) by simp [bstK0, h1], show bstK L = 0 by simp [bstK, h1]]
  have CB := Lib.hid (fun (w : World) hr => bestRepair_any L a c w h12 hr)
  have CW := Lib.hid (fun a' c' (w : World) hr hr' => weightOf_any L (bestR L) a a' L.length c (bestR L).length c' w rfl rfl (by omega) (by have := ixs_len hix; omega) hr hr' hix.rises)
  obtain ⟨B, hB⟩ : ∃ B, bestR L = B := ⟨_, rfl⟩
  obtain ⟨v, hv⟩ : ∃ v, wtZ L (bestR L) = v := ⟨_, rfl⟩
  rw [hv] at CW ⊢
  rw [hB] at CB CW ⊢
  replace hr := Lib.hid hr
  clear ok h1 hix hB hv hx
  go_enter Tryz.func47, Tryz.ntmps47
  go_wp2_with fail
  with_reducible refine (C1.out).mono ?_
  rintro e w' ⟨rfl, y1, rfl⟩
  have hsy1 := y1.bel.size
  (try simp only [World.size_alloc, World.size_setCell, World.size_drew] at hsy1)
  go_wp2_with fail
  with_reducible refine (CB.out _ (hr.out.bel (by (repeat (first | (with_reducible exact Below.refl _ _) | (with_reducible assumption) | (with_reducible refine Later.out _ ?_) | (with_reducible refine bel_alloc ?_ _) | (with_reducible refine bel_drew ?_) | (with_reducible refine bel_drewN ?_ _) | (with_reducible refine bel_set ?_ ?_ _) | (with_reducible refine After.out _ ?_ ?_) | (dsimp only; omega) | omega | (simp only [World.size_alloc, World.size_setCell, World.size_drew]; omega)))))).mono ?_
  rintro e w' ⟨a2, c2, rfl, hown, y2, rfl⟩
  have hsy2 := y2.bel.size
  (try simp only [World.size_alloc, World.size_setCell, World.size_drew] at hsy2)
  have H2 := Lib.hid (Owns.of hown)
  clear hown
  go_wp2_with fail
  with_reducible refine (CW.out _ _ _ (hr.out.bel (by (repeat (first | (with_reducible exact Below.refl _ _) | (with_reducible assumption) | (with_reducible refine Later.out _ ?_) | (with_reducible refine bel_alloc ?_ _) | (with_reducible refine bel_drew ?_) | (with_reducible refine bel_drewN ?_ _) | (with_reducible refine bel_set ?_ ?_ _) | (with_reducible refine After.out _ ?_ ?_) | (dsimp only; omega) | omega | (simp only [World.size_alloc, World.size_setCell, World.size_drew]; omega))))) H2.out.row).mono ?_
  rintro e w' ⟨rfl, y3, rfl⟩
  have hsy3 := y3.bel.size
  (try simp only [World.size_alloc, World.size_setCell, World.size_drew] at hsy3)
  go_wp2_with fail
  refine bodyPost_ret (by simp [results, Tryz.results47, go_sem, ↓IntWalk.iteOmega, *]; try rfl) rfl ?_
  refine RetOwn.mk _ rfl (own_mono (own_bel H2.out.own (by (repeat (first | (with_reducible exact Below.refl _ _) | (with_reducible assumption) | (with_reducible refine Later.out _ ?_) | (with_reducible refine bel_alloc ?_ _) | (with_reducible refine bel_drew ?_) | (with_reducible refine bel_drewN ?_ _) | (with_reducible refine bel_set ?_ ?_ _) | (with_reducible refine After.out _ ?_ ?_) | (dsimp only; omega) | omega | (simp only [World.size_alloc, World.size_setCell, World.size_drew]; omega))))) (by ((try simp only [World.size_alloc, World.size_setCell, World.size_drew]); omega))) ?_
  (repeat (first | (with_reducible exact Below.refl _ _) | (with_reducible assumption) | (with_reducible refine Later.out _ ?_) | (with_reducible refine bel_alloc ?_ _) | (with_reducible refine bel_drew ?_) | (with_reducible refine bel_drewN ?_ _) | (with_reducible refine bel_set ?_ ?_ _) | (with_reducible refine After.out _ ?_ ?_) | (dsimp only; omega) | omega | (simp only [World.size_alloc, World.size_setCell, World.size_drew]; omega)))
end
end Go.Proofs.YtflcfdiochohgaaGreatDoor
