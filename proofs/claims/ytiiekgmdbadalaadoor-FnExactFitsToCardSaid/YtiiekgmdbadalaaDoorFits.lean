import Derived.Test.YtiiekgmdbadalaaDoorConsS
import Derived.Test.YtiiekgmdbadalaaDoorCons
import Derived.Test.YtiiekgmdbadalaaDoorPick
import Derived.Test.YtiiekgmdbadalaaDoorFloat
import Derived.Test.YtiiekgmdbadalaaDoorOper
import Derived.Lib.SliceRun
/- FitsTo, both sides. -/
set_option linter.unusedSimpArgs false
set_option linter.unusedVariables false
namespace Go.Proofs.YtiiekgmdbadalaaDoor
open Go.RowKit
theorem Row.none {w : World} {xs : List Value} (h : Row w none xs) : xs = [] := by
  cases xs with
  | nil => rfl
  | cons x r => obtain ⟨b, o, h, _⟩ := h 0 x rfl; cases h
theorem clms_nil {L : List Clm} (h : clmsCells L = []) : L = [] := by
  have := length_clmsCells L
  rw [h] at this
  cases L with
  | nil => rfl
  | cons c L => simp at this
set_option maxRecDepth 4000 in
set_option maxHeartbeats 400000 in
theorem cloneClm_any (L : List Clm) (a : Option Addr) (n c : Nat) (w : World) (hn : L.length = n) (hm : n ≤ 1048576) (hr : Row w a (clmsCells L)) :
    Calls Tryd.prog 90 #[.slice a n c] w (RetOwn w 37 7 n (clmsCells L) id) := by
  subst hn
  cases a with
  | none =>
    obtain rfl := clms_nil hr.none
    have heq := fun w => Lib.run_eql_slice_nil (P := Tryd.prog) w 46 37 none 0 c 0 0 Tryd.underlying46
    go_enter Tryd.func90, Tryd.ntmps90
    go_wp2_with fail
    go_ret
    exact RetOwn.mk (.slice none 0 0) rfl (World.ownsRow_nil _ _ _ _) (by (repeat (first | (with_reducible exact Below.refl _ _) | (with_reducible assumption) | (with_reducible refine Later.out _ ?_) | (with_reducible refine bel_alloc ?_ _) | (with_reducible refine bel_drew ?_) | (with_reducible refine bel_drewN ?_ _) | (with_reducible refine bel_set ?_ ?_ _) | (with_reducible refine After.out _ ?_ ?_) | (dsimp only; omega) | omega | (simp only [World.size_alloc, World.size_setCell, World.size_drew]; omega))))
  | some p =>
    obtain ⟨ii, j1, j2, j3, j4⟩ := info_claim'
    have Jii := Lib.hid (And.intro j1 (And.intro j2 (And.intro j3 j4)))
    have HR := Lib.hid hr
    have hl7 := length_clmsCells L
    clear j1 j2 j3 j4 hr
    have heq := fun w => Lib.run_eql_slice_nil (P := Tryd.prog) w 46 37 (some p) L.length c 0 0 Tryd.underlying46
    go_enter Tryd.func90, Tryd.ntmps90
    go_wp2_with (at_builtin; (refine wpList_append_later _ rfl _ _ _ rfl 37 ii _ 7 80 Tryd.underlying46 Jii.out.1 Jii.out.2.1 Jii.out.2.2.1 Jii.out.2.2.2 rfl (by decide) (w) ?qa57 _ _ _ ([]) rfl ?qa58 _ _ _ (clmsCells L) rfl ?qa59 ?qa60 ?qa61 ?qa62 ?qa63 ?_); (case qa57 => (repeat (first | (with_reducible exact Below.refl _ _) | (with_reducible assumption) | (with_reducible refine Later.out _ ?_) | (with_reducible refine bel_alloc ?_ _) | (with_reducible refine bel_drew ?_) | (with_reducible refine bel_drewN ?_ _) | (with_reducible refine bel_set ?_ ?_ _) | (with_reducible refine After.out _ ?_ ?_) | (dsimp only; omega) | omega | (simp only [World.size_alloc, World.size_setCell, World.size_drew]; omega)))); (case qa58 => exact World.ownsRow_lit w #[] 0 (Nat.le_refl _) (by unfold maxLen; omega) rfl); (case qa59 => (first | rfl | (simp [boolCells]; done) | (simp [intCells]; done) | (simp; done) | (first | omega | (simp only [List.length_append, List.length_cons, List.length_nil]; omega)))); (case qa60 => exact HR.out.bel (by (repeat (first | (with_reducible exact Below.refl _ _) | (with_reducible assumption) | (with_reducible refine Later.out _ ?_) | (with_reducible refine bel_alloc ?_ _) | (with_reducible refine bel_drew ?_) | (with_reducible refine bel_drewN ?_ _) | (with_reducible refine bel_set ?_ ?_ _) | (with_reducible refine After.out _ ?_ ?_) | (dsimp only; omega) | omega | (simp only [World.size_alloc, World.size_setCell, World.size_drew]; omega))))); (case qa61 => exact one_clm L); (case qa62 => (unfold maxLen; (first | omega | (simp only [List.length_append, List.length_cons, List.length_nil]; omega)))); (case qa63 => (first | omega | (simp only [List.length_append, List.length_cons, List.length_nil]; omega))); intro a' c' x hown)
    simp only [Nat.zero_add, List.nil_append] at hown
    have HO := Lib.hid hown
    clear hown
    go_ret
    exact RetOwn.mk _ rfl HO.out x.bel
noncomputable def fitsK (L : List Clm) (d : Clm) : Int := if claimsB L && claimB d then (if consB L then 0 else 5) else 1
noncomputable def fitsR (L : List Clm) (d : Clm) : Bool := if claimsB L && claimB d then (if consB L then consB (L ++ [d]) else false) else false
theorem row_box {W W' : World} {g : Nat} {e : TypeId} (d : Clm) (hg : g = W.heap.size) (h : Below (W.alloc (.cells #[.string d.src, .int .i64 d.kind, .string d.place, .string d.val, .int .i64 d.fr, .int .i64 d.to, .int .i64 d.wt] e)).heap.size (W.alloc (.cells #[.string d.src, .int .i64 d.kind, .string d.place, .string d.val, .int .i64 d.fr, .int .i64 d.to, .int .i64 d.wt] e)) W') : Row W' (some ⟨g, 0, none⟩) (clmCells d) := by
  subst hg
  exact (Row.made W #[.string d.src, .int .i64 d.kind, .string d.place, .string d.val, .int .i64 d.fr, .int .i64 d.to, .int .i64 d.wt] e).bel h
theorem clmsCells_one (d : Clm) : clmsCells [d] = clmCells d := by simp [clmsCells]
set_option maxRecDepth 4000 in
set_option maxHeartbeats 4000000 in
theorem fits_impl (L : List Clm) (d : Clm) (a : Option Addr) (n c : Nat) (w : World) (hn : L.length = n) (hm : n ≤ 1048576) (hr : Row w a (clmsCells L)) (ok : ∀ c ∈ L, ClmOk c) (okd : ClmOk d) (hcap : n ≤ c) (hx : Max w) :
    Calls Tryd.prog 54 #[.slice a n c, clmV d] w (Ret w (.tuple #[.bool (fitsR L d), .int .i64 (fitsK L d)])) := by
  cases h1 : claimsB L
  · rw [show fitsR L d = false by simp [fitsR, h1], show fitsK L d = 1 by simp [fitsK, h1]]
    have C1 := Lib.hid (fun w hr hx => areClaims_b (a := a) (c := c) (w := w) hn hm hr ok hx h1)
    replace hr := Lib.hid hr
    replace hx := Lib.hid hx
    clear ok h1 hn
    go_enter Tryd.func54, Tryd.ntmps54
    go_wp2_with fail
    with_reducible refine (C1.out _ (hr.out.bel (by (repeat (first | (with_reducible exact Below.refl _ _) | (with_reducible assumption) | (with_reducible refine Later.out _ ?_) | (with_reducible refine bel_alloc ?_ _) | (with_reducible refine bel_drew ?_) | (with_reducible refine bel_drewN ?_ _) | (with_reducible refine bel_set ?_ ?_ _) | (with_reducible refine After.out _ ?_ ?_) | (dsimp only; omega) | omega | (simp only [World.size_alloc, World.size_setCell, World.size_drew]; omega))))) (hx.out.bel (by (repeat (first | (with_reducible exact Below.refl _ _) | (with_reducible assumption) | (with_reducible refine Later.out _ ?_) | (with_reducible refine bel_alloc ?_ _) | (with_reducible refine bel_drew ?_) | (with_reducible refine bel_drewN ?_ _) | (with_reducible refine bel_set ?_ ?_ _) | (with_reducible refine After.out _ ?_ ?_) | (dsimp only; omega) | omega | (simp only [World.size_alloc, World.size_setCell, World.size_drew]; omega)))))).mono ?_
    rintro e w' ⟨rfl, y1, rfl⟩
    have hsy1 := y1.bel.size
    (try simp only [World.size_alloc, World.size_setCell, World.size_drew] at hsy1)
    go_wp2_with fail
    refine bodyPost_ret (by simp [results, Tryd.results54, go_sem, ↓IntWalk.iteOmega, *]; try rfl) rfl ?_
    exact .mk rfl (by (repeat (first | (with_reducible exact Below.refl _ _) | (with_reducible assumption) | (with_reducible refine Later.out _ ?_) | (with_reducible refine bel_alloc ?_ _) | (with_reducible refine bel_drew ?_) | (with_reducible refine bel_drewN ?_ _) | (with_reducible refine bel_set ?_ ?_ _) | (with_reducible refine After.out _ ?_ ?_) | (dsimp only; omega) | omega | (simp only [World.size_alloc, World.size_setCell, World.size_drew]; omega))))
  have C1 := Lib.hid (fun w hr hx => areClaims_b (a := a) (c := c) (w := w) hn hm hr ok hx h1)
  cases h2 : claimB d
  · rw [show fitsR L d = false by simp [fitsR, h1, h2], show fitsK L d = 1 by simp [fitsK, h1, h2]]
    have C2 := Lib.hid (fun w hx => isClaim_b (w := w) okd hx h2)
    replace hr := Lib.hid hr
    replace hx := Lib.hid hx
    clear ok h1 hn h2 okd
    go_enter Tryd.func54, Tryd.ntmps54
    go_wp2_with fail
    with_reducible refine (C1.out _ (hr.out.bel (by (repeat (first | (with_reducible exact Below.refl _ _) | (with_reducible assumption) | (with_reducible refine Later.out _ ?_) | (with_reducible refine bel_alloc ?_ _) | (with_reducible refine bel_drew ?_) | (with_reducible refine bel_drewN ?_ _) | (with_reducible refine bel_set ?_ ?_ _) | (with_reducible refine After.out _ ?_ ?_) | (dsimp only; omega) | omega | (simp only [World.size_alloc, World.size_setCell, World.size_drew]; omega))))) (hx.out.bel (by (repeat (first | (with_reducible exact Below.refl _ _) | (with_reducible assumption) | (with_reducible refine Later.out _ ?_) | (with_reducible refine bel_alloc ?_ _) | (with_reducible refine bel_drew ?_) | (with_reducible refine bel_drewN ?_ _) | (with_reducible refine bel_set ?_ ?_ _) | (with_reducible refine After.out _ ?_ ?_) | (dsimp only; omega) | omega | (simp only [World.size_alloc, World.size_setCell, World.size_drew]; omega)))))).mono ?_
    rintro e w' ⟨rfl, y1, rfl⟩
    have hsy1 := y1.bel.size
    (try simp only [World.size_alloc, World.size_setCell, World.size_drew] at hsy1)
    go_wp2_with fail
    with_reducible refine (C2.out _ (hx.out.bel (by (repeat (first | (with_reducible exact Below.refl _ _) | (with_reducible assumption) | (with_reducible refine Later.out _ ?_) | (with_reducible refine bel_alloc ?_ _) | (with_reducible refine bel_drew ?_) | (with_reducible refine bel_drewN ?_ _) | (with_reducible refine bel_set ?_ ?_ _) | (with_reducible refine After.out _ ?_ ?_) | (dsimp only; omega) | omega | (simp only [World.size_alloc, World.size_setCell, World.size_drew]; omega)))))).mono ?_
    rintro e w' ⟨rfl, y2, rfl⟩
    have hsy2 := y2.bel.size
    (try simp only [World.size_alloc, World.size_setCell, World.size_drew] at hsy2)
    go_wp2_with fail
    refine bodyPost_ret (by simp [results, Tryd.results54, go_sem, ↓IntWalk.iteOmega, *]; try rfl) rfl ?_
    exact .mk rfl (by (repeat (first | (with_reducible exact Below.refl _ _) | (with_reducible assumption) | (with_reducible refine Later.out _ ?_) | (with_reducible refine bel_alloc ?_ _) | (with_reducible refine bel_drew ?_) | (with_reducible refine bel_drewN ?_ _) | (with_reducible refine bel_set ?_ ?_ _) | (with_reducible refine After.out _ ?_ ?_) | (dsimp only; omega) | omega | (simp only [World.size_alloc, World.size_setCell, World.size_drew]; omega))))
  have C2 := Lib.hid (fun w hx => isClaim_b (w := w) okd hx h2)
  have h12 := len_of_claims h1
  cases h3 : consB L
  · rw [show fitsR L d = false by simp [fitsR, h1, h2, h3], show fitsK L d = 5 by simp [fitsK, h1, h2, h3]]
    have C3 := Lib.hid (fun w hr => areConsistent_b (a := a) (c := c) (w := w) hn hm hcap hr h3)
    replace hr := Lib.hid hr
    replace hx := Lib.hid hx
    clear ok h1 hn h2 okd h3
    go_enter Tryd.func54, Tryd.ntmps54
    go_wp2_with fail
    with_reducible refine (C1.out _ (hr.out.bel (by (repeat (first | (with_reducible exact Below.refl _ _) | (with_reducible assumption) | (with_reducible refine Later.out _ ?_) | (with_reducible refine bel_alloc ?_ _) | (with_reducible refine bel_drew ?_) | (with_reducible refine bel_drewN ?_ _) | (with_reducible refine bel_set ?_ ?_ _) | (with_reducible refine After.out _ ?_ ?_) | (dsimp only; omega) | omega | (simp only [World.size_alloc, World.size_setCell, World.size_drew]; omega))))) (hx.out.bel (by (repeat (first | (with_reducible exact Below.refl _ _) | (with_reducible assumption) | (with_reducible refine Later.out _ ?_) | (with_reducible refine bel_alloc ?_ _) | (with_reducible refine bel_drew ?_) | (with_reducible refine bel_drewN ?_ _) | (with_reducible refine bel_set ?_ ?_ _) | (with_reducible refine After.out _ ?_ ?_) | (dsimp only; omega) | omega | (simp only [World.size_alloc, World.size_setCell, World.size_drew]; omega)))))).mono ?_
    rintro e w' ⟨rfl, y1, rfl⟩
    have hsy1 := y1.bel.size
    (try simp only [World.size_alloc, World.size_setCell, World.size_drew] at hsy1)
    go_wp2_with fail
    with_reducible refine (C2.out _ (hx.out.bel (by (repeat (first | (with_reducible exact Below.refl _ _) | (with_reducible assumption) | (with_reducible refine Later.out _ ?_) | (with_reducible refine bel_alloc ?_ _) | (with_reducible refine bel_drew ?_) | (with_reducible refine bel_drewN ?_ _) | (with_reducible refine bel_set ?_ ?_ _) | (with_reducible refine After.out _ ?_ ?_) | (dsimp only; omega) | omega | (simp only [World.size_alloc, World.size_setCell, World.size_drew]; omega)))))).mono ?_
    rintro e w' ⟨rfl, y2, rfl⟩
    have hsy2 := y2.bel.size
    (try simp only [World.size_alloc, World.size_setCell, World.size_drew] at hsy2)
    go_wp2_with fail
    with_reducible refine (C3.out _ (hr.out.bel (by (repeat (first | (with_reducible exact Below.refl _ _) | (with_reducible assumption) | (with_reducible refine Later.out _ ?_) | (with_reducible refine bel_alloc ?_ _) | (with_reducible refine bel_drew ?_) | (with_reducible refine bel_drewN ?_ _) | (with_reducible refine bel_set ?_ ?_ _) | (with_reducible refine After.out _ ?_ ?_) | (dsimp only; omega) | omega | (simp only [World.size_alloc, World.size_setCell, World.size_drew]; omega)))))).mono ?_
    rintro e w' ⟨rfl, y3, rfl⟩
    have hsy3 := y3.bel.size
    (try simp only [World.size_alloc, World.size_setCell, World.size_drew] at hsy3)
    go_wp2_with fail
    refine bodyPost_ret (by simp [results, Tryd.results54, go_sem, ↓IntWalk.iteOmega, *]; try rfl) rfl ?_
    exact .mk rfl (by (repeat (first | (with_reducible exact Below.refl _ _) | (with_reducible assumption) | (with_reducible refine Later.out _ ?_) | (with_reducible refine bel_alloc ?_ _) | (with_reducible refine bel_drew ?_) | (with_reducible refine bel_drewN ?_ _) | (with_reducible refine bel_set ?_ ?_ _) | (with_reducible refine After.out _ ?_ ?_) | (dsimp only; omega) | omega | (simp only [World.size_alloc, World.size_setCell, World.size_drew]; omega))))
  · rw [show fitsR L d = consB (L ++ [d]) by simp [fitsR, h1, h2, h3], show fitsK L d = 0 by simp [fitsK, h1, h2, h3]]
    have C3 := Lib.hid (fun w hr => areConsistent_b (a := a) (c := c) (w := w) hn hm hcap hr h3)
    have C4 := Lib.hid (fun w hr => cloneClm_any L a n c w hn hm hr)
    have C5 := Lib.hid (fun a' c' w hc hr => areConsistent_any (L ++ [d]) a' (n + 1) c' w (by simp [hn]) (by omega) hc hr)
    obtain ⟨ii, j1, j2, j3, j4⟩ := info_claim'
    have Jii := Lib.hid (And.intro j1 (And.intro j2 (And.intro j3 j4)))
    have hsn := Lib.hid (clmsCells_snoc L d)
    have hl7 := length_clmsCells L
    replace hr := Lib.hid hr
    replace hx := Lib.hid hx
    clear j1 j2 j3 j4 ok h1 h2 okd h3
    go_enter Tryd.func54, Tryd.ntmps54
    go_wp2_with fail
    with_reducible refine (C1.out _ (hr.out.bel (by (repeat (first | (with_reducible exact Below.refl _ _) | (with_reducible assumption) | (with_reducible refine Later.out _ ?_) | (with_reducible refine bel_alloc ?_ _) | (with_reducible refine bel_drew ?_) | (with_reducible refine bel_drewN ?_ _) | (with_reducible refine bel_set ?_ ?_ _) | (with_reducible refine After.out _ ?_ ?_) | (dsimp only; omega) | omega | (simp only [World.size_alloc, World.size_setCell, World.size_drew]; omega))))) (hx.out.bel (by (repeat (first | (with_reducible exact Below.refl _ _) | (with_reducible assumption) | (with_reducible refine Later.out _ ?_) | (with_reducible refine bel_alloc ?_ _) | (with_reducible refine bel_drew ?_) | (with_reducible refine bel_drewN ?_ _) | (with_reducible refine bel_set ?_ ?_ _) | (with_reducible refine After.out _ ?_ ?_) | (dsimp only; omega) | omega | (simp only [World.size_alloc, World.size_setCell, World.size_drew]; omega)))))).mono ?_
    rintro e w' ⟨rfl, y1, rfl⟩
    have hsy1 := y1.bel.size
    (try simp only [World.size_alloc, World.size_setCell, World.size_drew] at hsy1)
    go_wp2_with fail
    with_reducible refine (C2.out _ (hx.out.bel (by (repeat (first | (with_reducible exact Below.refl _ _) | (with_reducible assumption) | (with_reducible refine Later.out _ ?_) | (with_reducible refine bel_alloc ?_ _) | (with_reducible refine bel_drew ?_) | (with_reducible refine bel_drewN ?_ _) | (with_reducible refine bel_set ?_ ?_ _) | (with_reducible refine After.out _ ?_ ?_) | (dsimp only; omega) | omega | (simp only [World.size_alloc, World.size_setCell, World.size_drew]; omega)))))).mono ?_
    rintro e w' ⟨rfl, y2, rfl⟩
    have hsy2 := y2.bel.size
    (try simp only [World.size_alloc, World.size_setCell, World.size_drew] at hsy2)
    go_wp2_with fail
    with_reducible refine (C3.out _ (hr.out.bel (by (repeat (first | (with_reducible exact Below.refl _ _) | (with_reducible assumption) | (with_reducible refine Later.out _ ?_) | (with_reducible refine bel_alloc ?_ _) | (with_reducible refine bel_drew ?_) | (with_reducible refine bel_drewN ?_ _) | (with_reducible refine bel_set ?_ ?_ _) | (with_reducible refine After.out _ ?_ ?_) | (dsimp only; omega) | omega | (simp only [World.size_alloc, World.size_setCell, World.size_drew]; omega)))))).mono ?_
    rintro e w' ⟨rfl, y3, rfl⟩
    have hsy3 := y3.bel.size
    (try simp only [World.size_alloc, World.size_setCell, World.size_drew] at hsy3)
    go_wp2_with fail
    refine wp_region_float 3 [(0, true), (2, true), (1, false), (3, false), (4, false), (5, false), (6, true), (7, true)] (C := LaterC _) (by kernel_rfl) (by kernel_rfl) (by kernel_rfl) rfl (fun _ _ d _ _ h => by cases d <;> exact h) (LaterC.mk ((Below.refl _ _).drew)) ?_
    repeat (any_goals (first | (with_reducible apply plan_nil) | ((with_reducible apply float_quiet); (first | (with_reducible exact nth0) | (with_reducible exact nth1) | (with_reducible exact nth2) | (with_reducible exact nth3) | (with_reducible exact nth4) | (with_reducible exact nth5) | (with_reducible exact nth6) | (with_reducible exact nth7) | (with_reducible exact nth8) | (with_reducible exact nth9) | (with_reducible exact nth10) | (with_reducible exact nth11) | (with_reducible exact nth12) | (with_reducible exact nth13) | (with_reducible exact nth14) | (with_reducible exact nth15) | (with_reducible exact nth16) | (with_reducible exact nth17) | (with_reducible exact nth18) | (with_reducible exact nth19) | (with_reducible exact nth20) | (with_reducible exact nth21) | (with_reducible exact nth22) | (with_reducible exact nth23)); rfl; intro KP hKP; go_big_quiet_op; go_big_quiet_on) | ((with_reducible apply float_skip); (first | (with_reducible exact nth0) | (with_reducible exact nth1) | (with_reducible exact nth2) | (with_reducible exact nth3) | (with_reducible exact nth4) | (with_reducible exact nth5) | (with_reducible exact nth6) | (with_reducible exact nth7) | (with_reducible exact nth8) | (with_reducible exact nth9) | (with_reducible exact nth10) | (with_reducible exact nth11) | (with_reducible exact nth12) | (with_reducible exact nth13) | (with_reducible exact nth14) | (with_reducible exact nth15) | (with_reducible exact nth16) | (with_reducible exact nth17) | (with_reducible exact nth18) | (with_reducible exact nth19) | (with_reducible exact nth20) | (with_reducible exact nth21) | (with_reducible exact nth22) | (with_reducible exact nth23)); rfl; rfl; simp only [Act.put, List.setIfInBounds_toArray, List.set_cons_zero, List.set_cons_succ]) | ((with_reducible apply plan_quiet); (first | (with_reducible exact nth0) | (with_reducible exact nth1) | (with_reducible exact nth2) | (with_reducible exact nth3) | (with_reducible exact nth4) | (with_reducible exact nth5) | (with_reducible exact nth6) | (with_reducible exact nth7) | (with_reducible exact nth8) | (with_reducible exact nth9) | (with_reducible exact nth10) | (with_reducible exact nth11) | (with_reducible exact nth12) | (with_reducible exact nth13) | (with_reducible exact nth14) | (with_reducible exact nth15) | (with_reducible exact nth16) | (with_reducible exact nth17) | (with_reducible exact nth18) | (with_reducible exact nth19) | (with_reducible exact nth20) | (with_reducible exact nth21) | (with_reducible exact nth22) | (with_reducible exact nth23)); rfl; intro KP hKP; go_big_quiet_op; go_big_quiet_on) | ((with_reducible apply plan_skip_q); (first | (with_reducible exact nth0) | (with_reducible exact nth1) | (with_reducible exact nth2) | (with_reducible exact nth3) | (with_reducible exact nth4) | (with_reducible exact nth5) | (with_reducible exact nth6) | (with_reducible exact nth7) | (with_reducible exact nth8) | (with_reducible exact nth9) | (with_reducible exact nth10) | (with_reducible exact nth11) | (with_reducible exact nth12) | (with_reducible exact nth13) | (with_reducible exact nth14) | (with_reducible exact nth15) | (with_reducible exact nth16) | (with_reducible exact nth17) | (with_reducible exact nth18) | (with_reducible exact nth19) | (with_reducible exact nth20) | (with_reducible exact nth21) | (with_reducible exact nth22) | (with_reducible exact nth23)); rfl; rfl; simp only [Act.put, List.setIfInBounds_toArray, List.set_cons_zero, List.set_cons_succ]) | ((with_reducible apply plan_loud); (first | (with_reducible exact nth0) | (with_reducible exact nth1) | (with_reducible exact nth2) | (with_reducible exact nth3) | (with_reducible exact nth4) | (with_reducible exact nth5) | (with_reducible exact nth6) | (with_reducible exact nth7) | (with_reducible exact nth8) | (with_reducible exact nth9) | (with_reducible exact nth10) | (with_reducible exact nth11) | (with_reducible exact nth12) | (with_reducible exact nth13) | (with_reducible exact nth14) | (with_reducible exact nth15) | (with_reducible exact nth16) | (with_reducible exact nth17) | (with_reducible exact nth18) | (with_reducible exact nth19) | (with_reducible exact nth20) | (with_reducible exact nth21) | (with_reducible exact nth22) | (with_reducible exact nth23)); rfl; intro KP hKP; ((refine oper_append_later _ _ _ _ rfl 37 ii _ 7 80 Tryd.underlying46 Jii.out.1 Jii.out.2.1 Jii.out.2.2.1 Jii.out.2.2.2 rfl (by decide) (y3.w) ?qa1 _ _ _ (clmsCells L) rfl ?qa2 _ _ _ (clmCells d) rfl ?qa3 ?qa4 ?qa5 ?qa6 ?qa7 ?_); (case qa1 => (repeat (first | (with_reducible exact Below.refl _ _) | (with_reducible assumption) | (with_reducible refine Later.out _ ?_) | (with_reducible refine bel_alloc ?_ _) | (with_reducible refine bel_drew ?_) | (with_reducible refine bel_drewN ?_ _) | (with_reducible refine bel_set ?_ ?_ _) | (with_reducible refine After.out _ ?_ ?_) | (dsimp only; omega) | omega | (simp only [World.size_alloc, World.size_setCell, World.size_drew]; omega)))); (case qa2 => exact own_mono (own_bel HO1.out.own (by (repeat (first | (with_reducible exact Below.refl _ _) | (with_reducible assumption) | (with_reducible refine Later.out _ ?_) | (with_reducible refine bel_alloc ?_ _) | (with_reducible refine bel_drew ?_) | (with_reducible refine bel_drewN ?_ _) | (with_reducible refine bel_set ?_ ?_ _) | (with_reducible refine After.out _ ?_ ?_) | (dsimp only; omega) | omega | (simp only [World.size_alloc, World.size_setCell, World.size_drew]; omega))))) (by ((try simp only [World.size_alloc, World.size_setCell, World.size_drew]); omega))); (case qa3 => (first | rfl | (simp [boolCells]; done) | (simp [intCells]; done) | (simp; done) | (first | omega | (simp only [List.length_append, List.length_cons, List.length_nil]; omega)))); (case qa4 => (first | exact Row.madeAt (by simp only [World.size_alloc]) rfl | exact Row.bel (Row.made _ _ _) (by (repeat (first | (with_reducible exact Below.refl _ _) | (with_reducible assumption) | (with_reducible refine Later.out _ ?_) | (with_reducible refine bel_alloc ?_ _) | (with_reducible refine bel_drew ?_) | (with_reducible refine bel_drewN ?_ _) | (with_reducible refine bel_set ?_ ?_ _) | (with_reducible refine After.out _ ?_ ?_) | (dsimp only; omega) | omega | (simp only [World.size_alloc, World.size_setCell, World.size_drew]; omega)))))); (case qa5 => exact one_clm1 _); (case qa6 => (unfold maxLen; (first | omega | (simp only [List.length_append, List.length_cons, List.length_nil]; omega)))); (case qa7 => (first | omega | (simp only [List.length_append, List.length_cons, List.length_nil]; omega))); intro a9 c9 x9 hown9; rw [← hsn.out] at hown9; replace hown9 := Lib.hid hown9); refine hKP _ _ (LaterC.mk (by (repeat (first | (with_reducible exact Below.refl _ _) | (with_reducible assumption) | (with_reducible refine Later.out _ ?_) | (with_reducible refine bel_alloc ?_ _) | (with_reducible refine bel_drew ?_) | (with_reducible refine bel_drewN ?_ _) | (with_reducible refine bel_set ?_ ?_ _) | (with_reducible refine After.out _ ?_ ?_) | (dsimp only; omega) | omega | (simp only [World.size_alloc, World.size_setCell, World.size_drew]; omega))))) ?_; clear hKP KP) | ((with_reducible apply float_fork); rfl; (first | (with_reducible exact nth0) | (with_reducible exact nth1) | (with_reducible exact nth2) | (with_reducible exact nth3) | (with_reducible exact nth4) | (with_reducible exact nth5) | (with_reducible exact nth6) | (with_reducible exact nth7) | (with_reducible exact nth8) | (with_reducible exact nth9) | (with_reducible exact nth10) | (with_reducible exact nth11) | (with_reducible exact nth12) | (with_reducible exact nth13) | (with_reducible exact nth14) | (with_reducible exact nth15) | (with_reducible exact nth16) | (with_reducible exact nth17) | (with_reducible exact nth18) | (with_reducible exact nth19) | (with_reducible exact nth20) | (with_reducible exact nth21) | (with_reducible exact nth22) | (with_reducible exact nth23)); (first | (with_reducible exact nth0) | (with_reducible exact nth1) | (with_reducible exact nth2) | (with_reducible exact nth3) | (with_reducible exact nth4) | (with_reducible exact nth5) | (with_reducible exact nth6) | (with_reducible exact nth7) | (with_reducible exact nth8) | (with_reducible exact nth9) | (with_reducible exact nth10) | (with_reducible exact nth11) | (with_reducible exact nth12) | (with_reducible exact nth13) | (with_reducible exact nth14) | (with_reducible exact nth15) | (with_reducible exact nth16) | (with_reducible exact nth17) | (with_reducible exact nth18) | (with_reducible exact nth19) | (with_reducible exact nth20) | (with_reducible exact nth21) | (with_reducible exact nth22) | (with_reducible exact nth23)); rfl; rfl; (intro KP hKP; ((refine oper_append_later _ _ _ _ rfl 37 ii _ 7 80 Tryd.underlying46 Jii.out.1 Jii.out.2.1 Jii.out.2.2.1 Jii.out.2.2.2 rfl (by decide) (y3.w) ?qa8 _ _ _ (clmsCells L) rfl ?qa9 _ _ _ (clmCells d) rfl ?qa10 ?qa11 ?qa12 ?qa13 ?qa14 ?_); (case qa8 => (repeat (first | (with_reducible exact Below.refl _ _) | (with_reducible assumption) | (with_reducible refine Later.out _ ?_) | (with_reducible refine bel_alloc ?_ _) | (with_reducible refine bel_drew ?_) | (with_reducible refine bel_drewN ?_ _) | (with_reducible refine bel_set ?_ ?_ _) | (with_reducible refine After.out _ ?_ ?_) | (dsimp only; omega) | omega | (simp only [World.size_alloc, World.size_setCell, World.size_drew]; omega)))); (case qa9 => exact own_mono (own_bel HO1.out.own (by (repeat (first | (with_reducible exact Below.refl _ _) | (with_reducible assumption) | (with_reducible refine Later.out _ ?_) | (with_reducible refine bel_alloc ?_ _) | (with_reducible refine bel_drew ?_) | (with_reducible refine bel_drewN ?_ _) | (with_reducible refine bel_set ?_ ?_ _) | (with_reducible refine After.out _ ?_ ?_) | (dsimp only; omega) | omega | (simp only [World.size_alloc, World.size_setCell, World.size_drew]; omega))))) (by ((try simp only [World.size_alloc, World.size_setCell, World.size_drew]); omega))); (case qa10 => (first | rfl | (simp [boolCells]; done) | (simp [intCells]; done) | (simp; done) | (first | omega | (simp only [List.length_append, List.length_cons, List.length_nil]; omega)))); (case qa11 => (first | exact Row.madeAt (by simp only [World.size_alloc]) rfl | exact Row.bel (Row.made _ _ _) (by (repeat (first | (with_reducible exact Below.refl _ _) | (with_reducible assumption) | (with_reducible refine Later.out _ ?_) | (with_reducible refine bel_alloc ?_ _) | (with_reducible refine bel_drew ?_) | (with_reducible refine bel_drewN ?_ _) | (with_reducible refine bel_set ?_ ?_ _) | (with_reducible refine After.out _ ?_ ?_) | (dsimp only; omega) | omega | (simp only [World.size_alloc, World.size_setCell, World.size_drew]; omega)))))); (case qa12 => exact one_clm1 _); (case qa13 => (unfold maxLen; (first | omega | (simp only [List.length_append, List.length_cons, List.length_nil]; omega)))); (case qa14 => (first | omega | (simp only [List.length_append, List.length_cons, List.length_nil]; omega))); intro a9 c9 x9 hown9; rw [← hsn.out] at hown9; replace hown9 := Lib.hid hown9); refine hKP _ _ (LaterC.mk (by (repeat (first | (with_reducible exact Below.refl _ _) | (with_reducible assumption) | (with_reducible refine Later.out _ ?_) | (with_reducible refine bel_alloc ?_ _) | (with_reducible refine bel_drew ?_) | (with_reducible refine bel_drewN ?_ _) | (with_reducible refine bel_set ?_ ?_ _) | (with_reducible refine After.out _ ?_ ?_) | (dsimp only; omega) | omega | (simp only [World.size_alloc, World.size_setCell, World.size_drew]; omega))))) ?_; clear hKP KP); rotate_left; (intro KP hKP; go_wp2_with fail; refine hKP _ _ (LaterC.mk (by (repeat (first | (with_reducible exact Below.refl _ _) | (with_reducible assumption) | (with_reducible refine Later.out _ ?_) | (with_reducible refine bel_alloc ?_ _) | (with_reducible refine bel_drew ?_) | (with_reducible refine bel_drewN ?_ _) | (with_reducible refine bel_set ?_ ?_ _) | (with_reducible refine After.out _ ?_ ?_) | (dsimp only; omega) | omega | (simp only [World.size_alloc, World.size_setCell, World.size_drew]; omega))))) ?_; clear hKP KP); (try simp only [List.filter, bne_self_eq_false, Nat.reduceBNe])) | ((with_reducible apply float_fork); rfl; (first | (with_reducible exact nth0) | (with_reducible exact nth1) | (with_reducible exact nth2) | (with_reducible exact nth3) | (with_reducible exact nth4) | (with_reducible exact nth5) | (with_reducible exact nth6) | (with_reducible exact nth7) | (with_reducible exact nth8) | (with_reducible exact nth9) | (with_reducible exact nth10) | (with_reducible exact nth11) | (with_reducible exact nth12) | (with_reducible exact nth13) | (with_reducible exact nth14) | (with_reducible exact nth15) | (with_reducible exact nth16) | (with_reducible exact nth17) | (with_reducible exact nth18) | (with_reducible exact nth19) | (with_reducible exact nth20) | (with_reducible exact nth21) | (with_reducible exact nth22) | (with_reducible exact nth23)); (first | (with_reducible exact nth0) | (with_reducible exact nth1) | (with_reducible exact nth2) | (with_reducible exact nth3) | (with_reducible exact nth4) | (with_reducible exact nth5) | (with_reducible exact nth6) | (with_reducible exact nth7) | (with_reducible exact nth8) | (with_reducible exact nth9) | (with_reducible exact nth10) | (with_reducible exact nth11) | (with_reducible exact nth12) | (with_reducible exact nth13) | (with_reducible exact nth14) | (with_reducible exact nth15) | (with_reducible exact nth16) | (with_reducible exact nth17) | (with_reducible exact nth18) | (with_reducible exact nth19) | (with_reducible exact nth20) | (with_reducible exact nth21) | (with_reducible exact nth22) | (with_reducible exact nth23)); rfl; rfl; (intro KP hKP; go_wp2_with (first | (go_at_call 90; (with_reducible refine (C4.out _ (hr.out.bel (by (repeat (first | (with_reducible exact Below.refl _ _) | (with_reducible assumption) | (with_reducible refine Later.out _ ?_) | (with_reducible refine bel_alloc ?_ _) | (with_reducible refine bel_drew ?_) | (with_reducible refine bel_drewN ?_ _) | (with_reducible refine bel_set ?_ ?_ _) | (with_reducible refine After.out _ ?_ ?_) | (dsimp only; omega) | omega | (simp only [World.size_alloc, World.size_setCell, World.size_drew]; omega)))))).mono ?_); rintro e w' ⟨a1, c1, rfl, hown, xl, rfl⟩; have hsz := xl.bel.size; (try simp only [World.size_alloc, World.size_setCell, World.size_drew] at hsz); (try have hz0 : w.heap.size < xl.w.heap.size := (by omega)); (try have hz1 : w.heap.size + 1 < xl.w.heap.size := (by omega)); (try have hz2 : w.heap.size + 1 + 1 < xl.w.heap.size := (by omega)); have HO1 := Lib.hid (Owns.of hown); clear hown) | (go_at_call 85; (with_reducible refine (C5.out _ _ _ (own_cap hown9.out) (Row.of_own hown9.out)).mono ?_); rintro e w' ⟨rfl, xk, rfl⟩; have hsk := xk.bel.size; (try simp only [World.size_alloc, World.size_setCell, World.size_drew] at hsk))); refine hKP _ _ (LaterC.mk (by (repeat (first | (with_reducible exact Below.refl _ _) | (with_reducible assumption) | (with_reducible refine Later.out _ ?_) | (with_reducible refine bel_alloc ?_ _) | (with_reducible refine bel_drew ?_) | (with_reducible refine bel_drewN ?_ _) | (with_reducible refine bel_set ?_ ?_ _) | (with_reducible refine After.out _ ?_ ?_) | (dsimp only; omega) | omega | (simp only [World.size_alloc, World.size_setCell, World.size_drew]; omega))))) ?_; clear hKP KP); rotate_left; (intro KP hKP; go_wp2_with fail; refine hKP _ _ (LaterC.mk (by (repeat (first | (with_reducible exact Below.refl _ _) | (with_reducible assumption) | (with_reducible refine Later.out _ ?_) | (with_reducible refine bel_alloc ?_ _) | (with_reducible refine bel_drew ?_) | (with_reducible refine bel_drewN ?_ _) | (with_reducible refine bel_set ?_ ?_ _) | (with_reducible refine After.out _ ?_ ?_) | (dsimp only; omega) | omega | (simp only [World.size_alloc, World.size_setCell, World.size_drew]; omega))))) ?_; clear hKP KP); (try simp only [List.filter, bne_self_eq_false, Nat.reduceBNe])) | ((with_reducible apply float_last); (first | (with_reducible exact nth0) | (with_reducible exact nth1) | (with_reducible exact nth2) | (with_reducible exact nth3) | (with_reducible exact nth4) | (with_reducible exact nth5) | (with_reducible exact nth6) | (with_reducible exact nth7) | (with_reducible exact nth8) | (with_reducible exact nth9) | (with_reducible exact nth10) | (with_reducible exact nth11) | (with_reducible exact nth12) | (with_reducible exact nth13) | (with_reducible exact nth14) | (with_reducible exact nth15) | (with_reducible exact nth16) | (with_reducible exact nth17) | (with_reducible exact nth18) | (with_reducible exact nth19) | (with_reducible exact nth20) | (with_reducible exact nth21) | (with_reducible exact nth22) | (with_reducible exact nth23)); rfl; (intro KP hKP; go_wp2_with fail; refine hKP _ _ (LaterC.mk (by (repeat (first | (with_reducible exact Below.refl _ _) | (with_reducible assumption) | (with_reducible refine Later.out _ ?_) | (with_reducible refine bel_alloc ?_ _) | (with_reducible refine bel_drew ?_) | (with_reducible refine bel_drewN ?_ _) | (with_reducible refine bel_set ?_ ?_ _) | (with_reducible refine After.out _ ?_ ?_) | (dsimp only; omega) | omega | (simp only [World.size_alloc, World.size_setCell, World.size_drew]; omega))))) ?_; clear hKP KP)) | ((with_reducible apply plan_loud); (first | (with_reducible exact nth0) | (with_reducible exact nth1) | (with_reducible exact nth2) | (with_reducible exact nth3) | (with_reducible exact nth4) | (with_reducible exact nth5) | (with_reducible exact nth6) | (with_reducible exact nth7) | (with_reducible exact nth8) | (with_reducible exact nth9) | (with_reducible exact nth10) | (with_reducible exact nth11) | (with_reducible exact nth12) | (with_reducible exact nth13) | (with_reducible exact nth14) | (with_reducible exact nth15) | (with_reducible exact nth16) | (with_reducible exact nth17) | (with_reducible exact nth18) | (with_reducible exact nth19) | (with_reducible exact nth20) | (with_reducible exact nth21) | (with_reducible exact nth22) | (with_reducible exact nth23)); rfl; (intro KP hKP; go_wp2_with (first | (go_at_call 90; (with_reducible refine (C4.out _ (hr.out.bel (by (repeat (first | (with_reducible exact Below.refl _ _) | (with_reducible assumption) | (with_reducible refine Later.out _ ?_) | (with_reducible refine bel_alloc ?_ _) | (with_reducible refine bel_drew ?_) | (with_reducible refine bel_drewN ?_ _) | (with_reducible refine bel_set ?_ ?_ _) | (with_reducible refine After.out _ ?_ ?_) | (dsimp only; omega) | omega | (simp only [World.size_alloc, World.size_setCell, World.size_drew]; omega)))))).mono ?_); rintro e w' ⟨a1, c1, rfl, hown, xl, rfl⟩; have hsz := xl.bel.size; (try simp only [World.size_alloc, World.size_setCell, World.size_drew] at hsz); (try have hz0 : w.heap.size < xl.w.heap.size := (by omega)); (try have hz1 : w.heap.size + 1 < xl.w.heap.size := (by omega)); (try have hz2 : w.heap.size + 1 + 1 < xl.w.heap.size := (by omega)); have HO1 := Lib.hid (Owns.of hown); clear hown) | (go_at_call 85; (with_reducible refine (C5.out _ _ _ (own_cap hown9.out) (Row.of_own hown9.out)).mono ?_); rintro e w' ⟨rfl, xk, rfl⟩; have hsk := xk.bel.size; (try simp only [World.size_alloc, World.size_setCell, World.size_drew] at hsk))); refine hKP _ _ (LaterC.mk (by (repeat (first | (with_reducible exact Below.refl _ _) | (with_reducible assumption) | (with_reducible refine Later.out _ ?_) | (with_reducible refine bel_alloc ?_ _) | (with_reducible refine bel_drew ?_) | (with_reducible refine bel_drewN ?_ _) | (with_reducible refine bel_set ?_ ?_ _) | (with_reducible refine After.out _ ?_ ?_) | (dsimp only; omega) | omega | (simp only [World.size_alloc, World.size_setCell, World.size_drew]; omega))))) ?_; clear hKP KP))))
    all_goals go_wp2_with fail
    all_goals refine bodyPost_ret (by simp [results, Tryd.results54, go_sem, ↓IntWalk.iteOmega, *]; try rfl) rfl ?_
    all_goals exact .mk rfl (by (repeat (first | (with_reducible exact Below.refl _ _) | (with_reducible assumption) | (with_reducible refine Later.out _ ?_) | (with_reducible refine bel_alloc ?_ _) | (with_reducible refine bel_drew ?_) | (with_reducible refine bel_drewN ?_ _) | (with_reducible refine bel_set ?_ ?_ _) | (with_reducible refine After.out _ ?_ ?_) | (dsimp only; omega) | omega | (simp only [World.size_alloc, World.size_setCell, World.size_drew]; omega))))
set_option maxRecDepth 40000 in
set_option maxHeartbeats 4000000 in
theorem fits_spec (L : List Clm) (d : Clm) (a : Option Addr) (n c : Nat) (w : World) (hn : L.length = n) (hm : n ≤ 1048576) (hr : Row w a (clmsCells L)) (ok : ∀ c ∈ L, ClmOk c) (okd : ClmOk d) :
    Calls Tryd.prog 53 #[.slice a n c, clmV d] w (Ret w (.tuple #[.bool (fitsR L d), .int .i64 (fitsK L d)])) := by
  cases h1 : claimsB L
  · rw [show fitsR L d = false by simp [fitsR, h1], show fitsK L d = 1 by simp [fitsK, h1]]
    have C1 := Lib.hid (fun w hr => sAreClaims_b (a := a) (c := c) (w := w) hn hm hr ok h1)
    replace hr := Lib.hid hr
    clear ok h1 hn
    go_enter Tryd.func53, Tryd.ntmps53
    go_wp2_with fail
    with_reducible refine (C1.out _ (hr.out.bel (by (repeat (first | (with_reducible exact Below.refl _ _) | (with_reducible assumption) | (with_reducible refine Later.out _ ?_) | (with_reducible refine bel_alloc ?_ _) | (with_reducible refine bel_drew ?_) | (with_reducible refine bel_drewN ?_ _) | (with_reducible refine bel_set ?_ ?_ _) | (with_reducible refine After.out _ ?_ ?_) | (dsimp only; omega) | omega | (simp only [World.size_alloc, World.size_setCell, World.size_drew]; omega)))))).mono ?_
    rintro e w' ⟨rfl, y1, rfl⟩
    have hsy1 := y1.bel.size
    (try simp only [World.size_alloc, World.size_setCell, World.size_drew] at hsy1)
    go_wp2_with fail
    refine bodyPost_ret (by simp [results, Tryd.results53, go_sem, ↓IntWalk.iteOmega, *]; try rfl) rfl ?_
    exact .mk rfl (by (repeat (first | (with_reducible exact Below.refl _ _) | (with_reducible assumption) | (with_reducible refine Later.out _ ?_) | (with_reducible refine bel_alloc ?_ _) | (with_reducible refine bel_drew ?_) | (with_reducible refine bel_drewN ?_ _) | (with_reducible refine bel_set ?_ ?_ _) | (with_reducible refine After.out _ ?_ ?_) | (dsimp only; omega) | omega | (simp only [World.size_alloc, World.size_setCell, World.size_drew]; omega))))
  have C1 := Lib.hid (fun w hr => sAreClaims_b (a := a) (c := c) (w := w) hn hm hr ok h1)
  cases h2 : claimB d
  · rw [show fitsR L d = false by simp [fitsR, h1, h2], show fitsK L d = 1 by simp [fitsK, h1, h2]]
    have C2 := Lib.hid (fun w => sIsClaim_b (w := w) okd h2)
    replace hr := Lib.hid hr
    clear ok h1 hn h2 okd
    go_enter Tryd.func53, Tryd.ntmps53
    go_wp2_with fail
    with_reducible refine (C1.out _ (hr.out.bel (by (repeat (first | (with_reducible exact Below.refl _ _) | (with_reducible assumption) | (with_reducible refine Later.out _ ?_) | (with_reducible refine bel_alloc ?_ _) | (with_reducible refine bel_drew ?_) | (with_reducible refine bel_drewN ?_ _) | (with_reducible refine bel_set ?_ ?_ _) | (with_reducible refine After.out _ ?_ ?_) | (dsimp only; omega) | omega | (simp only [World.size_alloc, World.size_setCell, World.size_drew]; omega)))))).mono ?_
    rintro e w' ⟨rfl, y1, rfl⟩
    have hsy1 := y1.bel.size
    (try simp only [World.size_alloc, World.size_setCell, World.size_drew] at hsy1)
    go_wp2_with fail
    with_reducible refine (C2.out _).mono ?_
    rintro e w' ⟨rfl, y2, rfl⟩
    have hsy2 := y2.bel.size
    (try simp only [World.size_alloc, World.size_setCell, World.size_drew] at hsy2)
    go_wp2_with fail
    refine bodyPost_ret (by simp [results, Tryd.results53, go_sem, ↓IntWalk.iteOmega, *]; try rfl) rfl ?_
    exact .mk rfl (by (repeat (first | (with_reducible exact Below.refl _ _) | (with_reducible assumption) | (with_reducible refine Later.out _ ?_) | (with_reducible refine bel_alloc ?_ _) | (with_reducible refine bel_drew ?_) | (with_reducible refine bel_drewN ?_ _) | (with_reducible refine bel_set ?_ ?_ _) | (with_reducible refine After.out _ ?_ ?_) | (dsimp only; omega) | omega | (simp only [World.size_alloc, World.size_setCell, World.size_drew]; omega))))
  have C2 := Lib.hid (fun w => sIsClaim_b (w := w) okd h2)
  have h12 := len_of_claims h1
  have hnm := named_of fun c hc => claim_of_claims h1 hc
  cases h3 : consB L
  · rw [show fitsR L d = false by simp [fitsR, h1, h2, h3], show fitsK L d = 5 by simp [fitsK, h1, h2, h3]]
    have C3 := Lib.hid (fun w hr => sCons_b (a := a) (c := c) (w := w) hn hm hr hnm h3)
    replace hr := Lib.hid hr
    clear ok h1 hn h2 okd h3 hnm
    go_enter Tryd.func53, Tryd.ntmps53
    go_wp2_with fail
    with_reducible refine (C1.out _ (hr.out.bel (by (repeat (first | (with_reducible exact Below.refl _ _) | (with_reducible assumption) | (with_reducible refine Later.out _ ?_) | (with_reducible refine bel_alloc ?_ _) | (with_reducible refine bel_drew ?_) | (with_reducible refine bel_drewN ?_ _) | (with_reducible refine bel_set ?_ ?_ _) | (with_reducible refine After.out _ ?_ ?_) | (dsimp only; omega) | omega | (simp only [World.size_alloc, World.size_setCell, World.size_drew]; omega)))))).mono ?_
    rintro e w' ⟨rfl, y1, rfl⟩
    have hsy1 := y1.bel.size
    (try simp only [World.size_alloc, World.size_setCell, World.size_drew] at hsy1)
    go_wp2_with fail
    with_reducible refine (C2.out _).mono ?_
    rintro e w' ⟨rfl, y2, rfl⟩
    have hsy2 := y2.bel.size
    (try simp only [World.size_alloc, World.size_setCell, World.size_drew] at hsy2)
    go_wp2_with fail
    with_reducible refine (C3.out _ (hr.out.bel (by (repeat (first | (with_reducible exact Below.refl _ _) | (with_reducible assumption) | (with_reducible refine Later.out _ ?_) | (with_reducible refine bel_alloc ?_ _) | (with_reducible refine bel_drew ?_) | (with_reducible refine bel_drewN ?_ _) | (with_reducible refine bel_set ?_ ?_ _) | (with_reducible refine After.out _ ?_ ?_) | (dsimp only; omega) | omega | (simp only [World.size_alloc, World.size_setCell, World.size_drew]; omega)))))).mono ?_
    rintro e w' ⟨rfl, y3, rfl⟩
    have hsy3 := y3.bel.size
    (try simp only [World.size_alloc, World.size_setCell, World.size_drew] at hsy3)
    go_wp2_with fail
    refine bodyPost_ret (by simp [results, Tryd.results53, go_sem, ↓IntWalk.iteOmega, *]; try rfl) rfl ?_
    exact .mk rfl (by (repeat (first | (with_reducible exact Below.refl _ _) | (with_reducible assumption) | (with_reducible refine Later.out _ ?_) | (with_reducible refine bel_alloc ?_ _) | (with_reducible refine bel_drew ?_) | (with_reducible refine bel_drewN ?_ _) | (with_reducible refine bel_set ?_ ?_ _) | (with_reducible refine After.out _ ?_ ?_) | (dsimp only; omega) | omega | (simp only [World.size_alloc, World.size_setCell, World.size_drew]; omega))))
  · rw [show fitsR L d = consB (L ++ [d]) by simp [fitsR, h1, h2, h3], show fitsK L d = 0 by simp [fitsK, h1, h2, h3]]
    have C3 := Lib.hid (fun w hr => sCons_b (a := a) (c := c) (w := w) hn hm hr hnm h3)
    have hnm2 : Named (L ++ [d]) := by
      intro c hc hk
      rcases List.mem_append.1 hc with hc | hc
      · exact hnm c hc hk
      · simp only [List.mem_cons, List.not_mem_nil, or_false] at hc
        subst hc
        exact named_claim h2 hk
    have C5 := Lib.hid (fun a' c' w hr => sCons_any (L ++ [d]) a' (n + 1) c' w (by simp [hn]) (by omega) hr hnm2)
    obtain ⟨ii, j1, j2, j3, j4⟩ := info_claim'
    have Jii := Lib.hid (And.intro j1 (And.intro j2 (And.intro j3 j4)))
    have hsn := Lib.hid (clmsCells_snoc L d)
    have hl7 := length_clmsCells L
    replace hr := Lib.hid hr
    clear j1 j2 j3 j4 ok h1 h2 okd h3 hnm hnm2
    go_enter Tryd.func53, Tryd.ntmps53
    go_wp2_with fail
    with_reducible refine (C1.out _ (hr.out.bel (by (repeat (first | (with_reducible exact Below.refl _ _) | (with_reducible assumption) | (with_reducible refine Later.out _ ?_) | (with_reducible refine bel_alloc ?_ _) | (with_reducible refine bel_drew ?_) | (with_reducible refine bel_drewN ?_ _) | (with_reducible refine bel_set ?_ ?_ _) | (with_reducible refine After.out _ ?_ ?_) | (dsimp only; omega) | omega | (simp only [World.size_alloc, World.size_setCell, World.size_drew]; omega)))))).mono ?_
    rintro e w' ⟨rfl, y1, rfl⟩
    have hsy1 := y1.bel.size
    (try simp only [World.size_alloc, World.size_setCell, World.size_drew] at hsy1)
    go_wp2_with fail
    with_reducible refine (C2.out _).mono ?_
    rintro e w' ⟨rfl, y2, rfl⟩
    have hsy2 := y2.bel.size
    (try simp only [World.size_alloc, World.size_setCell, World.size_drew] at hsy2)
    go_wp2_with fail
    with_reducible refine (C3.out _ (hr.out.bel (by (repeat (first | (with_reducible exact Below.refl _ _) | (with_reducible assumption) | (with_reducible refine Later.out _ ?_) | (with_reducible refine bel_alloc ?_ _) | (with_reducible refine bel_drew ?_) | (with_reducible refine bel_drewN ?_ _) | (with_reducible refine bel_set ?_ ?_ _) | (with_reducible refine After.out _ ?_ ?_) | (dsimp only; omega) | omega | (simp only [World.size_alloc, World.size_setCell, World.size_drew]; omega)))))).mono ?_
    rintro e w' ⟨rfl, y3, rfl⟩
    have hsy3 := y3.bel.size
    (try simp only [World.size_alloc, World.size_setCell, World.size_drew] at hsy3)
    go_wp2_with fail
    refine wp_region_float 4 [(1, true), (3, true), (0, false), (2, false), (4, false), (5, false), (6, false), (7, true), (8, true)] (C := LaterC _) (by kernel_rfl) (by kernel_rfl) (by kernel_rfl) rfl (fun _ _ d _ _ h => by cases d <;> exact h) (LaterC.mk ((Below.refl _ _).drew)) ?_
    refine float_quiet nth1 rfl ?_
    intro KP hKP
    go_big_quiet_op
    go_big_quiet_on
    refine float_quiet nth3 rfl ?_
    intro KP hKP
    go_big_quiet_op
    go_big_quiet_on
    refine float_fork rfl nth0 nth4 rfl rfl ?_ ?_
    · intro KP hKP
      go_wp2_with fail
      refine hKP _ _ (LaterC.mk (by (repeat (first | (with_reducible exact Below.refl _ _) | (with_reducible assumption) | (with_reducible refine Later.out _ ?_) | (with_reducible refine bel_alloc ?_ _) | (with_reducible refine bel_drew ?_) | (with_reducible refine bel_drewN ?_ _) | (with_reducible refine bel_set ?_ ?_ _) | (with_reducible refine After.out _ ?_ ?_) | (dsimp only; omega) | omega | (simp only [World.size_alloc, World.size_setCell, World.size_drew]; omega))))) ?_
      clear hKP KP
      refine float_fork rfl nth2 nth4 rfl rfl ?_ ?_
      · intro KP hKP
        ((refine oper_append_at _ _ _ _ rfl 37 ii _ 7 80 Tryd.underlying46 Jii.out.1 Jii.out.2.1 Jii.out.2.2.1 Jii.out.2.2.2 rfl (by decide) _ _ rfl ?qc36 ?qc37 _ _ _ (clmsCells L) rfl ?qc38 ?qc39 ?qc40 ?qc41 ?qc42 ?_); (case qc36 => (first | (dsimp only; omega) | omega | (simp only [World.size_alloc, World.size_setCell, World.size_drew]; omega))); (case qc37 => (exact lit0_at (W := y3.w) (by first | rfl | omega | (simp only [World.size_alloc, World.size_setCell, World.size_drew]; done) | (simp only [World.size_alloc, World.size_setCell, World.size_drew]; omega)) (by first | rfl | omega | (simp only [World.size_alloc, World.size_setCell, World.size_drew]; done) | (simp only [World.size_alloc, World.size_setCell, World.size_drew]; omega)) (by (repeat (first | (with_reducible exact Below.refl _ _) | (with_reducible assumption) | (with_reducible refine Later.out _ ?_) | (with_reducible refine bel_alloc ?_ _) | (with_reducible refine bel_drew ?_) | (with_reducible refine bel_drewN ?_ _) | (with_reducible refine bel_set ?_ ?_ _) | (with_reducible refine After.out _ ?_ ?_) | (dsimp only; omega) | omega | (simp only [World.size_alloc, World.size_setCell, World.size_drew]; omega)))))); (case qc38 => (first | rfl | (simp; done) | (first | omega | (simp only [List.length_append, List.length_cons, List.length_nil]; omega)))); (case qc39 => exact hr.out.bel (by (repeat (first | (with_reducible exact Below.refl _ _) | (with_reducible assumption) | (with_reducible refine Later.out _ ?_) | (with_reducible refine bel_alloc ?_ _) | (with_reducible refine bel_drew ?_) | (with_reducible refine bel_drewN ?_ _) | (with_reducible refine bel_set ?_ ?_ _) | (with_reducible refine After.out _ ?_ ?_) | (dsimp only; omega) | omega | (simp only [World.size_alloc, World.size_setCell, World.size_drew]; omega))))); (case qc40 => exact one_clm L); (case qc41 => (unfold maxLen; (first | omega | (simp only [List.length_append, List.length_cons, List.length_nil]; omega)))); (case qc42 => (first | omega | (simp only [List.length_append, List.length_cons, List.length_nil]; omega))); intro a8 c8 x8 hown8; replace hown8 := Lib.hid (own_mono (base' := y3.w.heap.size) hown8 (by first | omega | (simp only [World.size_alloc, World.size_setCell, World.size_drew]; done) | (simp only [World.size_alloc, World.size_setCell, World.size_drew]; omega))); have hsx8 := x8.btw.size; (try simp only [World.size_alloc, World.size_setCell, World.size_drew] at hsx8))
        refine hKP _ _ (LaterC.mk (by (repeat (first | (with_reducible exact Below.refl _ _) | (with_reducible assumption) | (with_reducible refine Later.out _ ?_) | (with_reducible refine bel_alloc ?_ _) | (with_reducible refine bel_drew ?_) | (with_reducible refine bel_drewN ?_ _) | (with_reducible refine bel_set ?_ ?_ _) | (with_reducible refine After.out _ ?_ ?_) | (dsimp only; omega) | omega | (simp only [World.size_alloc, World.size_setCell, World.size_drew]; omega))))) ?_
        clear hKP KP
        refine float_last nth4 rfl ?_
        intro KP hKP
        go_wp2_with fail
        refine hKP _ _ (LaterC.mk (by (repeat (first | (with_reducible exact Below.refl _ _) | (with_reducible assumption) | (with_reducible refine Later.out _ ?_) | (with_reducible refine bel_alloc ?_ _) | (with_reducible refine bel_drew ?_) | (with_reducible refine bel_drewN ?_ _) | (with_reducible refine bel_set ?_ ?_ _) | (with_reducible refine After.out _ ?_ ?_) | (dsimp only; omega) | omega | (simp only [World.size_alloc, World.size_setCell, World.size_drew]; omega))))) ?_
        clear hKP KP
        refine plan_loud nth5 rfl ?_
        intro KP hKP
        ((refine oper_append_later _ _ _ _ rfl 37 ii _ 7 80 Tryd.underlying46 Jii.out.1 Jii.out.2.1 Jii.out.2.2.1 Jii.out.2.2.2 rfl (by decide) (y3.w) ?qa15 _ _ _ (clmsCells L) rfl ?qa16 _ _ _ (clmCells d) rfl ?qa17 ?qa18 ?qa19 ?qa20 ?qa21 ?_); (case qa15 => (repeat (first | (with_reducible exact Below.refl _ _) | (with_reducible assumption) | (with_reducible refine Later.out _ ?_) | (with_reducible refine bel_alloc ?_ _) | (with_reducible refine bel_drew ?_) | (with_reducible refine bel_drewN ?_ _) | (with_reducible refine bel_set ?_ ?_ _) | (with_reducible refine After.out _ ?_ ?_) | (dsimp only; omega) | omega | (simp only [World.size_alloc, World.size_setCell, World.size_drew]; omega)))); (case qa16 => exact own_bel hown8.out (by (repeat (first | (with_reducible exact Below.refl _ _) | (with_reducible assumption) | (with_reducible refine Later.out _ ?_) | (with_reducible refine bel_alloc ?_ _) | (with_reducible refine bel_drew ?_) | (with_reducible refine bel_drewN ?_ _) | (with_reducible refine bel_set ?_ ?_ _) | (with_reducible refine After.out _ ?_ ?_) | (dsimp only; omega) | omega | (simp only [World.size_alloc, World.size_setCell, World.size_drew]; omega))))); (case qa17 => (first | rfl | (simp [boolCells]; done) | (simp [intCells]; done) | (simp; done) | (first | omega | (simp only [List.length_append, List.length_cons, List.length_nil]; omega)))); (case qa18 => (exact row_box (W := x8.w) (e := 37) d (by first | rfl | omega | (simp only [World.size_alloc, World.size_setCell, World.size_drew]; done) | (simp only [World.size_alloc, World.size_setCell, World.size_drew]; omega)) (by (repeat (first | (with_reducible exact Below.refl _ _) | (with_reducible assumption) | (with_reducible refine Later.out _ ?_) | (with_reducible refine bel_alloc ?_ _) | (with_reducible refine bel_drew ?_) | (with_reducible refine bel_drewN ?_ _) | (with_reducible refine bel_set ?_ ?_ _) | (with_reducible refine After.out _ ?_ ?_) | (dsimp only; omega) | omega | (simp only [World.size_alloc, World.size_setCell, World.size_drew]; omega)))))); (case qa19 => exact one_clm1 _); (case qa20 => (unfold maxLen; (first | omega | (simp only [List.length_append, List.length_cons, List.length_nil]; omega)))); (case qa21 => (first | omega | (simp only [List.length_append, List.length_cons, List.length_nil]; omega))); intro a9 c9 x9 hown9; rw [← hsn.out] at hown9; replace hown9 := Lib.hid hown9)
        refine hKP _ _ (LaterC.mk (by (repeat (first | (with_reducible exact Below.refl _ _) | (with_reducible assumption) | (with_reducible refine Later.out _ ?_) | (with_reducible refine bel_alloc ?_ _) | (with_reducible refine bel_drew ?_) | (with_reducible refine bel_drewN ?_ _) | (with_reducible refine bel_set ?_ ?_ _) | (with_reducible refine After.out _ ?_ ?_) | (dsimp only; omega) | omega | (simp only [World.size_alloc, World.size_setCell, World.size_drew]; omega))))) ?_
        clear hKP KP
        refine plan_loud nth6 rfl ?_
        intro KP hKP
        go_wp2_with (go_at_call 84; (with_reducible refine (C5.out _ _ _ (Row.of_own hown9.out)).mono ?_); rintro e w' ⟨rfl, xk, rfl⟩; have hsk := xk.bel.size; (try simp only [World.size_alloc, World.size_setCell, World.size_drew] at hsk))
        refine hKP _ _ (LaterC.mk (by (repeat (first | (with_reducible exact Below.refl _ _) | (with_reducible assumption) | (with_reducible refine Later.out _ ?_) | (with_reducible refine bel_alloc ?_ _) | (with_reducible refine bel_drew ?_) | (with_reducible refine bel_drewN ?_ _) | (with_reducible refine bel_set ?_ ?_ _) | (with_reducible refine After.out _ ?_ ?_) | (dsimp only; omega) | omega | (simp only [World.size_alloc, World.size_setCell, World.size_drew]; omega))))) ?_
        clear hKP KP
        refine plan_quiet nth7 rfl ?_
        intro KP hKP
        go_big_quiet_op
        go_big_quiet_on
        refine plan_quiet nth8 rfl ?_
        intro KP hKP
        go_big_quiet_op
        go_big_quiet_on
        refine plan_nil ?_
        go_wp2_with fail
        refine bodyPost_ret (by simp [results, Tryd.results53, go_sem, ↓IntWalk.iteOmega, *]; try rfl) rfl ?_
        exact .mk rfl (by (repeat (first | (with_reducible exact Below.refl _ _) | (with_reducible assumption) | (with_reducible refine Later.out _ ?_) | (with_reducible refine bel_alloc ?_ _) | (with_reducible refine bel_drew ?_) | (with_reducible refine bel_drewN ?_ _) | (with_reducible refine bel_set ?_ ?_ _) | (with_reducible refine After.out _ ?_ ?_) | (dsimp only; omega) | omega | (simp only [World.size_alloc, World.size_setCell, World.size_drew]; omega))))
      · intro KP hKP
        go_wp2_with fail
        refine hKP _ _ (LaterC.mk (by (repeat (first | (with_reducible exact Below.refl _ _) | (with_reducible assumption) | (with_reducible refine Later.out _ ?_) | (with_reducible refine bel_alloc ?_ _) | (with_reducible refine bel_drew ?_) | (with_reducible refine bel_drewN ?_ _) | (with_reducible refine bel_set ?_ ?_ _) | (with_reducible refine After.out _ ?_ ?_) | (dsimp only; omega) | omega | (simp only [World.size_alloc, World.size_setCell, World.size_drew]; omega))))) ?_
        clear hKP KP
        simp only [List.filter, bne_self_eq_false, Nat.reduceBNe]
        refine plan_loud nth2 rfl ?_
        intro KP hKP
        ((refine oper_append_at _ _ _ _ rfl 37 ii _ 7 80 Tryd.underlying46 Jii.out.1 Jii.out.2.1 Jii.out.2.2.1 Jii.out.2.2.2 rfl (by decide) _ _ rfl ?qc43 ?qc44 _ _ _ (clmsCells L) rfl ?qc45 ?qc46 ?qc47 ?qc48 ?qc49 ?_); (case qc43 => (first | (dsimp only; omega) | omega | (simp only [World.size_alloc, World.size_setCell, World.size_drew]; omega))); (case qc44 => (exact lit0_at (W := y3.w) (by first | rfl | omega | (simp only [World.size_alloc, World.size_setCell, World.size_drew]; done) | (simp only [World.size_alloc, World.size_setCell, World.size_drew]; omega)) (by first | rfl | omega | (simp only [World.size_alloc, World.size_setCell, World.size_drew]; done) | (simp only [World.size_alloc, World.size_setCell, World.size_drew]; omega)) (by (repeat (first | (with_reducible exact Below.refl _ _) | (with_reducible assumption) | (with_reducible refine Later.out _ ?_) | (with_reducible refine bel_alloc ?_ _) | (with_reducible refine bel_drew ?_) | (with_reducible refine bel_drewN ?_ _) | (with_reducible refine bel_set ?_ ?_ _) | (with_reducible refine After.out _ ?_ ?_) | (dsimp only; omega) | omega | (simp only [World.size_alloc, World.size_setCell, World.size_drew]; omega)))))); (case qc45 => (first | rfl | (simp; done) | (first | omega | (simp only [List.length_append, List.length_cons, List.length_nil]; omega)))); (case qc46 => exact hr.out.bel (by (repeat (first | (with_reducible exact Below.refl _ _) | (with_reducible assumption) | (with_reducible refine Later.out _ ?_) | (with_reducible refine bel_alloc ?_ _) | (with_reducible refine bel_drew ?_) | (with_reducible refine bel_drewN ?_ _) | (with_reducible refine bel_set ?_ ?_ _) | (with_reducible refine After.out _ ?_ ?_) | (dsimp only; omega) | omega | (simp only [World.size_alloc, World.size_setCell, World.size_drew]; omega))))); (case qc47 => exact one_clm L); (case qc48 => (unfold maxLen; (first | omega | (simp only [List.length_append, List.length_cons, List.length_nil]; omega)))); (case qc49 => (first | omega | (simp only [List.length_append, List.length_cons, List.length_nil]; omega))); intro a8 c8 x8 hown8; replace hown8 := Lib.hid (own_mono (base' := y3.w.heap.size) hown8 (by first | omega | (simp only [World.size_alloc, World.size_setCell, World.size_drew]; done) | (simp only [World.size_alloc, World.size_setCell, World.size_drew]; omega))); have hsx8 := x8.btw.size; (try simp only [World.size_alloc, World.size_setCell, World.size_drew] at hsx8))
        refine hKP _ _ (LaterC.mk (by (repeat (first | (with_reducible exact Below.refl _ _) | (with_reducible assumption) | (with_reducible refine Later.out _ ?_) | (with_reducible refine bel_alloc ?_ _) | (with_reducible refine bel_drew ?_) | (with_reducible refine bel_drewN ?_ _) | (with_reducible refine bel_set ?_ ?_ _) | (with_reducible refine After.out _ ?_ ?_) | (dsimp only; omega) | omega | (simp only [World.size_alloc, World.size_setCell, World.size_drew]; omega))))) ?_
        clear hKP KP
        refine plan_loud nth5 rfl ?_
        intro KP hKP
        ((refine oper_append_later _ _ _ _ rfl 37 ii _ 7 80 Tryd.underlying46 Jii.out.1 Jii.out.2.1 Jii.out.2.2.1 Jii.out.2.2.2 rfl (by decide) (y3.w) ?qa22 _ _ _ (clmsCells L) rfl ?qa23 _ _ _ (clmCells d) rfl ?qa24 ?qa25 ?qa26 ?qa27 ?qa28 ?_); (case qa22 => (repeat (first | (with_reducible exact Below.refl _ _) | (with_reducible assumption) | (with_reducible refine Later.out _ ?_) | (with_reducible refine bel_alloc ?_ _) | (with_reducible refine bel_drew ?_) | (with_reducible refine bel_drewN ?_ _) | (with_reducible refine bel_set ?_ ?_ _) | (with_reducible refine After.out _ ?_ ?_) | (dsimp only; omega) | omega | (simp only [World.size_alloc, World.size_setCell, World.size_drew]; omega)))); (case qa23 => exact own_bel hown8.out (by (repeat (first | (with_reducible exact Below.refl _ _) | (with_reducible assumption) | (with_reducible refine Later.out _ ?_) | (with_reducible refine bel_alloc ?_ _) | (with_reducible refine bel_drew ?_) | (with_reducible refine bel_drewN ?_ _) | (with_reducible refine bel_set ?_ ?_ _) | (with_reducible refine After.out _ ?_ ?_) | (dsimp only; omega) | omega | (simp only [World.size_alloc, World.size_setCell, World.size_drew]; omega))))); (case qa24 => (first | rfl | (simp [boolCells]; done) | (simp [intCells]; done) | (simp; done) | (first | omega | (simp only [List.length_append, List.length_cons, List.length_nil]; omega)))); (case qa25 => (exact Row.btw (row_box (W := (y3.w.alloc (.cells #[] 37))) (e := 37) d (by first | rfl | omega | (simp only [World.size_alloc, World.size_setCell, World.size_drew]; done) | (simp only [World.size_alloc, World.size_setCell, World.size_drew]; omega)) (by (repeat (first | (with_reducible exact Below.refl _ _) | (with_reducible assumption) | (with_reducible refine Later.out _ ?_) | (with_reducible refine bel_alloc ?_ _) | (with_reducible refine bel_drew ?_) | (with_reducible refine bel_drewN ?_ _) | (with_reducible refine bel_set ?_ ?_ _) | (with_reducible refine After.out _ ?_ ?_) | (dsimp only; omega) | omega | (simp only [World.size_alloc, World.size_setCell, World.size_drew]; omega))))) x8.btw (by intro p hp; cases hp; first | rfl | omega | (simp only [World.size_alloc, World.size_setCell, World.size_drew]; done) | (simp only [World.size_alloc, World.size_setCell, World.size_drew]; omega)))); (case qa26 => exact one_clm1 _); (case qa27 => (unfold maxLen; (first | omega | (simp only [List.length_append, List.length_cons, List.length_nil]; omega)))); (case qa28 => (first | omega | (simp only [List.length_append, List.length_cons, List.length_nil]; omega))); intro a9 c9 x9 hown9; rw [← hsn.out] at hown9; replace hown9 := Lib.hid hown9)
        refine hKP _ _ (LaterC.mk (by (repeat (first | (with_reducible exact Below.refl _ _) | (with_reducible assumption) | (with_reducible refine Later.out _ ?_) | (with_reducible refine bel_alloc ?_ _) | (with_reducible refine bel_drew ?_) | (with_reducible refine bel_drewN ?_ _) | (with_reducible refine bel_set ?_ ?_ _) | (with_reducible refine After.out _ ?_ ?_) | (dsimp only; omega) | omega | (simp only [World.size_alloc, World.size_setCell, World.size_drew]; omega))))) ?_
        clear hKP KP
        refine plan_loud nth6 rfl ?_
        intro KP hKP
        go_wp2_with (go_at_call 84; (with_reducible refine (C5.out _ _ _ (Row.of_own hown9.out)).mono ?_); rintro e w' ⟨rfl, xk, rfl⟩; have hsk := xk.bel.size; (try simp only [World.size_alloc, World.size_setCell, World.size_drew] at hsk))
        refine hKP _ _ (LaterC.mk (by (repeat (first | (with_reducible exact Below.refl _ _) | (with_reducible assumption) | (with_reducible refine Later.out _ ?_) | (with_reducible refine bel_alloc ?_ _) | (with_reducible refine bel_drew ?_) | (with_reducible refine bel_drewN ?_ _) | (with_reducible refine bel_set ?_ ?_ _) | (with_reducible refine After.out _ ?_ ?_) | (dsimp only; omega) | omega | (simp only [World.size_alloc, World.size_setCell, World.size_drew]; omega))))) ?_
        clear hKP KP
        refine plan_quiet nth7 rfl ?_
        intro KP hKP
        go_big_quiet_op
        go_big_quiet_on
        refine plan_quiet nth8 rfl ?_
        intro KP hKP
        go_big_quiet_op
        go_big_quiet_on
        refine plan_nil ?_
        go_wp2_with fail
        refine bodyPost_ret (by simp [results, Tryd.results53, go_sem, ↓IntWalk.iteOmega, *]; try rfl) rfl ?_
        exact .mk rfl (by (repeat (first | (with_reducible exact Below.refl _ _) | (with_reducible assumption) | (with_reducible refine Later.out _ ?_) | (with_reducible refine bel_alloc ?_ _) | (with_reducible refine bel_drew ?_) | (with_reducible refine bel_drewN ?_ _) | (with_reducible refine bel_set ?_ ?_ _) | (with_reducible refine After.out _ ?_ ?_) | (dsimp only; omega) | omega | (simp only [World.size_alloc, World.size_setCell, World.size_drew]; omega))))
    · intro KP hKP
      go_wp2_with fail
      refine hKP _ _ (LaterC.mk (by (repeat (first | (with_reducible exact Below.refl _ _) | (with_reducible assumption) | (with_reducible refine Later.out _ ?_) | (with_reducible refine bel_alloc ?_ _) | (with_reducible refine bel_drew ?_) | (with_reducible refine bel_drewN ?_ _) | (with_reducible refine bel_set ?_ ?_ _) | (with_reducible refine After.out _ ?_ ?_) | (dsimp only; omega) | omega | (simp only [World.size_alloc, World.size_setCell, World.size_drew]; omega))))) ?_
      clear hKP KP
      simp only [List.filter, bne_self_eq_false, Nat.reduceBNe]
      refine plan_loud nth0 rfl ?_
      intro KP hKP
      go_wp2_with fail
      refine hKP _ _ (LaterC.mk (by (repeat (first | (with_reducible exact Below.refl _ _) | (with_reducible assumption) | (with_reducible refine Later.out _ ?_) | (with_reducible refine bel_alloc ?_ _) | (with_reducible refine bel_drew ?_) | (with_reducible refine bel_drewN ?_ _) | (with_reducible refine bel_set ?_ ?_ _) | (with_reducible refine After.out _ ?_ ?_) | (dsimp only; omega) | omega | (simp only [World.size_alloc, World.size_setCell, World.size_drew]; omega))))) ?_
      clear hKP KP
      refine plan_loud nth2 rfl ?_
      intro KP hKP
      ((refine oper_append_at _ _ _ _ rfl 37 ii _ 7 80 Tryd.underlying46 Jii.out.1 Jii.out.2.1 Jii.out.2.2.1 Jii.out.2.2.2 rfl (by decide) _ _ rfl ?qc50 ?qc51 _ _ _ (clmsCells L) rfl ?qc52 ?qc53 ?qc54 ?qc55 ?qc56 ?_); (case qc50 => (first | (dsimp only; omega) | omega | (simp only [World.size_alloc, World.size_setCell, World.size_drew]; omega))); (case qc51 => (exact lit0_at (W := (y3.w.alloc (.cells #[.string d.src, .int .i64 d.kind, .string d.place, .string d.val, .int .i64 d.fr, .int .i64 d.to, .int .i64 d.wt] 37))) (by first | rfl | omega | (simp only [World.size_alloc, World.size_setCell, World.size_drew]; done) | (simp only [World.size_alloc, World.size_setCell, World.size_drew]; omega)) (by first | rfl | omega | (simp only [World.size_alloc, World.size_setCell, World.size_drew]; done) | (simp only [World.size_alloc, World.size_setCell, World.size_drew]; omega)) (by (repeat (first | (with_reducible exact Below.refl _ _) | (with_reducible assumption) | (with_reducible refine Later.out _ ?_) | (with_reducible refine bel_alloc ?_ _) | (with_reducible refine bel_drew ?_) | (with_reducible refine bel_drewN ?_ _) | (with_reducible refine bel_set ?_ ?_ _) | (with_reducible refine After.out _ ?_ ?_) | (dsimp only; omega) | omega | (simp only [World.size_alloc, World.size_setCell, World.size_drew]; omega)))))); (case qc52 => (first | rfl | (simp; done) | (first | omega | (simp only [List.length_append, List.length_cons, List.length_nil]; omega)))); (case qc53 => exact hr.out.bel (by (repeat (first | (with_reducible exact Below.refl _ _) | (with_reducible assumption) | (with_reducible refine Later.out _ ?_) | (with_reducible refine bel_alloc ?_ _) | (with_reducible refine bel_drew ?_) | (with_reducible refine bel_drewN ?_ _) | (with_reducible refine bel_set ?_ ?_ _) | (with_reducible refine After.out _ ?_ ?_) | (dsimp only; omega) | omega | (simp only [World.size_alloc, World.size_setCell, World.size_drew]; omega))))); (case qc54 => exact one_clm L); (case qc55 => (unfold maxLen; (first | omega | (simp only [List.length_append, List.length_cons, List.length_nil]; omega)))); (case qc56 => (first | omega | (simp only [List.length_append, List.length_cons, List.length_nil]; omega))); intro a8 c8 x8 hown8; replace hown8 := Lib.hid (own_mono (base' := y3.w.heap.size) hown8 (by first | omega | (simp only [World.size_alloc, World.size_setCell, World.size_drew]; done) | (simp only [World.size_alloc, World.size_setCell, World.size_drew]; omega))); have hsx8 := x8.btw.size; (try simp only [World.size_alloc, World.size_setCell, World.size_drew] at hsx8))
      refine hKP _ _ (LaterC.mk (by (repeat (first | (with_reducible exact Below.refl _ _) | (with_reducible assumption) | (with_reducible refine Later.out _ ?_) | (with_reducible refine bel_alloc ?_ _) | (with_reducible refine bel_drew ?_) | (with_reducible refine bel_drewN ?_ _) | (with_reducible refine bel_set ?_ ?_ _) | (with_reducible refine After.out _ ?_ ?_) | (dsimp only; omega) | omega | (simp only [World.size_alloc, World.size_setCell, World.size_drew]; omega))))) ?_
      clear hKP KP
      refine plan_loud nth5 rfl ?_
      intro KP hKP
      ((refine oper_append_later _ _ _ _ rfl 37 ii _ 7 80 Tryd.underlying46 Jii.out.1 Jii.out.2.1 Jii.out.2.2.1 Jii.out.2.2.2 rfl (by decide) (y3.w) ?qa29 _ _ _ (clmsCells L) rfl ?qa30 _ _ _ (clmCells d) rfl ?qa31 ?qa32 ?qa33 ?qa34 ?qa35 ?_); (case qa29 => (repeat (first | (with_reducible exact Below.refl _ _) | (with_reducible assumption) | (with_reducible refine Later.out _ ?_) | (with_reducible refine bel_alloc ?_ _) | (with_reducible refine bel_drew ?_) | (with_reducible refine bel_drewN ?_ _) | (with_reducible refine bel_set ?_ ?_ _) | (with_reducible refine After.out _ ?_ ?_) | (dsimp only; omega) | omega | (simp only [World.size_alloc, World.size_setCell, World.size_drew]; omega)))); (case qa30 => exact own_bel hown8.out (by (repeat (first | (with_reducible exact Below.refl _ _) | (with_reducible assumption) | (with_reducible refine Later.out _ ?_) | (with_reducible refine bel_alloc ?_ _) | (with_reducible refine bel_drew ?_) | (with_reducible refine bel_drewN ?_ _) | (with_reducible refine bel_set ?_ ?_ _) | (with_reducible refine After.out _ ?_ ?_) | (dsimp only; omega) | omega | (simp only [World.size_alloc, World.size_setCell, World.size_drew]; omega))))); (case qa31 => (first | rfl | (simp [boolCells]; done) | (simp [intCells]; done) | (simp; done) | (first | omega | (simp only [List.length_append, List.length_cons, List.length_nil]; omega)))); (case qa32 => (exact Row.btw (row_box (W := y3.w) (e := 37) d (by first | rfl | omega | (simp only [World.size_alloc, World.size_setCell, World.size_drew]; done) | (simp only [World.size_alloc, World.size_setCell, World.size_drew]; omega)) (by (repeat (first | (with_reducible exact Below.refl _ _) | (with_reducible assumption) | (with_reducible refine Later.out _ ?_) | (with_reducible refine bel_alloc ?_ _) | (with_reducible refine bel_drew ?_) | (with_reducible refine bel_drewN ?_ _) | (with_reducible refine bel_set ?_ ?_ _) | (with_reducible refine After.out _ ?_ ?_) | (dsimp only; omega) | omega | (simp only [World.size_alloc, World.size_setCell, World.size_drew]; omega))))) x8.btw (by intro p hp; cases hp; first | rfl | omega | (simp only [World.size_alloc, World.size_setCell, World.size_drew]; done) | (simp only [World.size_alloc, World.size_setCell, World.size_drew]; omega)))); (case qa33 => exact one_clm1 _); (case qa34 => (unfold maxLen; (first | omega | (simp only [List.length_append, List.length_cons, List.length_nil]; omega)))); (case qa35 => (first | omega | (simp only [List.length_append, List.length_cons, List.length_nil]; omega))); intro a9 c9 x9 hown9; rw [← hsn.out] at hown9; replace hown9 := Lib.hid hown9)
      refine hKP _ _ (LaterC.mk (by (repeat (first | (with_reducible exact Below.refl _ _) | (with_reducible assumption) | (with_reducible refine Later.out _ ?_) | (with_reducible refine bel_alloc ?_ _) | (with_reducible refine bel_drew ?_) | (with_reducible refine bel_drewN ?_ _) | (with_reducible refine bel_set ?_ ?_ _) | (with_reducible refine After.out _ ?_ ?_) | (dsimp only; omega) | omega | (simp only [World.size_alloc, World.size_setCell, World.size_drew]; omega))))) ?_
      clear hKP KP
      refine plan_loud nth6 rfl ?_
      intro KP hKP
      go_wp2_with (go_at_call 84; (with_reducible refine (C5.out _ _ _ (Row.of_own hown9.out)).mono ?_); rintro e w' ⟨rfl, xk, rfl⟩; have hsk := xk.bel.size; (try simp only [World.size_alloc, World.size_setCell, World.size_drew] at hsk))
      refine hKP _ _ (LaterC.mk (by (repeat (first | (with_reducible exact Below.refl _ _) | (with_reducible assumption) | (with_reducible refine Later.out _ ?_) | (with_reducible refine bel_alloc ?_ _) | (with_reducible refine bel_drew ?_) | (with_reducible refine bel_drewN ?_ _) | (with_reducible refine bel_set ?_ ?_ _) | (with_reducible refine After.out _ ?_ ?_) | (dsimp only; omega) | omega | (simp only [World.size_alloc, World.size_setCell, World.size_drew]; omega))))) ?_
      clear hKP KP
      refine plan_quiet nth7 rfl ?_
      intro KP hKP
      go_big_quiet_op
      go_big_quiet_on
      refine plan_quiet nth8 rfl ?_
      intro KP hKP
      go_big_quiet_op
      go_big_quiet_on
      refine plan_nil ?_
      go_wp2_with fail
      refine bodyPost_ret (by simp [results, Tryd.results53, go_sem, ↓IntWalk.iteOmega, *]; try rfl) rfl ?_
      exact .mk rfl (by (repeat (first | (with_reducible exact Below.refl _ _) | (with_reducible assumption) | (with_reducible refine Later.out _ ?_) | (with_reducible refine bel_alloc ?_ _) | (with_reducible refine bel_drew ?_) | (with_reducible refine bel_drewN ?_ _) | (with_reducible refine bel_set ?_ ?_ _) | (with_reducible refine After.out _ ?_ ?_) | (dsimp only; omega) | omega | (simp only [World.size_alloc, World.size_setCell, World.size_drew]; omega))))
end Go.Proofs.YtiiekgmdbadalaaDoor
