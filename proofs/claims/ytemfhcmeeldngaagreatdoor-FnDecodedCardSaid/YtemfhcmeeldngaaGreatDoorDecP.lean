import Derived.Test.YtemfhcmeeldngaaGreatDoorStb
/- Decoding, both sides. -/
set_option linter.unusedSimpArgs false
set_option linter.unusedVariables false
namespace Go.Proofs.YtemfhcmeeldngaaGreatDoor
open Go.RowKit
/-- Whether the text is decoded, and to what. -/
def dcK (T : List Rul) (s : ByteArray) : Bool := fpK T s && stb T (fpL T s)
def dcL (T : List Rul) (s : ByteArray) : List Int := if dcK T s then signsL T (fpL T s) else []
theorem fpL_in {T : List Rul} {s : ByteArray} (h : fpK T s = true) : inT T (fpL T s) := by
  have hw : 0 < ways T s 0 := by simpa [fpK] using h
  have key : ∀ (f i : Nat), 0 < ways T s i → s.size - i ≤ f → inT T (firstL T s f i) := by
    intro f
    induction f with
    | zero => intro i _ _ x hx; simp [firstL] at hx
    | succ f ih =>
      intro i hw hf
      by_cases hi : i < s.size
      · obtain ⟨k, hk, _, h1, h2, _, h3⟩ := first_step (f := f + 1) hi hw hf
        rw [h3]
        have h4 := fitsAt_iff.1 h1
        intro x hx
        rcases List.mem_cons.1 hx with rfl | hx
        · omega
        · exact ih _ h2 (by omega) x hx
      · rw [firstL_end (by omega)]
        intro x hx; cases hx
  unfold fpL
  rw [h]
  exact key _ 0 hw (by omega)
theorem dcL_len {T : List Rul} (hT : tableB T = true) {s : ByteArray} (hs : s.size ≤ 48) : (dcL T s).length ≤ 144 := by
  unfold dcL
  split
  · have h1 := signsL_len (tab_sg hT) (fpL T s)
    have h2 := fpL_len T s
    omega
  · simp
set_option maxRecDepth 8000 in
set_option maxHeartbeats 4000000 in
theorem decode_any (T : List Rul) (s : ByteArray) (a : Option Addr) (n c : Nat) (w : World) (hn : T.length = n) (hT : tableB T = true) (hok : ∀ r ∈ T, RulOk r) (hs : s.size ≤ 48) (hr : RulesR w a T) :
    Calls Tryz.prog 23 #[.slice a n c, .string s] w (RetOwn w 2 1 (dcL T s).length (intCells (dcL T s)) fun v => .tuple #[v, .bool (dcK T s)]) := by
  subst hn
  have hlen := tableB_len hT
  have D := fun (w : World) (hr : RulesR w a T) => firstParsing_any T s a T.length c w rfl (by omega) hok (by omega) hr
  have hl := fpL_len T s
  cases hk : fpK T s
  · rw [show dcL T s = [] by simp [dcL, dcK, hk], show dcK T s = false by simp [dcK, hk]]
    rw [hk, show fpL T s = [] by simp [fpL, hk]] at D
    replace D := Lib.hid D
    replace hr := Lib.hid hr
    clear hok hk hT hl
    go_enter Tryz.func23, Tryz.ntmps23
    go_wp2_with fail
    with_reducible refine (D.out _ (hr.out.bel (by (repeat (first | (with_reducible exact Below.refl _ _) | (with_reducible assumption) | (with_reducible refine Later.out _ ?_) | (with_reducible refine bel_alloc ?_ _) | (with_reducible refine bel_drew ?_) | (with_reducible refine bel_drewN ?_ _) | (with_reducible refine bel_set ?_ ?_ _) | (with_reducible refine After.out _ ?_ ?_) | (dsimp only; omega) | omega | (simp only [World.size_alloc, World.size_setCell, World.size_drew]; omega)))))).mono ?_
    rintro e w' ⟨a1, c1, rfl, hown, y1, rfl⟩
    have hsy1 := y1.bel.size
    (try simp only [World.size_alloc, World.size_setCell, World.size_drew] at hsy1)
    have O1 := Lib.hid (Owns.of hown)
    clear hown
    go_wp2_with fail
    refine bodyPost_ret (by simp [results, Tryz.results23, go_sem, ↓IntWalk.iteOmega, *]; try rfl) rfl ?_
    exact RetOwn.mk (.slice none 0 0) rfl (World.ownsRow_nil _ _ _ _) (by (repeat (first | (with_reducible exact Below.refl _ _) | (with_reducible assumption) | (with_reducible refine Later.out _ ?_) | (with_reducible refine bel_alloc ?_ _) | (with_reducible refine bel_drew ?_) | (with_reducible refine bel_drewN ?_ _) | (with_reducible refine bel_set ?_ ?_ _) | (with_reducible refine After.out _ ?_ ?_) | (dsimp only; omega) | omega | (simp only [World.size_alloc, World.size_setCell, World.size_drew]; omega))))
  · have hin := fpL_in hk
    have CS := fun (aq : Option Addr) (nq cq : Nat) (w : World) (h1 : (fpL T s).length = nq) (hr : RulesR w a T) (hr' : Row w aq (intCells (fpL T s))) => isStable_any T (fpL T s) a aq T.length c nq cq w rfl hT hok h1 (by omega) hin hr hr'
    have CG := fun (aq : Option Addr) (nq cq : Nat) (w : World) (h1 : (fpL T s).length = nq) (hr : RulesR w a T) (hr' : Row w aq (intCells (fpL T s))) => signsOf_any T (fpL T s) a aq T.length c nq cq w rfl hT h1 (by omega) hin hr hr'
    rw [hk] at D
    cases hst : stb T (fpL T s)
    · rw [show dcL T s = [] by simp [dcL, dcK, hk, hst], show dcK T s = false by simp [dcK, hk, hst]]
      rw [hst] at CS
      obtain ⟨F, hF⟩ : ∃ F, fpL T s = F := ⟨_, rfl⟩
      simp only [hF] at CS CG D
      replace D := Lib.hid D
      replace CS := Lib.hid CS
      replace hr := Lib.hid hr
      clear hok hk hT hl hin hst hF CG
      go_enter Tryz.func23, Tryz.ntmps23
      go_wp2_with fail
      with_reducible refine (D.out _ (hr.out.bel (by (repeat (first | (with_reducible exact Below.refl _ _) | (with_reducible assumption) | (with_reducible refine Later.out _ ?_) | (with_reducible refine bel_alloc ?_ _) | (with_reducible refine bel_drew ?_) | (with_reducible refine bel_drewN ?_ _) | (with_reducible refine bel_set ?_ ?_ _) | (with_reducible refine After.out _ ?_ ?_) | (dsimp only; omega) | omega | (simp only [World.size_alloc, World.size_setCell, World.size_drew]; omega)))))).mono ?_
      rintro e w' ⟨a1, c1, rfl, hown, y1, rfl⟩
      have hsy1 := y1.bel.size
      (try simp only [World.size_alloc, World.size_setCell, World.size_drew] at hsy1)
      have O1 := Lib.hid (Owns.of hown)
      clear hown
      go_wp2_with fail
      with_reducible refine (CS.out _ _ _ _ rfl (hr.out.bel (by (repeat (first | (with_reducible exact Below.refl _ _) | (with_reducible assumption) | (with_reducible refine Later.out _ ?_) | (with_reducible refine bel_alloc ?_ _) | (with_reducible refine bel_drew ?_) | (with_reducible refine bel_drewN ?_ _) | (with_reducible refine bel_set ?_ ?_ _) | (with_reducible refine After.out _ ?_ ?_) | (dsimp only; omega) | omega | (simp only [World.size_alloc, World.size_setCell, World.size_drew]; omega))))) (O1.out.row.bel (by (repeat (first | (with_reducible exact Below.refl _ _) | (with_reducible assumption) | (with_reducible refine Later.out _ ?_) | (with_reducible refine bel_alloc ?_ _) | (with_reducible refine bel_drew ?_) | (with_reducible refine bel_drewN ?_ _) | (with_reducible refine bel_set ?_ ?_ _) | (with_reducible refine After.out _ ?_ ?_) | (dsimp only; omega) | omega | (simp only [World.size_alloc, World.size_setCell, World.size_drew]; omega)))))).mono ?_
      rintro e w' ⟨rfl, y2, rfl⟩
      have hsy2 := y2.bel.size
      (try simp only [World.size_alloc, World.size_setCell, World.size_drew] at hsy2)
      go_wp2_with fail
      refine bodyPost_ret (by simp [results, Tryz.results23, go_sem, ↓IntWalk.iteOmega, *]; try rfl) rfl ?_
      exact RetOwn.mk (.slice none 0 0) rfl (World.ownsRow_nil _ _ _ _) (by (repeat (first | (with_reducible exact Below.refl _ _) | (with_reducible assumption) | (with_reducible refine Later.out _ ?_) | (with_reducible refine bel_alloc ?_ _) | (with_reducible refine bel_drew ?_) | (with_reducible refine bel_drewN ?_ _) | (with_reducible refine bel_set ?_ ?_ _) | (with_reducible refine After.out _ ?_ ?_) | (dsimp only; omega) | omega | (simp only [World.size_alloc, World.size_setCell, World.size_drew]; omega))))
    · rw [show dcL T s = signsL T (fpL T s) by simp [dcL, dcK, hk, hst], show dcK T s = true by simp [dcK, hk, hst]]
      rw [hst] at CS
      obtain ⟨F, hF⟩ : ∃ F, fpL T s = F := ⟨_, rfl⟩
      simp only [hF] at CS CG D ⊢
      replace D := Lib.hid D
      replace CS := Lib.hid CS
      replace CG := Lib.hid CG
      replace hr := Lib.hid hr
      clear hok hk hT hl hin hst hF
      go_enter Tryz.func23, Tryz.ntmps23
      go_wp2_with fail
      with_reducible refine (D.out _ (hr.out.bel (by (repeat (first | (with_reducible exact Below.refl _ _) | (with_reducible assumption) | (with_reducible refine Later.out _ ?_) | (with_reducible refine bel_alloc ?_ _) | (with_reducible refine bel_drew ?_) | (with_reducible refine bel_drewN ?_ _) | (with_reducible refine bel_set ?_ ?_ _) | (with_reducible refine After.out _ ?_ ?_) | (dsimp only; omega) | omega | (simp only [World.size_alloc, World.size_setCell, World.size_drew]; omega)))))).mono ?_
      rintro e w' ⟨a1, c1, rfl, hown, y1, rfl⟩
      have hsy1 := y1.bel.size
      (try simp only [World.size_alloc, World.size_setCell, World.size_drew] at hsy1)
      have O1 := Lib.hid (Owns.of hown)
      clear hown
      go_wp2_with fail
      with_reducible refine (CS.out _ _ _ _ rfl (hr.out.bel (by (repeat (first | (with_reducible exact Below.refl _ _) | (with_reducible assumption) | (with_reducible refine Later.out _ ?_) | (with_reducible refine bel_alloc ?_ _) | (with_reducible refine bel_drew ?_) | (with_reducible refine bel_drewN ?_ _) | (with_reducible refine bel_set ?_ ?_ _) | (with_reducible refine After.out _ ?_ ?_) | (dsimp only; omega) | omega | (simp only [World.size_alloc, World.size_setCell, World.size_drew]; omega))))) (O1.out.row.bel (by (repeat (first | (with_reducible exact Below.refl _ _) | (with_reducible assumption) | (with_reducible refine Later.out _ ?_) | (with_reducible refine bel_alloc ?_ _) | (with_reducible refine bel_drew ?_) | (with_reducible refine bel_drewN ?_ _) | (with_reducible refine bel_set ?_ ?_ _) | (with_reducible refine After.out _ ?_ ?_) | (dsimp only; omega) | omega | (simp only [World.size_alloc, World.size_setCell, World.size_drew]; omega)))))).mono ?_
      rintro e w' ⟨rfl, y2, rfl⟩
      have hsy2 := y2.bel.size
      (try simp only [World.size_alloc, World.size_setCell, World.size_drew] at hsy2)
      go_wp2_with fail
      with_reducible refine (CG.out _ _ _ _ rfl (hr.out.bel (by (repeat (first | (with_reducible exact Below.refl _ _) | (with_reducible assumption) | (with_reducible refine Later.out _ ?_) | (with_reducible refine bel_alloc ?_ _) | (with_reducible refine bel_drew ?_) | (with_reducible refine bel_drewN ?_ _) | (with_reducible refine bel_set ?_ ?_ _) | (with_reducible refine After.out _ ?_ ?_) | (dsimp only; omega) | omega | (simp only [World.size_alloc, World.size_setCell, World.size_drew]; omega))))) (O1.out.row.bel (by (repeat (first | (with_reducible exact Below.refl _ _) | (with_reducible assumption) | (with_reducible refine Later.out _ ?_) | (with_reducible refine bel_alloc ?_ _) | (with_reducible refine bel_drew ?_) | (with_reducible refine bel_drewN ?_ _) | (with_reducible refine bel_set ?_ ?_ _) | (with_reducible refine After.out _ ?_ ?_) | (dsimp only; omega) | omega | (simp only [World.size_alloc, World.size_setCell, World.size_drew]; omega)))))).mono ?_
      rintro e w' ⟨a3, c3, rfl, hown, y3, rfl⟩
      have hsy3 := y3.bel.size
      (try simp only [World.size_alloc, World.size_setCell, World.size_drew] at hsy3)
      have O3 := Lib.hid (Owns.of hown)
      clear hown
      go_wp2_with fail
      refine bodyPost_ret (by simp [results, Tryz.results23, go_sem, ↓IntWalk.iteOmega, *]; try rfl) rfl ?_
      exact RetOwn.mk _ rfl (own_mono O3.out.own (by ((try simp only [World.size_alloc, World.size_setCell, World.size_drew]); omega))) (by (repeat (first | (with_reducible exact Below.refl _ _) | (with_reducible assumption) | (with_reducible refine Later.out _ ?_) | (with_reducible refine bel_alloc ?_ _) | (with_reducible refine bel_drew ?_) | (with_reducible refine bel_drewN ?_ _) | (with_reducible refine bel_set ?_ ?_ _) | (with_reducible refine After.out _ ?_ ?_) | (dsimp only; omega) | omega | (simp only [World.size_alloc, World.size_setCell, World.size_drew]; omega))))
/-- What the reference hands back: its signs count only where it says yes. -/
def RetDec (w : World) (T : List Rul) (s : ByteArray) (e : Ending) (w' : World) : Prop :=
  ∃ (a : Option Addr) (c : Nat) (S : List Int), e = .returned (.tuple #[.slice a S.length c, .bool (dcK T s)]) ∧ w'.ownsRow w.heap.size 2 1 (.slice a S.length c) S.length (intCells S) ∧ (dcK T s = true → S = dcL T s) ∧ ∃ y : Later w, w' = y.w
theorem RetDec.mk {w w' : World} {T : List Rul} {s : ByteArray} {e : Ending} {a : Option Addr} {c n : Nat} {b : Bool} (S : List Int) (hn : n = S.length) (he : e = .returned (.tuple #[.slice a n c, .bool b])) (hb : dcK T s = b) (ho : w'.ownsRow w.heap.size 2 1 (.slice a n c) n (intCells S)) (hS : b = true → S = dcL T s) (hw : Below w.heap.size w w') : RetDec w T s e w' := by
  subst hn hb
  exact ⟨a, c, S, he, ho, hS, ⟨w', hw⟩, rfl⟩
set_option maxRecDepth 8000 in
set_option maxHeartbeats 4000000 in
theorem sDecode_any (T : List Rul) (s : ByteArray) (a : Option Addr) (n c : Nat) (w : World) (hn : T.length = n) (hT : tableB T = true) (hok : ∀ r ∈ T, RulOk r) (hs : s.size ≤ 48) (hr : RulesR w a T) :
    Calls Tryz.prog 27 #[.slice a n c, .string s] w (RetDec w T s) := by
  subst hn
  have hlen := tableB_len hT
  have D := fun (w : World) (hr : RulesR w a T) => sFirst_any T s a T.length c w rfl (by omega) hok (by omega) hr
  have hl := fpL_len T s
  cases hk : fpK T s
  · have hd : dcK T s = false := by simp [dcK, hk]
    rw [hk, show fpL T s = [] by simp [fpL, hk]] at D
    replace D := Lib.hid D
    replace hr := Lib.hid hr
    clear hok hk hT hl
    go_enter Tryz.func27, Tryz.ntmps27
    go_wp2_with fail
    with_reducible refine (D.out _ (hr.out.bel (by (repeat (first | (with_reducible exact Below.refl _ _) | (with_reducible assumption) | (with_reducible refine Later.out _ ?_) | (with_reducible refine bel_alloc ?_ _) | (with_reducible refine bel_drew ?_) | (with_reducible refine bel_drewN ?_ _) | (with_reducible refine bel_set ?_ ?_ _) | (with_reducible refine After.out _ ?_ ?_) | (dsimp only; omega) | omega | (simp only [World.size_alloc, World.size_setCell, World.size_drew]; omega)))))).mono ?_
    rintro e w' ⟨a1, c1, rfl, hown, y1, rfl⟩
    have hsy1 := y1.bel.size
    (try simp only [World.size_alloc, World.size_setCell, World.size_drew] at hsy1)
    have O1 := Lib.hid (Owns.of hown)
    clear hown
    go_wp2_with fail
    refine bodyPost_ret (by simp [results, Tryz.results27, go_sem, ↓IntWalk.iteOmega, *]; try rfl) rfl ?_
    exact RetDec.mk (a := none) (c := 0) [] rfl rfl hd (World.ownsRow_nil _ _ _ _) (fun h => by cases h) (by (repeat (first | (with_reducible exact Below.refl _ _) | (with_reducible assumption) | (with_reducible refine Later.out _ ?_) | (with_reducible refine bel_alloc ?_ _) | (with_reducible refine bel_drew ?_) | (with_reducible refine bel_drewN ?_ _) | (with_reducible refine bel_set ?_ ?_ _) | (with_reducible refine After.out _ ?_ ?_) | (dsimp only; omega) | omega | (simp only [World.size_alloc, World.size_setCell, World.size_drew]; omega))))
  · have hin := fpL_in hk
    have hc := sgC_ok hT hin (by omega)
    have CG := fun (aq : Option Addr) (nq cq : Nat) (w : World) (h1 : (fpL T s).length = nq) (hr : RulesR w a T) (hr' : Row w aq (intCells (fpL T s))) => sSigns5_any T (fpL T s) a aq T.length c nq cq w rfl (by omega) hok h1 (by omega) hr hr'
    rw [show sgR T (fpL T s) = signsL T (fpL T s) by simp [sgR, hc], hc] at CG
    have CS := fun (aq ar : Option Addr) (nq cq nr cr : Nat) (w : World) (h1 : (fpL T s).length = nq) (h2 : (signsL T (fpL T s)).length = nr) (h3 : nr ≤ cr) (h4 : cr ≤ maxLen) (hr : RulesR w a T) (hr' : Row w aq (intCells (fpL T s))) (hr2 : Row w ar (intCells (signsL T (fpL T s)))) => sStable_any T (fpL T s) a aq ar T.length c nq cq nr cr w rfl hT hok h1 (by omega) hin h2 h3 h4 hr hr' hr2
    rw [hk] at D
    have hd : dcK T s = stb T (fpL T s) := by simp [dcK, hk]
    have hdL : stb T (fpL T s) = true → signsL T (fpL T s) = dcL T s := fun h => by simp [dcL, dcK, hk, h]
    obtain ⟨B, hB⟩ : ∃ B, stb T (fpL T s) = B := ⟨_, rfl⟩
    rw [hB] at hd hdL
    simp only [hB] at CS
    obtain ⟨F, hF⟩ : ∃ F, fpL T s = F := ⟨_, rfl⟩
    simp only [hF] at CS CG D hdL
    obtain ⟨G, hG⟩ : ∃ G, signsL T F = G := ⟨_, rfl⟩
    simp only [hG] at CS CG hdL
    replace D := Lib.hid D
    replace CS := Lib.hid CS
    replace CG := Lib.hid CG
    replace hr := Lib.hid hr
    replace hdL := Lib.hid hdL
    clear hok hk hT hl hin hF hB hc hG
    go_enter Tryz.func27, Tryz.ntmps27
    go_wp2_with fail
    with_reducible refine (D.out _ (hr.out.bel (by (repeat (first | (with_reducible exact Below.refl _ _) | (with_reducible assumption) | (with_reducible refine Later.out _ ?_) | (with_reducible refine bel_alloc ?_ _) | (with_reducible refine bel_drew ?_) | (with_reducible refine bel_drewN ?_ _) | (with_reducible refine bel_set ?_ ?_ _) | (with_reducible refine After.out _ ?_ ?_) | (dsimp only; omega) | omega | (simp only [World.size_alloc, World.size_setCell, World.size_drew]; omega)))))).mono ?_
    rintro e w' ⟨a1, c1, rfl, hown, y1, rfl⟩
    have hsy1 := y1.bel.size
    (try simp only [World.size_alloc, World.size_setCell, World.size_drew] at hsy1)
    have O1 := Lib.hid (Owns.of hown)
    clear hown
    go_wp2_with fail
    with_reducible refine (CG.out _ _ _ _ rfl (hr.out.bel (by (repeat (first | (with_reducible exact Below.refl _ _) | (with_reducible assumption) | (with_reducible refine Later.out _ ?_) | (with_reducible refine bel_alloc ?_ _) | (with_reducible refine bel_drew ?_) | (with_reducible refine bel_drewN ?_ _) | (with_reducible refine bel_set ?_ ?_ _) | (with_reducible refine After.out _ ?_ ?_) | (dsimp only; omega) | omega | (simp only [World.size_alloc, World.size_setCell, World.size_drew]; omega))))) (O1.out.row.bel (by (repeat (first | (with_reducible exact Below.refl _ _) | (with_reducible assumption) | (with_reducible refine Later.out _ ?_) | (with_reducible refine bel_alloc ?_ _) | (with_reducible refine bel_drew ?_) | (with_reducible refine bel_drewN ?_ _) | (with_reducible refine bel_set ?_ ?_ _) | (with_reducible refine After.out _ ?_ ?_) | (dsimp only; omega) | omega | (simp only [World.size_alloc, World.size_setCell, World.size_drew]; omega)))))).mono ?_
    rintro e w' ⟨a3, c3, rfl, hown, y3, rfl⟩
    have hsy3 := y3.bel.size
    (try simp only [World.size_alloc, World.size_setCell, World.size_drew] at hsy3)
    have O3 := Lib.hid (Owns.of hown)
    clear hown
    have hcap3 := Lib.hid (ownsRow_cap O3.out.own)
    go_wp2_with fail
    with_reducible refine (CS.out _ _ _ _ _ _ _ rfl rfl hcap3.out.1 hcap3.out.2 (hr.out.bel (by (repeat (first | (with_reducible exact Below.refl _ _) | (with_reducible assumption) | (with_reducible refine Later.out _ ?_) | (with_reducible refine bel_alloc ?_ _) | (with_reducible refine bel_drew ?_) | (with_reducible refine bel_drewN ?_ _) | (with_reducible refine bel_set ?_ ?_ _) | (with_reducible refine After.out _ ?_ ?_) | (dsimp only; omega) | omega | (simp only [World.size_alloc, World.size_setCell, World.size_drew]; omega))))) (O1.out.row.bel (by (repeat (first | (with_reducible exact Below.refl _ _) | (with_reducible assumption) | (with_reducible refine Later.out _ ?_) | (with_reducible refine bel_alloc ?_ _) | (with_reducible refine bel_drew ?_) | (with_reducible refine bel_drewN ?_ _) | (with_reducible refine bel_set ?_ ?_ _) | (with_reducible refine After.out _ ?_ ?_) | (dsimp only; omega) | omega | (simp only [World.size_alloc, World.size_setCell, World.size_drew]; omega))))) (O3.out.row.bel (by (repeat (first | (with_reducible exact Below.refl _ _) | (with_reducible assumption) | (with_reducible refine Later.out _ ?_) | (with_reducible refine bel_alloc ?_ _) | (with_reducible refine bel_drew ?_) | (with_reducible refine bel_drewN ?_ _) | (with_reducible refine bel_set ?_ ?_ _) | (with_reducible refine After.out _ ?_ ?_) | (dsimp only; omega) | omega | (simp only [World.size_alloc, World.size_setCell, World.size_drew]; omega)))))).mono ?_
    rintro e w' ⟨rfl, y2, rfl⟩
    have hsy2 := y2.bel.size
    (try simp only [World.size_alloc, World.size_setCell, World.size_drew] at hsy2)
    go_wp2_with fail
    refine bodyPost_ret (by simp [results, Tryz.results27, go_sem, ↓IntWalk.iteOmega, *]; try rfl) rfl ?_
    exact RetDec.mk G rfl rfl hd (own_bel (own_mono O3.out.own (by ((try simp only [World.size_alloc, World.size_setCell, World.size_drew]); omega))) (by (repeat (first | (with_reducible exact Below.refl _ _) | (with_reducible assumption) | (with_reducible refine Later.out _ ?_) | (with_reducible refine bel_alloc ?_ _) | (with_reducible refine bel_drew ?_) | (with_reducible refine bel_drewN ?_ _) | (with_reducible refine bel_set ?_ ?_ _) | (with_reducible refine After.out _ ?_ ?_) | (dsimp only; omega) | omega | (simp only [World.size_alloc, World.size_setCell, World.size_drew]; omega))))) hdL.out (by (repeat (first | (with_reducible exact Below.refl _ _) | (with_reducible assumption) | (with_reducible refine Later.out _ ?_) | (with_reducible refine bel_alloc ?_ _) | (with_reducible refine bel_drew ?_) | (with_reducible refine bel_drewN ?_ _) | (with_reducible refine bel_set ?_ ?_ _) | (with_reducible refine After.out _ ?_ ?_) | (dsimp only; omega) | omega | (simp only [World.size_alloc, World.size_setCell, World.size_drew]; omega))))
end Go.Proofs.YtemfhcmeeldngaaGreatDoor
