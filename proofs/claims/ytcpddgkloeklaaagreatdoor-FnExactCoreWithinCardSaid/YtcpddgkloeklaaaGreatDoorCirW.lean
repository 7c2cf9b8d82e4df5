import Derived.Test.YtcpddgkloeklaaaGreatDoorPar
/- Circles by claims, both sides. -/
set_option linter.unusedSimpArgs false
set_option linter.unusedVariables false
namespace Go.Proofs.YtcpddgkloeklaaaGreatDoor
open Go.RowKit
def sliceLen : Value → Nat
  | .slice _ n _ => n
  | _ => 0
theorem one_str1 (x : ByteArray) : ∀ u ∈ [Value.string x], u.oneCell' = true := by intro u hu; simp at hu; subst hu; rfl
/-- What the search for a circle hands back: the circle, or that there is none. -/
def CircRet (w : World) (Z : Option (List ByteArray)) (e : Ending) (w' : World) : Prop :=
  ∃ (a : Option Addr) (n c : Nat) (r : List ByteArray), e = .returned (.tuple #[.slice a n c, .bool Z.isSome]) ∧ n = r.length ∧ w'.ownsRow w.heap.size 9 1 (.slice a n c) n (strCells r) ∧ (∀ s, Z = some s → r = s) ∧ ∃ y : Later w, w' = y.w
theorem CircRet.mk {w w' : World} {Z : Option (List ByteArray)} {e : Ending} {b : Bool} (v : Value) (r : List ByteArray) (h : e = .returned (.tuple #[v, .bool b])) (hb : Z.isSome = b) (ho : w'.ownsRow w.heap.size 9 1 v r.length (strCells r)) (hz : ∀ s, Z = some s → r = s) (hw : Below w.heap.size w w') : CircRet w Z e w' := by
  subst hb
  obtain ⟨a, c, rfl⟩ := own_form ho
  exact ⟨a, r.length, c, r, h, rfl, ho, hz, ⟨w', hw⟩, rfl⟩
set_option maxRecDepth 4000 in
set_option maxHeartbeats 2000000 in
theorem circleIn_any (L : List Clm) (y : Int) (place : ByteArray) (a : Option Addr) (n c : Nat) (w : World) (hn : L.length = n) (hm : n ≤ 1048576) (hr : Row w a (clmsCells L)) :
    Calls Tryz.prog 137 #[.slice a n c, .string place, .int .i64 y] w (CircRet w (circZ L y place)) := by
  obtain ⟨ii, j1, j2, j3, j4⟩ := info_str'
  have Jii := Lib.hid (And.intro j1 (And.intro j2 (And.intro j3 j4)))
  clear j1 j2 j3 j4
  have PN := fun p w hr h => parent_none (L := L) (p := p) (y := y) (a := a) (n := n) (c := c) (w := w) hn hm hr h
  have PS := fun p v w hr h => parent_some (L := L) (p := p) (y := y) (a := a) (n := n) (c := c) (w := w) hn hm hr (v := v) h
  replace PN := Lib.hid PN
  replace PS := Lib.hid PS
  replace hr := Lib.hid hr
  subst hn
  have hown0 := World.ownsRow_lit (base := w.heap.size) (e := 9) (size := 1) w #[.string place] 1 (Nat.le_refl _) (by unfold maxLen; omega) rfl
  replace hown0 := Lib.hid hown0
  go_enter Tryz.func137, Tryz.ntmps137
  go_wp2_with fail
  go_loopw [8] (fun t8 wr => ∃ (out : List ByteArray) (p : ByteArray) (a8 : Option Addr) (c8 : Nat), t8 = .slice a8 (out.length + 1) c8 ∧ wr.ownsRow w.heap.size 9 1 (.slice a8 (out.length + 1) c8) (out.length + 1) (strCells (out ++ [p])) ∧ CInv L y place out p ∧ ∃ z : Later w, wr = z.w) (fun t8 _ => L.length + 2 - sliceLen t8)
  case atStart => exact ⟨[], place, _, _, rfl, hown0.out, CInv.start _ _ _, LaterC.mk (by (repeat (first | (with_reducible exact Below.refl _ _) | (with_reducible assumption) | (with_reducible refine Later.out _ ?_) | (with_reducible refine bel_alloc ?_ _) | (with_reducible refine bel_drew ?_) | (with_reducible refine bel_drewN ?_ _) | (with_reducible refine bel_set ?_ ?_ _) | (with_reducible refine After.out _ ?_ ?_) | (dsimp only; omega) | omega | (simp only [World.size_alloc, World.size_setCell, World.size_drew]; omega))))⟩
  case round =>
    obtain ⟨out, p, a8, c8, rfl, hown, hinv, z, rfl⟩ := hrel
    have hzz := z.bel.size
    have hl := hinv.len
    obtain ⟨m, hm8⟩ : ∃ m, out.length = m := ⟨_, rfl⟩
    have hrow : Row z.w a8 (strCells (out ++ [p])) := Row.of_own hown
    obtain ⟨b8, o8, rfl, hb8, hc8⟩ := hrow.str (k := m) (by simp; omega)
    have hp : (out ++ [p])[m]'(by simp; omega) = p := by subst hm8; simp
    rw [hp] at hc8
    rw [hm8] at hown hl
    have hlr : (out ++ [p]).length = m + 1 := by simp [hm8]
    obtain ⟨C, hC⟩ : ∃ C, out ++ [p] = C := ⟨_, rfl⟩
    have hINV := Lib.hid hinv
    rw [hC] at hrow hown hlr
    rw [hm8]
    replace hrow := Lib.hid hrow
    replace hown := Lib.hid hown
    replace hlr := Lib.hid hlr
    have hC' := Lib.hid hC
    have hm8' := Lib.hid hm8
    clear hinv hm8 hp hown0 hC
    cases hpar : parOf L y p with
    | none =>
      have X := Lib.hid (hINV.out.no hpar)
      go_wp2_with fail
      with_reducible refine (PN.out _ _ (hr.out.bel (by (repeat (first | (with_reducible exact Below.refl _ _) | (with_reducible assumption) | (with_reducible refine Later.out _ ?_) | (with_reducible refine bel_alloc ?_ _) | (with_reducible refine bel_drew ?_) | (with_reducible refine bel_drewN ?_ _) | (with_reducible refine bel_set ?_ ?_ _) | (with_reducible refine After.out _ ?_ ?_) | (dsimp only; omega) | omega | (simp only [World.size_alloc, World.size_setCell, World.size_drew]; omega))))) hpar).mono ?_
      rintro e w' ⟨rfl, y1, rfl⟩
      have hsy1 := y1.bel.size
      (try simp only [World.size_alloc, World.size_setCell, World.size_drew] at hsy1)
      go_wp2_with fail
      refine bodyPost_ret (by simp [results, Tryz.results137, go_sem, ↓IntWalk.iteOmega, *]; try rfl) rfl ?_
      exact CircRet.mk (.slice none 0 0) [] rfl (by rw [X.out]; rfl) (World.ownsRow_nil _ _ _ _) (by rw [X.out]; intro s h; cases h) (by (repeat (first | (with_reducible exact Below.refl _ _) | (with_reducible assumption) | (with_reducible refine Later.out _ ?_) | (with_reducible refine bel_alloc ?_ _) | (with_reducible refine bel_drew ?_) | (with_reducible refine bel_drewN ?_ _) | (with_reducible refine bel_set ?_ ?_ _) | (with_reducible refine After.out _ ?_ ?_) | (dsimp only; omega) | omega | (simp only [World.size_alloc, World.size_setCell, World.size_drew]; omega))))
    | some nx =>
      have hcall := fun w hr => PS.out _ _ w hr hpar
      rcases sameB nx place with ⟨e2, e1⟩ | ⟨e2, e1⟩
      · have X := Lib.hid (hINV.out.close (by rw [hpar, e2]))
        replace hcall := Lib.hid hcall
        clear e2 hpar
        go_wp2_with fail
        with_reducible refine (hcall.out _ (hr.out.bel (by (repeat (first | (with_reducible exact Below.refl _ _) | (with_reducible assumption) | (with_reducible refine Later.out _ ?_) | (with_reducible refine bel_alloc ?_ _) | (with_reducible refine bel_drew ?_) | (with_reducible refine bel_drewN ?_ _) | (with_reducible refine bel_set ?_ ?_ _) | (with_reducible refine After.out _ ?_ ?_) | (dsimp only; omega) | omega | (simp only [World.size_alloc, World.size_setCell, World.size_drew]; omega)))))).mono ?_
        rintro e w' ⟨rfl, y1, rfl⟩
        have hsy1 := y1.bel.size
        (try simp only [World.size_alloc, World.size_setCell, World.size_drew] at hsy1)
        go_wp2_with fail
        refine bodyPost_ret (by simp [results, Tryz.results137, go_sem, ↓IntWalk.iteOmega, *]; try rfl) rfl ?_
        exact CircRet.mk _ C rfl (by rw [X.out]; rfl) (by rw [hlr.out]; exact own_bel hown.out (by (repeat (first | (with_reducible exact Below.refl _ _) | (with_reducible assumption) | (with_reducible refine Later.out _ ?_) | (with_reducible refine bel_alloc ?_ _) | (with_reducible refine bel_drew ?_) | (with_reducible refine bel_drewN ?_ _) | (with_reducible refine bel_set ?_ ?_ _) | (with_reducible refine After.out _ ?_ ?_) | (dsimp only; omega) | omega | (simp only [World.size_alloc, World.size_setCell, World.size_drew]; omega))))) (by rw [X.out, hC'.out]; intro s h; exact Option.some.inj h) (by (repeat (first | (with_reducible exact Below.refl _ _) | (with_reducible assumption) | (with_reducible refine Later.out _ ?_) | (with_reducible refine bel_alloc ?_ _) | (with_reducible refine bel_drew ?_) | (with_reducible refine bel_drewN ?_ _) | (with_reducible refine bel_set ?_ ?_ _) | (with_reducible refine After.out _ ?_ ?_) | (dsimp only; omega) | omega | (simp only [World.size_alloc, World.size_setCell, World.size_drew]; omega))))
      · have hCt := fun w hr b h => containsStr_b (x := nx) (O := C) (a := some ⟨b8, o8, none⟩) (n := m + 1) (c := c8) (w := w) (b := b) hlr.out (by omega) hr h
        rcases idxS_cases nx C with ⟨hin, hd⟩ | ⟨hin, hd⟩
        · have X := Lib.hid (hINV.out.again hpar e2 (by rw [hC'.out]; exact hin))
          replace hcall := Lib.hid hcall
          replace hCt := Lib.hid (fun w hr => hCt w hr true (by simp [hd]))
          clear e2 hpar hd hin
          go_wp2_with fail
          with_reducible refine (hcall.out _ (hr.out.bel (by (repeat (first | (with_reducible exact Below.refl _ _) | (with_reducible assumption) | (with_reducible refine Later.out _ ?_) | (with_reducible refine bel_alloc ?_ _) | (with_reducible refine bel_drew ?_) | (with_reducible refine bel_drewN ?_ _) | (with_reducible refine bel_set ?_ ?_ _) | (with_reducible refine After.out _ ?_ ?_) | (dsimp only; omega) | omega | (simp only [World.size_alloc, World.size_setCell, World.size_drew]; omega)))))).mono ?_
          rintro e w' ⟨rfl, y1, rfl⟩
          have hsy1 := y1.bel.size
          (try simp only [World.size_alloc, World.size_setCell, World.size_drew] at hsy1)
          go_wp2_with fail
          with_reducible refine (hCt.out _ (hrow.out.bel (by (repeat (first | (with_reducible exact Below.refl _ _) | (with_reducible assumption) | (with_reducible refine Later.out _ ?_) | (with_reducible refine bel_alloc ?_ _) | (with_reducible refine bel_drew ?_) | (with_reducible refine bel_drewN ?_ _) | (with_reducible refine bel_set ?_ ?_ _) | (with_reducible refine After.out _ ?_ ?_) | (dsimp only; omega) | omega | (simp only [World.size_alloc, World.size_setCell, World.size_drew]; omega)))))).mono ?_
          rintro e w' ⟨rfl, y2, rfl⟩
          have hsy2 := y2.bel.size
          (try simp only [World.size_alloc, World.size_setCell, World.size_drew] at hsy2)
          go_wp2_with fail
          refine bodyPost_ret (by simp [results, Tryz.results137, go_sem, ↓IntWalk.iteOmega, *]; try rfl) rfl ?_
          exact CircRet.mk (.slice none 0 0) [] rfl (by rw [X.out]; rfl) (World.ownsRow_nil _ _ _ _) (by rw [X.out]; intro s h; cases h) (by (repeat (first | (with_reducible exact Below.refl _ _) | (with_reducible assumption) | (with_reducible refine Later.out _ ?_) | (with_reducible refine bel_alloc ?_ _) | (with_reducible refine bel_drew ?_) | (with_reducible refine bel_drewN ?_ _) | (with_reducible refine bel_set ?_ ?_ _) | (with_reducible refine After.out _ ?_ ?_) | (dsimp only; omega) | omega | (simp only [World.size_alloc, World.size_setCell, World.size_drew]; omega))))
        · have X := Lib.hid (hINV.out.on hpar e2 (by rw [hC'.out]; exact hin))
          replace hcall := Lib.hid hcall
          replace hCt := Lib.hid (fun w hr => hCt w hr false (by rw [hd]; rfl))
          clear e2 hpar hd hin
          have hXl := Lib.hid X.out.len
          go_wp2_with (first | (go_at_call 158; (with_reducible refine (hcall.out _ (hr.out.bel (by (repeat (first | (with_reducible exact Below.refl _ _) | (with_reducible assumption) | (with_reducible refine Later.out _ ?_) | (with_reducible refine bel_alloc ?_ _) | (with_reducible refine bel_drew ?_) | (with_reducible refine bel_drewN ?_ _) | (with_reducible refine bel_set ?_ ?_ _) | (with_reducible refine After.out _ ?_ ?_) | (dsimp only; omega) | omega | (simp only [World.size_alloc, World.size_setCell, World.size_drew]; omega)))))).mono ?_); rintro e w' ⟨rfl, y1, rfl⟩; have hs1 := y1.bel.size) | (go_at_call 127; (with_reducible refine (hCt.out _ (hrow.out.bel (by (repeat (first | (with_reducible exact Below.refl _ _) | (with_reducible assumption) | (with_reducible refine Later.out _ ?_) | (with_reducible refine bel_alloc ?_ _) | (with_reducible refine bel_drew ?_) | (with_reducible refine bel_drewN ?_ _) | (with_reducible refine bel_set ?_ ?_ _) | (with_reducible refine After.out _ ?_ ?_) | (dsimp only; omega) | omega | (simp only [World.size_alloc, World.size_setCell, World.size_drew]; omega)))))).mono ?_); rintro e w' ⟨rfl, y2, rfl⟩; have hs2 := y2.bel.size) | (at_builtin; (refine wpList_append_later _ rfl _ _ _ rfl 9 ii _ 1 16 Tryz.underlying37 Jii.out.1 Jii.out.2.1 Jii.out.2.2.1 Jii.out.2.2.2 rfl (by decide) (w) ?qa1 _ _ _ (strCells C) rfl ?qa2 _ _ _ ([.string nx]) rfl ?qa3 ?qa4 ?qa5 ?qa6 ?qa7 ?_); (case qa1 => (repeat (first | (with_reducible exact Below.refl _ _) | (with_reducible assumption) | (with_reducible refine Later.out _ ?_) | (with_reducible refine bel_alloc ?_ _) | (with_reducible refine bel_drew ?_) | (with_reducible refine bel_drewN ?_ _) | (with_reducible refine bel_set ?_ ?_ _) | (with_reducible refine After.out _ ?_ ?_) | (dsimp only; omega) | omega | (simp only [World.size_alloc, World.size_setCell, World.size_drew]; omega)))); (case qa2 => exact own_bel hown.out (by (repeat (first | (with_reducible exact Below.refl _ _) | (with_reducible assumption) | (with_reducible refine Later.out _ ?_) | (with_reducible refine bel_alloc ?_ _) | (with_reducible refine bel_drew ?_) | (with_reducible refine bel_drewN ?_ _) | (with_reducible refine bel_set ?_ ?_ _) | (with_reducible refine After.out _ ?_ ?_) | (dsimp only; omega) | omega | (simp only [World.size_alloc, World.size_setCell, World.size_drew]; omega))))); (case qa3 => (first | rfl | (simp [boolCells]; done) | (simp [intCells]; done) | (simp; done) | (first | omega | (simp only [List.length_append, List.length_cons, List.length_nil]; omega)))); (case qa4 => exact Row.made _ _ _); (case qa5 => exact one_str1 _); (case qa6 => (unfold maxLen; (first | omega | (simp only [List.length_append, List.length_cons, List.length_nil]; omega)))); (case qa7 => (first | omega | (simp only [List.length_append, List.length_cons, List.length_nil]; omega))); intro a9 c9 x9 hown9))
          replace hown9 := Lib.hid hown9
          go_roundw
          case rel =>
            refine ⟨C, nx, a9, c9, by rw [hlr.out], ?_, by rw [← hC'.out]; exact X.out, LaterC.mk x9.bel⟩
            rw [strCells_snoc, hlr.out]
            exact hown9.out
          case measure => simp only [sliceLen]; rw [hC'.out, hlr.out] at hXl; have := hXl.out; omega
/-- The claims on parents name them. -/
def Named (L : List Clm) : Prop := ∀ c ∈ L, c.kind = 1 → c.val.toList.isEmpty = false
theorem Named.par {L : List Clm} (h : Named L) {y : Int} {p v : ByteArray} (hp : parOf L y p = some v) : v.toList.isEmpty = false := by
  obtain ⟨c, hc, h1, rfl⟩ := parOf_some hp
  exact h c hc (parP_iff.1 h1).1
/-- Where the reference's search stands: on its way, or at its end. -/
def SInv (L : List Clm) (y : Int) (place : ByteArray) (out : List ByteArray) (p : ByteArray) : Prop :=
  CInv L y place out p ∨ (p ∈ out ∧ out.length ≤ L.length + 1 ∧ ((p = place ∧ circZ L y place = some out) ∨ (p ≠ place ∧ circZ L y place = none)))
set_option maxRecDepth 4000 in
set_option maxHeartbeats 2000000 in
theorem sCircle_any (L : List Clm) (y : Int) (place : ByteArray) (a : Option Addr) (n c : Nat) (w : World) (hn : L.length = n) (hm : n ≤ 1048576) (hr : Row w a (clmsCells L)) (hv : Named L) :
    Calls Tryz.prog 100 #[.slice a n c, .string place, .int .i64 y] w (CircRet w (circZ L y place)) := by
  obtain ⟨ii, j1, j2, j3, j4⟩ := info_str'
  have Jii := Lib.hid (And.intro j1 (And.intro j2 (And.intro j3 j4)))
  clear j1 j2 j3 j4
  have PN := fun p w hr => sParent_any L y p a n c w hn hm hr
  replace PN := Lib.hid PN
  replace hr := Lib.hid hr
  replace hv := Lib.hid hv
  subst hn
  have hown0 := World.ownsRow_lit (base := w.heap.size) (e := 9) (size := 1) w #[] 0 (Nat.le_refl _) (by unfold maxLen; omega) rfl
  replace hown0 := Lib.hid hown0
  go_enter Tryz.func100, Tryz.ntmps100
  go_wp2_with fail
  go_loopw [8, 9] (fun t8 t9 wr => ∃ (out : List ByteArray) (p : ByteArray) (a8 : Option Addr) (c8 : Nat), t8 = .slice a8 out.length c8 ∧ t9 = .string p ∧ wr.ownsRow w.heap.size 9 1 (.slice a8 out.length c8) out.length (strCells out) ∧ SInv L y place out p ∧ ∃ z : Later w, wr = z.w) (fun t8 _ _ => L.length + 2 - sliceLen t8)
  case atStart => exact ⟨[], place, _, _, rfl, rfl, hown0.out, .inl (CInv.start _ _ _), LaterC.mk (by (repeat (first | (with_reducible exact Below.refl _ _) | (with_reducible assumption) | (with_reducible refine Later.out _ ?_) | (with_reducible refine bel_alloc ?_ _) | (with_reducible refine bel_drew ?_) | (with_reducible refine bel_drewN ?_ _) | (with_reducible refine bel_set ?_ ?_ _) | (with_reducible refine After.out _ ?_ ?_) | (dsimp only; omega) | omega | (simp only [World.size_alloc, World.size_setCell, World.size_drew]; omega))))⟩
  case round =>
    obtain ⟨out, p, a8, c8, rfl, rfl, hown, hinv, z, rfl⟩ := hrel
    have hzz := z.bel.size
    have hrow : Row z.w a8 (strCells out) := Row.of_own hown
    have hol : out.length ≤ 1048577 := by
      rcases hinv with h | ⟨_, h, _⟩
      · have := h.len; omega
      · omega
    have hF := fun w hr => l03Find_any p out a8 out.length c8 w rfl hol hr
    replace hown := Lib.hid hown
    replace hrow := Lib.hid hrow
    clear hown0
    rcases hinv with hinv | ⟨hin, _, hend⟩
    · have hl := hinv.len
      have hid : idxS p out = -1 := by
        rcases idxS_cases p out with ⟨h1, _⟩ | ⟨_, h⟩
        · exact absurd h1 hinv.fresh
        · exact h
      rw [hid] at hF
      replace hF := Lib.hid hF
      have hINV := Lib.hid hinv
      clear hinv hid
      cases hpar : parOf L y p with
      | none =>
        have X := Lib.hid (hINV.out.no hpar)
        have hps : parS L y p = ByteArray.empty := by simp [parS, hpar]
        have PN' := fun w hr => PN.out p w hr
        rw [hps] at PN'
        replace PN' := Lib.hid PN'
        clear hps hpar
        go_wp2_with (first | (go_at_call 133; (with_reducible refine (hF.out _ (hrow.out.bel (by (repeat (first | (with_reducible exact Below.refl _ _) | (with_reducible assumption) | (with_reducible refine Later.out _ ?_) | (with_reducible refine bel_alloc ?_ _) | (with_reducible refine bel_drew ?_) | (with_reducible refine bel_drewN ?_ _) | (with_reducible refine bel_set ?_ ?_ _) | (with_reducible refine After.out _ ?_ ?_) | (dsimp only; omega) | omega | (simp only [World.size_alloc, World.size_setCell, World.size_drew]; omega)))))).mono ?_); rintro e w' ⟨rfl, y1, rfl⟩; have hs1 := y1.bel.size) | (go_at_call 134; (with_reducible refine (PN'.out _ (hr.out.bel (by (repeat (first | (with_reducible exact Below.refl _ _) | (with_reducible assumption) | (with_reducible refine Later.out _ ?_) | (with_reducible refine bel_alloc ?_ _) | (with_reducible refine bel_drew ?_) | (with_reducible refine bel_drewN ?_ _) | (with_reducible refine bel_set ?_ ?_ _) | (with_reducible refine After.out _ ?_ ?_) | (dsimp only; omega) | omega | (simp only [World.size_alloc, World.size_setCell, World.size_drew]; omega)))))).mono ?_); rintro e w' ⟨rfl, y2, rfl⟩; have hs2 := y2.bel.size) | (at_builtin; (refine wpList_append_later _ rfl _ _ _ rfl 9 ii _ 1 16 Tryz.underlying37 Jii.out.1 Jii.out.2.1 Jii.out.2.2.1 Jii.out.2.2.2 rfl (by decide) (w) ?qa8 _ _ _ (strCells out) rfl ?qa9 _ _ _ ([.string p]) rfl ?qa10 ?qa11 ?qa12 ?qa13 ?qa14 ?_); (case qa8 => (repeat (first | (with_reducible exact Below.refl _ _) | (with_reducible assumption) | (with_reducible refine Later.out _ ?_) | (with_reducible refine bel_alloc ?_ _) | (with_reducible refine bel_drew ?_) | (with_reducible refine bel_drewN ?_ _) | (with_reducible refine bel_set ?_ ?_ _) | (with_reducible refine After.out _ ?_ ?_) | (dsimp only; omega) | omega | (simp only [World.size_alloc, World.size_setCell, World.size_drew]; omega)))); (case qa9 => exact own_bel hown.out (by (repeat (first | (with_reducible exact Below.refl _ _) | (with_reducible assumption) | (with_reducible refine Later.out _ ?_) | (with_reducible refine bel_alloc ?_ _) | (with_reducible refine bel_drew ?_) | (with_reducible refine bel_drewN ?_ _) | (with_reducible refine bel_set ?_ ?_ _) | (with_reducible refine After.out _ ?_ ?_) | (dsimp only; omega) | omega | (simp only [World.size_alloc, World.size_setCell, World.size_drew]; omega))))); (case qa10 => (first | rfl | (simp [boolCells]; done) | (simp [intCells]; done) | (simp; done) | (first | omega | (simp only [List.length_append, List.length_cons, List.length_nil]; omega)))); (case qa11 => exact Row.made _ _ _); (case qa12 => exact one_str1 _); (case qa13 => (unfold maxLen; (first | omega | (simp only [List.length_append, List.length_cons, List.length_nil]; omega)))); (case qa14 => (first | omega | (simp only [List.length_append, List.length_cons, List.length_nil]; omega))); intro a9 c9 x9 hown9))
        refine bodyPost_ret (by simp [results, Tryz.results100, go_sem, ↓IntWalk.iteOmega, *]; try rfl) rfl ?_
        exact CircRet.mk (.slice none 0 0) [] rfl (by rw [X.out]; rfl) (World.ownsRow_nil _ _ _ _) (by rw [X.out]; intro s h; cases h) (by (repeat (first | (with_reducible exact Below.refl _ _) | (with_reducible assumption) | (with_reducible refine Later.out _ ?_) | (with_reducible refine bel_alloc ?_ _) | (with_reducible refine bel_drew ?_) | (with_reducible refine bel_drewN ?_ _) | (with_reducible refine bel_set ?_ ?_ _) | (with_reducible refine After.out _ ?_ ?_) | (dsimp only; omega) | omega | (simp only [World.size_alloc, World.size_setCell, World.size_drew]; omega))))
      | some nx =>
        have hne := hv.out.par hpar
        have hps : parS L y p = nx := by simp [parS, hpar]
        have PN' := fun w hr => PN.out p w hr
        rw [hps] at PN'
        replace PN' := Lib.hid PN'
        have X : SInv L y place (out ++ [p]) nx := by
          by_cases e : nx = place
          · subst e
            exact .inr ⟨hINV.out.head, by simp; omega, .inl ⟨rfl, hINV.out.close hpar⟩⟩
          · by_cases hin : nx ∈ out ++ [p]
            · exact .inr ⟨hin, by simp; omega, .inr ⟨e, hINV.out.again hpar e hin⟩⟩
            · exact .inl (hINV.out.on hpar e hin)
        replace X := Lib.hid X
        clear hps hpar
        go_wp2_with (first | (go_at_call 133; (with_reducible refine (hF.out _ (hrow.out.bel (by (repeat (first | (with_reducible exact Below.refl _ _) | (with_reducible assumption) | (with_reducible refine Later.out _ ?_) | (with_reducible refine bel_alloc ?_ _) | (with_reducible refine bel_drew ?_) | (with_reducible refine bel_drewN ?_ _) | (with_reducible refine bel_set ?_ ?_ _) | (with_reducible refine After.out _ ?_ ?_) | (dsimp only; omega) | omega | (simp only [World.size_alloc, World.size_setCell, World.size_drew]; omega)))))).mono ?_); rintro e w' ⟨rfl, y1, rfl⟩; have hs1 := y1.bel.size) | (go_at_call 134; (with_reducible refine (PN'.out _ (hr.out.bel (by (repeat (first | (with_reducible exact Below.refl _ _) | (with_reducible assumption) | (with_reducible refine Later.out _ ?_) | (with_reducible refine bel_alloc ?_ _) | (with_reducible refine bel_drew ?_) | (with_reducible refine bel_drewN ?_ _) | (with_reducible refine bel_set ?_ ?_ _) | (with_reducible refine After.out _ ?_ ?_) | (dsimp only; omega) | omega | (simp only [World.size_alloc, World.size_setCell, World.size_drew]; omega)))))).mono ?_); rintro e w' ⟨rfl, y2, rfl⟩; have hs2 := y2.bel.size) | (at_builtin; (refine wpList_append_later _ rfl _ _ _ rfl 9 ii _ 1 16 Tryz.underlying37 Jii.out.1 Jii.out.2.1 Jii.out.2.2.1 Jii.out.2.2.2 rfl (by decide) (w) ?qa15 _ _ _ (strCells out) rfl ?qa16 _ _ _ ([.string p]) rfl ?qa17 ?qa18 ?qa19 ?qa20 ?qa21 ?_); (case qa15 => (repeat (first | (with_reducible exact Below.refl _ _) | (with_reducible assumption) | (with_reducible refine Later.out _ ?_) | (with_reducible refine bel_alloc ?_ _) | (with_reducible refine bel_drew ?_) | (with_reducible refine bel_drewN ?_ _) | (with_reducible refine bel_set ?_ ?_ _) | (with_reducible refine After.out _ ?_ ?_) | (dsimp only; omega) | omega | (simp only [World.size_alloc, World.size_setCell, World.size_drew]; omega)))); (case qa16 => exact own_bel hown.out (by (repeat (first | (with_reducible exact Below.refl _ _) | (with_reducible assumption) | (with_reducible refine Later.out _ ?_) | (with_reducible refine bel_alloc ?_ _) | (with_reducible refine bel_drew ?_) | (with_reducible refine bel_drewN ?_ _) | (with_reducible refine bel_set ?_ ?_ _) | (with_reducible refine After.out _ ?_ ?_) | (dsimp only; omega) | omega | (simp only [World.size_alloc, World.size_setCell, World.size_drew]; omega))))); (case qa17 => (first | rfl | (simp [boolCells]; done) | (simp [intCells]; done) | (simp; done) | (first | omega | (simp only [List.length_append, List.length_cons, List.length_nil]; omega)))); (case qa18 => exact Row.made _ _ _); (case qa19 => exact one_str1 _); (case qa20 => (unfold maxLen; (first | omega | (simp only [List.length_append, List.length_cons, List.length_nil]; omega)))); (case qa21 => (first | omega | (simp only [List.length_append, List.length_cons, List.length_nil]; omega))); intro a9 c9 x9 hown9))
        replace hown9 := Lib.hid hown9
        go_roundw
        case rel =>
          refine ⟨out ++ [p], nx, a9, c9, by simp, rfl, ?_, X.out, LaterC.mk (by (repeat (first | (with_reducible exact Below.refl _ _) | (with_reducible assumption) | (with_reducible refine Later.out _ ?_) | (with_reducible refine bel_alloc ?_ _) | (with_reducible refine bel_drew ?_) | (with_reducible refine bel_drewN ?_ _) | (with_reducible refine bel_set ?_ ?_ _) | (with_reducible refine After.out _ ?_ ?_) | (dsimp only; omega) | omega | (simp only [World.size_alloc, World.size_setCell, World.size_drew]; omega))))⟩
          rw [strCells_snoc, List.length_append, List.length_cons, List.length_nil]
          exact own_bel hown9.out (by (repeat (first | (with_reducible exact Below.refl _ _) | (with_reducible assumption) | (with_reducible refine Later.out _ ?_) | (with_reducible refine bel_alloc ?_ _) | (with_reducible refine bel_drew ?_) | (with_reducible refine bel_drewN ?_ _) | (with_reducible refine bel_set ?_ ?_ _) | (with_reducible refine After.out _ ?_ ?_) | (dsimp only; omega) | omega | (simp only [World.size_alloc, World.size_setCell, World.size_drew]; omega))))
        case measure => simp only [sliceLen]; omega
    · have hge : 0 ≤ idxS p out := by
        rcases idxS_cases p out with ⟨_, h⟩ | ⟨h, _⟩
        · exact h
        · exact absurd hin h
      obtain ⟨r, hrr⟩ : ∃ r, idxS p out = r := ⟨_, rfl⟩
      rw [hrr] at hF hge
      replace hF := Lib.hid hF
      clear hrr
      rcases hend with ⟨e, hZ⟩ | ⟨e, hZ⟩
      · have e1 : (p.toList == place.toList) = true := by rw [toList_eq]; simp [e]
        replace hZ := Lib.hid hZ
        clear e
        go_wp2_with fail
        with_reducible refine (hF.out _ (hrow.out.bel (by (repeat (first | (with_reducible exact Below.refl _ _) | (with_reducible assumption) | (with_reducible refine Later.out _ ?_) | (with_reducible refine bel_alloc ?_ _) | (with_reducible refine bel_drew ?_) | (with_reducible refine bel_drewN ?_ _) | (with_reducible refine bel_set ?_ ?_ _) | (with_reducible refine After.out _ ?_ ?_) | (dsimp only; omega) | omega | (simp only [World.size_alloc, World.size_setCell, World.size_drew]; omega)))))).mono ?_
        rintro e w' ⟨rfl, y1, rfl⟩
        have hsy1 := y1.bel.size
        (try simp only [World.size_alloc, World.size_setCell, World.size_drew] at hsy1)
        go_wp2_with fail
        refine bodyPost_ret (by simp [results, Tryz.results100, go_sem, ↓IntWalk.iteOmega, *]; try rfl) rfl ?_
        exact CircRet.mk _ out rfl (by rw [hZ.out]; rfl) (own_bel hown.out (by (repeat (first | (with_reducible exact Below.refl _ _) | (with_reducible assumption) | (with_reducible refine Later.out _ ?_) | (with_reducible refine bel_alloc ?_ _) | (with_reducible refine bel_drew ?_) | (with_reducible refine bel_drewN ?_ _) | (with_reducible refine bel_set ?_ ?_ _) | (with_reducible refine After.out _ ?_ ?_) | (dsimp only; omega) | omega | (simp only [World.size_alloc, World.size_setCell, World.size_drew]; omega))))) (by rw [hZ.out]; intro s h; exact Option.some.inj h) (by (repeat (first | (with_reducible exact Below.refl _ _) | (with_reducible assumption) | (with_reducible refine Later.out _ ?_) | (with_reducible refine bel_alloc ?_ _) | (with_reducible refine bel_drew ?_) | (with_reducible refine bel_drewN ?_ _) | (with_reducible refine bel_set ?_ ?_ _) | (with_reducible refine After.out _ ?_ ?_) | (dsimp only; omega) | omega | (simp only [World.size_alloc, World.size_setCell, World.size_drew]; omega))))
      · have e1 : (p.toList == place.toList) = false := by rw [toList_eq]; simp [e]
        replace hZ := Lib.hid hZ
        clear e
        go_wp2_with fail
        with_reducible refine (hF.out _ (hrow.out.bel (by (repeat (first | (with_reducible exact Below.refl _ _) | (with_reducible assumption) | (with_reducible refine Later.out _ ?_) | (with_reducible refine bel_alloc ?_ _) | (with_reducible refine bel_drew ?_) | (with_reducible refine bel_drewN ?_ _) | (with_reducible refine bel_set ?_ ?_ _) | (with_reducible refine After.out _ ?_ ?_) | (dsimp only; omega) | omega | (simp only [World.size_alloc, World.size_setCell, World.size_drew]; omega)))))).mono ?_
        rintro e w' ⟨rfl, y1, rfl⟩
        have hsy1 := y1.bel.size
        (try simp only [World.size_alloc, World.size_setCell, World.size_drew] at hsy1)
        go_wp2_with fail
        refine bodyPost_ret (by simp [results, Tryz.results100, go_sem, ↓IntWalk.iteOmega, *]; try rfl) rfl ?_
        exact CircRet.mk _ out rfl (by rw [hZ.out]; rfl) (own_bel hown.out (by (repeat (first | (with_reducible exact Below.refl _ _) | (with_reducible assumption) | (with_reducible refine Later.out _ ?_) | (with_reducible refine bel_alloc ?_ _) | (with_reducible refine bel_drew ?_) | (with_reducible refine bel_drewN ?_ _) | (with_reducible refine bel_set ?_ ?_ _) | (with_reducible refine After.out _ ?_ ?_) | (dsimp only; omega) | omega | (simp only [World.size_alloc, World.size_setCell, World.size_drew]; omega))))) (by rw [hZ.out]; intro s h; cases h) (by (repeat (first | (with_reducible exact Below.refl _ _) | (with_reducible assumption) | (with_reducible refine Later.out _ ?_) | (with_reducible refine bel_alloc ?_ _) | (with_reducible refine bel_drew ?_) | (with_reducible refine bel_drewN ?_ _) | (with_reducible refine bel_set ?_ ?_ _) | (with_reducible refine After.out _ ?_ ?_) | (dsimp only; omega) | omega | (simp only [World.size_alloc, World.size_setCell, World.size_drew]; omega))))
end Go.Proofs.YtcpddgkloeklaaaGreatDoor
