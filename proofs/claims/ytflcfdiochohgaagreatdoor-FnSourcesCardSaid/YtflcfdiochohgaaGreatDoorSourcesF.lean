import Derived.Test.YtflcfdiochohgaaGreatDoorDrawF
import Derived.Test.YtflcfdiochohgaaGreatDoorLikeC
import Derived.Test.YtflcfdiochohgaaGreatDoorPackH
import Derived.Test.YtflcfdiochohgaaGreatDoorPackG
import Derived.Test.YtflcfdiochohgaaGreatDoorRepC
import Derived.Test.YtflcfdiochohgaaGreatDoorSrcL
import Derived.Test.YtflcfdiochohgaaGreatDoorMinL
/- The law Sources: the smallest sources contradict themselves, and no single one of them can be left out. -/
set_option linter.unusedSimpArgs false
set_option linter.unusedVariables false
namespace Go.Proofs.YtflcfdiochohgaaGreatDoor
open Go.RowKit
theorem sms_ok {L : List Clm} (h : smsK L = 0) : (smsR L).Nodup ∧ ∀ κ : Int, -1 ≤ κ → κ < (smsR L).length → codeZ L (idxs (srcP (smsR L) κ) L) = 0 ∧ chcR L (idxs (srcP (smsR L) κ) L) = decide (0 ≤ κ) := by
  unfold smsK at h
  cases hc : claimsB L
  · rw [hc] at h; cases h
  · cases hb : consB L
    · obtain ⟨h1, h2, h3⟩ := sms_law hc hb
      refine ⟨h1, fun κ h4 h5 => ?_⟩
      have hz := codeZ_ixs hc (ixs_idxs (srcP (smsR L) κ) L)
      refine ⟨hz, ?_⟩
      unfold chcR
      rw [if_pos hz]
      by_cases h6 : 0 ≤ κ
      · obtain ⟨k, rfl⟩ := Int.eq_ofNat_of_zero_le h6
        rw [h3 k (by omega), decide_eq_true h6]
      · obtain rfl : κ = -1 := by omega
        rw [h2]; rfl
    · rw [hc, hb] at h; cases h
def selIn (L : List Clm) (Z : List ByteArray) (κ : Int) (i j : Nat) (s : ByteArray) : List Int := idxsTo (srcP Z κ) L i ++ (if anyTo Z κ s j then [(i : Int)] else [])
theorem selIn_zero (L : List Clm) (Z : List ByteArray) (κ : Int) (i : Nat) (s : ByteArray) : selIn L Z κ i 0 s = idxsTo (srcP Z κ) L i := by simp [selIn, anyTo]
theorem selIn_full {L : List Clm} {Z : List ByteArray} {κ : Int} {i : Nat} (h : i < L.length) : selIn L Z κ i Z.length L[i].src = idxsTo (srcP Z κ) L (i + 1) := by
  unfold selIn
  cases hp : srcP Z κ L[i]
  · rw [idxsTo_no h hp]
    unfold srcP at hp
    rw [hp]; simp
  · rw [idxsTo_yes h hp]
    unfold srcP at hp
    rw [hp]; rfl
theorem selIn_no {L : List Clm} {Z : List ByteArray} {κ : Int} {i j : Nat} {s : ByteArray} (h : anyTo Z κ s (j + 1) = anyTo Z κ s j) : selIn L Z κ i (j + 1) s = selIn L Z κ i j s := by unfold selIn; rw [h]
theorem selIn_yes {L : List Clm} {Z : List ByteArray} {κ : Int} {i j : Nat} {s : ByteArray} (h1 : anyTo Z κ s j = false) (h2 : anyTo Z κ s (j + 1) = true) : selIn L Z κ i (j + 1) s = selIn L Z κ i j s ++ [(i : Int)] := by unfold selIn; rw [h1, h2]; simp
theorem selIn_le (L : List Clm) (Z : List ByteArray) (κ : Int) (i j : Nat) (s : ByteArray) : (selIn L Z κ i j s).length ≤ i + 1 := by
  unfold selIn
  have := length_idxsTo (srcP Z κ) L i
  split <;> simp <;> omega
set_option maxRecDepth 8000 in
set_option maxHeartbeats 16000000 in
theorem lawSources_any (a : Option Addr) (n c : Nat) (bs : List Int) (w : World) (hr : Row w a (byteCells bs)) (hl : bs.length = n) (hm : n ≤ maxLen) (hx : ∀ x ∈ bs, 0 ≤ x ∧ x ≤ 255) (hM : Max w) :
    Calls Tryz.prog 6 #[.slice a n c] w (Ret w (.bool true)) := by
  by_cases hbig : 4096 < n
  · clear hr hl hx hM
    go_enter Tryz.func6, Tryz.ntmps6
    go_wp2_with fail
    with_reducible refine (big_yes _ _ _ _ hbig hm).mono ?_
    rintro e w' ⟨rfl, y0, rfl⟩
    have hsy0 := y0.bel.size
    (try simp only [World.size_alloc, World.size_setCell, World.size_drew] at hsy0)
    go_wp2_with fail
    go_ret
    refine .mk rfl ?_
    (repeat (first | (with_reducible exact Below.refl _ _) | (with_reducible assumption) | (with_reducible refine Later.out _ ?_) | (with_reducible refine bel_alloc ?_ _) | (with_reducible refine bel_drew ?_) | (with_reducible refine bel_drewN ?_ _) | (with_reducible refine bel_set ?_ ?_ _) | (with_reducible refine After.out _ ?_ ?_) | (dsimp only; omega) | omega | (simp only [World.size_alloc, World.size_setCell, World.size_drew]; omega)))
  have hn4 : n ≤ 4096 := by omega
  obtain ⟨ii, j1, j2, j3, j4⟩ := info_i64'
  have Jii := Lib.hid (And.intro j1 (And.intro j2 (And.intro j3 j4)))
  clear j1 j2 j3 j4
  replace hr := Lib.hid hr
  replace hx := Lib.hid hx
  replace hl := Lib.hid hl
  replace hM := Lib.hid hM
  clear hbig hm
  go_enter Tryz.func6, Tryz.ntmps6
  go_wp2_with fail
  with_reducible refine (big_no _ _ _ _ hn4).mono ?_
  rintro e w' ⟨rfl, y0, rfl⟩
  have hsy0 := y0.bel.size
  (try simp only [World.size_alloc, World.size_setCell, World.size_drew] at hsy0)
  go_wp2_with fail
  with_reducible refine (drawSmallestSources_any a n c bs _ (hr.out.bel (by (repeat (first | (with_reducible exact Below.refl _ _) | (with_reducible assumption) | (with_reducible refine Later.out _ ?_) | (with_reducible refine bel_alloc ?_ _) | (with_reducible refine bel_drew ?_) | (with_reducible refine bel_drewN ?_ _) | (with_reducible refine bel_set ?_ ?_ _) | (with_reducible refine After.out _ ?_ ?_) | (dsimp only; omega) | omega | (simp only [World.size_alloc, World.size_setCell, World.size_drew]; omega))))) hl.out hn4 hx.out).mono ?_
  rintro e w' ⟨L1, aL1, cL1, hok1, hl1, rfl, z1, rfl, ho1⟩
  have hsz1 := z1.bel.size
  (try simp only [World.size_alloc, World.size_setCell, World.size_drew] at hsz1)
  have hrow1 := Lib.hid ho1.row
  have hcap1 := ho1.cap
  have ok1 : ∀ x ∈ L1, ClmOk x := fun x hx => okC_ok (hok1 x hx)
  clear ho1 hok1
  have CA1 := fun w hr hM => sms_impl L1 aL1 L1.length cL1 w rfl (by omega) hr ok1 hcap1 hM
  have CA2 := fun w hr => sms_spec L1 aL1 L1.length cL1 w rfl (by omega) hr ok1
  have hlaw := fun h => sms_ok (L := L1) h
  have hR1l := smsR_len L1 (n := L1.length) rfl (by omega)
  have CX := fun (S : List Int) (hS : S.length ≤ 1048576) aT cT w hr hr' hM => chc_impl L1 S aL1 L1.length cL1 aT S.length cT w rfl (by omega) rfl hS hr hr' ok1 hM
  obtain ⟨Z, eZ⟩ : ∃ R, smsR L1 = R := ⟨_, rfl⟩
  obtain ⟨K1, eK1⟩ : ∃ R, smsK L1 = R := ⟨_, rfl⟩
  simp only [eZ, eK1] at CA1 CA2
  rw [eZ, eK1] at hlaw
  rw [eZ] at hR1l
  replace CA1 := Lib.hid CA1
  replace CA2 := Lib.hid CA2
  replace CX := Lib.hid CX
  replace hlaw := Lib.hid hlaw
  clear eZ eK1
  go_wp2_with fail
  with_reducible refine (CA1.out _ (hrow1.out.bel (by (repeat (first | (with_reducible exact Below.refl _ _) | (with_reducible assumption) | (with_reducible refine Later.out _ ?_) | (with_reducible refine bel_alloc ?_ _) | (with_reducible refine bel_drew ?_) | (with_reducible refine bel_drewN ?_ _) | (with_reducible refine bel_set ?_ ?_ _) | (with_reducible refine After.out _ ?_ ?_) | (dsimp only; omega) | omega | (simp only [World.size_alloc, World.size_setCell, World.size_drew]; omega))))) (hM.out.bel (by (repeat (first | (with_reducible exact Below.refl _ _) | (with_reducible assumption) | (with_reducible refine Later.out _ ?_) | (with_reducible refine bel_alloc ?_ _) | (with_reducible refine bel_drew ?_) | (with_reducible refine bel_drewN ?_ _) | (with_reducible refine bel_set ?_ ?_ _) | (with_reducible refine After.out _ ?_ ?_) | (dsimp only; omega) | omega | (simp only [World.size_alloc, World.size_setCell, World.size_drew]; omega)))))).mono ?_
  rintro e w' ⟨a1, c1, rfl, hown, y1, rfl⟩
  have hsy1 := y1.bel.size
  (try simp only [World.size_alloc, World.size_setCell, World.size_drew] at hsy1)
  have O1 := Lib.hid (Owns.of hown)
  clear hown
  go_wp2_with fail
  with_reducible refine (CA2.out _ (hrow1.out.bel (by (repeat (first | (with_reducible exact Below.refl _ _) | (with_reducible assumption) | (with_reducible refine Later.out _ ?_) | (with_reducible refine bel_alloc ?_ _) | (with_reducible refine bel_drew ?_) | (with_reducible refine bel_drewN ?_ _) | (with_reducible refine bel_set ?_ ?_ _) | (with_reducible refine After.out _ ?_ ?_) | (dsimp only; omega) | omega | (simp only [World.size_alloc, World.size_setCell, World.size_drew]; omega)))))).mono ?_
  rintro e w' ⟨a2, c2, rfl, hown, y2, rfl⟩
  have hsy2 := y2.bel.size
  (try simp only [World.size_alloc, World.size_setCell, World.size_drew] at hsy2)
  have O2 := Lib.hid (Owns.of hown)
  clear hown
  go_wp2_with fail
  with_reducible refine (drawSourcesOf_any a n c bs _ (hr.out.bel (by (repeat (first | (with_reducible exact Below.refl _ _) | (with_reducible assumption) | (with_reducible refine Later.out _ ?_) | (with_reducible refine bel_alloc ?_ _) | (with_reducible refine bel_drew ?_) | (with_reducible refine bel_drewN ?_ _) | (with_reducible refine bel_set ?_ ?_ _) | (with_reducible refine After.out _ ?_ ?_) | (dsimp only; omega) | omega | (simp only [World.size_alloc, World.size_setCell, World.size_drew]; omega))))) hl.out hn4 hx.out).mono ?_
  rintro e w' ⟨L2, aL2, cL2, S2, aS2, cS2, hok2, hl2, hS2, rfl, z2, rfl, ho2, hoS2⟩
  have hsz2 := z2.bel.size
  (try simp only [World.size_alloc, World.size_setCell, World.size_drew] at hsz2)
  have hrow2 := Lib.hid ho2.row
  have hrowS2 := Lib.hid hoS2.row
  have hcap2 := hoS2.cap
  have hshp2 := hoS2.shp
  have ok2 : ∀ x ∈ L2, ClmOk x := fun x hx => okC_ok (hok2 x hx)
  clear ho2 hoS2 hok2
  have CS1 := fun w hr hr' hM => src_impl L2 S2 aL2 L2.length cL2 aS2 S2.length cS2 w rfl (by omega) rfl (by omega) hr hr' ok2 hM
  have CS2 := fun w hr hr' => src_spec L2 S2 aL2 L2.length cL2 aS2 S2.length cS2 w rfl (by omega) rfl (by omega) hr hr' ok2
  have hR2l := srcR_len L2 S2 (n := L2.length) rfl (by omega)
  obtain ⟨R2, eR2⟩ : ∃ R, srcR L2 S2 = R := ⟨_, rfl⟩
  obtain ⟨K2, eK2⟩ : ∃ R, codeZ L2 S2 = R := ⟨_, rfl⟩
  simp only [eR2, eK2] at CS1 CS2
  rw [eR2] at hR2l
  replace CS1 := Lib.hid CS1
  replace CS2 := Lib.hid CS2
  clear eR2 eK2
  go_wp2_with fail
  with_reducible refine (CS1.out _ (hrow2.out.bel (by (repeat (first | (with_reducible exact Below.refl _ _) | (with_reducible assumption) | (with_reducible refine Later.out _ ?_) | (with_reducible refine bel_alloc ?_ _) | (with_reducible refine bel_drew ?_) | (with_reducible refine bel_drewN ?_ _) | (with_reducible refine bel_set ?_ ?_ _) | (with_reducible refine After.out _ ?_ ?_) | (dsimp only; omega) | omega | (simp only [World.size_alloc, World.size_setCell, World.size_drew]; omega))))) (hrowS2.out.bel (by (repeat (first | (with_reducible exact Below.refl _ _) | (with_reducible assumption) | (with_reducible refine Later.out _ ?_) | (with_reducible refine bel_alloc ?_ _) | (with_reducible refine bel_drew ?_) | (with_reducible refine bel_drewN ?_ _) | (with_reducible refine bel_set ?_ ?_ _) | (with_reducible refine After.out _ ?_ ?_) | (dsimp only; omega) | omega | (simp only [World.size_alloc, World.size_setCell, World.size_drew]; omega))))) (hM.out.bel (by (repeat (first | (with_reducible exact Below.refl _ _) | (with_reducible assumption) | (with_reducible refine Later.out _ ?_) | (with_reducible refine bel_alloc ?_ _) | (with_reducible refine bel_drew ?_) | (with_reducible refine bel_drewN ?_ _) | (with_reducible refine bel_set ?_ ?_ _) | (with_reducible refine After.out _ ?_ ?_) | (dsimp only; omega) | omega | (simp only [World.size_alloc, World.size_setCell, World.size_drew]; omega)))))).mono ?_
  rintro e w' ⟨a3, c3, rfl, hown, y3, rfl⟩
  have hsy3 := y3.bel.size
  (try simp only [World.size_alloc, World.size_setCell, World.size_drew] at hsy3)
  have O3 := Lib.hid (Owns.of hown)
  clear hown
  go_wp2_with fail
  with_reducible refine (CS2.out _ (hrow2.out.bel (by (repeat (first | (with_reducible exact Below.refl _ _) | (with_reducible assumption) | (with_reducible refine Later.out _ ?_) | (with_reducible refine bel_alloc ?_ _) | (with_reducible refine bel_drew ?_) | (with_reducible refine bel_drewN ?_ _) | (with_reducible refine bel_set ?_ ?_ _) | (with_reducible refine After.out _ ?_ ?_) | (dsimp only; omega) | omega | (simp only [World.size_alloc, World.size_setCell, World.size_drew]; omega))))) (hrowS2.out.bel (by (repeat (first | (with_reducible exact Below.refl _ _) | (with_reducible assumption) | (with_reducible refine Later.out _ ?_) | (with_reducible refine bel_alloc ?_ _) | (with_reducible refine bel_drew ?_) | (with_reducible refine bel_drewN ?_ _) | (with_reducible refine bel_set ?_ ?_ _) | (with_reducible refine After.out _ ?_ ?_) | (dsimp only; omega) | omega | (simp only [World.size_alloc, World.size_setCell, World.size_drew]; omega)))))).mono ?_
  rintro e w' ⟨a4, c4, rfl, hown, y4, rfl⟩
  have hsy4 := y4.bel.size
  (try simp only [World.size_alloc, World.size_setCell, World.size_drew] at hsy4)
  have O4 := Lib.hid (Owns.of hown)
  clear hown
  go_wp2_with fail
  with_reducible refine (likeTexts_same _ _ _ _ _ _ _ _ rfl rfl hR1l (O1.out.row.bel (by (repeat (first | (with_reducible exact Below.refl _ _) | (with_reducible assumption) | (with_reducible refine Later.out _ ?_) | (with_reducible refine bel_alloc ?_ _) | (with_reducible refine bel_drew ?_) | (with_reducible refine bel_drewN ?_ _) | (with_reducible refine bel_set ?_ ?_ _) | (with_reducible refine After.out _ ?_ ?_) | (dsimp only; omega) | omega | (simp only [World.size_alloc, World.size_setCell, World.size_drew]; omega))))) (O2.out.row.bel (by (repeat (first | (with_reducible exact Below.refl _ _) | (with_reducible assumption) | (with_reducible refine Later.out _ ?_) | (with_reducible refine bel_alloc ?_ _) | (with_reducible refine bel_drew ?_) | (with_reducible refine bel_drewN ?_ _) | (with_reducible refine bel_set ?_ ?_ _) | (with_reducible refine After.out _ ?_ ?_) | (dsimp only; omega) | omega | (simp only [World.size_alloc, World.size_setCell, World.size_drew]; omega)))))).mono ?_
  rintro e w' ⟨rfl, y5, rfl⟩
  have hsy5 := y5.bel.size
  (try simp only [World.size_alloc, World.size_setCell, World.size_drew] at hsy5)
  go_wp2_with fail
  with_reducible refine (likeTexts_same _ _ _ _ _ _ _ _ rfl rfl hR2l (O3.out.row.bel (by (repeat (first | (with_reducible exact Below.refl _ _) | (with_reducible assumption) | (with_reducible refine Later.out _ ?_) | (with_reducible refine bel_alloc ?_ _) | (with_reducible refine bel_drew ?_) | (with_reducible refine bel_drewN ?_ _) | (with_reducible refine bel_set ?_ ?_ _) | (with_reducible refine After.out _ ?_ ?_) | (dsimp only; omega) | omega | (simp only [World.size_alloc, World.size_setCell, World.size_drew]; omega))))) (O4.out.row.bel (by (repeat (first | (with_reducible exact Below.refl _ _) | (with_reducible assumption) | (with_reducible refine Later.out _ ?_) | (with_reducible refine bel_alloc ?_ _) | (with_reducible refine bel_drew ?_) | (with_reducible refine bel_drewN ?_ _) | (with_reducible refine bel_set ?_ ?_ _) | (with_reducible refine After.out _ ?_ ?_) | (dsimp only; omega) | omega | (simp only [World.size_alloc, World.size_setCell, World.size_drew]; omega)))))).mono ?_
  rintro e w' ⟨rfl, y6, rfl⟩
  have hsy6 := y6.bel.size
  (try simp only [World.size_alloc, World.size_setCell, World.size_drew] at hsy6)
  have hrowZ := Lib.hid (O1.out.row.bel (w' := y6.w) (by (repeat (first | (with_reducible exact Below.refl _ _) | (with_reducible assumption) | (with_reducible refine Later.out _ ?_) | (with_reducible refine bel_alloc ?_ _) | (with_reducible refine bel_drew ?_) | (with_reducible refine bel_drewN ?_ _) | (with_reducible refine bel_set ?_ ?_ _) | (with_reducible refine After.out _ ?_ ?_) | (dsimp only; omega) | omega | (simp only [World.size_alloc, World.size_setCell, World.size_drew]; omega)))))
  have hrowL := Lib.hid (hrow1.out.bel (w' := y6.w) (by (repeat (first | (with_reducible exact Below.refl _ _) | (with_reducible assumption) | (with_reducible refine Later.out _ ?_) | (with_reducible refine bel_alloc ?_ _) | (with_reducible refine bel_drew ?_) | (with_reducible refine bel_drewN ?_ _) | (with_reducible refine bel_set ?_ ?_ _) | (with_reducible refine After.out _ ?_ ?_) | (dsimp only; omega) | omega | (simp only [World.size_alloc, World.size_setCell, World.size_drew]; omega)))))
  have hM9 := Lib.hid (hM.out.bel (w' := y6.w) (by (repeat (first | (with_reducible exact Below.refl _ _) | (with_reducible assumption) | (with_reducible refine Later.out _ ?_) | (with_reducible refine bel_alloc ?_ _) | (with_reducible refine bel_drew ?_) | (with_reducible refine bel_drewN ?_ _) | (with_reducible refine bel_set ?_ ?_ _) | (with_reducible refine After.out _ ?_ ?_) | (dsimp only; omega) | omega | (simp only [World.size_alloc, World.size_setCell, World.size_drew]; omega)))))
  have hB9 : Below w.heap.size w y6.w := by (repeat (first | (with_reducible exact Below.refl _ _) | (with_reducible assumption) | (with_reducible refine Later.out _ ?_) | (with_reducible refine bel_alloc ?_ _) | (with_reducible refine bel_drew ?_) | (with_reducible refine bel_drewN ?_ _) | (with_reducible refine bel_set ?_ ?_ _) | (with_reducible refine After.out _ ?_ ?_) | (dsimp only; omega) | omega | (simp only [World.size_alloc, World.size_setCell, World.size_drew]; omega)))
  obtain ⟨V, hV⟩ : ∃ V, y6.w = V := ⟨_, rfl⟩
  rw [hV] at hrowZ hrowL hM9 hB9
  rw [hV]
  clear hV
  by_cases hK1 : K1 = 0
  · obtain ⟨hnd, hlw⟩ := hlaw.out hK1
    subst hK1
    replace hnd := Lib.hid hnd
    replace hlw := Lib.hid hlw
    go_wp2_with fail
    go_loopw [14, 15, 16, 17, 18, 19] (fun k _ _ _ _ _ wr => ∃ κ : Int, -1 ≤ κ ∧ κ ≤ Z.length ∧ k = .int .i64 κ ∧ ∃ z : Later V, wr = z.w) (fun k _ _ _ _ _ _ => (Z.length + 1) - (intOf k + 1).toNat)
    case atStart => exact ⟨-1, by omega, by omega, rfl, ⟨V, Below.refl _ _⟩, rfl⟩
    case round =>
      obtain ⟨κ, hκ0, hκ1, rfl, q, rfl⟩ := hrel
      have hsq := q.bel.size
      by_cases hκ2 : κ < (Z.length : Int)
      · obtain ⟨f1, f2⟩ := hlw.out κ hκ0 hκ2
        have hown0 := Lib.hid (World.ownsRow_lit (base := q.w.heap.size) (e := 2) (size := 1) q.w #[] 0 (Nat.le_refl _) (by unfold maxLen; omega) rfl)
        replace f1 := Lib.hid f1
        replace f2 := Lib.hid f2
        go_wp2_with fail
        go_loopw [15, 16, 17] (fun o i _ wr => ∃ (m : Nat) (a5 : Option Addr) (c5 : Nat), m ≤ L1.length ∧ i = .int .i64 m ∧ o = .slice a5 (idxsTo (srcP Z κ) L1 m).length c5 ∧ wr.ownsRow q.w.heap.size 2 1 (.slice a5 (idxsTo (srcP Z κ) L1 m).length c5) (idxsTo (srcP Z κ) L1 m).length (intCells (idxsTo (srcP Z κ) L1 m)) ∧ ∃ z : Later q.w, wr = z.w) (fun _ i _ _ => L1.length - (intOf i).toNat)
        case atStart => exact ⟨0, _, _, Nat.zero_le _, rfl, rfl, hown0.out, LaterC.mk (by (repeat (first | (with_reducible exact Below.refl _ _) | (with_reducible assumption) | (with_reducible refine Later.out _ ?_) | (with_reducible refine bel_alloc ?_ _) | (with_reducible refine bel_drew ?_) | (with_reducible refine bel_drewN ?_ _) | (with_reducible refine bel_set ?_ ?_ _) | (with_reducible refine After.out _ ?_ ?_) | (dsimp only; omega) | omega | (simp only [World.size_alloc, World.size_setCell, World.size_drew]; omega))))⟩
        case round =>
          obtain ⟨m, a5, c5, hm5, rfl, rfl, hown, z, rfl⟩ := hrel
          have hsz := z.bel.size
          clear hown0
          by_cases hlt : m < L1.length
          · have hi1 : (m : Int) < (L1.length : Int) := by omega
            obtain ⟨b, o, rfl, hb, q0, q1, q2, q3, q4, q5, q6⟩ := hrowL.out.clm hlt
            clear q1 q2 q3 q4 q5 q6
            have XF := Lib.hid (selIn_full (Z := Z) (κ := κ) hlt)
            obtain ⟨sr, hsr⟩ : ∃ s, L1[m].src = s := ⟨_, rfl⟩
            rw [hsr] at q0 XF
            clear hsr
            rw [← selIn_zero L1 Z κ m sr] at hown
            replace hown := Lib.hid hown
            go_wp2_with fail
            go_loopw [15, 17] (fun o j wr => ∃ (t : Nat) (a6 : Option Addr) (c6 : Nat), t ≤ Z.length ∧ j = .int .i64 t ∧ o = .slice a6 (selIn L1 Z κ m t sr).length c6 ∧ wr.ownsRow q.w.heap.size 2 1 (.slice a6 (selIn L1 Z κ m t sr).length c6) (selIn L1 Z κ m t sr).length (intCells (selIn L1 Z κ m t sr)) ∧ ∃ z : Later q.w, wr = z.w) (fun _ j _ => Z.length - (intOf j).toNat)
            case atStart => exact ⟨0, _, _, Nat.zero_le _, rfl, by rw [selIn_zero], hown.out, z, rfl⟩
            case round =>
              obtain ⟨t, a6, c6, ht, rfl, rfl, hown6, x, rfl⟩ := hrel
              have hsx := x.bel.size
              clear hown
              replace hown6 := Lib.hid hown6
              have hle6 := selIn_le L1 Z κ m t sr
              by_cases hlt2 : t < Z.length
              · have hi2 : (t : Int) < (Z.length : Int) := by omega
                obtain ⟨b', o', eb', hb', hc'⟩ := hrowZ.out.str hlt2
                subst eb'
                by_cases hjk : (t : Int) = κ
                · have X := Lib.hid (selIn_no (L := L1) (i := m) (anyTo_skip (Z := Z) (s := sr) hjk))
                  have hjk' : ((t : Int) != κ) = false := by simp [hjk]
                  clear hjk
                  go_wp2_with fail
                  refine wp_region_later (by kernel_rfl) (by kernel_rfl) ?_
                  repeat (go_big_quiet_step (fail))
                  refine wpQuiet_nil ?_
                  rintro _ ⟨xq, rfl⟩
                  go_wp2_with fail
                  go_roundw
                  case rel => exact ⟨t + 1, a6, c6, by omega, by go_num, by rw [X.out], by rw [X.out]; exact own_bel hown6.out (by (repeat (first | (with_reducible exact Below.refl _ _) | (with_reducible assumption) | (with_reducible refine Later.out _ ?_) | (with_reducible refine bel_alloc ?_ _) | (with_reducible refine bel_drew ?_) | (with_reducible refine bel_drewN ?_ _) | (with_reducible refine bel_set ?_ ?_ _) | (with_reducible refine After.out _ ?_ ?_) | (dsimp only; omega) | omega | (simp only [World.size_alloc, World.size_setCell, World.size_drew]; omega)))), LaterC.mk (by (repeat (first | (with_reducible exact Below.refl _ _) | (with_reducible assumption) | (with_reducible refine Later.out _ ?_) | (with_reducible refine bel_alloc ?_ _) | (with_reducible refine bel_drew ?_) | (with_reducible refine bel_drewN ?_ _) | (with_reducible refine bel_set ?_ ?_ _) | (with_reducible refine After.out _ ?_ ?_) | (dsimp only; omega) | omega | (simp only [World.size_alloc, World.size_setCell, World.size_drew]; omega))))⟩
                  case measure => first | (simp [intOf]; done) | (simp [intOf]; omega) | omega
                · have hjk' : ((t : Int) != κ) = true := by simpa using hjk
                  rcases sameB sr Z[t] with ⟨e, e1⟩ | ⟨e, e1⟩
                  · have hg : sr = Z.getD t ByteArray.empty := by rw [getD_at hlt2]; exact e
                    have X := Lib.hid (selIn_yes (L := L1) (i := m) (anyTo_once (k := κ) hnd.out hlt2 hg) (anyTo_yes hjk hg))
                    clear hjk e hg
                    obtain ⟨N, hN⟩ : ∃ N, selIn L1 Z κ m t sr = N := ⟨_, rfl⟩
                    rw [hN] at hown6 X hle6
                    simp only [hN]
                    clear hN
                    go_wp2_with fail
                    refine wp_region_later (by kernel_rfl) (by kernel_rfl) ?_
                    repeat (go_big_quiet_step (fail))
                    refine wpQuiet_nil ?_
                    rintro _ ⟨xq, rfl⟩
                    go_wp2_with (at_builtin; (refine wpList_append_later _ rfl _ _ _ rfl 2 ii _ 1 8 Tryz.underlying35 Jii.out.1 Jii.out.2.1 Jii.out.2.2.1 Jii.out.2.2.2 rfl (by decide) (q.w) ?qa1 _ _ _ (intCells N) rfl ?qa2 _ _ _ ([.int .i64 m]) rfl ?qa3 ?qa4 ?qa5 ?qa6 ?qa7 ?_); (case qa1 => (repeat (first | (with_reducible exact Below.refl _ _) | (with_reducible assumption) | (with_reducible refine Later.out _ ?_) | (with_reducible refine bel_alloc ?_ _) | (with_reducible refine bel_drew ?_) | (with_reducible refine bel_drewN ?_ _) | (with_reducible refine bel_set ?_ ?_ _) | (with_reducible refine After.out _ ?_ ?_) | (dsimp only; omega) | omega | (simp only [World.size_alloc, World.size_setCell, World.size_drew]; omega)))); (case qa2 => exact own_bel hown6.out (by (repeat (first | (with_reducible exact Below.refl _ _) | (with_reducible assumption) | (with_reducible refine Later.out _ ?_) | (with_reducible refine bel_alloc ?_ _) | (with_reducible refine bel_drew ?_) | (with_reducible refine bel_drewN ?_ _) | (with_reducible refine bel_set ?_ ?_ _) | (with_reducible refine After.out _ ?_ ?_) | (dsimp only; omega) | omega | (simp only [World.size_alloc, World.size_setCell, World.size_drew]; omega))))); (case qa3 => (first | rfl | (simp [boolCells]; done) | (simp [intCells]; done) | (simp; done) | (first | omega | (simp only [List.length_append, List.length_cons, List.length_nil]; omega)))); (case qa4 => exact Row.made _ _ _); (case qa5 => exact one_int1 _); (case qa6 => (unfold maxLen; (first | omega | (simp only [List.length_append, List.length_cons, List.length_nil]; omega)))); (case qa7 => (first | omega | (simp only [List.length_append, List.length_cons, List.length_nil]; omega))); intro a9 c9 x9 hown9)
                    replace hown9 := Lib.hid hown9
                    go_roundw
                    case rel => exact ⟨t + 1, a9, c9, by omega, by go_num, by rw [X.out]; simp, by rw [X.out, intCells_snoc]; simpa using hown9.out, x9, rfl⟩
                    case measure => first | (simp [intOf]; done) | (simp [intOf]; omega) | omega
                  · have X := Lib.hid (selIn_no (L := L1) (i := m) (anyTo_no (Z := Z) (k := κ) (s := sr) (j := t) (by rw [getD_at hlt2]; exact e)))
                    clear hjk e
                    go_wp2_with fail
                    refine wp_region_later (by kernel_rfl) (by kernel_rfl) ?_
                    repeat (go_big_quiet_step (fail))
                    refine wpQuiet_nil ?_
                    rintro _ ⟨xq, rfl⟩
                    go_wp2_with fail
                    go_roundw
                    case rel => exact ⟨t + 1, a6, c6, by omega, by go_num, by rw [X.out], by rw [X.out]; exact own_bel hown6.out (by (repeat (first | (with_reducible exact Below.refl _ _) | (with_reducible assumption) | (with_reducible refine Later.out _ ?_) | (with_reducible refine bel_alloc ?_ _) | (with_reducible refine bel_drew ?_) | (with_reducible refine bel_drewN ?_ _) | (with_reducible refine bel_set ?_ ?_ _) | (with_reducible refine After.out _ ?_ ?_) | (dsimp only; omega) | omega | (simp only [World.size_alloc, World.size_setCell, World.size_drew]; omega)))), LaterC.mk (by (repeat (first | (with_reducible exact Below.refl _ _) | (with_reducible assumption) | (with_reducible refine Later.out _ ?_) | (with_reducible refine bel_alloc ?_ _) | (with_reducible refine bel_drew ?_) | (with_reducible refine bel_drewN ?_ _) | (with_reducible refine bel_set ?_ ?_ _) | (with_reducible refine After.out _ ?_ ?_) | (dsimp only; omega) | omega | (simp only [World.size_alloc, World.size_setCell, World.size_drew]; omega))))⟩
                    case measure => first | (simp [intOf]; done) | (simp [intOf]; omega) | omega
              · obtain rfl : t = Z.length := by omega
                have hi2 : ¬ (Z.length : Int) < (Z.length : Int) := by omega
                go_wp2_with fail
                go_roundw
                case rel => exact ⟨m + 1, a6, c6, by omega, by go_num, by rw [XF.out], by rw [← XF.out]; exact hown6.out, x, rfl⟩
                case measure => first | (simp [intOf]; done) | (simp [intOf]; omega) | omega
          · obtain rfl : m = L1.length := by omega
            have hi1 : ¬ (L1.length : Int) < (L1.length : Int) := by omega
            have hrowS := Lib.hid (Row.of_own hown)
            have hle5 := length_idxsTo (srcP Z κ) L1 L1.length
            have CY := fun aT cT w hr hr' hM => CX.out (idxsTo (srcP Z κ) L1 L1.length) (by omega) aT cT w hr hr' hM
            have f1' := f1.out
            have f2' := f2.out
            unfold idxs at f1' f2'
            rw [f1', f2'] at CY
            replace CY := Lib.hid CY
            obtain ⟨N, hN⟩ : ∃ N, idxsTo (srcP Z κ) L1 L1.length = N := ⟨_, rfl⟩
            rw [hN] at CY hrowS
            simp only [hN]
            clear hN f1' f2' hown
            by_cases hneg : 0 ≤ κ
            · have CY2 := CY.out
              rw [decide_eq_true hneg] at CY2
              replace CY2 := Lib.hid CY2
              go_wp2_with fail
              with_reducible refine (CY2.out _ _ _ (hrowL.out.bel (by (repeat (first | (with_reducible exact Below.refl _ _) | (with_reducible assumption) | (with_reducible refine Later.out _ ?_) | (with_reducible refine bel_alloc ?_ _) | (with_reducible refine bel_drew ?_) | (with_reducible refine bel_drewN ?_ _) | (with_reducible refine bel_set ?_ ?_ _) | (with_reducible refine After.out _ ?_ ?_) | (dsimp only; omega) | omega | (simp only [World.size_alloc, World.size_setCell, World.size_drew]; omega))))) (hrowS.out.bel (by (repeat (first | (with_reducible exact Below.refl _ _) | (with_reducible assumption) | (with_reducible refine Later.out _ ?_) | (with_reducible refine bel_alloc ?_ _) | (with_reducible refine bel_drew ?_) | (with_reducible refine bel_drewN ?_ _) | (with_reducible refine bel_set ?_ ?_ _) | (with_reducible refine After.out _ ?_ ?_) | (dsimp only; omega) | omega | (simp only [World.size_alloc, World.size_setCell, World.size_drew]; omega))))) (hM9.out.bel (by (repeat (first | (with_reducible exact Below.refl _ _) | (with_reducible assumption) | (with_reducible refine Later.out _ ?_) | (with_reducible refine bel_alloc ?_ _) | (with_reducible refine bel_drew ?_) | (with_reducible refine bel_drewN ?_ _) | (with_reducible refine bel_set ?_ ?_ _) | (with_reducible refine After.out _ ?_ ?_) | (dsimp only; omega) | omega | (simp only [World.size_alloc, World.size_setCell, World.size_drew]; omega)))))).mono ?_
              rintro e w' ⟨rfl, y9, rfl⟩
              have hsy9 := y9.bel.size
              (try simp only [World.size_alloc, World.size_setCell, World.size_drew] at hsy9)
              go_wp2_with fail
              go_roundw
              case rel => exact ⟨κ + 1, by omega, by omega, by go_num, LaterC.mk (by (repeat (first | (with_reducible exact Below.refl _ _) | (with_reducible assumption) | (with_reducible refine Later.out _ ?_) | (with_reducible refine bel_alloc ?_ _) | (with_reducible refine bel_drew ?_) | (with_reducible refine bel_drewN ?_ _) | (with_reducible refine bel_set ?_ ?_ _) | (with_reducible refine After.out _ ?_ ?_) | (dsimp only; omega) | omega | (simp only [World.size_alloc, World.size_setCell, World.size_drew]; omega))))⟩
              case measure => first | (simp [intOf]; done) | (simp [intOf]; omega) | omega
            · have CY2 := CY.out
              rw [decide_eq_false hneg] at CY2
              replace CY2 := Lib.hid CY2
              go_wp2_with fail
              with_reducible refine (CY2.out _ _ _ (hrowL.out.bel (by (repeat (first | (with_reducible exact Below.refl _ _) | (with_reducible assumption) | (with_reducible refine Later.out _ ?_) | (with_reducible refine bel_alloc ?_ _) | (with_reducible refine bel_drew ?_) | (with_reducible refine bel_drewN ?_ _) | (with_reducible refine bel_set ?_ ?_ _) | (with_reducible refine After.out _ ?_ ?_) | (dsimp only; omega) | omega | (simp only [World.size_alloc, World.size_setCell, World.size_drew]; omega))))) (hrowS.out.bel (by (repeat (first | (with_reducible exact Below.refl _ _) | (with_reducible assumption) | (with_reducible refine Later.out _ ?_) | (with_reducible refine bel_alloc ?_ _) | (with_reducible refine bel_drew ?_) | (with_reducible refine bel_drewN ?_ _) | (with_reducible refine bel_set ?_ ?_ _) | (with_reducible refine After.out _ ?_ ?_) | (dsimp only; omega) | omega | (simp only [World.size_alloc, World.size_setCell, World.size_drew]; omega))))) (hM9.out.bel (by (repeat (first | (with_reducible exact Below.refl _ _) | (with_reducible assumption) | (with_reducible refine Later.out _ ?_) | (with_reducible refine bel_alloc ?_ _) | (with_reducible refine bel_drew ?_) | (with_reducible refine bel_drewN ?_ _) | (with_reducible refine bel_set ?_ ?_ _) | (with_reducible refine After.out _ ?_ ?_) | (dsimp only; omega) | omega | (simp only [World.size_alloc, World.size_setCell, World.size_drew]; omega)))))).mono ?_
              rintro e w' ⟨rfl, y9, rfl⟩
              have hsy9 := y9.bel.size
              (try simp only [World.size_alloc, World.size_setCell, World.size_drew] at hsy9)
              go_wp2_with fail
              go_roundw
              case rel => exact ⟨κ + 1, by omega, by omega, by go_num, LaterC.mk (by (repeat (first | (with_reducible exact Below.refl _ _) | (with_reducible assumption) | (with_reducible refine Later.out _ ?_) | (with_reducible refine bel_alloc ?_ _) | (with_reducible refine bel_drew ?_) | (with_reducible refine bel_drewN ?_ _) | (with_reducible refine bel_set ?_ ?_ _) | (with_reducible refine After.out _ ?_ ?_) | (dsimp only; omega) | omega | (simp only [World.size_alloc, World.size_setCell, World.size_drew]; omega))))⟩
              case measure => first | (simp [intOf]; done) | (simp [intOf]; omega) | omega
      · go_wp2_with fail
        go_ret
        refine .mk rfl ?_
        (repeat (first | (with_reducible exact Below.refl _ _) | (with_reducible assumption) | (with_reducible refine Later.out _ ?_) | (with_reducible refine bel_alloc ?_ _) | (with_reducible refine bel_drew ?_) | (with_reducible refine bel_drewN ?_ _) | (with_reducible refine bel_set ?_ ?_ _) | (with_reducible refine After.out _ ?_ ?_) | (dsimp only; omega) | omega | (simp only [World.size_alloc, World.size_setCell, World.size_drew]; omega)))
  · have hK1' : (K1 != 0) = true := by simpa using hK1
    go_wp2_with fail
    go_ret
    refine .mk rfl ?_
    (repeat (first | (with_reducible exact Below.refl _ _) | (with_reducible assumption) | (with_reducible refine Later.out _ ?_) | (with_reducible refine bel_alloc ?_ _) | (with_reducible refine bel_drew ?_) | (with_reducible refine bel_drewN ?_ _) | (with_reducible refine bel_set ?_ ?_ _) | (with_reducible refine After.out _ ?_ ?_) | (dsimp only; omega) | omega | (simp only [World.size_alloc, World.size_setCell, World.size_drew]; omega)))
end Go.Proofs.YtflcfdiochohgaaGreatDoor
