import Derived.Test.YtklcaphkfdlipaaGreatDoorPackVa
import Derived.Test.YtklcaphkfdlipaaGreatDoorPackVh
import Derived.Test.YtklcaphkfdlipaaGreatDoorBrd
/- Sums of areas: both sides. -/
set_option linter.unusedSimpArgs false
set_option linter.unusedVariables false
namespace Go.Proofs.YtklcaphkfdlipaaGreatDoor
open Go.RowKit
def absI (x : Int) : Int := max x (-x)
theorem absI_nonneg (x : Int) : 0 ≤ absI x := by unfold absI; omega
set_option maxHeartbeats 1000000 in
theorem abs_any (x : Int) (w : World) (h1 : -1000000000000 ≤ x) (h2 : x ≤ 1000000000000) : Calls Tryz.prog 100 #[.int .i64 x] w (Ret w (.int .i64 (absI x))) := by
  go_enter Tryz.func100, Tryz.ntmps100
  go_wp2_with fail
  go_ret
  exact .mk rfl bb
set_option maxHeartbeats 1000000 in
theorem sAbs_any (x : Int) (w : World) (h1 : -1000000000000 ≤ x) (h2 : x ≤ 1000000000000) : Calls Tryz.prog 118 #[.int .i64 x] w (Ret w (.int .i64 (absI x))) := by
  go_enter Tryz.func118, Tryz.ntmps118
  go_wp2_with fail
  go_ret
  exact .mk rfl bb
/-- Twice the area of a ring. -/
def aRing (r : List Pt) : Int := absI (areaZ r)
theorem area_le {r : List Pt} (h : ringB r = true) : -1000000000 ≤ areaZ r ∧ areaZ r ≤ 1000000000 := by
  have h1 := areaTo_bd (ringB_smL h).ptsB (by have := (ringB_sizes h).1; omega) r.length
  have h2 := (ringB_sizes h).2
  rw [areaTo_all] at h1
  omega
theorem aRing_bd {r : List Pt} (h : ringB r = true) : 0 ≤ aRing r ∧ aRing r ≤ 1000000000 := by
  have h1 := area_le h
  unfold aRing absI
  omega
/-- The sum of the areas of the first rings that are asked for. -/
def arTo (R : List (List Pt)) (p : Nat → Bool) : Nat → Int
  | 0 => 0
  | k + 1 => if p k then arTo R p k + aRing (R.getD k []) else arTo R p k
theorem arTo_yes {R : List (List Pt)} {p : Nat → Bool} {k : Nat} (h : p k = true) : arTo R p (k + 1) = arTo R p k + aRing (R.getD k []) := by
  show (if p k then _ else _) = _
  rw [if_pos h]
theorem arTo_no {R : List (List Pt)} {p : Nat → Bool} {k : Nat} (h : p k = false) : arTo R p (k + 1) = arTo R p k := by
  show (if p k then _ else _) = _
  rw [if_neg (by rw [h]; decide)]
theorem arTo_bd {R : List (List Pt)} {p : Nat → Bool} (h : ∀ r ∈ R, ringB r = true) : ∀ k, k ≤ R.length → 0 ≤ arTo R p k ∧ arTo R p k ≤ 1000000000 * (k : Int)
  | 0, _ => by simp [arTo]
  | k + 1, hk => by
    have ih := arTo_bd (p := p) h k (by omega)
    have hr := aRing_bd (h _ (List.getElem_mem (show k < R.length by omega)))
    have e : R.getD k [] = R[k] := by simp [show k < R.length by omega]
    cases hc : p k
    · rw [arTo_no hc]; omega
    · rw [arTo_yes hc, e]; omega
/-- What a function value must do for indices: tell `p` of each. -/
def TellsN (g : Nat) (pre lb : Array Value) (p : Nat → Bool) (n : Nat) (w : World) : Prop :=
  ∀ i, i < n → ∀ w' : World, Below w.heap.size w w' → Calls Tryz.prog g (pre.push (.int .i64 i) ++ lb) w' (Ret w' (.bool (p i)))
set_option maxRecDepth 4000 in
set_option maxHeartbeats 4000000 in
theorem areaOf_any (g : Nat) (pre lb : Array Value) (p : Nat → Bool) (R : List (List Pt)) (a : Option Addr) (n c : Nat) (w : World) (eg : ∀ args w, (callFunc g args).run Tryz.prog w = .ok (.enter g args) w)
    (hn : R.length = n) (h6 : n ≤ 6) (hR : ∀ r ∈ R, ringB r = true) (hr : RingsR w a R) (hp : TellsN g pre lb p n w) :
    Calls Tryz.prog 80 #[.slice a n c, .func (.func g) pre lb] w (Ret w (.int .i64 (arTo R p n))) := by
  subst hn
  have hbd := Lib.hid (fun k hk => arTo_bd (p := p) hR k hk)
  have hY := Lib.hid (fun (k : Nat) h => arTo_yes (R := R) (p := p) (k := k) h)
  have hN := Lib.hid (fun (k : Nat) h => arTo_no (R := R) (p := p) (k := k) h)
  have CA := Lib.hid (fun (k : Nat) (hk : k < R.length) (ak : Option Addr) (ck : Nat) (w : World) (hr : Row w ak (ptsCells R[k])) => area_any R[k] ak R[k].length ck w rfl (by have := (ringB_sizes (hR _ (List.getElem_mem hk))).2; omega) (ringB_smL (hR _ (List.getElem_mem hk))).ptsB hr)
  have hal := Lib.hid (fun (k : Nat) (hk : k < R.length) => area_le (hR _ (List.getElem_mem hk)))
  have h0 := Lib.hid (show arTo R p 0 = 0 from rfl)
  replace hr := Lib.hid hr
  replace hp := Lib.hid hp
  generalize arTo R p = AR at *
  clear hR
  go_enter Tryz.func80, Tryz.ntmps80
  go_wp2_with fail
  go_loopw [5, 10] (fun s i wr => ∃ k : Nat, k ≤ R.length ∧ i = .int .i64 k ∧ s = .int .i64 (AR k) ∧ ∃ z : Later w, wr = z.w) (fun _ i _ => R.length - (intOf i).toNat)
  case atStart => exact ⟨0, Nat.zero_le _, rfl, by rw [h0.out], ⟨_, Below.refl _ _⟩, rfl⟩
  case round =>
    obtain ⟨k, hk, rfl, rfl, z, rfl⟩ := hrel
    have hzz := z.bel.size
    obtain ⟨bd1, bd2⟩ := hbd.out k hk
    by_cases hlt : k < R.length
    · have hk1 : (k : Int) < (R.length : Int) := by omega
      obtain ⟨b1, o1, ak, ck, rfl, hb1, q0, q1, -, -⟩ := hr.out.at_ hlt
      have hc := hp.out k hlt z.w z.bel
      have CK := Lib.hid (fun (w : World) (hr : Row w ak (ptsCells R[k])) => CA.out k hlt ak ck w hr)
      obtain ⟨l1, l2⟩ := hal.out k hlt
      have Y := hY.out k
      have N := hN.out k
      have eg2 : R.getD k [] = R[k] := by simp [hlt]
      rw [eg2] at Y
      unfold aRing at Y
      replace q1 := Lib.hid q1
      have hbz : b1 < z.w.heap.size := by omega
      generalize areaZ R[k] = A at *
      cases hv : p k
      · rw [hv] at hc
        replace hc := Lib.hid hc
        have X := Lib.hid (N hv)
        clear Y N hv
        go_wp2_with (go_at_fn g; (with_reducible refine hc.out.mono ?_); rintro e w' ⟨rfl, y1, rfl⟩)
        go_roundw
        case rel => exact ⟨k + 1, by omega, by go_num, by rw [X.out], LaterC.mk bb⟩
        case measure => first | (simp [intOf]; done) | (simp [intOf]; omega) | omega
      · rw [hv] at hc
        replace hc := Lib.hid hc
        have X := Lib.hid (Y hv)
        have ha0 := absI_nonneg A
        have ha1 : absI A ≤ 1000000000 := by unfold absI; omega
        clear Y N hv
        go_wp2_with (go_at_fn g; (with_reducible refine hc.out.mono ?_); rintro e w' ⟨rfl, y1, rfl⟩)
        with_reducible refine (CK.out _ (q1.out.bel bb)).mono ?_
        rintro e w' ⟨rfl, y2, rfl⟩
        go_wp2_with fail
        with_reducible refine (abs_any A _ (by omega) (by omega)).mono ?_
        rintro e w' ⟨rfl, y3, rfl⟩
        have hsy3 := y3.bel.size
        (try simp only [World.size_alloc, World.size_setCell, World.size_drew] at hsy3)
        generalize absI A = B at *
        go_wp2_with fail
        go_roundw
        case rel => exact ⟨k + 1, by omega, by go_num, by rw [X.out], LaterC.mk bb⟩
        case measure => first | (simp [intOf]; done) | (simp [intOf]; omega) | omega
    · obtain rfl : k = R.length := by omega
      go_wp2_with fail
      go_ret
      exact .mk rfl bb
set_option maxHeartbeats 1000000 in
theorem l18Area_any (r : List Pt) (a : Option Addr) (n c : Nat) (w : World) (hn : r.length = n) (hR : ringB r = true) (hr : Row w a (ptsCells r)) :
    Calls Tryz.prog 83 #[.slice a n c] w (Ret w (.int .i64 (aRing r))) := by
  have CA := Lib.hid (fun (w : World) (hr : Row w a (ptsCells r)) => sSigned_any r a n c w hn (by have := (ringB_sizes hR).2; omega) (ringB_smL hR).ptsB hr)
  obtain ⟨l1, l2⟩ := area_le hR
  unfold aRing
  generalize areaZ r = A at *
  replace hr := Lib.hid hr
  clear hR
  go_enter Tryz.func83, Tryz.ntmps83
  go_wp2_with fail
  with_reducible refine (CA.out _ (hr.out.bel bb)).mono ?_
  rintro e w' ⟨rfl, y1, rfl⟩
  have hsy1 := y1.bel.size
  (try simp only [World.size_alloc, World.size_setCell, World.size_drew] at hsy1)
  go_wp2_with fail
  with_reducible refine (sAbs_any A _ (by omega) (by omega)).mono ?_
  rintro e w' ⟨rfl, y2, rfl⟩
  have hsy2 := y2.bel.size
  (try simp only [World.size_alloc, World.size_setCell, World.size_drew] at hsy2)
  go_wp2_with fail
  go_ret
  exact .mk rfl bb
end Go.Proofs.YtklcaphkfdlipaaGreatDoor
