import Derived.Test.YtcpddgkloeklaaaGreatDoorClaimL
/- Lists of claims: the library's search by a function value; are they claims, both sides. -/
set_option linter.unusedSimpArgs false
set_option linter.unusedVariables false
namespace Go.Proofs.YtcpddgkloeklaaaGreatDoor
open Go.RowKit
/-- The first place at which `p` holds, -1 if none. -/
def idxP (p : Clm → Bool) (L : List Clm) : Int := match L.findIdx? p with
  | some i => i
  | none => -1
theorem idxP_none {p : Clm → Bool} {L : List Clm} (h : ∀ j (hj : j < L.length), p L[j] = false) : idxP p L = -1 := by
  have : L.findIdx? p = none := by
    rw [List.findIdx?_eq_none_iff]
    intro x hx
    obtain ⟨j, hj, rfl⟩ := List.mem_iff_getElem.1 hx
    exact h j hj
  simp [idxP, this]
theorem idxP_some {p : Clm → Bool} {L : List Clm} {k : Nat} (hk : k < L.length) (h1 : p L[k] = true) (h : ∀ j (hj : j < L.length), j < k → p L[j] = false) : idxP p L = k := by
  have : L.findIdx? p = some k := by
    rw [List.findIdx?_eq_some_iff_getElem]
    exact ⟨hk, h1, fun j hj => by rw [h j (by omega) hj]; simp⟩
  simp [idxP, this]
theorem idxP_nonneg (p : Clm → Bool) (L : List Clm) : decide (0 ≤ idxP p L) = L.any p := by
  unfold idxP
  cases h : L.findIdx? p with
  | none =>
    rw [List.findIdx?_eq_none_iff] at h
    have : L.any p = false := by rw [Bool.eq_false_iff]; intro hh; obtain ⟨x, hx, hp⟩ := List.any_eq_true.1 hh; rw [h x hx] at hp; cases hp
    simp [this]
  | some i =>
    rw [List.findIdx?_eq_some_iff_getElem] at h
    obtain ⟨hi, hp, _⟩ := h
    have : L.any p = true := List.any_eq_true.2 ⟨L[i], List.getElem_mem hi, hp⟩
    simp [this]
/-- What a function value must do for a list: tell `p` of each of its claims, whenever it is called later. -/
def Tells (g : Nat) (pre lb : Array Value) (p : Clm → Bool) (L : List Clm) (w : World) : Prop :=
  ∀ c ∈ L, ∀ w' : World, Below w.heap.size w w' → Calls Tryz.prog g (pre.push (clmV c) ++ lb) w' (Ret w' (.bool (p c)))
theorem Tells.bel {g : Nat} {pre lb : Array Value} {p : Clm → Bool} {L : List Clm} {w w1 : World} (h : Tells g pre lb p L w) (hb : Below w.heap.size w w1) : Tells g pre lb p L w1 :=
  fun c hc w' hb' => h c hc w' (hb.trans (hb'.mono hb.size))
set_option maxHeartbeats 1000000 in
theorem indexFunc_any (g : Nat) (pre lb : Array Value) (p : Clm → Bool) (L : List Clm) (a : Option Addr) (n c : Nat) (w : World) (eg : ∀ args w, (callFunc g args).run Tryz.prog w = .ok (.enter g args) w)
    (hn : L.length = n) (hm : n ≤ 1048576) (hr : Row w a (clmsCells L)) (hp : Tells g pre lb p L w) :
    Calls Tryz.prog 144 #[.slice a n c, .func (.func g) pre lb] w (Ret w (.int .i64 (idxP p L))) := by
  subst hn
  replace hr := Lib.hid hr
  replace hp := Lib.hid hp
  go_enter Tryz.func144, Tryz.ntmps144
  go_wp2_with fail
  go_loopw [8] (fun i wr => ∃ k : Nat, k ≤ L.length ∧ i = .int .i64 k ∧ (∀ j (hj : j < L.length), j < k → p L[j] = false) ∧ ∃ z : Later w, wr = z.w) (fun i _ => L.length - (intOf i).toNat)
  case atStart => exact ⟨0, Nat.zero_le _, rfl, fun j _ h => absurd h (by omega), ⟨_, Below.refl _ _⟩, rfl⟩
  case round =>
    obtain ⟨k, hk, rfl, hall, z, rfl⟩ := hrel
    replace hall := Lib.hid hall
    by_cases hlt : k < L.length
    · obtain ⟨b, o, rfl, hb, q0, q1, q2, q3, q4, q5, q6⟩ := hr.out.clm hlt
      have hc := hp.out L[k] (List.getElem_mem hlt) z.w z.bel
      cases hv : p L[k]
      · rw [hv] at hc
        replace hc := Lib.hid hc
        have X := Lib.hid (show ∀ j (hj : j < L.length), j < k + 1 → p L[j] = false from fun j hj h => by
          rcases Nat.lt_or_ge j k with h1 | h1
          · exact hall.out j hj h1
          · obtain rfl : j = k := by omega
            exact hv)
        clear hv
        go_wp2_with (go_at_fn g; (with_reducible refine hc.out.mono ?_); rintro e w' ⟨rfl, y1, rfl⟩)
        go_roundw
        case rel => exact ⟨k + 1, by omega, by go_num, X.out, ⟨_, by (repeat (first | (with_reducible exact Below.refl _ _) | (with_reducible assumption) | (with_reducible refine Later.out _ ?_) | (with_reducible refine bel_alloc ?_ _) | (with_reducible refine bel_drew ?_) | (with_reducible refine bel_drewN ?_ _) | (with_reducible refine bel_set ?_ ?_ _) | (with_reducible refine After.out _ ?_ ?_) | (dsimp only; omega) | omega | (simp only [World.size_alloc, World.size_setCell, World.size_drew]; omega)))⟩, rfl⟩
        case measure => first | (simp [intOf]; done) | (simp [intOf]; omega) | omega
      · rw [hv] at hc
        replace hc := Lib.hid hc
        have X := Lib.hid (idxP_some hlt hv fun j hj h => hall.out j hj h)
        clear hv
        go_wp2_with (go_at_fn g; (with_reducible refine hc.out.mono ?_); rintro e w' ⟨rfl, y1, rfl⟩)
        go_ret
        exact .mk (by rw [X.out]; rfl) (by (repeat (first | (with_reducible exact Below.refl _ _) | (with_reducible assumption) | (with_reducible refine Later.out _ ?_) | (with_reducible refine bel_alloc ?_ _) | (with_reducible refine bel_drew ?_) | (with_reducible refine bel_drewN ?_ _) | (with_reducible refine bel_set ?_ ?_ _) | (with_reducible refine After.out _ ?_ ?_) | (dsimp only; omega) | omega | (simp only [World.size_alloc, World.size_setCell, World.size_drew]; omega))))
    · obtain rfl : k = L.length := by omega
      have X := Lib.hid (idxP_none fun j hj => hall.out j hj hj)
      go_wp2_with fail
      go_ret
      exact .mk (by rw [X.out]; rfl) (by (repeat (first | (with_reducible exact Below.refl _ _) | (with_reducible assumption) | (with_reducible refine Later.out _ ?_) | (with_reducible refine bel_alloc ?_ _) | (with_reducible refine bel_drew ?_) | (with_reducible refine bel_drewN ?_ _) | (with_reducible refine bel_set ?_ ?_ _) | (with_reducible refine After.out _ ?_ ?_) | (dsimp only; omega) | omega | (simp only [World.size_alloc, World.size_setCell, World.size_drew]; omega))))
theorem containsFunc_any (g : Nat) (pre lb : Array Value) (p : Clm → Bool) (L : List Clm) (a : Option Addr) (n c : Nat) (w : World) (eg : ∀ args w, (callFunc g args).run Tryz.prog w = .ok (.enter g args) w)
    (hn : L.length = n) (hm : n ≤ 1048576) (hr : Row w a (clmsCells L)) (hp : Tells g pre lb p L w) :
    Calls Tryz.prog 109 #[.slice a n c, .func (.func g) pre lb] w (Ret w (.bool (L.any p))) := by
  have X := Lib.hid (idxP_nonneg p L)
  replace hr := Lib.hid hr
  replace hp := Lib.hid hp
  replace hn := Lib.hid hn
  have EG := Lib.hid eg
  clear eg
  go_enter Tryz.func109, Tryz.ntmps109
  go_wp2_with fail
  with_reducible refine (indexFunc_any g pre lb p L _ _ _ _ EG.out hn.out hm hr.out hp.out).mono ?_
  rintro e w' ⟨rfl, y1, rfl⟩
  have hsy1 := y1.bel.size
  (try simp only [World.size_alloc, World.size_setCell, World.size_drew] at hsy1)
  go_wp2_with fail
  go_ret
  exact .mk (by rw [← X.out]; rfl) (by (repeat (first | (with_reducible exact Below.refl _ _) | (with_reducible assumption) | (with_reducible refine Later.out _ ?_) | (with_reducible refine bel_alloc ?_ _) | (with_reducible refine bel_drew ?_) | (with_reducible refine bel_drewN ?_ _) | (with_reducible refine bel_set ?_ ?_ _) | (with_reducible refine After.out _ ?_ ?_) | (dsimp only; omega) | omega | (simp only [World.size_alloc, World.size_setCell, World.size_drew]; omega))))
structure ClmsOk (L : List Clm) : Prop where
  ok : ∀ c ∈ L, ClmOk c
set_option maxHeartbeats 400000 in
theorem areClaims1_any (c : Clm) (w : World) (ok : ClmOk c) (hx : Max w) : Calls Tryz.prog 110 #[clmV c] w (Ret w (.bool (!claimB c))) := by
  replace hx := Lib.hid hx
  go_enter Tryz.func110, Tryz.ntmps110
  go_wp2_with fail
  with_reducible refine (isClaim_any c _ ok (hx.out.bel (by (repeat (first | (with_reducible exact Below.refl _ _) | (with_reducible assumption) | (with_reducible refine Later.out _ ?_) | (with_reducible refine bel_alloc ?_ _) | (with_reducible refine bel_drew ?_) | (with_reducible refine bel_drewN ?_ _) | (with_reducible refine bel_set ?_ ?_ _) | (with_reducible refine After.out _ ?_ ?_) | (dsimp only; omega) | omega | (simp only [World.size_alloc, World.size_setCell, World.size_drew]; omega)))))).mono ?_
  rintro e w' ⟨rfl, y1, rfl⟩
  have hsy1 := y1.bel.size
  (try simp only [World.size_alloc, World.size_setCell, World.size_drew] at hsy1)
  go_wp2_with fail
  go_ret
  exact .mk rfl (by (repeat (first | (with_reducible exact Below.refl _ _) | (with_reducible assumption) | (with_reducible refine Later.out _ ?_) | (with_reducible refine bel_alloc ?_ _) | (with_reducible refine bel_drew ?_) | (with_reducible refine bel_drewN ?_ _) | (with_reducible refine bel_set ?_ ?_ _) | (with_reducible refine After.out _ ?_ ?_) | (dsimp only; omega) | omega | (simp only [World.size_alloc, World.size_setCell, World.size_drew]; omega))))
theorem tells_areClaims {L : List Clm} {w : World} (ok : ∀ c ∈ L, ClmOk c) (hx : Max w) : Tells 110 #[] #[] (fun c => !claimB c) L w :=
  fun c hc w' hb => by simpa using areClaims1_any c w' (ok c hc) (hx.bel hb)
theorem enters_areClaims1 : ∀ args w, (callFunc 110 args).run Tryz.prog w = .ok (.enter 110 args) w := fun _ _ => by kernel_rfl
theorem claimsB_any (L : List Clm) : claimsB L = (decide (L.length ≤ 12) && !L.any (fun c => !claimB c)) := by
  unfold claimsB
  congr 1
  induction L with
  | nil => rfl
  | cons c L ih => simp only [List.all_cons, List.any_cons, Bool.not_or, ih, Bool.not_not]
set_option maxHeartbeats 400000 in
theorem areClaims_any (L : List Clm) (a : Option Addr) (n c : Nat) (w : World) (hn : L.length = n) (hm : n ≤ 1048576) (hr : Row w a (clmsCells L)) (ok : ∀ c ∈ L, ClmOk c) (hx : Max w) :
    Calls Tryz.prog 75 #[.slice a n c] w (Ret w (.bool (claimsB L))) := by
  have ht := tells_areClaims ok hx
  have hc := fun w' hr hb => containsFunc_any 110 #[] #[] (fun c => !claimB c) L a n c w' enters_areClaims1 hn hm hr (ht.bel hb)
  have X0 := claimsB_any L
  subst hn
  generalize L.any (fun c => !claimB c) = B at hc X0
  by_cases h12 : L.length ≤ 12
  · have X := Lib.hid (show claimsB L = !B by rw [X0]; simp [h12])
    replace hc := Lib.hid (hc w hr (Below.refl _ _))
    clear ht X0 hr
    go_enter Tryz.func75, Tryz.ntmps75
    go_wp2_with fail
    with_reducible refine (hc.out).mono ?_
    rintro e w' ⟨rfl, y1, rfl⟩
    have hsy1 := y1.bel.size
    (try simp only [World.size_alloc, World.size_setCell, World.size_drew] at hsy1)
    go_wp2_with fail
    go_ret
    exact .mk (by rw [X.out]; rfl) (by (repeat (first | (with_reducible exact Below.refl _ _) | (with_reducible assumption) | (with_reducible refine Later.out _ ?_) | (with_reducible refine bel_alloc ?_ _) | (with_reducible refine bel_drew ?_) | (with_reducible refine bel_drewN ?_ _) | (with_reducible refine bel_set ?_ ?_ _) | (with_reducible refine After.out _ ?_ ?_) | (dsimp only; omega) | omega | (simp only [World.size_alloc, World.size_setCell, World.size_drew]; omega))))
  · have X := Lib.hid (show claimsB L = false by rw [X0]; simp [h12])
    clear ht X0 hr hc
    go_enter Tryz.func75, Tryz.ntmps75
    go_wp2_with fail
    go_ret
    exact .mk (by rw [X.out]; rfl) (by (repeat (first | (with_reducible exact Below.refl _ _) | (with_reducible assumption) | (with_reducible refine Later.out _ ?_) | (with_reducible refine bel_alloc ?_ _) | (with_reducible refine bel_drew ?_) | (with_reducible refine bel_drewN ?_ _) | (with_reducible refine bel_set ?_ ?_ _) | (with_reducible refine After.out _ ?_ ?_) | (dsimp only; omega) | omega | (simp only [World.size_alloc, World.size_setCell, World.size_drew]; omega))))
theorem areClaims_b {L : List Clm} {a : Option Addr} {n c : Nat} {w : World} {b : Bool} (hn : L.length = n) (hm : n ≤ 1048576) (hr : Row w a (clmsCells L)) (ok : ∀ c ∈ L, ClmOk c) (hx : Max w) (h : claimsB L = b) :
    Calls Tryz.prog 75 #[.slice a n c] w (Ret w (.bool b)) := by subst h; exact areClaims_any L a n c w hn hm hr ok hx
set_option maxHeartbeats 1000000 in
theorem sAreClaims_any (L : List Clm) (a : Option Addr) (n c : Nat) (w : World) (hn : L.length = n) (hm : n ≤ 1048576) (hr : Row w a (clmsCells L)) (ok : ∀ c ∈ L, ClmOk c) :
    Calls Tryz.prog 73 #[.slice a n c] w (Ret w (.bool (claimsB L))) := by
  subst hn
  replace hr := Lib.hid hr
  replace ok := Lib.hid ok
  go_enter Tryz.func73, Tryz.ntmps73
  go_wp2_with fail
  go_loopw [3] (fun i wr => ∃ k : Nat, k ≤ L.length ∧ i = .int .i64 k ∧ (L.take k).all claimB = true ∧ ∃ z : Later w, wr = z.w) (fun i _ => L.length - (intOf i).toNat)
  case atStart => exact ⟨0, Nat.zero_le _, rfl, rfl, ⟨_, Below.refl _ _⟩, rfl⟩
  case round =>
    obtain ⟨k, hk, rfl, hall, z, rfl⟩ := hrel
    replace hall := Lib.hid hall
    by_cases hlt : k < L.length
    · obtain ⟨b, o, rfl, hb, q0, q1, q2, q3, q4, q5, q6⟩ := hr.out.clm hlt
      have hok := ok.out L[k] (List.getElem_mem hlt)
      cases hv : claimB L[k]
      · have X := Lib.hid (show claimsB L = false by
          rw [claimsB, Bool.and_eq_false_iff]
          right
          rw [Bool.eq_false_iff]; intro h
          have := List.all_eq_true.1 h _ (List.getElem_mem hlt)
          rw [hv] at this; cases this)
        replace hv := Lib.hid hv
        go_wp2_with fail
        with_reducible refine (sIsClaim_b hok hv.out).mono ?_
        rintro e w' ⟨rfl, y1, rfl⟩
        have hsy1 := y1.bel.size
        (try simp only [World.size_alloc, World.size_setCell, World.size_drew] at hsy1)
        go_wp2_with fail
        go_ret
        exact .mk (by rw [X.out]; rfl) (by (repeat (first | (with_reducible exact Below.refl _ _) | (with_reducible assumption) | (with_reducible refine Later.out _ ?_) | (with_reducible refine bel_alloc ?_ _) | (with_reducible refine bel_drew ?_) | (with_reducible refine bel_drewN ?_ _) | (with_reducible refine bel_set ?_ ?_ _) | (with_reducible refine After.out _ ?_ ?_) | (dsimp only; omega) | omega | (simp only [World.size_alloc, World.size_setCell, World.size_drew]; omega))))
      · have X := Lib.hid (show (L.take (k + 1)).all claimB = true by
          rw [List.take_succ_eq_append_getElem hlt, List.all_append, hall.out]; simp [hv])
        replace hv := Lib.hid hv
        go_wp2_with fail
        with_reducible refine (sIsClaim_b hok hv.out).mono ?_
        rintro e w' ⟨rfl, y1, rfl⟩
        have hsy1 := y1.bel.size
        (try simp only [World.size_alloc, World.size_setCell, World.size_drew] at hsy1)
        go_wp2_with fail
        go_roundw
        case rel => exact ⟨k + 1, by omega, by go_num, X.out, ⟨_, by (repeat (first | (with_reducible exact Below.refl _ _) | (with_reducible assumption) | (with_reducible refine Later.out _ ?_) | (with_reducible refine bel_alloc ?_ _) | (with_reducible refine bel_drew ?_) | (with_reducible refine bel_drewN ?_ _) | (with_reducible refine bel_set ?_ ?_ _) | (with_reducible refine After.out _ ?_ ?_) | (dsimp only; omega) | omega | (simp only [World.size_alloc, World.size_setCell, World.size_drew]; omega)))⟩, rfl⟩
        case measure => first | (simp [intOf]; done) | (simp [intOf]; omega) | omega
    · obtain rfl : k = L.length := by omega
      have X := Lib.hid (show claimsB L = decide ((L.length : Int) ≤ 12) by
        have h := hall.out
        rw [List.take_length] at h
        rw [claimsB, h, Bool.and_true]
        exact decide_eq_decide.2 (by omega))
      go_wp2_with fail
      go_ret
      exact .mk (by rw [X.out]; rfl) (by (repeat (first | (with_reducible exact Below.refl _ _) | (with_reducible assumption) | (with_reducible refine Later.out _ ?_) | (with_reducible refine bel_alloc ?_ _) | (with_reducible refine bel_drew ?_) | (with_reducible refine bel_drewN ?_ _) | (with_reducible refine bel_set ?_ ?_ _) | (with_reducible refine After.out _ ?_ ?_) | (dsimp only; omega) | omega | (simp only [World.size_alloc, World.size_setCell, World.size_drew]; omega))))
theorem sAreClaims_b {L : List Clm} {a : Option Addr} {n c : Nat} {w : World} {b : Bool} (hn : L.length = n) (hm : n ≤ 1048576) (hr : Row w a (clmsCells L)) (ok : ∀ c ∈ L, ClmOk c) (h : claimsB L = b) :
    Calls Tryz.prog 73 #[.slice a n c] w (Ret w (.bool b)) := by subst h; exact sAreClaims_any L a n c w hn hm hr ok
end Go.Proofs.YtcpddgkloeklaaaGreatDoor
