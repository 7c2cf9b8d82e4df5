import Derived.Test.YtflcfdiochohgaaGreatDoorPackB
import Derived.Test.YtflcfdiochohgaaGreatDoorContra
import Derived.Test.YtflcfdiochohgaaGreatDoorPackAb
import Derived.Lib.AppendZerosOnto
/- Several of my texts, one behind the other: Against, ConsA, Kept, Lack, Lack2, Cons, ConsS, Rep, Core, Code, Minim. -/
/- ContradictionsOf, both sides. -/
set_option linter.unusedSimpArgs false
set_option linter.unusedVariables false
namespace Go.Proofs.YtflcfdiochohgaaGreatDoor
open Go.RowKit
theorem enters_contra : ∀ args w, (callFunc 83 args).run Tryz.prog w = .ok (.enter 83 args) w := fun _ _ => by kernel_rfl
theorem tells_contra (d : Clm) (L : List Clm) (w : World) : Tells 83 #[clmV d] #[] (contraB d) L w := fun c _ w' _ => by
  have := contradicts_any d c w'
  simpa using this
section
variable (L : List Clm) (i : Int) (a : Option Addr) (n c : Nat) (w : World) (hn : L.length = n) (hm : n ≤ 1048576) (hr : Row w a (clmsCells L)) (ok : ∀ c ∈ L, ClmOk c)
include hn hm hr ok
end
end Go.Proofs.YtflcfdiochohgaaGreatDoor

/- Consistency of claims: what both sides speak of. -/
set_option linter.unusedSimpArgs false
set_option linter.unusedVariables false
namespace Go.Proofs.YtflcfdiochohgaaGreatDoor
open Go.RowKit
theorem own_cap {w : World} {base e s n c : Nat} {a : Option Addr} {xs : List Value} (h : w.ownsRow base e s (.slice a n c) n xs) : n ≤ c := by
  rcases h.2 with ⟨hv, rfl⟩ | ⟨g, cap, cur, hv, _, _, hnc, _⟩
  · exact Nat.zero_le _
  · injection hv with _ _ h3; omega
theorem Owns.cap {w : World} {lo hi e s n c : Nat} {a : Option Addr} {xs : List Value} (h : Owns w lo hi e s n a c xs) : n ≤ c := own_cap h.own
theorem ClmAt.bel {w w' : World} {b o : Nat} {c : Clm} (h : ClmAt w b o c) (hb : Below w.heap.size w w') : ClmAt w' b o c := by
  have key : ∀ {p : Addr} {v : Value}, w.cell? p = some v → w'.cell? p = some v := fun hp => (hb.cell (World.block_lt_of_cell? w _ hp)).trans hp
  exact ⟨key h.c0, key h.c1, key h.c2, key h.c3, key h.c4, key h.c5, key h.c6⟩
theorem ClmAt.lt {w : World} {b o : Nat} {c : Clm} (h : ClmAt w b o c) : b < w.heap.size := World.block_lt_of_cell? w _ h.c0
theorem Row.clm_take {w : World} {a : Option Addr} {L : List Clm} (h : Row w a (clmsCells L)) (k : Nat) : Row w a (clmsCells (L.take k)) := h.sub fun j v hj => by
  have e : clmsCells L = clmsCells (L.take k) ++ clmsCells (L.drop k) := by rw [← clmsCells_append, List.take_append_drop]
  rw [e, List.getElem?_append_left (List.getElem?_eq_some_iff.1 hj).1]
  exact hj
/-- No two of the first `k` claims contradict each other. -/
def PairTo (L : List Clm) (k : Nat) : Prop := ∀ i j (hi : i < L.length) (hj : j < L.length), i < k → j < i → contraB L[i] L[j] = false
theorem PairTo.all {L : List Clm} (h : PairTo L L.length) : NoPair L := noPair_iff.2 fun i k hi hk hki => h i k hi hk hi hki
theorem PairTo.succ {L : List Clm} {k : Nat} (h : PairTo L k) (hk : ∀ j (hj : j < L.length) (hk : k < L.length), j < k → contraB L[k] L[j] = false) : PairTo L (k + 1) := fun i j hi hj hik hji => by
  rcases Nat.lt_or_ge i k with h1 | h1
  · exact h i j hi hj h1 hji
  · obtain rfl : i = k := by omega
    exact hk j hj hi hji
end Go.Proofs.YtflcfdiochohgaaGreatDoor

/- Claims that are chosen or left: both sides. -/
set_option linter.unusedSimpArgs false
set_option linter.unusedVariables false
namespace Go.Proofs.YtflcfdiochohgaaGreatDoor
open Go.RowKit
set_option maxHeartbeats 1000000 in
theorem indexInt_any (x : Int) (S : List Int) (a : Option Addr) (n c : Nat) (w : World) (hn : S.length = n) (hm : n ≤ 1048576) (hr : Row w a (intCells S)) :
    Calls Tryz.prog 212 #[.slice a n c, .int .i64 x] w (Ret w (.int .i64 (idxI x S))) := by
  subst hn
  replace hr := Lib.hid hr
  go_enter Tryz.func212, Tryz.ntmps212
  go_wp2_with fail
  go_loopw [8] (fun i wr => ∃ k : Nat, k ≤ S.length ∧ i = .int .i64 k ∧ (∀ j (hj : j < S.length), j < k → S[j] ≠ x) ∧ ∃ z : Later w, wr = z.w) (fun i _ => S.length - (intOf i).toNat)
  case atStart => exact ⟨0, Nat.zero_le _, rfl, fun j _ h => absurd h (by omega), ⟨_, Below.refl _ _⟩, rfl⟩
  case round =>
    obtain ⟨k, hk, rfl, hall, z, rfl⟩ := hrel
    replace hall := Lib.hid hall
    by_cases hlt : k < S.length
    · obtain ⟨b, o, rfl, hb, hc⟩ := hr.out.int hlt
      have hi1 : (k : Int) < (S.length : Int) := by omega
      by_cases e : S[k] = x
      · have X := Lib.hid (idxI_some hlt e fun j hj h => hall.out j hj h)
        have e1 : (x == S[k]) = true := by simp [e]
        clear e
        go_wp2_with fail
        go_ret
        exact .mk (by rw [X.out]; rfl) (by (repeat (first | (with_reducible exact Below.refl _ _) | (with_reducible assumption) | (with_reducible refine Later.out _ ?_) | (with_reducible refine bel_alloc ?_ _) | (with_reducible refine bel_drew ?_) | (with_reducible refine bel_drewN ?_ _) | (with_reducible refine bel_set ?_ ?_ _) | (with_reducible refine After.out _ ?_ ?_) | (dsimp only; omega) | omega | (simp only [World.size_alloc, World.size_setCell, World.size_drew]; omega))))
      · have X := Lib.hid (show ∀ j (hj : j < S.length), j < k + 1 → S[j] ≠ x from fun j hj h => by
          rcases Nat.lt_or_ge j k with h1 | h1
          · exact hall.out j hj h1
          · obtain rfl : j = k := by omega
            exact e)
        have e1 : (x == S[k]) = false := by rw [beq_eq_false_iff_ne]; exact fun h => e h.symm
        clear e
        go_wp2_with fail
        go_roundw
        case rel => exact ⟨k + 1, by omega, by go_num, X.out, LaterC.mk (by (repeat (first | (with_reducible exact Below.refl _ _) | (with_reducible assumption) | (with_reducible refine Later.out _ ?_) | (with_reducible refine bel_alloc ?_ _) | (with_reducible refine bel_drew ?_) | (with_reducible refine bel_drewN ?_ _) | (with_reducible refine bel_set ?_ ?_ _) | (with_reducible refine After.out _ ?_ ?_) | (dsimp only; omega) | omega | (simp only [World.size_alloc, World.size_setCell, World.size_drew]; omega))))⟩
        case measure => first | (simp [intOf]; done) | (simp [intOf]; omega) | omega
    · obtain rfl : k = S.length := by omega
      have X := Lib.hid (idxI_none (S := S) (x := x) fun j hj => hall.out j hj hj)
      go_wp2_with fail
      go_ret
      exact .mk (by rw [X.out]; rfl) (by (repeat (first | (with_reducible exact Below.refl _ _) | (with_reducible assumption) | (with_reducible refine Later.out _ ?_) | (with_reducible refine bel_alloc ?_ _) | (with_reducible refine bel_drew ?_) | (with_reducible refine bel_drewN ?_ _) | (with_reducible refine bel_set ?_ ?_ _) | (with_reducible refine After.out _ ?_ ?_) | (dsimp only; omega) | omega | (simp only [World.size_alloc, World.size_setCell, World.size_drew]; omega))))
theorem containsInt_any (x : Int) (S : List Int) (a : Option Addr) (n c : Nat) (w : World) (hn : S.length = n) (hm : n ≤ 1048576) (hr : Row w a (intCells S)) :
    Calls Tryz.prog 173 #[.slice a n c, .int .i64 x] w (Ret w (.bool (S.contains x))) := by
  have X := Lib.hid (idxI_mem x S)
  have C := Lib.hid (fun w hr => indexInt_any x S a n c w hn hm hr)
  replace hr := Lib.hid hr
  go_enter Tryz.func173, Tryz.ntmps173
  go_wp2_with fail
  with_reducible refine (C.out _ (hr.out.bel (by (repeat (first | (with_reducible exact Below.refl _ _) | (with_reducible assumption) | (with_reducible refine Later.out _ ?_) | (with_reducible refine bel_alloc ?_ _) | (with_reducible refine bel_drew ?_) | (with_reducible refine bel_drewN ?_ _) | (with_reducible refine bel_set ?_ ?_ _) | (with_reducible refine After.out _ ?_ ?_) | (dsimp only; omega) | omega | (simp only [World.size_alloc, World.size_setCell, World.size_drew]; omega)))))).mono ?_
  rintro e w' ⟨rfl, y1, rfl⟩
  have hsy1 := y1.bel.size
  (try simp only [World.size_alloc, World.size_setCell, World.size_drew] at hsy1)
  go_wp2_with fail
  go_ret
  exact .mk (by rw [← X.out]; rfl) (by (repeat (first | (with_reducible exact Below.refl _ _) | (with_reducible assumption) | (with_reducible refine Later.out _ ?_) | (with_reducible refine bel_alloc ?_ _) | (with_reducible refine bel_drew ?_) | (with_reducible refine bel_drewN ?_ _) | (with_reducible refine bel_set ?_ ?_ _) | (with_reducible refine After.out _ ?_ ?_) | (dsimp only; omega) | omega | (simp only [World.size_alloc, World.size_setCell, World.size_drew]; omega))))
theorem containsInt_b {x : Int} {S : List Int} {a : Option Addr} {n c : Nat} {w : World} {b : Bool} (hn : S.length = n) (hm : n ≤ 1048576) (hr : Row w a (intCells S)) (h : S.contains x = b) :
    Calls Tryz.prog 173 #[.slice a n c, .int .i64 x] w (Ret w (.bool b)) := by subst h; exact containsInt_any x S a n c w hn hm hr
set_option maxHeartbeats 1000000 in
theorem sHas_any (x : Int) (S : List Int) (a : Option Addr) (n c : Nat) (w : World) (hn : S.length = n) (hm : n ≤ 1048576) (hr : Row w a (intCells S)) :
    Calls Tryz.prog 122 #[.slice a n c, .int .i64 x] w (Ret w (.bool (S.contains x))) := by
  subst hn
  replace hr := Lib.hid hr
  go_enter Tryz.func122, Tryz.ntmps122
  go_wp2_with fail
  go_loopw [5] (fun i wr => ∃ k : Nat, k ≤ S.length ∧ i = .int .i64 k ∧ (∀ j (hj : j < S.length), j < k → S[j] ≠ x) ∧ ∃ z : Later w, wr = z.w) (fun i _ => S.length - (intOf i).toNat)
  case atStart => exact ⟨0, Nat.zero_le _, rfl, fun j _ h => absurd h (by omega), ⟨_, Below.refl _ _⟩, rfl⟩
  case round =>
    obtain ⟨k, hk, rfl, hall, z, rfl⟩ := hrel
    replace hall := Lib.hid hall
    by_cases hlt : k < S.length
    · obtain ⟨b, o, rfl, hb, hc⟩ := hr.out.int hlt
      have hi1 : (k : Int) < (S.length : Int) := by omega
      by_cases e : S[k] = x
      · have X := Lib.hid (contains_true hlt e)
        have e1 : (S[k] == x) = true := by simp [e]
        clear e
        go_wp2_with fail
        go_ret
        exact .mk (by rw [X.out]; rfl) (by (repeat (first | (with_reducible exact Below.refl _ _) | (with_reducible assumption) | (with_reducible refine Later.out _ ?_) | (with_reducible refine bel_alloc ?_ _) | (with_reducible refine bel_drew ?_) | (with_reducible refine bel_drewN ?_ _) | (with_reducible refine bel_set ?_ ?_ _) | (with_reducible refine After.out _ ?_ ?_) | (dsimp only; omega) | omega | (simp only [World.size_alloc, World.size_setCell, World.size_drew]; omega))))
      · have X := Lib.hid (show ∀ j (hj : j < S.length), j < k + 1 → S[j] ≠ x from fun j hj h => by
          rcases Nat.lt_or_ge j k with h1 | h1
          · exact hall.out j hj h1
          · obtain rfl : j = k := by omega
            exact e)
        have e1 : (S[k] == x) = false := by rw [beq_eq_false_iff_ne]; exact e
        clear e
        go_wp2_with fail
        go_roundw
        case rel => exact ⟨k + 1, by omega, by go_num, X.out, LaterC.mk (by (repeat (first | (with_reducible exact Below.refl _ _) | (with_reducible assumption) | (with_reducible refine Later.out _ ?_) | (with_reducible refine bel_alloc ?_ _) | (with_reducible refine bel_drew ?_) | (with_reducible refine bel_drewN ?_ _) | (with_reducible refine bel_set ?_ ?_ _) | (with_reducible refine After.out _ ?_ ?_) | (dsimp only; omega) | omega | (simp only [World.size_alloc, World.size_setCell, World.size_drew]; omega))))⟩
        case measure => first | (simp [intOf]; done) | (simp [intOf]; omega) | omega
    · obtain rfl : k = S.length := by omega
      have X := Lib.hid (contains_false (S := S) (x := x) fun j hj => hall.out j hj hj)
      go_wp2_with fail
      go_ret
      exact .mk (by rw [X.out]; rfl) (by (repeat (first | (with_reducible exact Below.refl _ _) | (with_reducible assumption) | (with_reducible refine Later.out _ ?_) | (with_reducible refine bel_alloc ?_ _) | (with_reducible refine bel_drew ?_) | (with_reducible refine bel_drewN ?_ _) | (with_reducible refine bel_set ?_ ?_ _) | (with_reducible refine After.out _ ?_ ?_) | (dsimp only; omega) | omega | (simp only [World.size_alloc, World.size_setCell, World.size_drew]; omega))))
theorem sHas_b {x : Int} {S : List Int} {a : Option Addr} {n c : Nat} {w : World} {b : Bool} (hn : S.length = n) (hm : n ≤ 1048576) (hr : Row w a (intCells S)) (h : S.contains x = b) :
    Calls Tryz.prog 122 #[.slice a n c, .int .i64 x] w (Ret w (.bool b)) := by subst h; exact sHas_any x S a n c w hn hm hr
set_option maxRecDepth 4000 in
set_option maxHeartbeats 2000000 in
theorem kept_any (L : List Clm) (S : List Int) (a a' : Option Addr) (n c n' c' : Nat) (w : World) (hn : L.length = n) (hn' : S.length = n') (hm : n ≤ 1048576) (hm' : n' ≤ 1048576) (hr : Row w a (clmsCells L)) (hr' : Row w a' (intCells S)) :
    Calls Tryz.prog 117 #[.slice a n c, .slice a' n' c'] w (RetOwn w 27 7 (keptL L S).length (clmsCells (keptL L S)) id) := by
  obtain ⟨ii, j1, j2, j3, j4⟩ := info_claim'
  have Jii := Lib.hid (And.intro j1 (And.intro j2 (And.intro j3 j4)))
  clear j1 j2 j3 j4
  subst hn
  have CH := Lib.hid (fun (x : Int) (w : World) (b : Bool) (hr : Row w a' (intCells S)) (h : S.contains x = b) => containsInt_b (x := x) (c := c') hn' hm' hr h)
  replace hr := Lib.hid hr
  replace hr' := Lib.hid hr'
  go_enter Tryz.func117, Tryz.ntmps117
  go_wp2_with fail
  go_loopw [5, 10] (fun t5 i wr => ∃ (k : Nat) (a5 : Option Addr) (c5 : Nat), k ≤ L.length ∧ i = .int .i64 k ∧ t5 = .slice a5 (pick L (restTo S k)).length c5 ∧ wr.ownsRow w.heap.size 27 7 (.slice a5 (pick L (restTo S k)).length c5) (pick L (restTo S k)).length (clmsCells (pick L (restTo S k))) ∧ ∃ z : Later w, wr = z.w) (fun _ i _ => L.length - (intOf i).toNat)
  case atStart => exact ⟨0, none, 0, Nat.zero_le _, rfl, rfl, World.ownsRow_nil _ _ _ _, ⟨_, Below.refl _ _⟩, rfl⟩
  case round =>
    obtain ⟨k, a5, c5, hk, rfl, rfl, hown, z, rfl⟩ := hrel
    replace hown := Lib.hid hown
    have hzz := z.bel.size
    by_cases hlt : k < L.length
    · obtain ⟨b, o, rfl, hb, q0, q1, q2, q3, q4, q5, q6⟩ := hr.out.clm hlt
      have hle := pick_rest_le L S k
      cases hv : S.contains (k : Int)
      · have X := Lib.hid (pick_rest_yes hlt hv)
        replace hv := Lib.hid hv
        obtain ⟨N, hN⟩ : ∃ N, pick L (restTo S k) = N := ⟨_, rfl⟩
        rw [hN] at hown X hle
        simp only [hN]
        clear hN
        go_wp2_with fail
        with_reducible refine (CH.out _ _ _ (hr'.out.bel (by (repeat (first | (with_reducible exact Below.refl _ _) | (with_reducible assumption) | (with_reducible refine Later.out _ ?_) | (with_reducible refine bel_alloc ?_ _) | (with_reducible refine bel_drew ?_) | (with_reducible refine bel_drewN ?_ _) | (with_reducible refine bel_set ?_ ?_ _) | (with_reducible refine After.out _ ?_ ?_) | (dsimp only; omega) | omega | (simp only [World.size_alloc, World.size_setCell, World.size_drew]; omega))))) hv.out).mono ?_
        rintro e w' ⟨rfl, y1, rfl⟩
        have hsy1 := y1.bel.size
        (try simp only [World.size_alloc, World.size_setCell, World.size_drew] at hsy1)
        go_wp2_with (at_builtin; (refine wpList_append_later _ rfl _ _ _ rfl 27 ii _ 7 80 Tryz.underlying32 Jii.out.1 Jii.out.2.1 Jii.out.2.2.1 Jii.out.2.2.2 rfl (by decide) (w) ?qa1 _ _ _ (clmsCells N) rfl ?qa2 _ _ _ (clmCells L[k]) rfl ?qa3 ?qa4 ?qa5 ?qa6 ?qa7 ?_); (case qa1 => (repeat (first | (with_reducible exact Below.refl _ _) | (with_reducible assumption) | (with_reducible refine Later.out _ ?_) | (with_reducible refine bel_alloc ?_ _) | (with_reducible refine bel_drew ?_) | (with_reducible refine bel_drewN ?_ _) | (with_reducible refine bel_set ?_ ?_ _) | (with_reducible refine After.out _ ?_ ?_) | (dsimp only; omega) | omega | (simp only [World.size_alloc, World.size_setCell, World.size_drew]; omega)))); (case qa2 => exact own_bel hown.out (by (repeat (first | (with_reducible exact Below.refl _ _) | (with_reducible assumption) | (with_reducible refine Later.out _ ?_) | (with_reducible refine bel_alloc ?_ _) | (with_reducible refine bel_drew ?_) | (with_reducible refine bel_drewN ?_ _) | (with_reducible refine bel_set ?_ ?_ _) | (with_reducible refine After.out _ ?_ ?_) | (dsimp only; omega) | omega | (simp only [World.size_alloc, World.size_setCell, World.size_drew]; omega))))); (case qa3 => (first | rfl | (simp [boolCells]; done) | (simp [intCells]; done) | (simp; done) | (first | omega | (simp only [List.length_append, List.length_cons, List.length_nil]; omega)))); (case qa4 => exact Row.made _ _ _); (case qa5 => exact one_clm1 _); (case qa6 => (unfold maxLen; (first | omega | (simp only [List.length_append, List.length_cons, List.length_nil]; omega)))); (case qa7 => (first | omega | (simp only [List.length_append, List.length_cons, List.length_nil]; omega))); intro a9 c9 x9 hown9)
        replace hown9 := Lib.hid hown9
        go_roundw
        case rel => exact ⟨k + 1, a9, c9, by omega, by go_num, by rw [X.out]; simp, by rw [X.out, clmsCells_snoc]; simpa using hown9.out, x9, rfl⟩
        case measure => first | (simp [intOf]; done) | (simp [intOf]; omega) | omega
      · have X := Lib.hid (pick_rest_no (L := L) hv)
        replace hv := Lib.hid hv
        go_wp2_with fail
        with_reducible refine (CH.out _ _ _ (hr'.out.bel (by (repeat (first | (with_reducible exact Below.refl _ _) | (with_reducible assumption) | (with_reducible refine Later.out _ ?_) | (with_reducible refine bel_alloc ?_ _) | (with_reducible refine bel_drew ?_) | (with_reducible refine bel_drewN ?_ _) | (with_reducible refine bel_set ?_ ?_ _) | (with_reducible refine After.out _ ?_ ?_) | (dsimp only; omega) | omega | (simp only [World.size_alloc, World.size_setCell, World.size_drew]; omega))))) hv.out).mono ?_
        rintro e w' ⟨rfl, y1, rfl⟩
        have hsy1 := y1.bel.size
        (try simp only [World.size_alloc, World.size_setCell, World.size_drew] at hsy1)
        go_wp2_with fail
        go_roundw
        case rel => exact ⟨k + 1, a5, c5, by omega, by go_num, by rw [X.out], by rw [X.out]; exact own_bel hown.out (by (repeat (first | (with_reducible exact Below.refl _ _) | (with_reducible assumption) | (with_reducible refine Later.out _ ?_) | (with_reducible refine bel_alloc ?_ _) | (with_reducible refine bel_drew ?_) | (with_reducible refine bel_drewN ?_ _) | (with_reducible refine bel_set ?_ ?_ _) | (with_reducible refine After.out _ ?_ ?_) | (dsimp only; omega) | omega | (simp only [World.size_alloc, World.size_setCell, World.size_drew]; omega)))), LaterC.mk (by (repeat (first | (with_reducible exact Below.refl _ _) | (with_reducible assumption) | (with_reducible refine Later.out _ ?_) | (with_reducible refine bel_alloc ?_ _) | (with_reducible refine bel_drew ?_) | (with_reducible refine bel_drewN ?_ _) | (with_reducible refine bel_set ?_ ?_ _) | (with_reducible refine After.out _ ?_ ?_) | (dsimp only; omega) | omega | (simp only [World.size_alloc, World.size_setCell, World.size_drew]; omega))))⟩
        case measure => first | (simp [intOf]; done) | (simp [intOf]; omega) | omega
    · obtain rfl : k = L.length := by omega
      go_wp2_with fail
      go_ret
      exact RetOwn.mk _ rfl hown.out z.bel
set_option maxRecDepth 4000 in
set_option maxHeartbeats 2000000 in
theorem sRest_any (L : List Clm) (S : List Int) (a a' : Option Addr) (n c n' c' : Nat) (w : World) (hn : L.length = n) (hn' : S.length = n') (hm : n ≤ 1048576) (hm' : n' ≤ 1048576) (hr' : Row w a' (intCells S)) :
    Calls Tryz.prog 119 #[.slice a n c, .slice a' n' c'] w (RetOwn w 2 1 (restTo S n).length (intCells (restTo S n)) id) := by
  obtain ⟨ii, j1, j2, j3, j4⟩ := info_i64'
  have Jii := Lib.hid (And.intro j1 (And.intro j2 (And.intro j3 j4)))
  clear j1 j2 j3 j4
  clear hn
  have CH := Lib.hid (fun (x : Int) (w : World) (b : Bool) (hr : Row w a' (intCells S)) (h : S.contains x = b) => sHas_b (x := x) (c := c') hn' hm' hr h)
  replace hr' := Lib.hid hr'
  have hown0 := Lib.hid (World.ownsRow_lit (base := w.heap.size) (e := 2) (size := 1) w #[] 0 (Nat.le_refl _) (by unfold maxLen; omega) rfl)
  go_enter Tryz.func119, Tryz.ntmps119
  go_wp2_with fail
  go_loopw [5, 6] (fun t5 i wr => ∃ (k : Nat) (a5 : Option Addr) (c5 : Nat), k ≤ n ∧ i = .int .i64 k ∧ t5 = .slice a5 (restTo S k).length c5 ∧ wr.ownsRow w.heap.size 2 1 (.slice a5 (restTo S k).length c5) (restTo S k).length (intCells (restTo S k)) ∧ ∃ z : Later w, wr = z.w) (fun _ i _ => n - (intOf i).toNat)
  case atStart => exact ⟨0, _, _, Nat.zero_le _, rfl, rfl, hown0.out, LaterC.mk (by (repeat (first | (with_reducible exact Below.refl _ _) | (with_reducible assumption) | (with_reducible refine Later.out _ ?_) | (with_reducible refine bel_alloc ?_ _) | (with_reducible refine bel_drew ?_) | (with_reducible refine bel_drewN ?_ _) | (with_reducible refine bel_set ?_ ?_ _) | (with_reducible refine After.out _ ?_ ?_) | (dsimp only; omega) | omega | (simp only [World.size_alloc, World.size_setCell, World.size_drew]; omega))))⟩
  case round =>
    obtain ⟨k, a5, c5, hk, rfl, rfl, hown, z, rfl⟩ := hrel
    replace hown := Lib.hid hown
    have hzz := z.bel.size
    clear hown0
    by_cases hlt : k < n
    · have hle := restTo_le S k
      cases hv : S.contains (k : Int)
      · have X := Lib.hid (restTo_yes hv)
        replace hv := Lib.hid hv
        obtain ⟨N, hN⟩ : ∃ N, restTo S k = N := ⟨_, rfl⟩
        rw [hN] at hown X hle
        simp only [hN]
        clear hN
        go_wp2_with fail
        with_reducible refine (CH.out _ _ _ (hr'.out.bel (by (repeat (first | (with_reducible exact Below.refl _ _) | (with_reducible assumption) | (with_reducible refine Later.out _ ?_) | (with_reducible refine bel_alloc ?_ _) | (with_reducible refine bel_drew ?_) | (with_reducible refine bel_drewN ?_ _) | (with_reducible refine bel_set ?_ ?_ _) | (with_reducible refine After.out _ ?_ ?_) | (dsimp only; omega) | omega | (simp only [World.size_alloc, World.size_setCell, World.size_drew]; omega))))) hv.out).mono ?_
        rintro e w' ⟨rfl, y1, rfl⟩
        have hsy1 := y1.bel.size
        (try simp only [World.size_alloc, World.size_setCell, World.size_drew] at hsy1)
        go_wp2_with (at_builtin; (refine wpList_append_later _ rfl _ _ _ rfl 2 ii _ 1 8 Tryz.underlying35 Jii.out.1 Jii.out.2.1 Jii.out.2.2.1 Jii.out.2.2.2 rfl (by decide) (w) ?qa8 _ _ _ (intCells N) rfl ?qa9 _ _ _ ([.int .i64 k]) rfl ?qa10 ?qa11 ?qa12 ?qa13 ?qa14 ?_); (case qa8 => (repeat (first | (with_reducible exact Below.refl _ _) | (with_reducible assumption) | (with_reducible refine Later.out _ ?_) | (with_reducible refine bel_alloc ?_ _) | (with_reducible refine bel_drew ?_) | (with_reducible refine bel_drewN ?_ _) | (with_reducible refine bel_set ?_ ?_ _) | (with_reducible refine After.out _ ?_ ?_) | (dsimp only; omega) | omega | (simp only [World.size_alloc, World.size_setCell, World.size_drew]; omega)))); (case qa9 => exact own_bel hown.out (by (repeat (first | (with_reducible exact Below.refl _ _) | (with_reducible assumption) | (with_reducible refine Later.out _ ?_) | (with_reducible refine bel_alloc ?_ _) | (with_reducible refine bel_drew ?_) | (with_reducible refine bel_drewN ?_ _) | (with_reducible refine bel_set ?_ ?_ _) | (with_reducible refine After.out _ ?_ ?_) | (dsimp only; omega) | omega | (simp only [World.size_alloc, World.size_setCell, World.size_drew]; omega))))); (case qa10 => (first | rfl | (simp [boolCells]; done) | (simp [intCells]; done) | (simp; done) | (first | omega | (simp only [List.length_append, List.length_cons, List.length_nil]; omega)))); (case qa11 => exact Row.made _ _ _); (case qa12 => (intro u hu; simp at hu; subst hu; rfl)); (case qa13 => (unfold maxLen; (first | omega | (simp only [List.length_append, List.length_cons, List.length_nil]; omega)))); (case qa14 => (first | omega | (simp only [List.length_append, List.length_cons, List.length_nil]; omega))); intro a9 c9 x9 hown9)
        replace hown9 := Lib.hid hown9
        go_roundw
        case rel => exact ⟨k + 1, a9, c9, by omega, by go_num, by rw [X.out]; simp, by rw [X.out, intCells_snoc]; simpa using hown9.out, x9, rfl⟩
        case measure => first | (simp [intOf]; done) | (simp [intOf]; omega) | omega
      · have X := Lib.hid (restTo_no hv)
        replace hv := Lib.hid hv
        go_wp2_with fail
        with_reducible refine (CH.out _ _ _ (hr'.out.bel (by (repeat (first | (with_reducible exact Below.refl _ _) | (with_reducible assumption) | (with_reducible refine Later.out _ ?_) | (with_reducible refine bel_alloc ?_ _) | (with_reducible refine bel_drew ?_) | (with_reducible refine bel_drewN ?_ _) | (with_reducible refine bel_set ?_ ?_ _) | (with_reducible refine After.out _ ?_ ?_) | (dsimp only; omega) | omega | (simp only [World.size_alloc, World.size_setCell, World.size_drew]; omega))))) hv.out).mono ?_
        rintro e w' ⟨rfl, y1, rfl⟩
        have hsy1 := y1.bel.size
        (try simp only [World.size_alloc, World.size_setCell, World.size_drew] at hsy1)
        go_wp2_with fail
        go_roundw
        case rel => exact ⟨k + 1, a5, c5, by omega, by go_num, by rw [X.out], by rw [X.out]; exact own_bel hown.out (by (repeat (first | (with_reducible exact Below.refl _ _) | (with_reducible assumption) | (with_reducible refine Later.out _ ?_) | (with_reducible refine bel_alloc ?_ _) | (with_reducible refine bel_drew ?_) | (with_reducible refine bel_drewN ?_ _) | (with_reducible refine bel_set ?_ ?_ _) | (with_reducible refine After.out _ ?_ ?_) | (dsimp only; omega) | omega | (simp only [World.size_alloc, World.size_setCell, World.size_drew]; omega)))), LaterC.mk (by (repeat (first | (with_reducible exact Below.refl _ _) | (with_reducible assumption) | (with_reducible refine Later.out _ ?_) | (with_reducible refine bel_alloc ?_ _) | (with_reducible refine bel_drew ?_) | (with_reducible refine bel_drewN ?_ _) | (with_reducible refine bel_set ?_ ?_ _) | (with_reducible refine After.out _ ?_ ?_) | (dsimp only; omega) | omega | (simp only [World.size_alloc, World.size_setCell, World.size_drew]; omega))))⟩
        case measure => first | (simp [intOf]; done) | (simp [intOf]; omega) | omega
    · obtain rfl : k = n := by omega
      go_wp2_with fail
      go_ret
      exact RetOwn.mk _ rfl hown.out z.bel
theorem pick_full (L : List Clm) (S : List Int) : pick L (S.take S.length) = pick L S := by rw [List.take_length]
set_option maxRecDepth 4000 in
set_option maxHeartbeats 2000000 in
theorem sChosen_any (L : List Clm) (S : List Int) (a a' : Option Addr) (n c n' c' : Nat) (w : World) (hn : L.length = n) (hn' : S.length = n') (hm : n ≤ 1048576) (hm' : n' ≤ 1048576) (hr : Row w a (clmsCells L)) (hr' : Row w a' (intCells S)) (hin : Within L.length S) :
    Calls Tryz.prog 118 #[.slice a n c, .slice a' n' c'] w (RetOwn w 27 7 (pick L S).length (clmsCells (pick L S)) id) := by
  obtain ⟨ii, j1, j2, j3, j4⟩ := info_claim'
  have Jii := Lib.hid (And.intro j1 (And.intro j2 (And.intro j3 j4)))
  clear j1 j2 j3 j4
  subst hn hn'
  replace hr := Lib.hid hr
  replace hr' := Lib.hid hr'
  replace hin := Lib.hid hin
  have hown0 := Lib.hid (World.ownsRow_lit (base := w.heap.size) (e := 27) (size := 7) w #[] 0 (Nat.le_refl _) (by unfold maxLen; omega) rfl)
  have PF := Lib.hid (pick_full L S)
  go_enter Tryz.func118, Tryz.ntmps118
  go_wp2_with fail
  go_loopw [5, 6] (fun t5 i wr => ∃ (k : Nat) (a5 : Option Addr) (c5 : Nat), k ≤ S.length ∧ i = .int .i64 k ∧ t5 = .slice a5 (pick L (S.take k)).length c5 ∧ wr.ownsRow w.heap.size 27 7 (.slice a5 (pick L (S.take k)).length c5) (pick L (S.take k)).length (clmsCells (pick L (S.take k))) ∧ ∃ z : Later w, wr = z.w) (fun _ i _ => S.length - (intOf i).toNat)
  case atStart => exact ⟨0, _, _, Nat.zero_le _, rfl, rfl, hown0.out, LaterC.mk (by (repeat (first | (with_reducible exact Below.refl _ _) | (with_reducible assumption) | (with_reducible refine Later.out _ ?_) | (with_reducible refine bel_alloc ?_ _) | (with_reducible refine bel_drew ?_) | (with_reducible refine bel_drewN ?_ _) | (with_reducible refine bel_set ?_ ?_ _) | (with_reducible refine After.out _ ?_ ?_) | (dsimp only; omega) | omega | (simp only [World.size_alloc, World.size_setCell, World.size_drew]; omega))))⟩
  case round =>
    obtain ⟨k, a5, c5, hk, rfl, rfl, hown, z, rfl⟩ := hrel
    replace hown := Lib.hid hown
    have hzz := z.bel.size
    clear hown0
    by_cases hlt : k < S.length
    · have hle := pick_take_le L S k (by omega)
      have hix := hin.out.at_ hlt
      have X := Lib.hid (pick_take hlt (show S[k].toNat < L.length by omega))
      obtain ⟨b', o', rfl, hb', hc'⟩ := hr'.out.int hlt
      obtain ⟨N, hN⟩ : ∃ N, pick L (S.take k) = N := ⟨_, rfl⟩
      rw [hN] at hown X hle
      simp only [hN]
      obtain ⟨m, hm⟩ : ∃ m : Nat, S[k] = m := ⟨S[k].toNat, by omega⟩
      rw [hm] at hc' hix
      have hml : m < L.length := by omega
      have X2 := Lib.hid (show pick L (S.take (k + 1)) = N ++ [L[m]] by rw [X.out]; simp [hm])
      clear hN hm X
      obtain ⟨b, o, rfl, hb, q0, q1, q2, q3, q4, q5, q6⟩ := hr.out.clm hml
      have hi1 : (k : Int) < (S.length : Int) := by omega
      have hi2 : (m : Int) < (L.length : Int) := by omega
      go_wp2_with (at_builtin; (refine wpList_append_later _ rfl _ _ _ rfl 27 ii _ 7 80 Tryz.underlying32 Jii.out.1 Jii.out.2.1 Jii.out.2.2.1 Jii.out.2.2.2 rfl (by decide) (w) ?qa15 _ _ _ (clmsCells N) rfl ?qa16 _ _ _ (clmCells L[m]) rfl ?qa17 ?qa18 ?qa19 ?qa20 ?qa21 ?_); (case qa15 => (repeat (first | (with_reducible exact Below.refl _ _) | (with_reducible assumption) | (with_reducible refine Later.out _ ?_) | (with_reducible refine bel_alloc ?_ _) | (with_reducible refine bel_drew ?_) | (with_reducible refine bel_drewN ?_ _) | (with_reducible refine bel_set ?_ ?_ _) | (with_reducible refine After.out _ ?_ ?_) | (dsimp only; omega) | omega | (simp only [World.size_alloc, World.size_setCell, World.size_drew]; omega)))); (case qa16 => exact own_bel hown.out (by (repeat (first | (with_reducible exact Below.refl _ _) | (with_reducible assumption) | (with_reducible refine Later.out _ ?_) | (with_reducible refine bel_alloc ?_ _) | (with_reducible refine bel_drew ?_) | (with_reducible refine bel_drewN ?_ _) | (with_reducible refine bel_set ?_ ?_ _) | (with_reducible refine After.out _ ?_ ?_) | (dsimp only; omega) | omega | (simp only [World.size_alloc, World.size_setCell, World.size_drew]; omega))))); (case qa17 => (first | rfl | (simp [boolCells]; done) | (simp [intCells]; done) | (simp; done) | (first | omega | (simp only [List.length_append, List.length_cons, List.length_nil]; omega)))); (case qa18 => exact Row.made _ _ _); (case qa19 => exact one_clm1 _); (case qa20 => (unfold maxLen; (first | omega | (simp only [List.length_append, List.length_cons, List.length_nil]; omega)))); (case qa21 => (first | omega | (simp only [List.length_append, List.length_cons, List.length_nil]; omega))); intro a9 c9 x9 hown9)
      replace hown9 := Lib.hid hown9
      go_roundw
      case rel => exact ⟨k + 1, a9, c9, by omega, by go_num, by rw [X2.out]; simp, by rw [X2.out, clmsCells_snoc]; simpa using hown9.out, x9, rfl⟩
      case measure => first | (simp [intOf]; done) | (simp [intOf]; omega) | omega
    · obtain rfl : k = S.length := by omega
      rw [PF.out] at hown ⊢
      go_wp2_with fail
      go_ret
      exact RetOwn.mk _ rfl hown.out z.bel
end Go.Proofs.YtflcfdiochohgaaGreatDoor

/- A list without one of its elements: both sides; slices.Grow and slices.Concat of numbers. -/
set_option linter.unusedSimpArgs false
set_option linter.unusedVariables false
namespace Go.Proofs.YtflcfdiochohgaaGreatDoor
open Go.RowKit
theorem own_cut {w : World} {base n cap : Nat} {e : TypeId} {cs : Array Value} (hb : base ≤ w.heap.size) (hn : n ≤ cap) (hc : cap ≤ maxLen) (hs : cs.size = cap) :
    (w.alloc (.cells cs e)).ownsRow base e 1 (.slice (some ⟨w.heap.size, 0, none⟩) n cap) n (cs.toList.take n) :=
  ⟨by simp [hs]; omega, .inr ⟨w.heap.size, cap, cs, rfl, hb, heap_alloc_new w _, hn, hc, by omega, by simp⟩⟩
set_option maxRecDepth 8000 in
set_option maxHeartbeats 2000000 in
theorem growNil_any (n : Nat) (w : World) (hn : n ≤ 1048576) : Calls Tryz.prog 211 #[.slice none 0 0, .int .i64 n] w (RetOwn w 2 1 0 [] id) := by
  rcases Nat.eq_zero_or_pos n with rfl | h0
  · go_enter Tryz.func211, Tryz.ntmps211
    go_wp2_with fail
    go_ret
    exact RetOwn.mk (.slice none 0 0) rfl (World.ownsRow_nil _ _ _ _) (by (repeat (first | (with_reducible exact Below.refl _ _) | (with_reducible assumption) | (with_reducible refine Later.out _ ?_) | (with_reducible refine bel_alloc ?_ _) | (with_reducible refine bel_drew ?_) | (with_reducible refine bel_drewN ?_ _) | (with_reducible refine bel_set ?_ ?_ _) | (with_reducible refine After.out _ ?_ ?_) | (dsimp only; omega) | omega | (simp only [World.size_alloc, World.size_setCell, World.size_drew]; omega))))
  · obtain ⟨i, j1, j2, j3, j4⟩ := info_i64'
    have hrz : ∀ (w : World) ty, (Builtin.append_ #[35, 3] ty #[.slice none 0 0, .int .i64 n]).run Tryz.prog w = .ok (.slice (some ⟨w.heap.size, 0, none⟩) n (grownCap w n 0 2)) (w.drew.alloc (.cells (#[] ++ Builtin.zeroCells (Value.int .i64 0).cells n ++ Builtin.zeroCells (Value.int .i64 0).cells (grownCap w n 0 2 - n)) 2)) := fun w ty => by
      have h := Lib.run_append_grow_zeros w 35 3 ty 2 i _ .i64 .i64 Tryz.underlying35 Tryz.underlying3 j1 j2 none 0 0 [] (run_firstCells_none w.drew i.size 0 0 0) n h0 (by omega) (by omega) (by omega) (by rw [j4]; omega) (growslice_fits (by omega) (by rw [j4]; omega))
      simp only [Nat.zero_add] at h
      exact h
    have hG : ∀ w : World, n ≤ grownCap w n 0 2 ∧ grownCap w n 0 2 ≤ maxLen := fun w => ⟨grownCap_ge w _ _ _, grownCap_le_maxLen w _ _ _ (by unfold maxLen; omega)⟩
    have hn1 : (0 : Int) < n := by omega
    replace hG := Lib.hid hG
    clear j1 j2 j3 j4
    go_enter Tryz.func211, Tryz.ntmps211
    go_wp2_with (at_builtin; refine Lib.wpList_append_run _ rfl _ _ _ _ rfl _ _ rfl rfl _ _ (hrz _ _) ?_)
    have h1 := (hG.out w).1
    have h2 := (hG.out w).2
    have HO := Lib.hid (own_cut (w := w) (base := w.heap.size) (n := 0) (cap := grownCap w n 0 2) (e := 2) (cs := Builtin.zeroCells #[.int .i64 0] n ++ Builtin.zeroCells #[.int .i64 0] (grownCap w n 0 2 - n)) (Nat.le_refl _) (Nat.zero_le _) h2 (by simp only [Array.size_append, size_zeroCells]; simp; omega))
    clear h1 h2
    go_ret
    refine RetOwn.mk _ rfl ?_ ?_
    · exact own_bel HO.out (by (repeat (first | (with_reducible exact Below.refl _ _) | (with_reducible assumption) | (with_reducible refine Later.out _ ?_) | (with_reducible refine bel_alloc ?_ _) | (with_reducible refine bel_drew ?_) | (with_reducible refine bel_drewN ?_ _) | (with_reducible refine bel_set ?_ ?_ _) | (with_reducible refine After.out _ ?_ ?_) | (dsimp only; omega) | omega | (simp only [World.size_alloc, World.size_setCell, World.size_drew]; omega))))
    · (repeat (first | (with_reducible exact Below.refl _ _) | (with_reducible assumption) | (with_reducible refine Later.out _ ?_) | (with_reducible refine bel_alloc ?_ _) | (with_reducible refine bel_drew ?_) | (with_reducible refine bel_drewN ?_ _) | (with_reducible refine bel_set ?_ ?_ _) | (with_reducible refine After.out _ ?_ ?_) | (dsimp only; omega) | omega | (simp only [World.size_alloc, World.size_setCell, World.size_drew]; omega)))
/-- The first `k` lists, one behind the other. -/
def flatS (S : List (List Int)) (k : Nat) : List Int := (S.take k).flatten
theorem flatS_succ {S : List (List Int)} {k : Nat} (h : k < S.length) : flatS S (k + 1) = flatS S k ++ S[k] := by
  unfold flatS
  rw [List.take_succ_eq_append_getElem h, List.flatten_append]
  simp
theorem length_flatS (S : List (List Int)) : ∀ k, k ≤ S.length → (flatS S k).length = offS S k
  | 0, _ => rfl
  | k + 1, h => by rw [flatS_succ (by omega), List.length_append, length_flatS S k (by omega), offS_succ (by omega)]
theorem intCells_append (l m : List Int) : intCells (l ++ m) = intCells l ++ intCells m := by simp [intCells]
theorem one_ints (l : List Int) : ∀ u ∈ intCells l, u.oneCell' = true := by
  intro u hu
  simp only [intCells, List.mem_map] at hu
  obtain ⟨b, _, rfl⟩ := hu
  rfl
set_option maxRecDepth 8000 in
set_option maxHeartbeats 2000000 in
theorem concat_any (S : List (List Int)) (a : Option Addr) (n c M : Nat) (w : World) (hn : S.length = n) (hm : n ≤ 1000) (hM : ∀ l ∈ S, l.length ≤ M) (hM' : M ≤ 1000) (hr : Rows2 w a S) :
    Calls Tryz.prog 172 #[.slice a n c] w (RetOwn w 2 1 (flatS S n).length (intCells (flatS S n)) id) := by
  obtain ⟨ii, j1, j2, j3, j4⟩ := info_i64'
  have Jii := Lib.hid (And.intro j1 (And.intro j2 (And.intro j3 j4)))
  clear j1 j2 j3 j4
  subst hn
  have hoff := Lib.hid (offS_le hM)
  have hlen := Lib.hid (length_flatS S)
  replace hM := Lib.hid hM
  replace hr := Lib.hid hr
  go_enter Tryz.func172, Tryz.ntmps172
  go_wp2_with fail
  go_loopw [3, 11] (fun s i wr => ∃ k : Nat, k ≤ S.length ∧ i = .int .i64 k ∧ s = .int .i64 (offS S k : Nat) ∧ ∃ z : Later w, wr = z.w) (fun _ i _ => S.length - (intOf i).toNat)
  case atStart => exact ⟨0, Nat.zero_le _, rfl, rfl, ⟨_, Below.refl _ _⟩, rfl⟩
  case round =>
    obtain ⟨k, hk, rfl, rfl, z, rfl⟩ := hrel
    have hzz := z.bel.size
    have hof := hoff.out k
    have hof2 : k * M ≤ 1000 * 1000 := Nat.mul_le_mul (by omega) hM'
    by_cases hlt : k < S.length
    · obtain ⟨b, o, ai, ci, rfl, hb, hc, hrow⟩ := hr.out.at_ hlt
      have hi1 : (k : Int) < (S.length : Int) := by omega
      have hl1 := hM.out _ (List.getElem_mem hlt)
      have X := Lib.hid (offS_succ hlt)
      have hpos : ¬ ((offS S k : Int) + (S[k].length : Int) < 0) := by omega
      clear hrow
      go_wp2_with fail
      go_roundw
      case rel => exact ⟨k + 1, by omega, by go_num, by rw [X.out]; go_num, LaterC.mk (by (repeat (first | (with_reducible exact Below.refl _ _) | (with_reducible assumption) | (with_reducible refine Later.out _ ?_) | (with_reducible refine bel_alloc ?_ _) | (with_reducible refine bel_drew ?_) | (with_reducible refine bel_drewN ?_ _) | (with_reducible refine bel_set ?_ ?_ _) | (with_reducible refine After.out _ ?_ ?_) | (dsimp only; omega) | omega | (simp only [World.size_alloc, World.size_setCell, World.size_drew]; omega))))⟩
      case measure => first | (simp [intOf]; done) | (simp [intOf]; omega) | omega
    · obtain rfl : k = S.length := by omega
      have hG := fun w => growNil_any (offS S S.length) w (by omega)
      replace hG := Lib.hid hG
      go_wp2_with fail
      with_reducible refine (hG.out _).mono ?_
      rintro e w' ⟨a6, c6, rfl, hown, y1, rfl⟩
      have hsy1 := y1.bel.size
      (try simp only [World.size_alloc, World.size_setCell, World.size_drew] at hsy1)
      have H6 := Lib.hid (Owns.of hown)
      clear hown
      go_wp2_with fail
      go_loopw [6, 27] (fun t6 i wr => ∃ (k : Nat) (a6 : Option Addr) (c6 : Nat), k ≤ S.length ∧ i = .int .i64 k ∧ t6 = .slice a6 (offS S k) c6 ∧ wr.ownsRow w.heap.size 2 1 (.slice a6 (offS S k) c6) (offS S k) (intCells (flatS S k)) ∧ ∃ z : Later w, wr = z.w) (fun _ i _ => S.length - (intOf i).toNat)
      case atStart => exact ⟨0, a6, c6, Nat.zero_le _, rfl, rfl, own_mono (own_bel H6.out.own (by (repeat (first | (with_reducible exact Below.refl _ _) | (with_reducible assumption) | (with_reducible refine Later.out _ ?_) | (with_reducible refine bel_alloc ?_ _) | (with_reducible refine bel_drew ?_) | (with_reducible refine bel_drewN ?_ _) | (with_reducible refine bel_set ?_ ?_ _) | (with_reducible refine After.out _ ?_ ?_) | (dsimp only; omega) | omega | (simp only [World.size_alloc, World.size_setCell, World.size_drew]; omega))))) (by ((try simp only [World.size_alloc, World.size_setCell, World.size_drew]); omega)), LaterC.mk (by (repeat (first | (with_reducible exact Below.refl _ _) | (with_reducible assumption) | (with_reducible refine Later.out _ ?_) | (with_reducible refine bel_alloc ?_ _) | (with_reducible refine bel_drew ?_) | (with_reducible refine bel_drewN ?_ _) | (with_reducible refine bel_set ?_ ?_ _) | (with_reducible refine After.out _ ?_ ?_) | (dsimp only; omega) | omega | (simp only [World.size_alloc, World.size_setCell, World.size_drew]; omega))))⟩
      case round =>
        obtain ⟨k, a6, c6, hk, rfl, rfl, hown, z2, rfl⟩ := hrel
        have hz2 := z2.bel.size
        have hlk := hlen.out k hk
        have hof := hoff.out k
        have hof2 : k * M ≤ 1000 * 1000 := Nat.mul_le_mul (by omega) hM'
        replace hown := Lib.hid hown
        by_cases hlt : k < S.length
        · obtain ⟨b, o, ai, ci, rfl, hb, hc, hrow⟩ := hr.out.at_ hlt
          have hi1 : (k : Int) < (S.length : Int) := by omega
          have hl1 := hM.out _ (List.getElem_mem hlt)
          have X := Lib.hid (offS_succ hlt)
          have Y := Lib.hid (flatS_succ hlt)
          have hli := length_intCells S[k]
          replace hrow := Lib.hid hrow
          go_wp2_with (at_builtin; (refine wpList_append_later _ rfl _ _ _ rfl 2 ii _ 1 8 Tryz.underlying35 Jii.out.1 Jii.out.2.1 Jii.out.2.2.1 Jii.out.2.2.2 rfl (by decide) (w) ?qa1 _ _ _ (intCells (flatS S k)) rfl ?qa2 _ _ _ (intCells S[k]) rfl ?qa3 ?qa4 ?qa5 ?qa6 ?qa7 ?_); (case qa1 => (repeat (first | (with_reducible exact Below.refl _ _) | (with_reducible assumption) | (with_reducible refine Later.out _ ?_) | (with_reducible refine bel_alloc ?_ _) | (with_reducible refine bel_drew ?_) | (with_reducible refine bel_drewN ?_ _) | (with_reducible refine bel_set ?_ ?_ _) | (with_reducible refine After.out _ ?_ ?_) | (dsimp only; omega) | omega | (simp only [World.size_alloc, World.size_setCell, World.size_drew]; omega)))); (case qa2 => exact hown.out); (case qa3 => (first | rfl | (simp [boolCells]; done) | (simp [intCells]; done) | (simp; done) | (first | omega | (simp only [List.length_append, List.length_cons, List.length_nil]; omega)))); (case qa4 => exact hrow.out.bel (by (repeat (first | (with_reducible exact Below.refl _ _) | (with_reducible assumption) | (with_reducible refine Later.out _ ?_) | (with_reducible refine bel_alloc ?_ _) | (with_reducible refine bel_drew ?_) | (with_reducible refine bel_drewN ?_ _) | (with_reducible refine bel_set ?_ ?_ _) | (with_reducible refine After.out _ ?_ ?_) | (dsimp only; omega) | omega | (simp only [World.size_alloc, World.size_setCell, World.size_drew]; omega))))); (case qa5 => exact one_ints _); (case qa6 => (unfold maxLen; (first | omega | (simp only [List.length_append, List.length_cons, List.length_nil]; omega)))); (case qa7 => (first | omega | (simp only [List.length_append, List.length_cons, List.length_nil]; omega))); intro a9 c9 x9 hown9)
          replace hown9 := Lib.hid hown9
          go_roundw
          case rel => exact ⟨k + 1, a9, c9, by omega, by go_num, by rw [X.out], by rw [X.out, Y.out, intCells_append]; exact hown9.out, x9, rfl⟩
          case measure => first | (simp [intOf]; done) | (simp [intOf]; omega) | omega
        · obtain rfl : k = S.length := by omega
          go_wp2_with fail
          go_ret
          refine RetOwn.mk _ rfl ?_ z2.bel
          rw [hlk]
          exact hown.out
end Go.Proofs.YtflcfdiochohgaaGreatDoor

/- A list without one of its elements: both sides. -/
set_option linter.unusedSimpArgs false
set_option linter.unusedVariables false
namespace Go.Proofs.YtflcfdiochohgaaGreatDoor
open Go.RowKit
theorem Row.int_take {w : World} {a : Option Addr} {S : List Int} (h : Row w a (intCells S)) (k : Nat) : Row w a (intCells (S.take k)) := h.sub fun j v hj => by
  have hj2 := (List.getElem?_eq_some_iff.1 hj).1
  rw [length_intCells, List.length_take] at hj2
  rw [show intCells (S.take k) = (intCells S).take k by simp [intCells, List.map_take], List.getElem?_take, if_pos (by omega)] at hj
  exact hj
theorem Row.int_drop {w : World} {b o : Nat} {S : List Int} (h : Row w (some ⟨b, o, none⟩) (intCells S)) (k : Nat) : Row w (some ⟨b, o + k, none⟩) (intCells (S.drop k)) := fun j v hj => by
  rw [show intCells (S.drop k) = (intCells S).drop k by simp [intCells, List.map_drop], List.getElem?_drop] at hj
  obtain ⟨b', o', he, hc⟩ := h (k + j) v hj
  cases he
  exact ⟨b, o + k, rfl, by rw [Nat.add_assoc]; exact hc⟩
theorem Rows2.two {W : World} {e : TypeId} {a1 a2 : Option Addr} {n1 n2 c1 c2 : Nat} {l1 l2 : List Int} (h1 : Row W a1 (intCells l1)) (h2 : Row W a2 (intCells l2)) (e1 : l1.length = n1) (e2 : l2.length = n2) :
    Rows2 (W.alloc (.cells #[.slice a1 n1 c1, .slice a2 n2 c2] e)) (some ⟨W.heap.size, 0, none⟩) [l1, l2] := by
  subst e1 e2
  have hb : Below W.heap.size W (W.alloc (.cells #[.slice a1 l1.length c1, .slice a2 l2.length c2] e)) := (Below.refl _ _).alloc (Nat.le_refl _) _
  refine ⟨[.slice a1 l1.length c1, .slice a2 l2.length c2], rfl, Row.made _ _ _, fun i hi => ?_⟩
  match i, hi with
  | 0, _ => exact ⟨a1, c1, rfl, h1.bel hb⟩
  | 1, _ => exact ⟨a2, c2, rfl, h2.bel hb⟩
  | k + 2, h => simp at h; omega
theorem flat_two (l1 l2 : List Int) : flatS [l1, l2] 2 = l1 ++ l2 := by simp [flatS]
theorem erase_split (S : List Int) (i : Nat) : S.take i ++ S.drop (i + 1) = S.eraseIdx i := (List.eraseIdx_eq_take_drop_succ S i).symm
set_option maxRecDepth 8000 in
set_option maxHeartbeats 2000000 in
theorem lacking_any (S : List Int) (i : Nat) (a : Option Addr) (n c : Nat) (w : World) (hn : S.length = n) (hi : i < n) (hm : n ≤ 1000) (hcap : n ≤ c) (hr : Row w a (intCells S)) :
    Calls Tryz.prog 114 #[.slice a n c, .int .i64 i] w (RetOwn w 2 1 (S.eraseIdx i).length (intCells (S.eraseIdx i)) id) := by
  subst hn
  obtain ⟨b, o, rfl, hb, hc⟩ := hr.int hi
  have hi1 : (i : Int) < (S.length : Int) := by omega
  by_cases hc1 : c = i + 1
  · subst hc1
    have hR := Lib.hid (Rows2.two (W := w) (e := 35) (c1 := i + 1) (c2 := 0) (a2 := some ⟨b, o, none⟩) (hr.int_take i) (l2 := S.drop (i + 1)) (by rw [List.drop_eq_nil_of_le (by omega)]; exact Row.nil _ _) (n1 := i) (n2 := 0) (by simp; omega) (by simp; omega))
    have CC := Lib.hid (fun a c w hr => concat_any [S.take i, S.drop (i + 1)] a 2 c 1000 w rfl (by omega) (by intro l hl; simp at hl; rcases hl with rfl | rfl <;> simp <;> omega) (by omega) hr)
    have hF := Lib.hid (show flatS [S.take i, S.drop (i + 1)] 2 = S.eraseIdx i by rw [flat_two, erase_split])
    rw [hF.out] at CC
    clear hr hc
    go_enter Tryz.func114, Tryz.ntmps114
    go_wp2_with fail
    refine wp_region_plan [(0, true), (1, true), (2, true), (3, true), (4, true), (5, true), (6, true), (7, false), (8, false), (9, true)] (C := LaterC _) (by kernel_rfl) (by kernel_rfl) (by kernel_rfl) rfl (fun _ _ d _ _ h => by cases d <;> exact h) (LaterC.mk ((Below.refl _ _).drew)) ?_
    refine plan_quiet nth0 rfl ?_
    intro KP hKP
    go_big_quiet_op
    go_big_quiet_on
    refine plan_quiet nth1 rfl ?_
    intro KP hKP
    go_big_quiet_op
    go_big_quiet_on
    refine plan_quiet nth2 rfl ?_
    intro KP hKP
    go_big_quiet_op
    go_big_quiet_on
    refine plan_quiet nth3 rfl ?_
    intro KP hKP
    go_big_quiet_op
    go_big_quiet_on
    refine plan_quiet nth4 rfl ?_
    intro KP hKP
    go_big_quiet_op
    go_big_quiet_on
    refine plan_quiet nth5 rfl ?_
    intro KP hKP
    go_big_quiet_op
    go_big_quiet_on
    refine plan_quiet nth6 rfl ?_
    intro KP hKP
    go_big_quiet_op
    go_big_quiet_on
    refine plan_loud nth7 rfl ?_
    intro KP hKP
    go_wp2_with fail
    refine hKP _ _ (LaterC.mk (by (repeat (first | (with_reducible exact Below.refl _ _) | (with_reducible assumption) | (with_reducible refine Later.out _ ?_) | (with_reducible refine bel_alloc ?_ _) | (with_reducible refine bel_drew ?_) | (with_reducible refine bel_drewN ?_ _) | (with_reducible refine bel_set ?_ ?_ _) | (with_reducible refine After.out _ ?_ ?_) | (dsimp only; omega) | omega | (simp only [World.size_alloc, World.size_setCell, World.size_drew]; omega))))) ?_
    clear hKP KP
    refine plan_loud nth8 rfl ?_
    intro KP hKP
    go_wp2_with fail
    with_reducible refine (CC.out _ _ _ (hR.out.bel ?hbx)).mono ?_
    case hbx => (first | exact bel_drew (Below.refl _ _) | exact Below.refl _ _)
    rintro e w' ⟨a1, c1, rfl, hown, x1, rfl⟩
    have hs1 := x1.bel.size
    (try simp only [World.size_alloc, World.size_setCell, World.size_drew] at hs1)
    have HO1 := Lib.hid (Owns.of hown)
    clear hown
    go_wp2_with fail
    refine hKP _ _ (LaterC.mk (by (repeat (first | (with_reducible exact Below.refl _ _) | (with_reducible assumption) | (with_reducible refine Later.out _ ?_) | (with_reducible refine bel_alloc ?_ _) | (with_reducible refine bel_drew ?_) | (with_reducible refine bel_drewN ?_ _) | (with_reducible refine bel_set ?_ ?_ _) | (with_reducible refine After.out _ ?_ ?_) | (dsimp only; omega) | omega | (simp only [World.size_alloc, World.size_setCell, World.size_drew]; omega))))) ?_
    clear hKP KP
    refine plan_quiet nth9 rfl ?_
    intro KP hKP
    go_big_quiet_op
    go_big_quiet_on
    refine plan_nil ?_
    go_wp2_with fail
    go_ret
    refine RetOwn.mk _ rfl (own_mono HO1.out.own ?_) ?_
    · ((try simp only [World.size_alloc, World.size_setCell, World.size_drew]); omega)
    · (repeat (first | (with_reducible exact Below.refl _ _) | (with_reducible assumption) | (with_reducible refine Later.out _ ?_) | (with_reducible refine bel_alloc ?_ _) | (with_reducible refine bel_drew ?_) | (with_reducible refine bel_drewN ?_ _) | (with_reducible refine bel_set ?_ ?_ _) | (with_reducible refine After.out _ ?_ ?_) | (dsimp only; omega) | omega | (simp only [World.size_alloc, World.size_setCell, World.size_drew]; omega)))
  · have hlt : i + 1 < c := by omega
    have hR := Lib.hid (Rows2.two (W := w) (e := 35) (c1 := c) (c2 := c - (i + 1)) (hr.int_take i) (hr.int_drop (i + 1)) (n1 := i) (n2 := S.length - (i + 1)) (by simp; omega) (by simp))
    have CC := Lib.hid (fun a c w hr => concat_any [S.take i, S.drop (i + 1)] a 2 c 1000 w rfl (by omega) (by intro l hl; simp at hl; rcases hl with rfl | rfl <;> simp <;> omega) (by omega) hr)
    have hF := Lib.hid (show flatS [S.take i, S.drop (i + 1)] 2 = S.eraseIdx i by rw [flat_two, erase_split])
    rw [hF.out] at CC
    clear hr hc
    go_enter Tryz.func114, Tryz.ntmps114
    go_wp2_with fail
    refine wp_region_plan [(0, true), (1, true), (2, true), (3, true), (4, true), (5, true), (6, true), (7, false), (8, false), (9, true)] (C := LaterC _) (by kernel_rfl) (by kernel_rfl) (by kernel_rfl) rfl (fun _ _ d _ _ h => by cases d <;> exact h) (LaterC.mk ((Below.refl _ _).drew)) ?_
    refine plan_quiet nth0 rfl ?_
    intro KP hKP
    go_big_quiet_op
    go_big_quiet_on
    refine plan_quiet nth1 rfl ?_
    intro KP hKP
    go_big_quiet_op
    go_big_quiet_on
    refine plan_quiet nth2 rfl ?_
    intro KP hKP
    go_big_quiet_op
    go_big_quiet_on
    refine plan_quiet nth3 rfl ?_
    intro KP hKP
    go_big_quiet_op
    go_big_quiet_on
    refine plan_quiet nth4 rfl ?_
    intro KP hKP
    go_big_quiet_op
    go_big_quiet_on
    refine plan_quiet nth5 rfl ?_
    intro KP hKP
    go_big_quiet_op
    go_big_quiet_on
    refine plan_quiet nth6 rfl ?_
    intro KP hKP
    go_big_quiet_op
    go_big_quiet_on
    refine plan_loud nth7 rfl ?_
    intro KP hKP
    go_wp2_with fail
    refine hKP _ _ (LaterC.mk (by (repeat (first | (with_reducible exact Below.refl _ _) | (with_reducible assumption) | (with_reducible refine Later.out _ ?_) | (with_reducible refine bel_alloc ?_ _) | (with_reducible refine bel_drew ?_) | (with_reducible refine bel_drewN ?_ _) | (with_reducible refine bel_set ?_ ?_ _) | (with_reducible refine After.out _ ?_ ?_) | (dsimp only; omega) | omega | (simp only [World.size_alloc, World.size_setCell, World.size_drew]; omega))))) ?_
    clear hKP KP
    refine plan_loud nth8 rfl ?_
    intro KP hKP
    go_wp2_with fail
    with_reducible refine (CC.out _ _ _ (hR.out.bel ?hbx)).mono ?_
    case hbx => (first | exact bel_drew (Below.refl _ _) | exact Below.refl _ _)
    rintro e w' ⟨a1, c1, rfl, hown, x1, rfl⟩
    have hs1 := x1.bel.size
    (try simp only [World.size_alloc, World.size_setCell, World.size_drew] at hs1)
    have HO1 := Lib.hid (Owns.of hown)
    clear hown
    go_wp2_with fail
    refine hKP _ _ (LaterC.mk (by (repeat (first | (with_reducible exact Below.refl _ _) | (with_reducible assumption) | (with_reducible refine Later.out _ ?_) | (with_reducible refine bel_alloc ?_ _) | (with_reducible refine bel_drew ?_) | (with_reducible refine bel_drewN ?_ _) | (with_reducible refine bel_set ?_ ?_ _) | (with_reducible refine After.out _ ?_ ?_) | (dsimp only; omega) | omega | (simp only [World.size_alloc, World.size_setCell, World.size_drew]; omega))))) ?_
    clear hKP KP
    refine plan_quiet nth9 rfl ?_
    intro KP hKP
    go_big_quiet_op
    go_big_quiet_on
    refine plan_nil ?_
    go_wp2_with fail
    go_ret
    refine RetOwn.mk _ rfl (own_mono HO1.out.own ?_) ?_
    · ((try simp only [World.size_alloc, World.size_setCell, World.size_drew]); omega)
    · (repeat (first | (with_reducible exact Below.refl _ _) | (with_reducible assumption) | (with_reducible refine Later.out _ ?_) | (with_reducible refine bel_alloc ?_ _) | (with_reducible refine bel_drew ?_) | (with_reducible refine bel_drewN ?_ _) | (with_reducible refine bel_set ?_ ?_ _) | (with_reducible refine After.out _ ?_ ?_) | (dsimp only; omega) | omega | (simp only [World.size_alloc, World.size_setCell, World.size_drew]; omega)))
set_option maxRecDepth 8000 in
set_option maxHeartbeats 2000000 in
theorem sWithout_any (S : List Int) (i : Nat) (a : Option Addr) (n c : Nat) (w : World) (hn : S.length = n) (hi : i < n) (hm : n ≤ 1000) (hcap : n ≤ c) (hr : Row w a (intCells S)) :
    Calls Tryz.prog 116 #[.slice a n c, .int .i64 i] w (RetOwn w 2 1 (S.eraseIdx i).length (intCells (S.eraseIdx i)) id) := by
  subst hn
  obtain ⟨ii, j1, j2, j3, j4⟩ := info_i64'
  have Jii := Lib.hid (And.intro j1 (And.intro j2 (And.intro j3 j4)))
  clear j1 j2 j3 j4
  obtain ⟨b, o, rfl, hb, hc⟩ := hr.int hi
  have hi1 : (i : Int) < (S.length : Int) := by omega
  have hl1 : (intCells (S.take i)).length = i := by rw [length_intCells, List.length_take]; omega
  have hl2 : (intCells (S.drop (i + 1))).length = S.length - (i + 1) := by rw [length_intCells, List.length_drop]
  have hC := Lib.hid (show intCells (S.eraseIdx i) = intCells (S.take i) ++ intCells (S.drop (i + 1)) by rw [← intCells_append, erase_split])
  have hr1 := Lib.hid (hr.int_take i)
  by_cases hc1 : c = i + 1
  · subst hc1
    have hr2 := Lib.hid (show Row w (some ⟨b, o, none⟩) (intCells (S.drop (i + 1))) by rw [List.drop_eq_nil_of_le (by omega)]; exact Row.nil _ _)
    have hz : S.length - (i + 1) = 0 := by omega
    rw [hz] at hl2
    rw [show (S.eraseIdx i).length = i + 0 by rw [← erase_split, List.length_append, List.length_take, List.length_drop]; omega]
    clear hr hc
    go_enter Tryz.func116, Tryz.ntmps116
    go_wp2_with fail
    refine wp_region_plan [(1, true), (2, true), (3, true), (5, true), (6, true), (7, true), (8, true), (0, false), (4, false), (9, false), (10, true)] (C := LaterC _) (by kernel_rfl) (by kernel_rfl) (by kernel_rfl) rfl (fun _ _ d _ _ h => by cases d <;> exact h) (LaterC.mk ((Below.refl _ _).drew)) ?_
    refine plan_quiet nth1 rfl ?_
    intro KP hKP
    go_big_quiet_op
    go_big_quiet_on
    refine plan_quiet nth2 rfl ?_
    intro KP hKP
    go_big_quiet_op
    go_big_quiet_on
    refine plan_quiet nth3 rfl ?_
    intro KP hKP
    go_big_quiet_op
    go_big_quiet_on
    refine plan_quiet nth5 rfl ?_
    intro KP hKP
    go_big_quiet_op
    go_big_quiet_on
    refine plan_quiet nth6 rfl ?_
    intro KP hKP
    go_big_quiet_op
    go_big_quiet_on
    refine plan_quiet nth7 rfl ?_
    intro KP hKP
    go_big_quiet_op
    go_big_quiet_on
    refine plan_quiet nth8 rfl ?_
    intro KP hKP
    go_big_quiet_op
    go_big_quiet_on
    refine plan_loud nth0 rfl ?_
    intro KP hKP
    go_wp2_with fail
    refine hKP _ _ (LaterC.mk (by (repeat (first | (with_reducible exact Below.refl _ _) | (with_reducible assumption) | (with_reducible refine Later.out _ ?_) | (with_reducible refine bel_alloc ?_ _) | (with_reducible refine bel_drew ?_) | (with_reducible refine bel_drewN ?_ _) | (with_reducible refine bel_set ?_ ?_ _) | (with_reducible refine After.out _ ?_ ?_) | (dsimp only; omega) | omega | (simp only [World.size_alloc, World.size_setCell, World.size_drew]; omega))))) ?_
    clear hKP KP
    refine plan_loud nth4 rfl ?_
    intro KP hKP
    ((refine oper_append_at _ _ _ _ rfl 2 ii _ 1 8 Tryz.underlying35 Jii.out.1 Jii.out.2.1 Jii.out.2.2.1 Jii.out.2.2.2 rfl (by decide) _ _ rfl ?qc15 ?qc16 _ _ _ (intCells (S.take i)) rfl ?qc17 ?qc18 ?qc19 ?qc20 ?qc21 ?_); (case qc15 => (first | (dsimp only; omega) | omega | (simp only [World.size_alloc, World.size_setCell, World.size_drew]; omega))); (case qc16 => (exact lit0_at (W := w) (by first | rfl | omega | (simp only [World.size_alloc, World.size_setCell, World.size_drew]; done) | (simp only [World.size_alloc, World.size_setCell, World.size_drew]; omega)) (by first | rfl | omega | (simp only [World.size_alloc, World.size_setCell, World.size_drew]; done) | (simp only [World.size_alloc, World.size_setCell, World.size_drew]; omega)) (by (repeat (first | (with_reducible exact Below.refl _ _) | (with_reducible assumption) | (with_reducible refine Later.out _ ?_) | (with_reducible refine bel_alloc ?_ _) | (with_reducible refine bel_drew ?_) | (with_reducible refine bel_drewN ?_ _) | (with_reducible refine bel_set ?_ ?_ _) | (with_reducible refine After.out _ ?_ ?_) | (dsimp only; omega) | omega | (simp only [World.size_alloc, World.size_setCell, World.size_drew]; omega)))))); (case qc17 => (first | rfl | (simp; done) | (first | omega | (simp only [List.length_append, List.length_cons, List.length_nil]; omega)))); (case qc18 => exact hr1.out.bel (by (repeat (first | (with_reducible exact Below.refl _ _) | (with_reducible assumption) | (with_reducible refine Later.out _ ?_) | (with_reducible refine bel_alloc ?_ _) | (with_reducible refine bel_drew ?_) | (with_reducible refine bel_drewN ?_ _) | (with_reducible refine bel_set ?_ ?_ _) | (with_reducible refine After.out _ ?_ ?_) | (dsimp only; omega) | omega | (simp only [World.size_alloc, World.size_setCell, World.size_drew]; omega))))); (case qc19 => exact one_ints _); (case qc20 => (unfold maxLen; (first | omega | (simp only [List.length_append, List.length_cons, List.length_nil]; omega)))); (case qc21 => (first | omega | (simp only [List.length_append, List.length_cons, List.length_nil]; omega))); intro a8 c8 x8 hown8; replace hown8 := Lib.hid (own_mono (base' := w.heap.size) hown8 (by first | rfl | omega | (simp only [World.size_alloc, World.size_setCell, World.size_drew]; done) | (simp only [World.size_alloc, World.size_setCell, World.size_drew]; omega))); have hsx8 := x8.btw.size; (try simp only [World.size_alloc, World.size_setCell, World.size_drew] at hsx8))
    refine hKP _ _ (LaterC.mk (by (repeat (first | (with_reducible exact Below.refl _ _) | (with_reducible assumption) | (with_reducible refine Later.out _ ?_) | (with_reducible refine bel_alloc ?_ _) | (with_reducible refine bel_drew ?_) | (with_reducible refine bel_drewN ?_ _) | (with_reducible refine bel_set ?_ ?_ _) | (with_reducible refine After.out _ ?_ ?_) | (dsimp only; omega) | omega | (simp only [World.size_alloc, World.size_setCell, World.size_drew]; omega))))) ?_
    clear hKP KP
    refine plan_loud nth9 rfl ?_
    intro KP hKP
    ((refine oper_append_later _ _ _ _ rfl 2 ii _ 1 8 Tryz.underlying35 Jii.out.1 Jii.out.2.1 Jii.out.2.2.1 Jii.out.2.2.2 rfl (by decide) (w) ?qa1 _ _ _ (intCells (S.take i)) rfl ?qa2 _ _ _ (intCells (S.drop (i + 1))) rfl ?qa3 ?qa4 ?qa5 ?qa6 ?qa7 ?_); (case qa1 => (repeat (first | (with_reducible exact Below.refl _ _) | (with_reducible assumption) | (with_reducible refine Later.out _ ?_) | (with_reducible refine bel_alloc ?_ _) | (with_reducible refine bel_drew ?_) | (with_reducible refine bel_drewN ?_ _) | (with_reducible refine bel_set ?_ ?_ _) | (with_reducible refine After.out _ ?_ ?_) | (dsimp only; omega) | omega | (simp only [World.size_alloc, World.size_setCell, World.size_drew]; omega)))); (case qa2 => exact own_bel hown8.out (by (repeat (first | (with_reducible exact Below.refl _ _) | (with_reducible assumption) | (with_reducible refine Later.out _ ?_) | (with_reducible refine bel_alloc ?_ _) | (with_reducible refine bel_drew ?_) | (with_reducible refine bel_drewN ?_ _) | (with_reducible refine bel_set ?_ ?_ _) | (with_reducible refine After.out _ ?_ ?_) | (dsimp only; omega) | omega | (simp only [World.size_alloc, World.size_setCell, World.size_drew]; omega))))); (case qa3 => (first | rfl | (simp [boolCells]; done) | (simp [intCells]; done) | (simp; done) | (first | omega | (simp only [List.length_append, List.length_cons, List.length_nil]; omega)))); (case qa4 => exact hr2.out.bel (by (repeat (first | (with_reducible exact Below.refl _ _) | (with_reducible assumption) | (with_reducible refine Later.out _ ?_) | (with_reducible refine bel_alloc ?_ _) | (with_reducible refine bel_drew ?_) | (with_reducible refine bel_drewN ?_ _) | (with_reducible refine bel_set ?_ ?_ _) | (with_reducible refine After.out _ ?_ ?_) | (dsimp only; omega) | omega | (simp only [World.size_alloc, World.size_setCell, World.size_drew]; omega))))); (case qa5 => exact one_ints _); (case qa6 => (unfold maxLen; (first | omega | (simp only [List.length_append, List.length_cons, List.length_nil]; omega)))); (case qa7 => (first | omega | (simp only [List.length_append, List.length_cons, List.length_nil]; omega))); intro a9 c9 x9 hown9; replace hown9 := Lib.hid hown9)
    refine hKP _ _ (LaterC.mk (by (repeat (first | (with_reducible exact Below.refl _ _) | (with_reducible assumption) | (with_reducible refine Later.out _ ?_) | (with_reducible refine bel_alloc ?_ _) | (with_reducible refine bel_drew ?_) | (with_reducible refine bel_drewN ?_ _) | (with_reducible refine bel_set ?_ ?_ _) | (with_reducible refine After.out _ ?_ ?_) | (dsimp only; omega) | omega | (simp only [World.size_alloc, World.size_setCell, World.size_drew]; omega))))) ?_
    clear hKP KP
    simp only [Act.put, List.setIfInBounds_toArray, List.set_cons_zero, List.set_cons_succ]
    refine plan_quiet nth10 rfl ?_
    intro KP hKP
    go_big_quiet_op
    go_big_quiet_on
    refine plan_nil ?_
    go_wp2_with fail
    go_ret
    refine RetOwn.mk _ rfl ?_ ?_
    · rw [hC.out]; exact own_bel hown9.out (by (repeat (first | (with_reducible exact Below.refl _ _) | (with_reducible assumption) | (with_reducible refine Later.out _ ?_) | (with_reducible refine bel_alloc ?_ _) | (with_reducible refine bel_drew ?_) | (with_reducible refine bel_drewN ?_ _) | (with_reducible refine bel_set ?_ ?_ _) | (with_reducible refine After.out _ ?_ ?_) | (dsimp only; omega) | omega | (simp only [World.size_alloc, World.size_setCell, World.size_drew]; omega))))
    · (repeat (first | (with_reducible exact Below.refl _ _) | (with_reducible assumption) | (with_reducible refine Later.out _ ?_) | (with_reducible refine bel_alloc ?_ _) | (with_reducible refine bel_drew ?_) | (with_reducible refine bel_drewN ?_ _) | (with_reducible refine bel_set ?_ ?_ _) | (with_reducible refine After.out _ ?_ ?_) | (dsimp only; omega) | omega | (simp only [World.size_alloc, World.size_setCell, World.size_drew]; omega)))
  · have hlt : i + 1 < c := by omega
    have hr2 := Lib.hid (hr.int_drop (i + 1))
    rw [show (S.eraseIdx i).length = i + (S.length - (i + 1)) by rw [← erase_split, List.length_append, List.length_take, List.length_drop]; omega]
    clear hr hc
    go_enter Tryz.func116, Tryz.ntmps116
    go_wp2_with fail
    refine wp_region_plan [(1, true), (2, true), (3, true), (5, true), (6, true), (7, true), (8, true), (0, false), (4, false), (9, false), (10, true)] (C := LaterC _) (by kernel_rfl) (by kernel_rfl) (by kernel_rfl) rfl (fun _ _ d _ _ h => by cases d <;> exact h) (LaterC.mk ((Below.refl _ _).drew)) ?_
    refine plan_quiet nth1 rfl ?_
    intro KP hKP
    go_big_quiet_op
    go_big_quiet_on
    refine plan_quiet nth2 rfl ?_
    intro KP hKP
    go_big_quiet_op
    go_big_quiet_on
    refine plan_quiet nth3 rfl ?_
    intro KP hKP
    go_big_quiet_op
    go_big_quiet_on
    refine plan_quiet nth5 rfl ?_
    intro KP hKP
    go_big_quiet_op
    go_big_quiet_on
    refine plan_quiet nth6 rfl ?_
    intro KP hKP
    go_big_quiet_op
    go_big_quiet_on
    refine plan_quiet nth7 rfl ?_
    intro KP hKP
    go_big_quiet_op
    go_big_quiet_on
    refine plan_quiet nth8 rfl ?_
    intro KP hKP
    go_big_quiet_op
    go_big_quiet_on
    refine plan_loud nth0 rfl ?_
    intro KP hKP
    go_wp2_with fail
    refine hKP _ _ (LaterC.mk (by (repeat (first | (with_reducible exact Below.refl _ _) | (with_reducible assumption) | (with_reducible refine Later.out _ ?_) | (with_reducible refine bel_alloc ?_ _) | (with_reducible refine bel_drew ?_) | (with_reducible refine bel_drewN ?_ _) | (with_reducible refine bel_set ?_ ?_ _) | (with_reducible refine After.out _ ?_ ?_) | (dsimp only; omega) | omega | (simp only [World.size_alloc, World.size_setCell, World.size_drew]; omega))))) ?_
    clear hKP KP
    refine plan_loud nth4 rfl ?_
    intro KP hKP
    ((refine oper_append_at _ _ _ _ rfl 2 ii _ 1 8 Tryz.underlying35 Jii.out.1 Jii.out.2.1 Jii.out.2.2.1 Jii.out.2.2.2 rfl (by decide) _ _ rfl ?qc22 ?qc23 _ _ _ (intCells (S.take i)) rfl ?qc24 ?qc25 ?qc26 ?qc27 ?qc28 ?_); (case qc22 => (first | (dsimp only; omega) | omega | (simp only [World.size_alloc, World.size_setCell, World.size_drew]; omega))); (case qc23 => (exact lit0_at (W := w) (by first | rfl | omega | (simp only [World.size_alloc, World.size_setCell, World.size_drew]; done) | (simp only [World.size_alloc, World.size_setCell, World.size_drew]; omega)) (by first | rfl | omega | (simp only [World.size_alloc, World.size_setCell, World.size_drew]; done) | (simp only [World.size_alloc, World.size_setCell, World.size_drew]; omega)) (by (repeat (first | (with_reducible exact Below.refl _ _) | (with_reducible assumption) | (with_reducible refine Later.out _ ?_) | (with_reducible refine bel_alloc ?_ _) | (with_reducible refine bel_drew ?_) | (with_reducible refine bel_drewN ?_ _) | (with_reducible refine bel_set ?_ ?_ _) | (with_reducible refine After.out _ ?_ ?_) | (dsimp only; omega) | omega | (simp only [World.size_alloc, World.size_setCell, World.size_drew]; omega)))))); (case qc24 => (first | rfl | (simp; done) | (first | omega | (simp only [List.length_append, List.length_cons, List.length_nil]; omega)))); (case qc25 => exact hr1.out.bel (by (repeat (first | (with_reducible exact Below.refl _ _) | (with_reducible assumption) | (with_reducible refine Later.out _ ?_) | (with_reducible refine bel_alloc ?_ _) | (with_reducible refine bel_drew ?_) | (with_reducible refine bel_drewN ?_ _) | (with_reducible refine bel_set ?_ ?_ _) | (with_reducible refine After.out _ ?_ ?_) | (dsimp only; omega) | omega | (simp only [World.size_alloc, World.size_setCell, World.size_drew]; omega))))); (case qc26 => exact one_ints _); (case qc27 => (unfold maxLen; (first | omega | (simp only [List.length_append, List.length_cons, List.length_nil]; omega)))); (case qc28 => (first | omega | (simp only [List.length_append, List.length_cons, List.length_nil]; omega))); intro a8 c8 x8 hown8; replace hown8 := Lib.hid (own_mono (base' := w.heap.size) hown8 (by first | rfl | omega | (simp only [World.size_alloc, World.size_setCell, World.size_drew]; done) | (simp only [World.size_alloc, World.size_setCell, World.size_drew]; omega))); have hsx8 := x8.btw.size; (try simp only [World.size_alloc, World.size_setCell, World.size_drew] at hsx8))
    refine hKP _ _ (LaterC.mk (by (repeat (first | (with_reducible exact Below.refl _ _) | (with_reducible assumption) | (with_reducible refine Later.out _ ?_) | (with_reducible refine bel_alloc ?_ _) | (with_reducible refine bel_drew ?_) | (with_reducible refine bel_drewN ?_ _) | (with_reducible refine bel_set ?_ ?_ _) | (with_reducible refine After.out _ ?_ ?_) | (dsimp only; omega) | omega | (simp only [World.size_alloc, World.size_setCell, World.size_drew]; omega))))) ?_
    clear hKP KP
    refine plan_loud nth9 rfl ?_
    intro KP hKP
    ((refine oper_append_later _ _ _ _ rfl 2 ii _ 1 8 Tryz.underlying35 Jii.out.1 Jii.out.2.1 Jii.out.2.2.1 Jii.out.2.2.2 rfl (by decide) (w) ?qa8 _ _ _ (intCells (S.take i)) rfl ?qa9 _ _ _ (intCells (S.drop (i + 1))) rfl ?qa10 ?qa11 ?qa12 ?qa13 ?qa14 ?_); (case qa8 => (repeat (first | (with_reducible exact Below.refl _ _) | (with_reducible assumption) | (with_reducible refine Later.out _ ?_) | (with_reducible refine bel_alloc ?_ _) | (with_reducible refine bel_drew ?_) | (with_reducible refine bel_drewN ?_ _) | (with_reducible refine bel_set ?_ ?_ _) | (with_reducible refine After.out _ ?_ ?_) | (dsimp only; omega) | omega | (simp only [World.size_alloc, World.size_setCell, World.size_drew]; omega)))); (case qa9 => exact own_bel hown8.out (by (repeat (first | (with_reducible exact Below.refl _ _) | (with_reducible assumption) | (with_reducible refine Later.out _ ?_) | (with_reducible refine bel_alloc ?_ _) | (with_reducible refine bel_drew ?_) | (with_reducible refine bel_drewN ?_ _) | (with_reducible refine bel_set ?_ ?_ _) | (with_reducible refine After.out _ ?_ ?_) | (dsimp only; omega) | omega | (simp only [World.size_alloc, World.size_setCell, World.size_drew]; omega))))); (case qa10 => (first | rfl | (simp [boolCells]; done) | (simp [intCells]; done) | (simp; done) | (first | omega | (simp only [List.length_append, List.length_cons, List.length_nil]; omega)))); (case qa11 => exact hr2.out.bel (by (repeat (first | (with_reducible exact Below.refl _ _) | (with_reducible assumption) | (with_reducible refine Later.out _ ?_) | (with_reducible refine bel_alloc ?_ _) | (with_reducible refine bel_drew ?_) | (with_reducible refine bel_drewN ?_ _) | (with_reducible refine bel_set ?_ ?_ _) | (with_reducible refine After.out _ ?_ ?_) | (dsimp only; omega) | omega | (simp only [World.size_alloc, World.size_setCell, World.size_drew]; omega))))); (case qa12 => exact one_ints _); (case qa13 => (unfold maxLen; (first | omega | (simp only [List.length_append, List.length_cons, List.length_nil]; omega)))); (case qa14 => (first | omega | (simp only [List.length_append, List.length_cons, List.length_nil]; omega))); intro a9 c9 x9 hown9; replace hown9 := Lib.hid hown9)
    refine hKP _ _ (LaterC.mk (by (repeat (first | (with_reducible exact Below.refl _ _) | (with_reducible assumption) | (with_reducible refine Later.out _ ?_) | (with_reducible refine bel_alloc ?_ _) | (with_reducible refine bel_drew ?_) | (with_reducible refine bel_drewN ?_ _) | (with_reducible refine bel_set ?_ ?_ _) | (with_reducible refine After.out _ ?_ ?_) | (dsimp only; omega) | omega | (simp only [World.size_alloc, World.size_setCell, World.size_drew]; omega))))) ?_
    clear hKP KP
    simp only [Act.put, List.setIfInBounds_toArray, List.set_cons_zero, List.set_cons_succ]
    refine plan_quiet nth10 rfl ?_
    intro KP hKP
    go_big_quiet_op
    go_big_quiet_on
    refine plan_nil ?_
    go_wp2_with fail
    go_ret
    refine RetOwn.mk _ rfl ?_ ?_
    · rw [hC.out]; exact own_bel hown9.out (by (repeat (first | (with_reducible exact Below.refl _ _) | (with_reducible assumption) | (with_reducible refine Later.out _ ?_) | (with_reducible refine bel_alloc ?_ _) | (with_reducible refine bel_drew ?_) | (with_reducible refine bel_drewN ?_ _) | (with_reducible refine bel_set ?_ ?_ _) | (with_reducible refine After.out _ ?_ ?_) | (dsimp only; omega) | omega | (simp only [World.size_alloc, World.size_setCell, World.size_drew]; omega))))
    · (repeat (first | (with_reducible exact Below.refl _ _) | (with_reducible assumption) | (with_reducible refine Later.out _ ?_) | (with_reducible refine bel_alloc ?_ _) | (with_reducible refine bel_drew ?_) | (with_reducible refine bel_drewN ?_ _) | (with_reducible refine bel_set ?_ ?_ _) | (with_reducible refine After.out _ ?_ ?_) | (dsimp only; omega) | omega | (simp only [World.size_alloc, World.size_setCell, World.size_drew]; omega)))
theorem sOwn_any (S : List Int) (a : Option Addr) (n c : Nat) (w : World) (hn : S.length = n) (hm : n ≤ 1000) (hr : Row w a (intCells S)) :
    Calls Tryz.prog 115 #[.slice a n c] w (RetOwn w 2 1 n (intCells S) id) := by
  subst hn
  obtain ⟨ii, j1, j2, j3, j4⟩ := info_i64'
  have Jii := Lib.hid (And.intro j1 (And.intro j2 (And.intro j3 j4)))
  have hl := length_intCells S
  replace hr := Lib.hid hr
  clear j1 j2 j3 j4
  go_enter Tryz.func115, Tryz.ntmps115
  go_wp2_with (at_builtin; (refine wpList_append_later _ rfl _ _ _ rfl 2 ii _ 1 8 Tryz.underlying35 Jii.out.1 Jii.out.2.1 Jii.out.2.2.1 Jii.out.2.2.2 rfl (by decide) (w) ?qa29 _ _ _ ([]) rfl ?qa30 _ _ _ (intCells S) rfl ?qa31 ?qa32 ?qa33 ?qa34 ?qa35 ?_); (case qa29 => (repeat (first | (with_reducible exact Below.refl _ _) | (with_reducible assumption) | (with_reducible refine Later.out _ ?_) | (with_reducible refine bel_alloc ?_ _) | (with_reducible refine bel_drew ?_) | (with_reducible refine bel_drewN ?_ _) | (with_reducible refine bel_set ?_ ?_ _) | (with_reducible refine After.out _ ?_ ?_) | (dsimp only; omega) | omega | (simp only [World.size_alloc, World.size_setCell, World.size_drew]; omega)))); (case qa30 => exact World.ownsRow_lit w #[] 0 (Nat.le_refl _) (by unfold maxLen; omega) rfl); (case qa31 => (first | rfl | (simp [boolCells]; done) | (simp [intCells]; done) | (simp; done) | (first | omega | (simp only [List.length_append, List.length_cons, List.length_nil]; omega)))); (case qa32 => exact hr.out.bel (by (repeat (first | (with_reducible exact Below.refl _ _) | (with_reducible assumption) | (with_reducible refine Later.out _ ?_) | (with_reducible refine bel_alloc ?_ _) | (with_reducible refine bel_drew ?_) | (with_reducible refine bel_drewN ?_ _) | (with_reducible refine bel_set ?_ ?_ _) | (with_reducible refine After.out _ ?_ ?_) | (dsimp only; omega) | omega | (simp only [World.size_alloc, World.size_setCell, World.size_drew]; omega))))); (case qa33 => exact one_ints S); (case qa34 => (unfold maxLen; (first | omega | (simp only [List.length_append, List.length_cons, List.length_nil]; omega)))); (case qa35 => (first | omega | (simp only [List.length_append, List.length_cons, List.length_nil]; omega))); intro a' c' x hown)
  simp only [Nat.zero_add, List.nil_append] at hown
  have HO := Lib.hid hown
  clear hown
  go_ret
  exact RetOwn.mk _ rfl HO.out x.bel
end Go.Proofs.YtflcfdiochohgaaGreatDoor

/- Consistency of claims: the program's side. -/
set_option linter.unusedSimpArgs false
set_option linter.unusedVariables false
namespace Go.Proofs.YtflcfdiochohgaaGreatDoor
open Go.RowKit
set_option maxRecDepth 4000 in
set_option maxHeartbeats 2000000 in
theorem hasPair_any (L : List Clm) (a : Option Addr) (n c : Nat) (w : World) (hn : L.length = n) (hm : n ≤ 1048576) (hcap : n ≤ c) (hr : Row w a (clmsCells L)) :
    Calls Tryz.prog 179 #[.slice a n c] w (Ret w (.bool (!bof (NoPair L)))) := by
  subst hn
  replace hr := Lib.hid hr
  go_enter Tryz.func179, Tryz.ntmps179
  go_wp2_with fail
  go_loopw [7] (fun i wr => ∃ k : Nat, k ≤ L.length ∧ i = .int .i64 k ∧ PairTo L k ∧ ∃ z : Later w, wr = z.w) (fun i _ => L.length - (intOf i).toNat)
  case atStart => exact ⟨0, Nat.zero_le _, rfl, fun i j _ _ h => absurd h (by omega), ⟨_, Below.refl _ _⟩, rfl⟩
  case round =>
    obtain ⟨k, hk, rfl, hall, z, rfl⟩ := hrel
    replace hall := Lib.hid hall
    have hzz := z.bel.size
    by_cases hlt : k < L.length
    · obtain ⟨b, o, rfl, hb, q0, q1, q2, q3, q4, q5, q6⟩ := hr.out.clm hlt
      have hkc : k ≤ c := by omega
      have hlk : (L.take k).length = k := by simp; omega
      have C := fun w hr => containsFunc_any 83 #[clmV L[k]] #[] (contraB L[k]) (L.take k) (some ⟨b, o, none⟩) k c w enters_contra hlk (by omega) hr (tells_contra L[k] (L.take k) w)
      cases hv : (L.take k).any (contraB L[k])
      · rw [hv] at C
        replace C := Lib.hid C
        have X := Lib.hid (hall.out.succ fun j hj hk2 hjk => by
          rw [Bool.eq_false_iff]
          intro h
          have : (L.take k).any (contraB L[k]) = true := List.any_eq_true.2 ⟨L[j], by rw [List.mem_iff_getElem]; exact ⟨j, by rw [hlk]; exact hjk, by simp⟩, h⟩
          rw [hv] at this; cases this)
        clear hv hlk
        go_wp2_with fail
        refine wp_region_plan [(0, true), (1, true), (2, true), (3, true), (4, true), (5, false)] (C := LaterC _) (by kernel_rfl) (by kernel_rfl) (by kernel_rfl) rfl (fun _ _ d _ _ h => by cases d <;> exact h) (LaterC.mk ((Below.refl _ _).drew)) ?_
        first | (refine plan_quiet nth0 rfl ?_; intro KP hKP; go_big_quiet_op; go_big_quiet_on) | (refine plan_skip_q nth0 rfl rfl ?_; simp only [Act.put, List.setIfInBounds_toArray, List.set_cons_zero, List.set_cons_succ])
        first | (refine plan_quiet nth1 rfl ?_; intro KP hKP; go_big_quiet_op; go_big_quiet_on) | (refine plan_skip_q nth1 rfl rfl ?_; simp only [Act.put, List.setIfInBounds_toArray, List.set_cons_zero, List.set_cons_succ])
        first | (refine plan_quiet nth2 rfl ?_; intro KP hKP; go_big_quiet_op; go_big_quiet_on) | (refine plan_skip_q nth2 rfl rfl ?_; simp only [Act.put, List.setIfInBounds_toArray, List.set_cons_zero, List.set_cons_succ])
        first | (refine plan_quiet nth3 rfl ?_; intro KP hKP; go_big_quiet_op; go_big_quiet_on) | (refine plan_skip_q nth3 rfl rfl ?_; simp only [Act.put, List.setIfInBounds_toArray, List.set_cons_zero, List.set_cons_succ])
        first | (refine plan_quiet nth4 rfl ?_; intro KP hKP; go_big_quiet_op; go_big_quiet_on) | (refine plan_skip_q nth4 rfl rfl ?_; simp only [Act.put, List.setIfInBounds_toArray, List.set_cons_zero, List.set_cons_succ])
        first | (refine plan_loud nth5 rfl ?_; intro KP hKP; go_wp2_with (first | (go_at_call 102; first | ((with_reducible refine (Calls.later (C.out _ ((hr.out.clm_take k).bel (by (repeat (first | (with_reducible exact Below.refl _ _) | (with_reducible assumption) | (with_reducible refine Later.out _ ?_) | (with_reducible refine bel_alloc ?_ _) | (with_reducible refine bel_drew ?_) | (with_reducible refine bel_drewN ?_ _) | (with_reducible refine bel_set ?_ ?_ _) | (with_reducible refine After.out _ ?_ ?_) | (dsimp only; omega) | omega | (simp only [World.size_alloc, World.size_setCell, World.size_drew]; omega))))))).mono ?_); rintro e w' ⟨rfl, xl, rfl⟩; have hsz := xl.bel.size; (try simp only [World.size_alloc, World.size_setCell, World.size_drew] at hsz); (try have hz0 : w.heap.size < xl.w.heap.size := (by omega)); (try have hz1 : w.heap.size + 1 < xl.w.heap.size := (by omega)); (try have hz2 : w.heap.size + 1 + 1 < xl.w.heap.size := (by omega))) | ((with_reducible refine (C.out _ ((hr.out.clm_take k).bel (by (repeat (first | (with_reducible exact Below.refl _ _) | (with_reducible assumption) | (with_reducible refine Later.out _ ?_) | (with_reducible refine bel_alloc ?_ _) | (with_reducible refine bel_drew ?_) | (with_reducible refine bel_drewN ?_ _) | (with_reducible refine bel_set ?_ ?_ _) | (with_reducible refine After.out _ ?_ ?_) | (dsimp only; omega) | omega | (simp only [World.size_alloc, World.size_setCell, World.size_drew]; omega)))))).mono ?_); rintro e w' ⟨rfl, xl, rfl⟩; have hsz := xl.bel.size; (try simp only [World.size_alloc, World.size_setCell, World.size_drew] at hsz); (try have hz0 : w.heap.size < xl.w.heap.size := (by omega)); (try have hz1 : w.heap.size + 1 < xl.w.heap.size := (by omega)); (try have hz2 : w.heap.size + 1 + 1 < xl.w.heap.size := (by omega))))); refine hKP _ _ (LaterC.mk (by (repeat (first | (with_reducible exact Below.refl _ _) | (with_reducible assumption) | (with_reducible refine Later.out _ ?_) | (with_reducible refine bel_alloc ?_ _) | (with_reducible refine bel_drew ?_) | (with_reducible refine bel_drewN ?_ _) | (with_reducible refine bel_set ?_ ?_ _) | (with_reducible refine After.out _ ?_ ?_) | (dsimp only; omega) | omega | (simp only [World.size_alloc, World.size_setCell, World.size_drew]; omega))))) ?_; clear hKP KP) | (refine plan_skip nth5 rfl rfl (LaterC.mk (by (repeat (first | (with_reducible exact Below.refl _ _) | (with_reducible assumption) | (with_reducible refine Later.out _ ?_) | (with_reducible refine bel_alloc ?_ _) | (with_reducible refine bel_drew ?_) | (with_reducible refine bel_drewN ?_ _) | (with_reducible refine bel_set ?_ ?_ _) | (with_reducible refine After.out _ ?_ ?_) | (dsimp only; omega) | omega | (simp only [World.size_alloc, World.size_setCell, World.size_drew]; omega))))) ?_; simp only [Act.put, List.setIfInBounds_toArray, List.set_cons_zero, List.set_cons_succ])
        refine plan_nil ?_
        go_wp2_with fail
        go_roundw
        case rel => exact ⟨k + 1, by omega, by go_num, X.out, LaterC.mk (by (repeat (first | (with_reducible exact Below.refl _ _) | (with_reducible assumption) | (with_reducible refine Later.out _ ?_) | (with_reducible refine bel_alloc ?_ _) | (with_reducible refine bel_drew ?_) | (with_reducible refine bel_drewN ?_ _) | (with_reducible refine bel_set ?_ ?_ _) | (with_reducible refine After.out _ ?_ ?_) | (dsimp only; omega) | omega | (simp only [World.size_alloc, World.size_setCell, World.size_drew]; omega))))⟩
        case measure => first | (simp [intOf]; done) | (simp [intOf]; omega) | omega
      · rw [hv] at C
        replace C := Lib.hid C
        have X := Lib.hid (show bof (NoPair L) = false from bof_false fun hnp => by
          obtain ⟨x, hx, hp⟩ := List.any_eq_true.1 hv
          obtain ⟨j, hj, rfl⟩ := List.mem_iff_getElem.1 hx
          rw [hlk] at hj
          have := noPair_iff.1 hnp k j hlt (by omega) hj
          rw [List.getElem_take] at hp
          rw [this] at hp; cases hp)
        clear hv hlk
        go_wp2_with fail
        refine wp_region_plan [(0, true), (1, true), (2, true), (3, true), (4, true), (5, false)] (C := LaterC _) (by kernel_rfl) (by kernel_rfl) (by kernel_rfl) rfl (fun _ _ d _ _ h => by cases d <;> exact h) (LaterC.mk ((Below.refl _ _).drew)) ?_
        first | (refine plan_quiet nth0 rfl ?_; intro KP hKP; go_big_quiet_op; go_big_quiet_on) | (refine plan_skip_q nth0 rfl rfl ?_; simp only [Act.put, List.setIfInBounds_toArray, List.set_cons_zero, List.set_cons_succ])
        first | (refine plan_quiet nth1 rfl ?_; intro KP hKP; go_big_quiet_op; go_big_quiet_on) | (refine plan_skip_q nth1 rfl rfl ?_; simp only [Act.put, List.setIfInBounds_toArray, List.set_cons_zero, List.set_cons_succ])
        first | (refine plan_quiet nth2 rfl ?_; intro KP hKP; go_big_quiet_op; go_big_quiet_on) | (refine plan_skip_q nth2 rfl rfl ?_; simp only [Act.put, List.setIfInBounds_toArray, List.set_cons_zero, List.set_cons_succ])
        first | (refine plan_quiet nth3 rfl ?_; intro KP hKP; go_big_quiet_op; go_big_quiet_on) | (refine plan_skip_q nth3 rfl rfl ?_; simp only [Act.put, List.setIfInBounds_toArray, List.set_cons_zero, List.set_cons_succ])
        first | (refine plan_quiet nth4 rfl ?_; intro KP hKP; go_big_quiet_op; go_big_quiet_on) | (refine plan_skip_q nth4 rfl rfl ?_; simp only [Act.put, List.setIfInBounds_toArray, List.set_cons_zero, List.set_cons_succ])
        first | (refine plan_loud nth5 rfl ?_; intro KP hKP; go_wp2_with (first | (go_at_call 102; first | ((with_reducible refine (Calls.later (C.out _ ((hr.out.clm_take k).bel (by (repeat (first | (with_reducible exact Below.refl _ _) | (with_reducible assumption) | (with_reducible refine Later.out _ ?_) | (with_reducible refine bel_alloc ?_ _) | (with_reducible refine bel_drew ?_) | (with_reducible refine bel_drewN ?_ _) | (with_reducible refine bel_set ?_ ?_ _) | (with_reducible refine After.out _ ?_ ?_) | (dsimp only; omega) | omega | (simp only [World.size_alloc, World.size_setCell, World.size_drew]; omega))))))).mono ?_); rintro e w' ⟨rfl, xl, rfl⟩; have hsz := xl.bel.size; (try simp only [World.size_alloc, World.size_setCell, World.size_drew] at hsz); (try have hz0 : w.heap.size < xl.w.heap.size := (by omega)); (try have hz1 : w.heap.size + 1 < xl.w.heap.size := (by omega)); (try have hz2 : w.heap.size + 1 + 1 < xl.w.heap.size := (by omega))) | ((with_reducible refine (C.out _ ((hr.out.clm_take k).bel (by (repeat (first | (with_reducible exact Below.refl _ _) | (with_reducible assumption) | (with_reducible refine Later.out _ ?_) | (with_reducible refine bel_alloc ?_ _) | (with_reducible refine bel_drew ?_) | (with_reducible refine bel_drewN ?_ _) | (with_reducible refine bel_set ?_ ?_ _) | (with_reducible refine After.out _ ?_ ?_) | (dsimp only; omega) | omega | (simp only [World.size_alloc, World.size_setCell, World.size_drew]; omega)))))).mono ?_); rintro e w' ⟨rfl, xl, rfl⟩; have hsz := xl.bel.size; (try simp only [World.size_alloc, World.size_setCell, World.size_drew] at hsz); (try have hz0 : w.heap.size < xl.w.heap.size := (by omega)); (try have hz1 : w.heap.size + 1 < xl.w.heap.size := (by omega)); (try have hz2 : w.heap.size + 1 + 1 < xl.w.heap.size := (by omega))))); refine hKP _ _ (LaterC.mk (by (repeat (first | (with_reducible exact Below.refl _ _) | (with_reducible assumption) | (with_reducible refine Later.out _ ?_) | (with_reducible refine bel_alloc ?_ _) | (with_reducible refine bel_drew ?_) | (with_reducible refine bel_drewN ?_ _) | (with_reducible refine bel_set ?_ ?_ _) | (with_reducible refine After.out _ ?_ ?_) | (dsimp only; omega) | omega | (simp only [World.size_alloc, World.size_setCell, World.size_drew]; omega))))) ?_; clear hKP KP) | (refine plan_skip nth5 rfl rfl (LaterC.mk (by (repeat (first | (with_reducible exact Below.refl _ _) | (with_reducible assumption) | (with_reducible refine Later.out _ ?_) | (with_reducible refine bel_alloc ?_ _) | (with_reducible refine bel_drew ?_) | (with_reducible refine bel_drewN ?_ _) | (with_reducible refine bel_set ?_ ?_ _) | (with_reducible refine After.out _ ?_ ?_) | (dsimp only; omega) | omega | (simp only [World.size_alloc, World.size_setCell, World.size_drew]; omega))))) ?_; simp only [Act.put, List.setIfInBounds_toArray, List.set_cons_zero, List.set_cons_succ])
        refine plan_nil ?_
        go_wp2_with fail
        go_ret
        exact .mk (by rw [X.out]; rfl) (by (repeat (first | (with_reducible exact Below.refl _ _) | (with_reducible assumption) | (with_reducible refine Later.out _ ?_) | (with_reducible refine bel_alloc ?_ _) | (with_reducible refine bel_drew ?_) | (with_reducible refine bel_drewN ?_ _) | (with_reducible refine bel_set ?_ ?_ _) | (with_reducible refine After.out _ ?_ ?_) | (dsimp only; omega) | omega | (simp only [World.size_alloc, World.size_setCell, World.size_drew]; omega))))
    · obtain rfl : k = L.length := by omega
      have X := Lib.hid (show bof (NoPair L) = true from bof_true hall.out.all)
      go_wp2_with fail
      go_ret
      exact .mk (by rw [X.out]; rfl) (by (repeat (first | (with_reducible exact Below.refl _ _) | (with_reducible assumption) | (with_reducible refine Later.out _ ?_) | (with_reducible refine bel_alloc ?_ _) | (with_reducible refine bel_drew ?_) | (with_reducible refine bel_drewN ?_ _) | (with_reducible refine bel_set ?_ ?_ _) | (with_reducible refine After.out _ ?_ ?_) | (dsimp only; omega) | omega | (simp only [World.size_alloc, World.size_setCell, World.size_drew]; omega))))
/-- A circle that one claim's beginning and another one's place make. -/
def CircAt (L : List Clm) (c d : Clm) : Prop := c.kind = 1 → d.kind = 1 → hasB d c.fr = true → circZ L c.fr d.place = none
set_option maxRecDepth 4000 in
set_option maxHeartbeats 4000000 in
theorem hasCircle_any (L : List Clm) (a : Option Addr) (n c : Nat) (w : World) (hn : L.length = n) (hm : n ≤ 1048576) (hr : Row w a (clmsCells L)) :
    Calls Tryz.prog 180 #[.slice a n c] w (Ret w (.bool (!bof (NoCirc L)))) := by
  have PC := fun y place w hr => circleIn_any L y place a n c w hn hm hr
  replace PC := Lib.hid PC
  subst hn
  replace hr := Lib.hid hr
  go_enter Tryz.func180, Tryz.ntmps180
  go_wp2_with fail
  go_loopw [11] (fun i wr => ∃ k : Nat, k ≤ L.length ∧ i = .int .i64 k ∧ (∀ j (hj : j < L.length), j < k → ∀ d ∈ L, CircAt L L[j] d) ∧ ∃ z : Later w, wr = z.w) (fun i _ => L.length - (intOf i).toNat)
  case atStart => exact ⟨0, Nat.zero_le _, rfl, fun j _ h => absurd h (by omega), ⟨_, Below.refl _ _⟩, rfl⟩
  case round =>
    obtain ⟨k, hk, rfl, hall, z, rfl⟩ := hrel
    replace hall := Lib.hid hall
    have hzz := z.bel.size
    by_cases hlt : k < L.length
    · obtain ⟨b, o, rfl, hb, q0, q1, q2, q3, q4, q5, q6⟩ := hr.out.clm hlt
      by_cases e1 : L[k].kind = 1
      · rw [e1] at q1
        have E1 := Lib.hid e1
        clear e1
        go_wp2_with fail
        go_loopw [17] (fun i wr => ∃ m : Nat, m ≤ L.length ∧ i = .int .i64 m ∧ (∀ j (hj : j < L.length), j < m → CircAt L L[k] L[j]) ∧ ClmAt wr z.w.heap.size 0 L[k] ∧ ∃ z2 : Later w, wr = z2.w) (fun i _ => L.length - (intOf i).toNat)
        case atStart => exact ⟨0, Nat.zero_le _, rfl, fun j _ h => absurd h (by omega), by refine ⟨?_, ?_, ?_, ?_, ?_, ?_, ?_⟩ <;> simp [go_sem, ↓IntWalk.iteOmega, E1.out, *], LaterC.mk (by (repeat (first | (with_reducible exact Below.refl _ _) | (with_reducible assumption) | (with_reducible refine Later.out _ ?_) | (with_reducible refine bel_alloc ?_ _) | (with_reducible refine bel_drew ?_) | (with_reducible refine bel_drewN ?_ _) | (with_reducible refine bel_set ?_ ?_ _) | (with_reducible refine After.out _ ?_ ?_) | (dsimp only; omega) | omega | (simp only [World.size_alloc, World.size_setCell, World.size_drew]; omega))))⟩
        case round =>
          obtain ⟨m, hmm, rfl, hin, hat, z2, rfl⟩ := hrel
          replace hin := Lib.hid hin
          have hz2 := z2.bel.size
          have hzl := hat.lt
          have HAT := Lib.hid hat
          obtain ⟨p0, p1, p2, p3, p4, p5, p6⟩ := hat
          simp only [Nat.zero_add] at p1 p2 p3 p4 p5 p6
          rw [E1.out] at p1
          by_cases hlt2 : m < L.length
          · obtain ⟨b', o', he, hb', s0, s1, s2, s3, s4, s5, s6⟩ := hr.out.clm hlt2
            cases he
            have hno := fun h : CircAt L L[k] L[m] => (show ∀ j (hj : j < L.length), j < m + 1 → CircAt L L[k] L[j] from fun j hj h1 => by
              rcases Nat.lt_or_ge j m with h2 | h2
              · exact hin.out j hj h2
              · obtain rfl : j = m := by omega
                exact h)
            by_cases e2 : L[m].kind = 1
            · rw [e2] at s1
              cases hv : inB L[k].fr L[m].fr L[m].to
              · have X := Lib.hid (hno fun _ _ h => by rw [hasB_in, hv] at h; cases h)
                replace hv := Lib.hid hv
                clear e2 hno
                go_wp2_with fail
                with_reducible refine (has_b hv.out).mono ?_
                rintro e w' ⟨rfl, y1, rfl⟩
                have hsy1 := y1.bel.size
                (try simp only [World.size_alloc, World.size_setCell, World.size_drew] at hsy1)
                go_wp2_with fail
                go_roundw
                case rel => exact ⟨m + 1, by omega, by go_num, X.out, HAT.out.bel (by (repeat (first | (with_reducible exact Below.refl _ _) | (with_reducible assumption) | (with_reducible refine Later.out _ ?_) | (with_reducible refine bel_alloc ?_ _) | (with_reducible refine bel_drew ?_) | (with_reducible refine bel_drewN ?_ _) | (with_reducible refine bel_set ?_ ?_ _) | (with_reducible refine After.out _ ?_ ?_) | (dsimp only; omega) | omega | (simp only [World.size_alloc, World.size_setCell, World.size_drew]; omega)))), LaterC.mk (by (repeat (first | (with_reducible exact Below.refl _ _) | (with_reducible assumption) | (with_reducible refine Later.out _ ?_) | (with_reducible refine bel_alloc ?_ _) | (with_reducible refine bel_drew ?_) | (with_reducible refine bel_drewN ?_ _) | (with_reducible refine bel_set ?_ ?_ _) | (with_reducible refine After.out _ ?_ ?_) | (dsimp only; omega) | omega | (simp only [World.size_alloc, World.size_setCell, World.size_drew]; omega))))⟩
                case measure => first | (simp [intOf]; done) | (simp [intOf]; omega) | omega
              · have PC' := fun w hr => PC.out L[k].fr L[m].place w hr
                cases hZ : circZ L L[k].fr L[m].place with
                | none =>
                  rw [hZ] at PC'
                  replace PC' := Lib.hid PC'
                  have X := Lib.hid (hno fun _ _ _ => hZ)
                  replace hv := Lib.hid hv
                  clear e2 hno hZ
                  go_wp2_with fail
                  with_reducible refine (has_b hv.out).mono ?_
                  rintro e w' ⟨rfl, y1, rfl⟩
                  have hsy1 := y1.bel.size
                  (try simp only [World.size_alloc, World.size_setCell, World.size_drew] at hsy1)
                  go_wp2_with fail
                  with_reducible refine (PC'.out _ (hr.out.bel (by (repeat (first | (with_reducible exact Below.refl _ _) | (with_reducible assumption) | (with_reducible refine Later.out _ ?_) | (with_reducible refine bel_alloc ?_ _) | (with_reducible refine bel_drew ?_) | (with_reducible refine bel_drewN ?_ _) | (with_reducible refine bel_set ?_ ?_ _) | (with_reducible refine After.out _ ?_ ?_) | (dsimp only; omega) | omega | (simp only [World.size_alloc, World.size_setCell, World.size_drew]; omega)))))).mono ?_
                  rintro e w' ⟨a7, n7, c7, r7, rfl, -, -, -, y7, rfl⟩
                  have hs7 := y7.bel.size
                  (try simp only [World.size_alloc, World.size_setCell, World.size_drew] at hs7)
                  go_wp2_with fail
                  go_roundw
                  case rel => exact ⟨m + 1, by omega, by go_num, X.out, HAT.out.bel (by (repeat (first | (with_reducible exact Below.refl _ _) | (with_reducible assumption) | (with_reducible refine Later.out _ ?_) | (with_reducible refine bel_alloc ?_ _) | (with_reducible refine bel_drew ?_) | (with_reducible refine bel_drewN ?_ _) | (with_reducible refine bel_set ?_ ?_ _) | (with_reducible refine After.out _ ?_ ?_) | (dsimp only; omega) | omega | (simp only [World.size_alloc, World.size_setCell, World.size_drew]; omega)))), LaterC.mk (by (repeat (first | (with_reducible exact Below.refl _ _) | (with_reducible assumption) | (with_reducible refine Later.out _ ?_) | (with_reducible refine bel_alloc ?_ _) | (with_reducible refine bel_drew ?_) | (with_reducible refine bel_drewN ?_ _) | (with_reducible refine bel_set ?_ ?_ _) | (with_reducible refine After.out _ ?_ ?_) | (dsimp only; omega) | omega | (simp only [World.size_alloc, World.size_setCell, World.size_drew]; omega))))⟩
                  case measure => first | (simp [intOf]; done) | (simp [intOf]; omega) | omega
                | some r =>
                  rw [hZ] at PC'
                  replace PC' := Lib.hid PC'
                  have X := Lib.hid (show bof (NoCirc L) = false from bof_false fun h => by
                    have := h L[k] (List.getElem_mem hlt) E1.out L[m] (List.getElem_mem hlt2)
                    rw [hZ] at this; cases this)
                  replace hv := Lib.hid hv
                  clear e2 hno hZ
                  go_wp2_with fail
                  with_reducible refine (has_b hv.out).mono ?_
                  rintro e w' ⟨rfl, y1, rfl⟩
                  have hsy1 := y1.bel.size
                  (try simp only [World.size_alloc, World.size_setCell, World.size_drew] at hsy1)
                  go_wp2_with fail
                  with_reducible refine (PC'.out _ (hr.out.bel (by (repeat (first | (with_reducible exact Below.refl _ _) | (with_reducible assumption) | (with_reducible refine Later.out _ ?_) | (with_reducible refine bel_alloc ?_ _) | (with_reducible refine bel_drew ?_) | (with_reducible refine bel_drewN ?_ _) | (with_reducible refine bel_set ?_ ?_ _) | (with_reducible refine After.out _ ?_ ?_) | (dsimp only; omega) | omega | (simp only [World.size_alloc, World.size_setCell, World.size_drew]; omega)))))).mono ?_
                  rintro e w' ⟨a7, n7, c7, r7, rfl, -, -, -, y7, rfl⟩
                  have hs7 := y7.bel.size
                  (try simp only [World.size_alloc, World.size_setCell, World.size_drew] at hs7)
                  go_wp2_with fail
                  go_ret
                  exact .mk (by rw [X.out]; rfl) (by (repeat (first | (with_reducible exact Below.refl _ _) | (with_reducible assumption) | (with_reducible refine Later.out _ ?_) | (with_reducible refine bel_alloc ?_ _) | (with_reducible refine bel_drew ?_) | (with_reducible refine bel_drewN ?_ _) | (with_reducible refine bel_set ?_ ?_ _) | (with_reducible refine After.out _ ?_ ?_) | (dsimp only; omega) | omega | (simp only [World.size_alloc, World.size_setCell, World.size_drew]; omega))))
            · have k2 : (L[m].kind == 1) = false := by simp [e2]
              have k3 : (L[m].kind != 1) = true := by simp [e2]
              have X := Lib.hid (hno fun _ h _ => absurd h e2)
              clear e2 hno
              go_wp2_with fail
              go_roundw
              case rel => exact ⟨m + 1, by omega, by go_num, X.out, HAT.out.bel (by (repeat (first | (with_reducible exact Below.refl _ _) | (with_reducible assumption) | (with_reducible refine Later.out _ ?_) | (with_reducible refine bel_alloc ?_ _) | (with_reducible refine bel_drew ?_) | (with_reducible refine bel_drewN ?_ _) | (with_reducible refine bel_set ?_ ?_ _) | (with_reducible refine After.out _ ?_ ?_) | (dsimp only; omega) | omega | (simp only [World.size_alloc, World.size_setCell, World.size_drew]; omega)))), LaterC.mk (by (repeat (first | (with_reducible exact Below.refl _ _) | (with_reducible assumption) | (with_reducible refine Later.out _ ?_) | (with_reducible refine bel_alloc ?_ _) | (with_reducible refine bel_drew ?_) | (with_reducible refine bel_drewN ?_ _) | (with_reducible refine bel_set ?_ ?_ _) | (with_reducible refine After.out _ ?_ ?_) | (dsimp only; omega) | omega | (simp only [World.size_alloc, World.size_setCell, World.size_drew]; omega))))⟩
              case measure => first | (simp [intOf]; done) | (simp [intOf]; omega) | omega
          · obtain rfl : m = L.length := by omega
            have X := Lib.hid (show ∀ j (hj : j < L.length), j < k + 1 → ∀ d ∈ L, CircAt L L[j] d from fun j hj h1 d hd => by
              rcases Nat.lt_or_ge j k with h2 | h2
              · exact hall.out j hj h2 d hd
              · obtain rfl : j = k := by omega
                obtain ⟨i, hi, rfl⟩ := List.mem_iff_getElem.1 hd
                exact hin.out i hi hi)
            go_wp2_with fail
            go_roundw
            case rel => exact ⟨k + 1, by omega, by go_num, X.out, LaterC.mk (by (repeat (first | (with_reducible exact Below.refl _ _) | (with_reducible assumption) | (with_reducible refine Later.out _ ?_) | (with_reducible refine bel_alloc ?_ _) | (with_reducible refine bel_drew ?_) | (with_reducible refine bel_drewN ?_ _) | (with_reducible refine bel_set ?_ ?_ _) | (with_reducible refine After.out _ ?_ ?_) | (dsimp only; omega) | omega | (simp only [World.size_alloc, World.size_setCell, World.size_drew]; omega))))⟩
            case measure => first | (simp [intOf]; done) | (simp [intOf]; omega) | omega
      · have k1 : (L[k].kind == 1) = false := by simp [e1]
        have k4 : (L[k].kind != 1) = true := by simp [e1]
        have E1 := Lib.hid e1
        clear e1
        go_wp2_with fail
        go_loopw [17] (fun i wr => ∃ m : Nat, m ≤ L.length ∧ i = .int .i64 m ∧ (∀ j (hj : j < L.length), j < m → CircAt L L[k] L[j]) ∧ ClmAt wr z.w.heap.size 0 L[k] ∧ ∃ z2 : Later w, wr = z2.w) (fun i _ => L.length - (intOf i).toNat)
        case atStart => exact ⟨0, Nat.zero_le _, rfl, fun j _ h => absurd h (by omega), by refine ⟨?_, ?_, ?_, ?_, ?_, ?_, ?_⟩ <;> simp [go_sem, ↓IntWalk.iteOmega, *], LaterC.mk (by (repeat (first | (with_reducible exact Below.refl _ _) | (with_reducible assumption) | (with_reducible refine Later.out _ ?_) | (with_reducible refine bel_alloc ?_ _) | (with_reducible refine bel_drew ?_) | (with_reducible refine bel_drewN ?_ _) | (with_reducible refine bel_set ?_ ?_ _) | (with_reducible refine After.out _ ?_ ?_) | (dsimp only; omega) | omega | (simp only [World.size_alloc, World.size_setCell, World.size_drew]; omega))))⟩
        case round =>
          obtain ⟨m, hmm, rfl, hin, hat, z2, rfl⟩ := hrel
          replace hin := Lib.hid hin
          have hz2 := z2.bel.size
          have hzl := hat.lt
          have HAT := Lib.hid hat
          obtain ⟨p0, p1, p2, p3, p4, p5, p6⟩ := hat
          simp only [Nat.zero_add] at p1 p2 p3 p4 p5 p6
          by_cases hlt2 : m < L.length
          · obtain ⟨b', o', he, hb', s0, s1, s2, s3, s4, s5, s6⟩ := hr.out.clm hlt2
            cases he
            have hno := fun h : CircAt L L[k] L[m] => (show ∀ j (hj : j < L.length), j < m + 1 → CircAt L L[k] L[j] from fun j hj h1 => by
              rcases Nat.lt_or_ge j m with h2 | h2
              · exact hin.out j hj h2
              · obtain rfl : j = m := by omega
                exact h)
            have X := Lib.hid (hno fun h _ _ => absurd h E1.out)
            clear hno
            go_wp2_with fail
            go_roundw
            case rel => exact ⟨m + 1, by omega, by go_num, X.out, HAT.out.bel (by (repeat (first | (with_reducible exact Below.refl _ _) | (with_reducible assumption) | (with_reducible refine Later.out _ ?_) | (with_reducible refine bel_alloc ?_ _) | (with_reducible refine bel_drew ?_) | (with_reducible refine bel_drewN ?_ _) | (with_reducible refine bel_set ?_ ?_ _) | (with_reducible refine After.out _ ?_ ?_) | (dsimp only; omega) | omega | (simp only [World.size_alloc, World.size_setCell, World.size_drew]; omega)))), LaterC.mk (by (repeat (first | (with_reducible exact Below.refl _ _) | (with_reducible assumption) | (with_reducible refine Later.out _ ?_) | (with_reducible refine bel_alloc ?_ _) | (with_reducible refine bel_drew ?_) | (with_reducible refine bel_drewN ?_ _) | (with_reducible refine bel_set ?_ ?_ _) | (with_reducible refine After.out _ ?_ ?_) | (dsimp only; omega) | omega | (simp only [World.size_alloc, World.size_setCell, World.size_drew]; omega))))⟩
            case measure => first | (simp [intOf]; done) | (simp [intOf]; omega) | omega
          · obtain rfl : m = L.length := by omega
            have X := Lib.hid (show ∀ j (hj : j < L.length), j < k + 1 → ∀ d ∈ L, CircAt L L[j] d from fun j hj h1 d hd => by
              rcases Nat.lt_or_ge j k with h2 | h2
              · exact hall.out j hj h2 d hd
              · obtain rfl : j = k := by omega
                obtain ⟨i, hi, rfl⟩ := List.mem_iff_getElem.1 hd
                exact hin.out i hi hi)
            go_wp2_with fail
            go_roundw
            case rel => exact ⟨k + 1, by omega, by go_num, X.out, LaterC.mk (by (repeat (first | (with_reducible exact Below.refl _ _) | (with_reducible assumption) | (with_reducible refine Later.out _ ?_) | (with_reducible refine bel_alloc ?_ _) | (with_reducible refine bel_drew ?_) | (with_reducible refine bel_drewN ?_ _) | (with_reducible refine bel_set ?_ ?_ _) | (with_reducible refine After.out _ ?_ ?_) | (dsimp only; omega) | omega | (simp only [World.size_alloc, World.size_setCell, World.size_drew]; omega))))⟩
            case measure => first | (simp [intOf]; done) | (simp [intOf]; omega) | omega
    · obtain rfl : k = L.length := by omega
      have X := Lib.hid (show bof (NoCirc L) = true from bof_true (noCirc_of fun c hc hk d hd h1 h2 => by
        obtain ⟨j, hj, rfl⟩ := List.mem_iff_getElem.1 hc
        exact hall.out j hj hj d hd hk h1 h2))
      go_wp2_with fail
      go_ret
      exact .mk (by rw [X.out]; rfl) (by (repeat (first | (with_reducible exact Below.refl _ _) | (with_reducible assumption) | (with_reducible refine Later.out _ ?_) | (with_reducible refine bel_alloc ?_ _) | (with_reducible refine bel_drew ?_) | (with_reducible refine bel_drewN ?_ _) | (with_reducible refine bel_set ?_ ?_ _) | (with_reducible refine After.out _ ?_ ?_) | (dsimp only; omega) | omega | (simp only [World.size_alloc, World.size_setCell, World.size_drew]; omega))))
theorem consB_pair {L : List Clm} (h : bof (NoPair L) = false) : consB L = false := bof_false fun hc => not_bof h hc.1
theorem consB_circ {L : List Clm} (h : bof (NoPair L) = true) : consB L = bof (NoCirc L) := bof_congr ⟨fun hc => hc.2, fun hc => ⟨of_bof h, hc⟩⟩
set_option maxHeartbeats 1000000 in
theorem areConsistent_any (L : List Clm) (a : Option Addr) (n c : Nat) (w : World) (hn : L.length = n) (hm : n ≤ 1048576) (hcap : n ≤ c) (hr : Row w a (clmsCells L)) :
    Calls Tryz.prog 127 #[.slice a n c] w (Ret w (.bool (consB L))) := by
  have C1 := fun w hr => hasPair_any L a n c w hn hm hcap hr
  have C2 := fun w hr => hasCircle_any L a n c w hn hm hr
  cases hp : bof (NoPair L)
  · rw [consB_pair hp]
    rw [hp] at C1
    replace C1 := Lib.hid C1
    replace hr := Lib.hid hr
    go_enter Tryz.func127, Tryz.ntmps127
    go_wp2_with fail
    with_reducible refine (C1.out _ (hr.out.bel (by (repeat (first | (with_reducible exact Below.refl _ _) | (with_reducible assumption) | (with_reducible refine Later.out _ ?_) | (with_reducible refine bel_alloc ?_ _) | (with_reducible refine bel_drew ?_) | (with_reducible refine bel_drewN ?_ _) | (with_reducible refine bel_set ?_ ?_ _) | (with_reducible refine After.out _ ?_ ?_) | (dsimp only; omega) | omega | (simp only [World.size_alloc, World.size_setCell, World.size_drew]; omega)))))).mono ?_
    rintro e w' ⟨rfl, y1, rfl⟩
    have hsy1 := y1.bel.size
    (try simp only [World.size_alloc, World.size_setCell, World.size_drew] at hsy1)
    go_wp2_with fail
    go_ret
    exact .mk rfl (by (repeat (first | (with_reducible exact Below.refl _ _) | (with_reducible assumption) | (with_reducible refine Later.out _ ?_) | (with_reducible refine bel_alloc ?_ _) | (with_reducible refine bel_drew ?_) | (with_reducible refine bel_drewN ?_ _) | (with_reducible refine bel_set ?_ ?_ _) | (with_reducible refine After.out _ ?_ ?_) | (dsimp only; omega) | omega | (simp only [World.size_alloc, World.size_setCell, World.size_drew]; omega))))
  · rw [consB_circ hp]
    rw [hp] at C1
    cases hq : bof (NoCirc L)
    · rw [hq] at C2
      replace C1 := Lib.hid C1
      replace C2 := Lib.hid C2
      replace hr := Lib.hid hr
      go_enter Tryz.func127, Tryz.ntmps127
      go_wp2_with fail
      with_reducible refine (C1.out _ (hr.out.bel (by (repeat (first | (with_reducible exact Below.refl _ _) | (with_reducible assumption) | (with_reducible refine Later.out _ ?_) | (with_reducible refine bel_alloc ?_ _) | (with_reducible refine bel_drew ?_) | (with_reducible refine bel_drewN ?_ _) | (with_reducible refine bel_set ?_ ?_ _) | (with_reducible refine After.out _ ?_ ?_) | (dsimp only; omega) | omega | (simp only [World.size_alloc, World.size_setCell, World.size_drew]; omega)))))).mono ?_
      rintro e w' ⟨rfl, y1, rfl⟩
      have hsy1 := y1.bel.size
      (try simp only [World.size_alloc, World.size_setCell, World.size_drew] at hsy1)
      go_wp2_with fail
      with_reducible refine (C2.out _ (hr.out.bel (by (repeat (first | (with_reducible exact Below.refl _ _) | (with_reducible assumption) | (with_reducible refine Later.out _ ?_) | (with_reducible refine bel_alloc ?_ _) | (with_reducible refine bel_drew ?_) | (with_reducible refine bel_drewN ?_ _) | (with_reducible refine bel_set ?_ ?_ _) | (with_reducible refine After.out _ ?_ ?_) | (dsimp only; omega) | omega | (simp only [World.size_alloc, World.size_setCell, World.size_drew]; omega)))))).mono ?_
      rintro e w' ⟨rfl, y2, rfl⟩
      have hsy2 := y2.bel.size
      (try simp only [World.size_alloc, World.size_setCell, World.size_drew] at hsy2)
      go_wp2_with fail
      go_ret
      exact .mk rfl (by (repeat (first | (with_reducible exact Below.refl _ _) | (with_reducible assumption) | (with_reducible refine Later.out _ ?_) | (with_reducible refine bel_alloc ?_ _) | (with_reducible refine bel_drew ?_) | (with_reducible refine bel_drewN ?_ _) | (with_reducible refine bel_set ?_ ?_ _) | (with_reducible refine After.out _ ?_ ?_) | (dsimp only; omega) | omega | (simp only [World.size_alloc, World.size_setCell, World.size_drew]; omega))))
    · rw [hq] at C2
      replace C1 := Lib.hid C1
      replace C2 := Lib.hid C2
      replace hr := Lib.hid hr
      go_enter Tryz.func127, Tryz.ntmps127
      go_wp2_with fail
      with_reducible refine (C1.out _ (hr.out.bel (by (repeat (first | (with_reducible exact Below.refl _ _) | (with_reducible assumption) | (with_reducible refine Later.out _ ?_) | (with_reducible refine bel_alloc ?_ _) | (with_reducible refine bel_drew ?_) | (with_reducible refine bel_drewN ?_ _) | (with_reducible refine bel_set ?_ ?_ _) | (with_reducible refine After.out _ ?_ ?_) | (dsimp only; omega) | omega | (simp only [World.size_alloc, World.size_setCell, World.size_drew]; omega)))))).mono ?_
      rintro e w' ⟨rfl, y1, rfl⟩
      have hsy1 := y1.bel.size
      (try simp only [World.size_alloc, World.size_setCell, World.size_drew] at hsy1)
      go_wp2_with fail
      with_reducible refine (C2.out _ (hr.out.bel (by (repeat (first | (with_reducible exact Below.refl _ _) | (with_reducible assumption) | (with_reducible refine Later.out _ ?_) | (with_reducible refine bel_alloc ?_ _) | (with_reducible refine bel_drew ?_) | (with_reducible refine bel_drewN ?_ _) | (with_reducible refine bel_set ?_ ?_ _) | (with_reducible refine After.out _ ?_ ?_) | (dsimp only; omega) | omega | (simp only [World.size_alloc, World.size_setCell, World.size_drew]; omega)))))).mono ?_
      rintro e w' ⟨rfl, y2, rfl⟩
      have hsy2 := y2.bel.size
      (try simp only [World.size_alloc, World.size_setCell, World.size_drew] at hsy2)
      go_wp2_with fail
      go_ret
      exact .mk rfl (by (repeat (first | (with_reducible exact Below.refl _ _) | (with_reducible assumption) | (with_reducible refine Later.out _ ?_) | (with_reducible refine bel_alloc ?_ _) | (with_reducible refine bel_drew ?_) | (with_reducible refine bel_drewN ?_ _) | (with_reducible refine bel_set ?_ ?_ _) | (with_reducible refine After.out _ ?_ ?_) | (dsimp only; omega) | omega | (simp only [World.size_alloc, World.size_setCell, World.size_drew]; omega))))
end Go.Proofs.YtflcfdiochohgaaGreatDoor

/- Consistency of claims: the reference's side. -/
set_option linter.unusedSimpArgs false
set_option linter.unusedVariables false
namespace Go.Proofs.YtflcfdiochohgaaGreatDoor
open Go.RowKit
theorem claim_of_claims {L : List Clm} (h : claimsB L = true) {c : Clm} (hc : c ∈ L) : claimB c = true := by
  unfold claimsB at h
  rw [Bool.and_eq_true] at h
  exact List.all_eq_true.1 h.2 c hc
theorem len_of_claims {L : List Clm} (h : claimsB L = true) : L.length ≤ 12 := by
  unfold claimsB at h
  rw [Bool.and_eq_true] at h
  exact of_decide_eq_true h.1
theorem named_claim {c : Clm} (h : claimB c = true) (hk : c.kind = 1) : c.val.toList.isEmpty = false := by
  have hv : valueB c = true := by unfold claimB at h; simp only [Bool.and_eq_true] at h; exact h.1.1.2
  have hw : wordB c.val = true := by rw [valueB_parent hk, Bool.and_eq_true] at hv; exact hv.1
  unfold wordB wordL at hw
  simp only [Bool.and_eq_true, decide_eq_true_eq] at hw
  rw [ByteArray.toList_eq]
  cases hl : c.val.data.toList with
  | nil => rw [hl] at hw; simp at hw
  | cons x l => rfl
theorem named_of {L : List Clm} (h : ∀ c ∈ L, claimB c = true) : Named L := fun c hc hk => named_claim (h c hc) hk
set_option maxRecDepth 4000 in
set_option maxHeartbeats 4000000 in
theorem sCons_any (L : List Clm) (a : Option Addr) (n c : Nat) (w : World) (hn : L.length = n) (hm : n ≤ 1048576) (hr : Row w a (clmsCells L)) (hv : Named L) :
    Calls Tryz.prog 134 #[.slice a n c] w (Ret w (.bool (consB L))) := by
  have PC := fun y place w hr => sCircle_any L y place a n c w hn hm hr hv
  replace PC := Lib.hid PC
  clear hv
  subst hn
  replace hr := Lib.hid hr
  go_enter Tryz.func134, Tryz.ntmps134
  go_wp2_with fail
  go_loopw [3] (fun i wr => ∃ k : Nat, k ≤ L.length ∧ i = .int .i64 k ∧ PairTo L k ∧ ∃ z : Later w, wr = z.w) (fun i _ => L.length - (intOf i).toNat)
  case atStart => exact ⟨0, Nat.zero_le _, rfl, fun i j _ _ h => absurd h (by omega), LaterC.mk (by (repeat (first | (with_reducible exact Below.refl _ _) | (with_reducible assumption) | (with_reducible refine Later.out _ ?_) | (with_reducible refine bel_alloc ?_ _) | (with_reducible refine bel_drew ?_) | (with_reducible refine bel_drewN ?_ _) | (with_reducible refine bel_set ?_ ?_ _) | (with_reducible refine After.out _ ?_ ?_) | (dsimp only; omega) | omega | (simp only [World.size_alloc, World.size_setCell, World.size_drew]; omega))))⟩
  case round =>
    obtain ⟨k, hk, rfl, hall, z, rfl⟩ := hrel
    replace hall := Lib.hid hall
    have hzz := z.bel.size
    by_cases hlt : k < L.length
    · obtain ⟨b, o, rfl, hb, q0, q1, q2, q3, q4, q5, q6⟩ := hr.out.clm hlt
      go_wp2_with fail
      go_loopw [4] (fun i wr => ∃ m : Nat, m ≤ k ∧ i = .int .i64 m ∧ (∀ j (hj : j < L.length), j < m → contraB L[k] L[j] = false) ∧ ∃ z2 : Later w, wr = z2.w) (fun i _ => k - (intOf i).toNat)
      case atStart => exact ⟨0, Nat.zero_le _, rfl, fun j _ h => absurd h (by omega), LaterC.mk (by (repeat (first | (with_reducible exact Below.refl _ _) | (with_reducible assumption) | (with_reducible refine Later.out _ ?_) | (with_reducible refine bel_alloc ?_ _) | (with_reducible refine bel_drew ?_) | (with_reducible refine bel_drewN ?_ _) | (with_reducible refine bel_set ?_ ?_ _) | (with_reducible refine After.out _ ?_ ?_) | (dsimp only; omega) | omega | (simp only [World.size_alloc, World.size_setCell, World.size_drew]; omega))))⟩
      case round =>
        obtain ⟨m, hmk, rfl, hin, z2, rfl⟩ := hrel
        replace hin := Lib.hid hin
        have hz2 := z2.bel.size
        by_cases hlt2 : m < k
        · have hlt3 : m < L.length := by omega
          obtain ⟨b', o', he, hb', s0, s1, s2, s3, s4, s5, s6⟩ := hr.out.clm hlt3
          cases he
          have hi1 : (k : Int) < (L.length : Int) := by omega
          have hi2 : (m : Int) < (L.length : Int) := by omega
          cases hv : contraB L[k] L[m]
          · have X := Lib.hid (show ∀ j (hj : j < L.length), j < m + 1 → contraB L[k] L[j] = false from fun j hj h1 => by
              rcases Nat.lt_or_ge j m with h2 | h2
              · exact hin.out j hj h2
              · obtain rfl : j = m := by omega
                exact hv)
            replace hv := Lib.hid hv
            go_wp2_with fail
            refine wp_region_plan [(0, true), (1, true), (2, true), (3, true), (4, true), (5, true), (6, true), (7, true), (8, false)] (C := LaterC _) (by kernel_rfl) (by kernel_rfl) (by kernel_rfl) rfl (fun _ _ d _ _ h => by cases d <;> exact h) (LaterC.mk ((Below.refl _ _).drew)) ?_
            first | (refine plan_quiet nth0 rfl ?_; intro KP hKP; go_big_quiet_op; go_big_quiet_on) | (refine plan_skip_q nth0 rfl rfl ?_; simp only [Act.put, List.setIfInBounds_toArray, List.set_cons_zero, List.set_cons_succ])
            first | (refine plan_quiet nth1 rfl ?_; intro KP hKP; go_big_quiet_op; go_big_quiet_on) | (refine plan_skip_q nth1 rfl rfl ?_; simp only [Act.put, List.setIfInBounds_toArray, List.set_cons_zero, List.set_cons_succ])
            first | (refine plan_quiet nth2 rfl ?_; intro KP hKP; go_big_quiet_op; go_big_quiet_on) | (refine plan_skip_q nth2 rfl rfl ?_; simp only [Act.put, List.setIfInBounds_toArray, List.set_cons_zero, List.set_cons_succ])
            first | (refine plan_quiet nth3 rfl ?_; intro KP hKP; go_big_quiet_op; go_big_quiet_on) | (refine plan_skip_q nth3 rfl rfl ?_; simp only [Act.put, List.setIfInBounds_toArray, List.set_cons_zero, List.set_cons_succ])
            first | (refine plan_quiet nth4 rfl ?_; intro KP hKP; go_big_quiet_op; go_big_quiet_on) | (refine plan_skip_q nth4 rfl rfl ?_; simp only [Act.put, List.setIfInBounds_toArray, List.set_cons_zero, List.set_cons_succ])
            first | (refine plan_quiet nth5 rfl ?_; intro KP hKP; go_big_quiet_op; go_big_quiet_on) | (refine plan_skip_q nth5 rfl rfl ?_; simp only [Act.put, List.setIfInBounds_toArray, List.set_cons_zero, List.set_cons_succ])
            first | (refine plan_quiet nth6 rfl ?_; intro KP hKP; go_big_quiet_op; go_big_quiet_on) | (refine plan_skip_q nth6 rfl rfl ?_; simp only [Act.put, List.setIfInBounds_toArray, List.set_cons_zero, List.set_cons_succ])
            first | (refine plan_quiet nth7 rfl ?_; intro KP hKP; go_big_quiet_op; go_big_quiet_on) | (refine plan_skip_q nth7 rfl rfl ?_; simp only [Act.put, List.setIfInBounds_toArray, List.set_cons_zero, List.set_cons_succ])
            first | (refine plan_loud nth8 rfl ?_; intro KP hKP; go_wp2_with (first | (go_at_call 85; first | ((with_reducible refine (Calls.later (sContradict_b hv.out)).mono ?_); rintro e w' ⟨rfl, xl, rfl⟩; have hsz := xl.bel.size; (try simp only [World.size_alloc, World.size_setCell, World.size_drew] at hsz); (try have hz0 : w.heap.size < xl.w.heap.size := (by omega)); (try have hz1 : w.heap.size + 1 < xl.w.heap.size := (by omega)); (try have hz2 : w.heap.size + 1 + 1 < xl.w.heap.size := (by omega))) | ((with_reducible refine (sContradict_b hv.out).mono ?_); rintro e w' ⟨rfl, xl, rfl⟩; have hsz := xl.bel.size; (try simp only [World.size_alloc, World.size_setCell, World.size_drew] at hsz); (try have hz0 : w.heap.size < xl.w.heap.size := (by omega)); (try have hz1 : w.heap.size + 1 < xl.w.heap.size := (by omega)); (try have hz2 : w.heap.size + 1 + 1 < xl.w.heap.size := (by omega))))); refine hKP _ _ (LaterC.mk (by (repeat (first | (with_reducible exact Below.refl _ _) | (with_reducible assumption) | (with_reducible refine Later.out _ ?_) | (with_reducible refine bel_alloc ?_ _) | (with_reducible refine bel_drew ?_) | (with_reducible refine bel_drewN ?_ _) | (with_reducible refine bel_set ?_ ?_ _) | (with_reducible refine After.out _ ?_ ?_) | (dsimp only; omega) | omega | (simp only [World.size_alloc, World.size_setCell, World.size_drew]; omega))))) ?_; clear hKP KP) | (refine plan_skip nth8 rfl rfl (LaterC.mk (by (repeat (first | (with_reducible exact Below.refl _ _) | (with_reducible assumption) | (with_reducible refine Later.out _ ?_) | (with_reducible refine bel_alloc ?_ _) | (with_reducible refine bel_drew ?_) | (with_reducible refine bel_drewN ?_ _) | (with_reducible refine bel_set ?_ ?_ _) | (with_reducible refine After.out _ ?_ ?_) | (dsimp only; omega) | omega | (simp only [World.size_alloc, World.size_setCell, World.size_drew]; omega))))) ?_; simp only [Act.put, List.setIfInBounds_toArray, List.set_cons_zero, List.set_cons_succ])
            refine plan_nil ?_
            go_wp2_with fail
            go_roundw
            case rel => exact ⟨m + 1, by omega, by go_num, X.out, LaterC.mk (by (repeat (first | (with_reducible exact Below.refl _ _) | (with_reducible assumption) | (with_reducible refine Later.out _ ?_) | (with_reducible refine bel_alloc ?_ _) | (with_reducible refine bel_drew ?_) | (with_reducible refine bel_drewN ?_ _) | (with_reducible refine bel_set ?_ ?_ _) | (with_reducible refine After.out _ ?_ ?_) | (dsimp only; omega) | omega | (simp only [World.size_alloc, World.size_setCell, World.size_drew]; omega))))⟩
            case measure => first | (simp [intOf]; done) | (simp [intOf]; omega) | omega
          · have X := Lib.hid (show consB L = false from bof_false fun hc => by
              have := noPair_iff.1 hc.1 k m hlt hlt3 hlt2
              rw [hv] at this; cases this)
            replace hv := Lib.hid hv
            go_wp2_with fail
            refine wp_region_plan [(0, true), (1, true), (2, true), (3, true), (4, true), (5, true), (6, true), (7, true), (8, false)] (C := LaterC _) (by kernel_rfl) (by kernel_rfl) (by kernel_rfl) rfl (fun _ _ d _ _ h => by cases d <;> exact h) (LaterC.mk ((Below.refl _ _).drew)) ?_
            first | (refine plan_quiet nth0 rfl ?_; intro KP hKP; go_big_quiet_op; go_big_quiet_on) | (refine plan_skip_q nth0 rfl rfl ?_; simp only [Act.put, List.setIfInBounds_toArray, List.set_cons_zero, List.set_cons_succ])
            first | (refine plan_quiet nth1 rfl ?_; intro KP hKP; go_big_quiet_op; go_big_quiet_on) | (refine plan_skip_q nth1 rfl rfl ?_; simp only [Act.put, List.setIfInBounds_toArray, List.set_cons_zero, List.set_cons_succ])
            first | (refine plan_quiet nth2 rfl ?_; intro KP hKP; go_big_quiet_op; go_big_quiet_on) | (refine plan_skip_q nth2 rfl rfl ?_; simp only [Act.put, List.setIfInBounds_toArray, List.set_cons_zero, List.set_cons_succ])
            first | (refine plan_quiet nth3 rfl ?_; intro KP hKP; go_big_quiet_op; go_big_quiet_on) | (refine plan_skip_q nth3 rfl rfl ?_; simp only [Act.put, List.setIfInBounds_toArray, List.set_cons_zero, List.set_cons_succ])
            first | (refine plan_quiet nth4 rfl ?_; intro KP hKP; go_big_quiet_op; go_big_quiet_on) | (refine plan_skip_q nth4 rfl rfl ?_; simp only [Act.put, List.setIfInBounds_toArray, List.set_cons_zero, List.set_cons_succ])
            first | (refine plan_quiet nth5 rfl ?_; intro KP hKP; go_big_quiet_op; go_big_quiet_on) | (refine plan_skip_q nth5 rfl rfl ?_; simp only [Act.put, List.setIfInBounds_toArray, List.set_cons_zero, List.set_cons_succ])
            first | (refine plan_quiet nth6 rfl ?_; intro KP hKP; go_big_quiet_op; go_big_quiet_on) | (refine plan_skip_q nth6 rfl rfl ?_; simp only [Act.put, List.setIfInBounds_toArray, List.set_cons_zero, List.set_cons_succ])
            first | (refine plan_quiet nth7 rfl ?_; intro KP hKP; go_big_quiet_op; go_big_quiet_on) | (refine plan_skip_q nth7 rfl rfl ?_; simp only [Act.put, List.setIfInBounds_toArray, List.set_cons_zero, List.set_cons_succ])
            first | (refine plan_loud nth8 rfl ?_; intro KP hKP; go_wp2_with (first | (go_at_call 85; first | ((with_reducible refine (Calls.later (sContradict_b hv.out)).mono ?_); rintro e w' ⟨rfl, xl, rfl⟩; have hsz := xl.bel.size; (try simp only [World.size_alloc, World.size_setCell, World.size_drew] at hsz); (try have hz0 : w.heap.size < xl.w.heap.size := (by omega)); (try have hz1 : w.heap.size + 1 < xl.w.heap.size := (by omega)); (try have hz2 : w.heap.size + 1 + 1 < xl.w.heap.size := (by omega))) | ((with_reducible refine (sContradict_b hv.out).mono ?_); rintro e w' ⟨rfl, xl, rfl⟩; have hsz := xl.bel.size; (try simp only [World.size_alloc, World.size_setCell, World.size_drew] at hsz); (try have hz0 : w.heap.size < xl.w.heap.size := (by omega)); (try have hz1 : w.heap.size + 1 < xl.w.heap.size := (by omega)); (try have hz2 : w.heap.size + 1 + 1 < xl.w.heap.size := (by omega))))); refine hKP _ _ (LaterC.mk (by (repeat (first | (with_reducible exact Below.refl _ _) | (with_reducible assumption) | (with_reducible refine Later.out _ ?_) | (with_reducible refine bel_alloc ?_ _) | (with_reducible refine bel_drew ?_) | (with_reducible refine bel_drewN ?_ _) | (with_reducible refine bel_set ?_ ?_ _) | (with_reducible refine After.out _ ?_ ?_) | (dsimp only; omega) | omega | (simp only [World.size_alloc, World.size_setCell, World.size_drew]; omega))))) ?_; clear hKP KP) | (refine plan_skip nth8 rfl rfl (LaterC.mk (by (repeat (first | (with_reducible exact Below.refl _ _) | (with_reducible assumption) | (with_reducible refine Later.out _ ?_) | (with_reducible refine bel_alloc ?_ _) | (with_reducible refine bel_drew ?_) | (with_reducible refine bel_drewN ?_ _) | (with_reducible refine bel_set ?_ ?_ _) | (with_reducible refine After.out _ ?_ ?_) | (dsimp only; omega) | omega | (simp only [World.size_alloc, World.size_setCell, World.size_drew]; omega))))) ?_; simp only [Act.put, List.setIfInBounds_toArray, List.set_cons_zero, List.set_cons_succ])
            refine plan_nil ?_
            go_wp2_with fail
            go_ret
            exact .mk (by rw [X.out]; rfl) (by (repeat (first | (with_reducible exact Below.refl _ _) | (with_reducible assumption) | (with_reducible refine Later.out _ ?_) | (with_reducible refine bel_alloc ?_ _) | (with_reducible refine bel_drew ?_) | (with_reducible refine bel_drewN ?_ _) | (with_reducible refine bel_set ?_ ?_ _) | (with_reducible refine After.out _ ?_ ?_) | (dsimp only; omega) | omega | (simp only [World.size_alloc, World.size_setCell, World.size_drew]; omega))))
        · obtain rfl : m = k := by omega
          have X := Lib.hid (hall.out.succ fun j hj _ hjk => hin.out j hj hjk)
          go_wp2_with fail
          go_roundw
          case rel => exact ⟨m + 1, by omega, by go_num, X.out, LaterC.mk (by (repeat (first | (with_reducible exact Below.refl _ _) | (with_reducible assumption) | (with_reducible refine Later.out _ ?_) | (with_reducible refine bel_alloc ?_ _) | (with_reducible refine bel_drew ?_) | (with_reducible refine bel_drewN ?_ _) | (with_reducible refine bel_set ?_ ?_ _) | (with_reducible refine After.out _ ?_ ?_) | (dsimp only; omega) | omega | (simp only [World.size_alloc, World.size_setCell, World.size_drew]; omega))))⟩
          case measure => first | (simp [intOf]; done) | (simp [intOf]; omega) | omega
    · obtain rfl : k = L.length := by omega
      have hnp := Lib.hid hall.out.all
      clear hall
      go_wp2_with fail
      go_loopw [5] (fun i wr => ∃ k : Nat, k ≤ L.length ∧ i = .int .i64 k ∧ (∀ j (hj : j < L.length), j < k → L[j].kind = 1 → ∀ d ∈ L, circZ L L[j].fr d.place = none) ∧ ∃ z : Later w, wr = z.w) (fun i _ => L.length - (intOf i).toNat)
      case atStart => exact ⟨0, Nat.zero_le _, rfl, fun j _ h => absurd h (by omega), LaterC.mk (by (repeat (first | (with_reducible exact Below.refl _ _) | (with_reducible assumption) | (with_reducible refine Later.out _ ?_) | (with_reducible refine bel_alloc ?_ _) | (with_reducible refine bel_drew ?_) | (with_reducible refine bel_drewN ?_ _) | (with_reducible refine bel_set ?_ ?_ _) | (with_reducible refine After.out _ ?_ ?_) | (dsimp only; omega) | omega | (simp only [World.size_alloc, World.size_setCell, World.size_drew]; omega))))⟩
      case round =>
        obtain ⟨k, hk, rfl, hall, z1, rfl⟩ := hrel
        replace hall := Lib.hid hall
        have hz1 := z1.bel.size
        by_cases hlt : k < L.length
        · obtain ⟨b, o, rfl, hb, q0, q1, q2, q3, q4, q5, q6⟩ := hr.out.clm hlt
          have hi1 : (k : Int) < (L.length : Int) := by omega
          by_cases e1 : L[k].kind = 1
          · have k1 : (L[k].kind == 1) = true := by simp [e1]
            have E1 := Lib.hid e1
            clear e1
            go_wp2_with fail
            go_loopw [6] (fun i wr => ∃ m : Nat, m ≤ L.length ∧ i = .int .i64 m ∧ (∀ j (hj : j < L.length), j < m → circZ L L[k].fr L[j].place = none) ∧ ∃ z2 : Later w, wr = z2.w) (fun i _ => L.length - (intOf i).toNat)
            case atStart => exact ⟨0, Nat.zero_le _, rfl, fun j _ h => absurd h (by omega), LaterC.mk (by (repeat (first | (with_reducible exact Below.refl _ _) | (with_reducible assumption) | (with_reducible refine Later.out _ ?_) | (with_reducible refine bel_alloc ?_ _) | (with_reducible refine bel_drew ?_) | (with_reducible refine bel_drewN ?_ _) | (with_reducible refine bel_set ?_ ?_ _) | (with_reducible refine After.out _ ?_ ?_) | (dsimp only; omega) | omega | (simp only [World.size_alloc, World.size_setCell, World.size_drew]; omega))))⟩
            case round =>
              obtain ⟨m, hmk, rfl, hin, z2, rfl⟩ := hrel
              replace hin := Lib.hid hin
              have hz2 := z2.bel.size
              by_cases hlt2 : m < L.length
              · obtain ⟨b', o', he, hb', s0, s1, s2, s3, s4, s5, s6⟩ := hr.out.clm hlt2
                cases he
                have hi2 : (m : Int) < (L.length : Int) := by omega
                have PC' := fun w hr => PC.out L[k].fr L[m].place w hr
                cases hZ : circZ L L[k].fr L[m].place with
                | none =>
                  rw [hZ] at PC'
                  replace PC' := Lib.hid PC'
                  have X := Lib.hid (show ∀ j (hj : j < L.length), j < m + 1 → circZ L L[k].fr L[j].place = none from fun j hj h1 => by
                    rcases Nat.lt_or_ge j m with h2 | h2
                    · exact hin.out j hj h2
                    · obtain rfl : j = m := by omega
                      exact hZ)
                  clear hZ
                  go_wp2_with fail
                  refine wp_region_plan [(0, true), (1, true), (2, true), (3, true), (4, true), (5, true), (6, true), (7, true), (8, true), (9, true), (10, true), (11, true), (12, false), (13, true), (14, true), (15, true), (16, true), (17, true)] (C := LaterC _) (by kernel_rfl) (by kernel_rfl) (by kernel_rfl) rfl (fun _ _ d _ _ h => by cases d <;> exact h) (LaterC.mk ((Below.refl _ _).drew)) ?_
                  first | (refine plan_quiet nth0 rfl ?_; intro KP hKP; go_big_quiet_op; go_big_quiet_on) | (refine plan_skip_q nth0 rfl rfl ?_; simp only [Act.put, List.setIfInBounds_toArray, List.set_cons_zero, List.set_cons_succ])
                  first | (refine plan_quiet nth1 rfl ?_; intro KP hKP; go_big_quiet_op; go_big_quiet_on) | (refine plan_skip_q nth1 rfl rfl ?_; simp only [Act.put, List.setIfInBounds_toArray, List.set_cons_zero, List.set_cons_succ])
                  first | (refine plan_quiet nth2 rfl ?_; intro KP hKP; go_big_quiet_op; go_big_quiet_on) | (refine plan_skip_q nth2 rfl rfl ?_; simp only [Act.put, List.setIfInBounds_toArray, List.set_cons_zero, List.set_cons_succ])
                  first | (refine plan_quiet nth3 rfl ?_; intro KP hKP; go_big_quiet_op; go_big_quiet_on) | (refine plan_skip_q nth3 rfl rfl ?_; simp only [Act.put, List.setIfInBounds_toArray, List.set_cons_zero, List.set_cons_succ])
                  first | (refine plan_quiet nth4 rfl ?_; intro KP hKP; go_big_quiet_op; go_big_quiet_on) | (refine plan_skip_q nth4 rfl rfl ?_; simp only [Act.put, List.setIfInBounds_toArray, List.set_cons_zero, List.set_cons_succ])
                  first | (refine plan_quiet nth5 rfl ?_; intro KP hKP; go_big_quiet_op; go_big_quiet_on) | (refine plan_skip_q nth5 rfl rfl ?_; simp only [Act.put, List.setIfInBounds_toArray, List.set_cons_zero, List.set_cons_succ])
                  first | (refine plan_quiet nth6 rfl ?_; intro KP hKP; go_big_quiet_op; go_big_quiet_on) | (refine plan_skip_q nth6 rfl rfl ?_; simp only [Act.put, List.setIfInBounds_toArray, List.set_cons_zero, List.set_cons_succ])
                  first | (refine plan_quiet nth7 rfl ?_; intro KP hKP; go_big_quiet_op; go_big_quiet_on) | (refine plan_skip_q nth7 rfl rfl ?_; simp only [Act.put, List.setIfInBounds_toArray, List.set_cons_zero, List.set_cons_succ])
                  first | (refine plan_quiet nth8 rfl ?_; intro KP hKP; go_big_quiet_op; go_big_quiet_on) | (refine plan_skip_q nth8 rfl rfl ?_; simp only [Act.put, List.setIfInBounds_toArray, List.set_cons_zero, List.set_cons_succ])
                  first | (refine plan_quiet nth9 rfl ?_; intro KP hKP; go_big_quiet_op; go_big_quiet_on) | (refine plan_skip_q nth9 rfl rfl ?_; simp only [Act.put, List.setIfInBounds_toArray, List.set_cons_zero, List.set_cons_succ])
                  first | (refine plan_quiet nth10 rfl ?_; intro KP hKP; go_big_quiet_op; go_big_quiet_on) | (refine plan_skip_q nth10 rfl rfl ?_; simp only [Act.put, List.setIfInBounds_toArray, List.set_cons_zero, List.set_cons_succ])
                  first | (refine plan_quiet nth11 rfl ?_; intro KP hKP; go_big_quiet_op; go_big_quiet_on) | (refine plan_skip_q nth11 rfl rfl ?_; simp only [Act.put, List.setIfInBounds_toArray, List.set_cons_zero, List.set_cons_succ])
                  first | (refine plan_loud nth12 rfl ?_; intro KP hKP; go_wp2_with (first | (go_at_call 182; (with_reducible refine (PC'.out _ (hr.out.bel (by (repeat (first | (with_reducible exact Below.refl _ _) | (with_reducible assumption) | (with_reducible refine Later.out _ ?_) | (with_reducible refine bel_alloc ?_ _) | (with_reducible refine bel_drew ?_) | (with_reducible refine bel_drewN ?_ _) | (with_reducible refine bel_set ?_ ?_ _) | (with_reducible refine After.out _ ?_ ?_) | (dsimp only; omega) | omega | (simp only [World.size_alloc, World.size_setCell, World.size_drew]; omega)))))).mono ?_); rintro e w' ⟨a7, n7, c7, r7, rfl, -, -, -, xl, rfl⟩; have hsz := xl.bel.size; (try simp only [World.size_alloc, World.size_setCell, World.size_drew] at hsz); (try have hz0 : w.heap.size < xl.w.heap.size := (by omega)); (try have hz1 : w.heap.size + 1 < xl.w.heap.size := (by omega)); (try have hz2 : w.heap.size + 1 + 1 < xl.w.heap.size := (by omega)))); refine hKP _ _ (LaterC.mk (by (repeat (first | (with_reducible exact Below.refl _ _) | (with_reducible assumption) | (with_reducible refine Later.out _ ?_) | (with_reducible refine bel_alloc ?_ _) | (with_reducible refine bel_drew ?_) | (with_reducible refine bel_drewN ?_ _) | (with_reducible refine bel_set ?_ ?_ _) | (with_reducible refine After.out _ ?_ ?_) | (dsimp only; omega) | omega | (simp only [World.size_alloc, World.size_setCell, World.size_drew]; omega))))) ?_; clear hKP KP) | (refine plan_skip nth12 rfl rfl (LaterC.mk (by (repeat (first | (with_reducible exact Below.refl _ _) | (with_reducible assumption) | (with_reducible refine Later.out _ ?_) | (with_reducible refine bel_alloc ?_ _) | (with_reducible refine bel_drew ?_) | (with_reducible refine bel_drewN ?_ _) | (with_reducible refine bel_set ?_ ?_ _) | (with_reducible refine After.out _ ?_ ?_) | (dsimp only; omega) | omega | (simp only [World.size_alloc, World.size_setCell, World.size_drew]; omega))))) ?_; simp only [Act.put, List.setIfInBounds_toArray, List.set_cons_zero, List.set_cons_succ])
                  first | (refine plan_quiet nth13 rfl ?_; intro KP hKP; go_big_quiet_op; go_big_quiet_on) | (refine plan_skip_q nth13 rfl rfl ?_; simp only [Act.put, List.setIfInBounds_toArray, List.set_cons_zero, List.set_cons_succ])
                  first | (refine plan_quiet nth14 rfl ?_; intro KP hKP; go_big_quiet_op; go_big_quiet_on) | (refine plan_skip_q nth14 rfl rfl ?_; simp only [Act.put, List.setIfInBounds_toArray, List.set_cons_zero, List.set_cons_succ])
                  first | (refine plan_quiet nth15 rfl ?_; intro KP hKP; go_big_quiet_op; go_big_quiet_on) | (refine plan_skip_q nth15 rfl rfl ?_; simp only [Act.put, List.setIfInBounds_toArray, List.set_cons_zero, List.set_cons_succ])
                  first | (refine plan_quiet nth16 rfl ?_; intro KP hKP; go_big_quiet_op; go_big_quiet_on) | (refine plan_skip_q nth16 rfl rfl ?_; simp only [Act.put, List.setIfInBounds_toArray, List.set_cons_zero, List.set_cons_succ])
                  first | (refine plan_quiet nth17 rfl ?_; intro KP hKP; go_big_quiet_op; go_big_quiet_on) | (refine plan_skip_q nth17 rfl rfl ?_; simp only [Act.put, List.setIfInBounds_toArray, List.set_cons_zero, List.set_cons_succ])
                  refine plan_nil ?_
                  go_wp2_with fail
                  go_roundw
                  case rel => exact ⟨m + 1, by omega, by go_num, X.out, LaterC.mk (by (repeat (first | (with_reducible exact Below.refl _ _) | (with_reducible assumption) | (with_reducible refine Later.out _ ?_) | (with_reducible refine bel_alloc ?_ _) | (with_reducible refine bel_drew ?_) | (with_reducible refine bel_drewN ?_ _) | (with_reducible refine bel_set ?_ ?_ _) | (with_reducible refine After.out _ ?_ ?_) | (dsimp only; omega) | omega | (simp only [World.size_alloc, World.size_setCell, World.size_drew]; omega))))⟩
                  case measure => first | (simp [intOf]; done) | (simp [intOf]; omega) | omega
                | some r =>
                  rw [hZ] at PC'
                  replace PC' := Lib.hid PC'
                  have X := Lib.hid (show consB L = false from bof_false fun h => by
                    have := h.2 L[k] (List.getElem_mem hlt) E1.out L[m] (List.getElem_mem hlt2)
                    rw [hZ] at this; cases this)
                  clear hZ
                  go_wp2_with fail
                  refine wp_region_plan [(0, true), (1, true), (2, true), (3, true), (4, true), (5, true), (6, true), (7, true), (8, true), (9, true), (10, true), (11, true), (12, false), (13, true), (14, true), (15, true), (16, true), (17, true)] (C := LaterC _) (by kernel_rfl) (by kernel_rfl) (by kernel_rfl) rfl (fun _ _ d _ _ h => by cases d <;> exact h) (LaterC.mk ((Below.refl _ _).drew)) ?_
                  first | (refine plan_quiet nth0 rfl ?_; intro KP hKP; go_big_quiet_op; go_big_quiet_on) | (refine plan_skip_q nth0 rfl rfl ?_; simp only [Act.put, List.setIfInBounds_toArray, List.set_cons_zero, List.set_cons_succ])
                  first | (refine plan_quiet nth1 rfl ?_; intro KP hKP; go_big_quiet_op; go_big_quiet_on) | (refine plan_skip_q nth1 rfl rfl ?_; simp only [Act.put, List.setIfInBounds_toArray, List.set_cons_zero, List.set_cons_succ])
                  first | (refine plan_quiet nth2 rfl ?_; intro KP hKP; go_big_quiet_op; go_big_quiet_on) | (refine plan_skip_q nth2 rfl rfl ?_; simp only [Act.put, List.setIfInBounds_toArray, List.set_cons_zero, List.set_cons_succ])
                  first | (refine plan_quiet nth3 rfl ?_; intro KP hKP; go_big_quiet_op; go_big_quiet_on) | (refine plan_skip_q nth3 rfl rfl ?_; simp only [Act.put, List.setIfInBounds_toArray, List.set_cons_zero, List.set_cons_succ])
                  first | (refine plan_quiet nth4 rfl ?_; intro KP hKP; go_big_quiet_op; go_big_quiet_on) | (refine plan_skip_q nth4 rfl rfl ?_; simp only [Act.put, List.setIfInBounds_toArray, List.set_cons_zero, List.set_cons_succ])
                  first | (refine plan_quiet nth5 rfl ?_; intro KP hKP; go_big_quiet_op; go_big_quiet_on) | (refine plan_skip_q nth5 rfl rfl ?_; simp only [Act.put, List.setIfInBounds_toArray, List.set_cons_zero, List.set_cons_succ])
                  first | (refine plan_quiet nth6 rfl ?_; intro KP hKP; go_big_quiet_op; go_big_quiet_on) | (refine plan_skip_q nth6 rfl rfl ?_; simp only [Act.put, List.setIfInBounds_toArray, List.set_cons_zero, List.set_cons_succ])
                  first | (refine plan_quiet nth7 rfl ?_; intro KP hKP; go_big_quiet_op; go_big_quiet_on) | (refine plan_skip_q nth7 rfl rfl ?_; simp only [Act.put, List.setIfInBounds_toArray, List.set_cons_zero, List.set_cons_succ])
                  first | (refine plan_quiet nth8 rfl ?_; intro KP hKP; go_big_quiet_op; go_big_quiet_on) | (refine plan_skip_q nth8 rfl rfl ?_; simp only [Act.put, List.setIfInBounds_toArray, List.set_cons_zero, List.set_cons_succ])
                  first | (refine plan_quiet nth9 rfl ?_; intro KP hKP; go_big_quiet_op; go_big_quiet_on) | (refine plan_skip_q nth9 rfl rfl ?_; simp only [Act.put, List.setIfInBounds_toArray, List.set_cons_zero, List.set_cons_succ])
                  first | (refine plan_quiet nth10 rfl ?_; intro KP hKP; go_big_quiet_op; go_big_quiet_on) | (refine plan_skip_q nth10 rfl rfl ?_; simp only [Act.put, List.setIfInBounds_toArray, List.set_cons_zero, List.set_cons_succ])
                  first | (refine plan_quiet nth11 rfl ?_; intro KP hKP; go_big_quiet_op; go_big_quiet_on) | (refine plan_skip_q nth11 rfl rfl ?_; simp only [Act.put, List.setIfInBounds_toArray, List.set_cons_zero, List.set_cons_succ])
                  first | (refine plan_loud nth12 rfl ?_; intro KP hKP; go_wp2_with (first | (go_at_call 182; (with_reducible refine (PC'.out _ (hr.out.bel (by (repeat (first | (with_reducible exact Below.refl _ _) | (with_reducible assumption) | (with_reducible refine Later.out _ ?_) | (with_reducible refine bel_alloc ?_ _) | (with_reducible refine bel_drew ?_) | (with_reducible refine bel_drewN ?_ _) | (with_reducible refine bel_set ?_ ?_ _) | (with_reducible refine After.out _ ?_ ?_) | (dsimp only; omega) | omega | (simp only [World.size_alloc, World.size_setCell, World.size_drew]; omega)))))).mono ?_); rintro e w' ⟨a7, n7, c7, r7, rfl, -, -, -, xl, rfl⟩; have hsz := xl.bel.size; (try simp only [World.size_alloc, World.size_setCell, World.size_drew] at hsz); (try have hz0 : w.heap.size < xl.w.heap.size := (by omega)); (try have hz1 : w.heap.size + 1 < xl.w.heap.size := (by omega)); (try have hz2 : w.heap.size + 1 + 1 < xl.w.heap.size := (by omega)))); refine hKP _ _ (LaterC.mk (by (repeat (first | (with_reducible exact Below.refl _ _) | (with_reducible assumption) | (with_reducible refine Later.out _ ?_) | (with_reducible refine bel_alloc ?_ _) | (with_reducible refine bel_drew ?_) | (with_reducible refine bel_drewN ?_ _) | (with_reducible refine bel_set ?_ ?_ _) | (with_reducible refine After.out _ ?_ ?_) | (dsimp only; omega) | omega | (simp only [World.size_alloc, World.size_setCell, World.size_drew]; omega))))) ?_; clear hKP KP) | (refine plan_skip nth12 rfl rfl (LaterC.mk (by (repeat (first | (with_reducible exact Below.refl _ _) | (with_reducible assumption) | (with_reducible refine Later.out _ ?_) | (with_reducible refine bel_alloc ?_ _) | (with_reducible refine bel_drew ?_) | (with_reducible refine bel_drewN ?_ _) | (with_reducible refine bel_set ?_ ?_ _) | (with_reducible refine After.out _ ?_ ?_) | (dsimp only; omega) | omega | (simp only [World.size_alloc, World.size_setCell, World.size_drew]; omega))))) ?_; simp only [Act.put, List.setIfInBounds_toArray, List.set_cons_zero, List.set_cons_succ])
                  first | (refine plan_quiet nth13 rfl ?_; intro KP hKP; go_big_quiet_op; go_big_quiet_on) | (refine plan_skip_q nth13 rfl rfl ?_; simp only [Act.put, List.setIfInBounds_toArray, List.set_cons_zero, List.set_cons_succ])
                  first | (refine plan_quiet nth14 rfl ?_; intro KP hKP; go_big_quiet_op; go_big_quiet_on) | (refine plan_skip_q nth14 rfl rfl ?_; simp only [Act.put, List.setIfInBounds_toArray, List.set_cons_zero, List.set_cons_succ])
                  first | (refine plan_quiet nth15 rfl ?_; intro KP hKP; go_big_quiet_op; go_big_quiet_on) | (refine plan_skip_q nth15 rfl rfl ?_; simp only [Act.put, List.setIfInBounds_toArray, List.set_cons_zero, List.set_cons_succ])
                  first | (refine plan_quiet nth16 rfl ?_; intro KP hKP; go_big_quiet_op; go_big_quiet_on) | (refine plan_skip_q nth16 rfl rfl ?_; simp only [Act.put, List.setIfInBounds_toArray, List.set_cons_zero, List.set_cons_succ])
                  first | (refine plan_quiet nth17 rfl ?_; intro KP hKP; go_big_quiet_op; go_big_quiet_on) | (refine plan_skip_q nth17 rfl rfl ?_; simp only [Act.put, List.setIfInBounds_toArray, List.set_cons_zero, List.set_cons_succ])
                  refine plan_nil ?_
                  go_wp2_with fail
                  go_ret
                  exact .mk (by rw [X.out]; rfl) (by (repeat (first | (with_reducible exact Below.refl _ _) | (with_reducible assumption) | (with_reducible refine Later.out _ ?_) | (with_reducible refine bel_alloc ?_ _) | (with_reducible refine bel_drew ?_) | (with_reducible refine bel_drewN ?_ _) | (with_reducible refine bel_set ?_ ?_ _) | (with_reducible refine After.out _ ?_ ?_) | (dsimp only; omega) | omega | (simp only [World.size_alloc, World.size_setCell, World.size_drew]; omega))))
              · obtain rfl : m = L.length := by omega
                have X := Lib.hid (show ∀ j (hj : j < L.length), j < k + 1 → L[j].kind = 1 → ∀ d ∈ L, circZ L L[j].fr d.place = none from fun j hj h1 hk1 d hd => by
                  rcases Nat.lt_or_ge j k with h2 | h2
                  · exact hall.out j hj h2 hk1 d hd
                  · obtain rfl : j = k := by omega
                    obtain ⟨i, hi, rfl⟩ := List.mem_iff_getElem.1 hd
                    exact hin.out i hi hi)
                go_wp2_with fail
                go_roundw
                case rel => exact ⟨k + 1, by omega, by go_num, X.out, LaterC.mk (by (repeat (first | (with_reducible exact Below.refl _ _) | (with_reducible assumption) | (with_reducible refine Later.out _ ?_) | (with_reducible refine bel_alloc ?_ _) | (with_reducible refine bel_drew ?_) | (with_reducible refine bel_drewN ?_ _) | (with_reducible refine bel_set ?_ ?_ _) | (with_reducible refine After.out _ ?_ ?_) | (dsimp only; omega) | omega | (simp only [World.size_alloc, World.size_setCell, World.size_drew]; omega))))⟩
                case measure => first | (simp [intOf]; done) | (simp [intOf]; omega) | omega
          · have k1 : (L[k].kind == 1) = false := by simp [e1]
            have X := Lib.hid (show ∀ j (hj : j < L.length), j < k + 1 → L[j].kind = 1 → ∀ d ∈ L, circZ L L[j].fr d.place = none from fun j hj h1 hk1 d hd => by
              rcases Nat.lt_or_ge j k with h2 | h2
              · exact hall.out j hj h2 hk1 d hd
              · obtain rfl : j = k := by omega
                exact absurd hk1 e1)
            clear e1
            go_wp2_with fail
            go_loopw [6] (fun i wr => i = .int .i64 0 ∧ ∃ z2 : Later w, wr = z2.w) (fun i _ => 1)
            case atStart => exact ⟨rfl, LaterC.mk (by (repeat (first | (with_reducible exact Below.refl _ _) | (with_reducible assumption) | (with_reducible refine Later.out _ ?_) | (with_reducible refine bel_alloc ?_ _) | (with_reducible refine bel_drew ?_) | (with_reducible refine bel_drewN ?_ _) | (with_reducible refine bel_set ?_ ?_ _) | (with_reducible refine After.out _ ?_ ?_) | (dsimp only; omega) | omega | (simp only [World.size_alloc, World.size_setCell, World.size_drew]; omega))))⟩
            case round =>
              obtain ⟨rfl, z2, rfl⟩ := hrel
              have hz2 := z2.bel.size
              have hpos : (0 : Int) < (L.length : Int) := by omega
              go_wp2_with fail
              go_roundw
              case rel => exact ⟨k + 1, by omega, by go_num, X.out, LaterC.mk (by (repeat (first | (with_reducible exact Below.refl _ _) | (with_reducible assumption) | (with_reducible refine Later.out _ ?_) | (with_reducible refine bel_alloc ?_ _) | (with_reducible refine bel_drew ?_) | (with_reducible refine bel_drewN ?_ _) | (with_reducible refine bel_set ?_ ?_ _) | (with_reducible refine After.out _ ?_ ?_) | (dsimp only; omega) | omega | (simp only [World.size_alloc, World.size_setCell, World.size_drew]; omega))))⟩
              case measure => first | (simp [intOf]; done) | (simp [intOf]; omega) | omega
        · obtain rfl : k = L.length := by omega
          have X := Lib.hid (show consB L = true from bof_true ⟨hnp.out, fun c hc hk d hd => by
            obtain ⟨j, hj, rfl⟩ := List.mem_iff_getElem.1 hc
            exact hall.out j hj hj hk d hd⟩)
          go_wp2_with fail
          go_ret
          exact .mk (by rw [X.out]; rfl) (by (repeat (first | (with_reducible exact Below.refl _ _) | (with_reducible assumption) | (with_reducible refine Later.out _ ?_) | (with_reducible refine bel_alloc ?_ _) | (with_reducible refine bel_drew ?_) | (with_reducible refine bel_drewN ?_ _) | (with_reducible refine bel_set ?_ ?_ _) | (with_reducible refine After.out _ ?_ ?_) | (dsimp only; omega) | omega | (simp only [World.size_alloc, World.size_setCell, World.size_drew]; omega))))
end Go.Proofs.YtflcfdiochohgaaGreatDoor

/- Repairs: both sides; chosen claims of the program. -/
set_option linter.unusedSimpArgs false
set_option linter.unusedVariables false
namespace Go.Proofs.YtflcfdiochohgaaGreatDoor
open Go.RowKit
theorem named_pick {L : List Clm} (h : Named L) (S : List Int) : Named (pick L S) := fun c hc => h c (pick_mem hc)
section
variable (L : List Clm) (S : List Int) (a a' : Option Addr) (n c n' c' : Nat) (w : World) (hn : L.length = n) (hn' : S.length = n') (hm : n ≤ 1048576) (hm' : n' ≤ 1048576) (hr : Row w a (clmsCells L)) (hr' : Row w a' (intCells S))
include hn hn' hm hm' hr hr'
set_option maxHeartbeats 1000000 in
theorem isRepair_any : Calls Tryz.prog 108 #[.slice a n c, .slice a' n' c'] w (Ret w (.bool (repG L S))) := by
  have C1 := Lib.hid (fun w hr hr' => kept_any L S a a' n c n' c' w hn hn' hm hm' hr hr')
  have hle := keptL_le L S
  have C2 := Lib.hid (fun a c w hc hr => areConsistent_any (keptL L S) a (keptL L S).length c w rfl (by omega) hc hr)
  replace hr := Lib.hid hr
  replace hr' := Lib.hid hr'
  go_enter Tryz.func108, Tryz.ntmps108
  go_wp2_with fail
  with_reducible refine (C1.out _ (hr.out.bel (by (repeat (first | (with_reducible exact Below.refl _ _) | (with_reducible assumption) | (with_reducible refine Later.out _ ?_) | (with_reducible refine bel_alloc ?_ _) | (with_reducible refine bel_drew ?_) | (with_reducible refine bel_drewN ?_ _) | (with_reducible refine bel_set ?_ ?_ _) | (with_reducible refine After.out _ ?_ ?_) | (dsimp only; omega) | omega | (simp only [World.size_alloc, World.size_setCell, World.size_drew]; omega))))) (hr'.out.bel (by (repeat (first | (with_reducible exact Below.refl _ _) | (with_reducible assumption) | (with_reducible refine Later.out _ ?_) | (with_reducible refine bel_alloc ?_ _) | (with_reducible refine bel_drew ?_) | (with_reducible refine bel_drewN ?_ _) | (with_reducible refine bel_set ?_ ?_ _) | (with_reducible refine After.out _ ?_ ?_) | (dsimp only; omega) | omega | (simp only [World.size_alloc, World.size_setCell, World.size_drew]; omega)))))).mono ?_
  rintro e w' ⟨a2, c2, rfl, hown, y2, rfl⟩
  have hsy2 := y2.bel.size
  (try simp only [World.size_alloc, World.size_setCell, World.size_drew] at hsy2)
  have H2 := Lib.hid (Owns.of hown)
  clear hown
  go_wp2_with fail
  with_reducible refine (C2.out _ _ _ H2.out.cap H2.out.row).mono ?_
  rintro e w' ⟨rfl, y3, rfl⟩
  have hsy3 := y3.bel.size
  (try simp only [World.size_alloc, World.size_setCell, World.size_drew] at hsy3)
  go_wp2_with fail
  go_ret
  exact .mk rfl (by (repeat (first | (with_reducible exact Below.refl _ _) | (with_reducible assumption) | (with_reducible refine Later.out _ ?_) | (with_reducible refine bel_alloc ?_ _) | (with_reducible refine bel_drew ?_) | (with_reducible refine bel_drewN ?_ _) | (with_reducible refine bel_set ?_ ?_ _) | (with_reducible refine After.out _ ?_ ?_) | (dsimp only; omega) | omega | (simp only [World.size_alloc, World.size_setCell, World.size_drew]; omega))))
set_option maxHeartbeats 1000000 in
theorem sRepair_any (hv : Named L) : Calls Tryz.prog 110 #[.slice a n c, .slice a' n' c'] w (Ret w (.bool (repG L S))) := by
  have hrl := restTo_le S n
  have C1 := Lib.hid (fun w hr' => sRest_any L S a a' n c n' c' w hn hn' hm hm' hr')
  have C2 := Lib.hid (fun a3 c3 w hr h3 => sChosen_any L (restTo S n) a a3 n c (restTo S n).length c3 w hn rfl hm (by omega) hr h3 (hn ▸ restTo_within S n))
  have hle := pick_le L (restTo S n)
  have C3 := Lib.hid (fun a c w hr => sCons_any (pick L (restTo S n)) a (pick L (restTo S n)).length c w rfl (by omega) hr (named_pick hv _))
  have hK := Lib.hid (show consB (pick L (restTo S n)) = repG L S by unfold repG keptL; rw [hn])
  replace hr := Lib.hid hr
  replace hr' := Lib.hid hr'
  clear hv
  go_enter Tryz.func110, Tryz.ntmps110
  go_wp2_with fail
  with_reducible refine (C1.out _ (hr'.out.bel (by (repeat (first | (with_reducible exact Below.refl _ _) | (with_reducible assumption) | (with_reducible refine Later.out _ ?_) | (with_reducible refine bel_alloc ?_ _) | (with_reducible refine bel_drew ?_) | (with_reducible refine bel_drewN ?_ _) | (with_reducible refine bel_set ?_ ?_ _) | (with_reducible refine After.out _ ?_ ?_) | (dsimp only; omega) | omega | (simp only [World.size_alloc, World.size_setCell, World.size_drew]; omega)))))).mono ?_
  rintro e w' ⟨a2, c2, rfl, hown, y2, rfl⟩
  have hsy2 := y2.bel.size
  (try simp only [World.size_alloc, World.size_setCell, World.size_drew] at hsy2)
  have H2 := Lib.hid (Owns.of hown)
  clear hown
  go_wp2_with fail
  with_reducible refine (C2.out _ _ _ (hr.out.bel (by (repeat (first | (with_reducible exact Below.refl _ _) | (with_reducible assumption) | (with_reducible refine Later.out _ ?_) | (with_reducible refine bel_alloc ?_ _) | (with_reducible refine bel_drew ?_) | (with_reducible refine bel_drewN ?_ _) | (with_reducible refine bel_set ?_ ?_ _) | (with_reducible refine After.out _ ?_ ?_) | (dsimp only; omega) | omega | (simp only [World.size_alloc, World.size_setCell, World.size_drew]; omega))))) H2.out.row).mono ?_
  rintro e w' ⟨a3, c3, rfl, hown, y3, rfl⟩
  have hsy3 := y3.bel.size
  (try simp only [World.size_alloc, World.size_setCell, World.size_drew] at hsy3)
  have H3 := Lib.hid (Owns.of hown)
  clear hown
  go_wp2_with fail
  with_reducible refine (C3.out _ _ _ H3.out.row).mono ?_
  rintro e w' ⟨rfl, y4, rfl⟩
  have hsy4 := y4.bel.size
  (try simp only [World.size_alloc, World.size_setCell, World.size_drew] at hsy4)
  go_wp2_with fail
  go_ret
  exact .mk (by rw [← hK.out]; rfl) (by (repeat (first | (with_reducible exact Below.refl _ _) | (with_reducible assumption) | (with_reducible refine Later.out _ ?_) | (with_reducible refine bel_alloc ?_ _) | (with_reducible refine bel_drew ?_) | (with_reducible refine bel_drewN ?_ _) | (with_reducible refine bel_set ?_ ?_ _) | (with_reducible refine After.out _ ?_ ?_) | (dsimp only; omega) | omega | (simp only [World.size_alloc, World.size_setCell, World.size_drew]; omega))))
end
end Go.Proofs.YtflcfdiochohgaaGreatDoor

/- Cores: both sides. -/
set_option linter.unusedSimpArgs false
set_option linter.unusedVariables false
namespace Go.Proofs.YtflcfdiochohgaaGreatDoor
open Go.RowKit
theorem within_erase {n : Nat} {S : List Int} (h : Within n S) (i : Nat) : Within n (S.eraseIdx i) := h.sub fun x hx => List.mem_of_mem_eraseIdx hx
theorem erase_le (S : List Int) (i : Nat) : (S.eraseIdx i).length ≤ S.length := List.length_eraseIdx_le S i
theorem minB_no {G : List Int → Bool} {S : List Int} (h : G S = false) : minB G S = false := by unfold minB; rw [h]; rfl
theorem minB_no2 {G : List Int → Bool} {S : List Int} {i : Nat} (hi : i < S.length) (h : G (S.eraseIdx i) = true) : minB G S = false := by
  rw [Bool.eq_false_iff]
  intro hm
  rw [(minB_iff.1 hm).2 i hi] at h
  cases h
theorem minB_yes {G : List Int → Bool} {S : List Int} (h : G S = true) (ha : ∀ i, i < S.length → G (S.eraseIdx i) = false) : minB G S = true := minB_iff.2 ⟨h, ha⟩
section
variable (L : List Clm) (S : List Int) (a a' : Option Addr) (n c n' c' : Nat) (w : World) (hn : L.length = n) (hn' : S.length = n') (hm : n ≤ 1048576) (hm' : n' ≤ 1000) (hcap : n' ≤ c') (hr : Row w a (clmsCells L)) (hr' : Row w a' (intCells S)) (hin : Within L.length S)
include hn hn' hm hm' hcap hr hr' hin
end
end Go.Proofs.YtflcfdiochohgaaGreatDoor

/- The code of a choice of claims: the reference's side, and what it says. -/
set_option linter.unusedSimpArgs false
set_option linter.unusedVariables false
namespace Go.Proofs.YtflcfdiochohgaaGreatDoor
open Go.RowKit
theorem code_claims {L : List Clm} {l : List Int} (h : codeZ L l = 0) : claimsB L = true := by
  unfold codeZ at h
  cases h1 : claimsB L
  · rw [h1] at h; cases h
  · rfl
theorem within_len : ∀ (n : Nat) (l : List Int), l.Nodup → Within n l → l.length ≤ n
  | 0, [], _, _ => Nat.le_refl _
  | 0, x :: l, _, h => by have := h x (by simp); omega
  | n + 1, l, hd, h => by
    have h1 := within_len n (l.erase (n : Int)) (hd.erase _) fun x hx => by
      have h2 := (List.Nodup.mem_erase_iff hd).1 hx
      have := h x h2.2
      have := h2.1
      omega
    have h2 := List.length_erase (a := (n : Int)) (l := l)
    split at h2 <;> omega
theorem rises_nodup {l : List Int} {n : Nat} (h : Rises l n) : l.Nodup := (ixs_of_rises h).nodup
theorem rises_len {l : List Int} {n : Nat} (h : Rises l n) : l.length ≤ n := within_len n l (rises_nodup h) (within_of_rises h)
section
variable (L : List Clm) (l : List Int) (a a' : Option Addr) (n c n' c' : Nat) (w : World) (hn : L.length = n) (hn' : l.length = n') (hm : n ≤ 1048576) (hm' : n' ≤ 1048576) (hr : Row w a (clmsCells L)) (hr' : Row w a' (intCells l)) (ok : ∀ c ∈ L, ClmOk c)
include hn hn' hm hm' hr hr' ok
theorem sCode_any : Calls Tryz.prog 109 #[.slice a n c, .slice a' n' c'] w (Ret w (.int .i64 (codeZ L l))) := by
  cases h1 : claimsB L
  · have X := Lib.hid (show codeZ L l = 1 by simp [codeZ, h1])
    have C1 := Lib.hid (sAreClaims_b (c := c) hn hm hr ok h1)
    clear hr hr' ok h1
    go_enter Tryz.func109, Tryz.ntmps109
    go_wp2_with fail
    with_reducible refine (C1.out).mono ?_
    rintro e w' ⟨rfl, y1, rfl⟩
    have hsy1 := y1.bel.size
    (try simp only [World.size_alloc, World.size_setCell, World.size_drew] at hsy1)
    go_wp2_with fail
    go_ret
    exact .mk (by rw [X.out]; rfl) (by (repeat (first | (with_reducible exact Below.refl _ _) | (with_reducible assumption) | (with_reducible refine Later.out _ ?_) | (with_reducible refine bel_alloc ?_ _) | (with_reducible refine bel_drew ?_) | (with_reducible refine bel_drewN ?_ _) | (with_reducible refine bel_set ?_ ?_ _) | (with_reducible refine After.out _ ?_ ?_) | (dsimp only; omega) | omega | (simp only [World.size_alloc, World.size_setCell, World.size_drew]; omega))))
  cases h2 : risesB l L.length
  · have X := Lib.hid (show codeZ L l = 2 by simp [codeZ, h1, h2])
    have C1 := Lib.hid (sAreClaims_b (c := c) hn hm hr ok h1)
    rw [hn] at h2
    have C2 := Lib.hid (fun w hr' => l01Rises_b (w := w) (a := a') (c := c') hn' hm' hr' (by omega) (by omega) h2)
    replace hr' := Lib.hid hr'
    clear hr ok h1 h2
    go_enter Tryz.func109, Tryz.ntmps109
    go_wp2_with fail
    with_reducible refine (C1.out).mono ?_
    rintro e w' ⟨rfl, y1, rfl⟩
    have hsy1 := y1.bel.size
    (try simp only [World.size_alloc, World.size_setCell, World.size_drew] at hsy1)
    go_wp2_with fail
    with_reducible refine (C2.out _ (hr'.out.bel (by (repeat (first | (with_reducible exact Below.refl _ _) | (with_reducible assumption) | (with_reducible refine Later.out _ ?_) | (with_reducible refine bel_alloc ?_ _) | (with_reducible refine bel_drew ?_) | (with_reducible refine bel_drewN ?_ _) | (with_reducible refine bel_set ?_ ?_ _) | (with_reducible refine After.out _ ?_ ?_) | (dsimp only; omega) | omega | (simp only [World.size_alloc, World.size_setCell, World.size_drew]; omega)))))).mono ?_
    rintro e w' ⟨rfl, y3, rfl⟩
    have hsy3 := y3.bel.size
    (try simp only [World.size_alloc, World.size_setCell, World.size_drew] at hsy3)
    go_wp2_with fail
    go_ret
    exact .mk (by rw [X.out]; rfl) (by (repeat (first | (with_reducible exact Below.refl _ _) | (with_reducible assumption) | (with_reducible refine Later.out _ ?_) | (with_reducible refine bel_alloc ?_ _) | (with_reducible refine bel_drew ?_) | (with_reducible refine bel_drewN ?_ _) | (with_reducible refine bel_set ?_ ?_ _) | (with_reducible refine After.out _ ?_ ?_) | (dsimp only; omega) | omega | (simp only [World.size_alloc, World.size_setCell, World.size_drew]; omega))))
  · have X := Lib.hid (show codeZ L l = 0 by simp [codeZ, h1, h2])
    have C1 := Lib.hid (sAreClaims_b (c := c) hn hm hr ok h1)
    rw [hn] at h2
    have C2 := Lib.hid (fun w hr' => l01Rises_b (w := w) (a := a') (c := c') hn' hm' hr' (by omega) (by omega) h2)
    replace hr' := Lib.hid hr'
    clear hr ok h1 h2
    go_enter Tryz.func109, Tryz.ntmps109
    go_wp2_with fail
    with_reducible refine (C1.out).mono ?_
    rintro e w' ⟨rfl, y1, rfl⟩
    have hsy1 := y1.bel.size
    (try simp only [World.size_alloc, World.size_setCell, World.size_drew] at hsy1)
    go_wp2_with fail
    with_reducible refine (C2.out _ (hr'.out.bel (by (repeat (first | (with_reducible exact Below.refl _ _) | (with_reducible assumption) | (with_reducible refine Later.out _ ?_) | (with_reducible refine bel_alloc ?_ _) | (with_reducible refine bel_drew ?_) | (with_reducible refine bel_drewN ?_ _) | (with_reducible refine bel_set ?_ ?_ _) | (with_reducible refine After.out _ ?_ ?_) | (dsimp only; omega) | omega | (simp only [World.size_alloc, World.size_setCell, World.size_drew]; omega)))))).mono ?_
    rintro e w' ⟨rfl, y3, rfl⟩
    have hsy3 := y3.bel.size
    (try simp only [World.size_alloc, World.size_setCell, World.size_drew] at hsy3)
    go_wp2_with fail
    go_ret
    exact .mk (by rw [X.out]; rfl) (by (repeat (first | (with_reducible exact Below.refl _ _) | (with_reducible assumption) | (with_reducible refine Later.out _ ?_) | (with_reducible refine bel_alloc ?_ _) | (with_reducible refine bel_drew ?_) | (with_reducible refine bel_drewN ?_ _) | (with_reducible refine bel_set ?_ ?_ _) | (with_reducible refine After.out _ ?_ ?_) | (dsimp only; omega) | omega | (simp only [World.size_alloc, World.size_setCell, World.size_drew]; omega))))
end
end Go.Proofs.YtflcfdiochohgaaGreatDoor

/- Minimal repairs: both sides. -/
set_option linter.unusedSimpArgs false
set_option linter.unusedVariables false
namespace Go.Proofs.YtflcfdiochohgaaGreatDoor
open Go.RowKit
theorem isRepair_b (L : List Clm) (S : List Int) (a a' : Option Addr) (n c n' c' : Nat) (w : World) {b : Bool} (hn : L.length = n) (hn' : S.length = n') (hm : n ≤ 1048576) (hm' : n' ≤ 1048576) (hr : Row w a (clmsCells L)) (hr' : Row w a' (intCells S)) (hb : repG L S = b) :
    Calls Tryz.prog 108 #[.slice a n c, .slice a' n' c'] w (Ret w (.bool b)) := hb ▸ isRepair_any L S a a' n c n' c' w hn hn' hm hm' hr hr'
theorem sRepair_b (L : List Clm) (S : List Int) (a a' : Option Addr) (n c n' c' : Nat) (w : World) {b : Bool} (hn : L.length = n) (hn' : S.length = n') (hm : n ≤ 1048576) (hm' : n' ≤ 1048576) (hr : Row w a (clmsCells L)) (hr' : Row w a' (intCells S)) (hv : Named L) (hb : repG L S = b) :
    Calls Tryz.prog 110 #[.slice a n c, .slice a' n' c'] w (Ret w (.bool b)) := hb ▸ sRepair_any L S a a' n c n' c' w hn hn' hm hm' hr hr' hv
section
variable (L : List Clm) (S : List Int) (a a' : Option Addr) (n c n' c' : Nat) (w : World) (hn : L.length = n) (hn' : S.length = n') (hm : n ≤ 1048576) (hm' : n' ≤ 1000) (hcap : n' ≤ c') (hr : Row w a (clmsCells L)) (hr' : Row w a' (intCells S))
include hn hn' hm hm' hcap hr hr'
set_option maxRecDepth 8000 in
set_option maxHeartbeats 4000000 in
theorem isMinimal_any : Calls Tryz.prog 111 #[.slice a n c, .slice a' n' c'] w (Ret w (.bool (minB (repG L) S))) := by
  subst hn'
  have CA := Lib.hid (fun (T : List Int) (b : Bool) (hb : repG L T = b) (hl : T.length ≤ 1000) a' c' (w : World) hr hr' => isRepair_b L T a a' n c T.length c' w hn rfl hm (by omega) hr hr' hb)
  have CL := Lib.hid (fun (i : Nat) (hi : i < S.length) (w : World) hr => lacking_any S i a' S.length c' w rfl hi hm' hcap hr)
  have hle := Lib.hid (erase_le S)
  replace hr := Lib.hid hr
  replace hr' := Lib.hid hr'
  cases hg : repG L S
  · have X := Lib.hid (minB_no hg)
    replace hg := Lib.hid hg
    go_enter Tryz.func111, Tryz.ntmps111
    go_wp2_with fail
    with_reducible refine (CA.out S _ hg.out hm' _ _ _ (hr.out.bel (by (repeat (first | (with_reducible exact Below.refl _ _) | (with_reducible assumption) | (with_reducible refine Later.out _ ?_) | (with_reducible refine bel_alloc ?_ _) | (with_reducible refine bel_drew ?_) | (with_reducible refine bel_drewN ?_ _) | (with_reducible refine bel_set ?_ ?_ _) | (with_reducible refine After.out _ ?_ ?_) | (dsimp only; omega) | omega | (simp only [World.size_alloc, World.size_setCell, World.size_drew]; omega))))) (hr'.out.bel (by (repeat (first | (with_reducible exact Below.refl _ _) | (with_reducible assumption) | (with_reducible refine Later.out _ ?_) | (with_reducible refine bel_alloc ?_ _) | (with_reducible refine bel_drew ?_) | (with_reducible refine bel_drewN ?_ _) | (with_reducible refine bel_set ?_ ?_ _) | (with_reducible refine After.out _ ?_ ?_) | (dsimp only; omega) | omega | (simp only [World.size_alloc, World.size_setCell, World.size_drew]; omega)))))).mono ?_
    rintro e w' ⟨rfl, y3, rfl⟩
    have hsy3 := y3.bel.size
    (try simp only [World.size_alloc, World.size_setCell, World.size_drew] at hsy3)
    go_wp2_with fail
    go_ret
    exact .mk (by rw [X.out]; rfl) (by (repeat (first | (with_reducible exact Below.refl _ _) | (with_reducible assumption) | (with_reducible refine Later.out _ ?_) | (with_reducible refine bel_alloc ?_ _) | (with_reducible refine bel_drew ?_) | (with_reducible refine bel_drewN ?_ _) | (with_reducible refine bel_set ?_ ?_ _) | (with_reducible refine After.out _ ?_ ?_) | (dsimp only; omega) | omega | (simp only [World.size_alloc, World.size_setCell, World.size_drew]; omega))))
  · have G := Lib.hid hg
    replace hg := Lib.hid hg
    go_enter Tryz.func111, Tryz.ntmps111
    go_wp2_with fail
    with_reducible refine (CA.out S _ hg.out hm' _ _ _ (hr.out.bel (by (repeat (first | (with_reducible exact Below.refl _ _) | (with_reducible assumption) | (with_reducible refine Later.out _ ?_) | (with_reducible refine bel_alloc ?_ _) | (with_reducible refine bel_drew ?_) | (with_reducible refine bel_drewN ?_ _) | (with_reducible refine bel_set ?_ ?_ _) | (with_reducible refine After.out _ ?_ ?_) | (dsimp only; omega) | omega | (simp only [World.size_alloc, World.size_setCell, World.size_drew]; omega))))) (hr'.out.bel (by (repeat (first | (with_reducible exact Below.refl _ _) | (with_reducible assumption) | (with_reducible refine Later.out _ ?_) | (with_reducible refine bel_alloc ?_ _) | (with_reducible refine bel_drew ?_) | (with_reducible refine bel_drewN ?_ _) | (with_reducible refine bel_set ?_ ?_ _) | (with_reducible refine After.out _ ?_ ?_) | (dsimp only; omega) | omega | (simp only [World.size_alloc, World.size_setCell, World.size_drew]; omega)))))).mono ?_
    rintro e w' ⟨rfl, y3, rfl⟩
    have hsy3 := y3.bel.size
    (try simp only [World.size_alloc, World.size_setCell, World.size_drew] at hsy3)
    go_wp2_with fail
    go_loopw [12] (fun i wr => ∃ k : Nat, k ≤ S.length ∧ i = .int .i64 k ∧ (∀ j (hj : j < S.length), j < k → repG L (S.eraseIdx j) = false) ∧ ∃ z : Later w, wr = z.w) (fun i _ => S.length - (intOf i).toNat)
    case atStart => exact ⟨0, Nat.zero_le _, rfl, fun j _ h => absurd h (by omega), LaterC.mk (by (repeat (first | (with_reducible exact Below.refl _ _) | (with_reducible assumption) | (with_reducible refine Later.out _ ?_) | (with_reducible refine bel_alloc ?_ _) | (with_reducible refine bel_drew ?_) | (with_reducible refine bel_drewN ?_ _) | (with_reducible refine bel_set ?_ ?_ _) | (with_reducible refine After.out _ ?_ ?_) | (dsimp only; omega) | omega | (simp only [World.size_alloc, World.size_setCell, World.size_drew]; omega))))⟩
    case round =>
      obtain ⟨k, hk, rfl, hall, z, rfl⟩ := hrel
      replace hall := Lib.hid hall
      have hzz := z.bel.size
      by_cases hlt : k < S.length
      · have hi1 : (k : Int) < (S.length : Int) := by omega
        have hel := hle.out k
        have hel2 : (S.eraseIdx k).length ≤ 1000 := by omega
        cases hv2 : repG L (S.eraseIdx k)
        · have Y := Lib.hid (show ∀ j (hj : j < S.length), j < k + 1 → repG L (S.eraseIdx j) = false from fun j hj h1 => by
            rcases Nat.lt_or_ge j k with h2 | h2
            · exact hall.out j hj h2
            · obtain rfl : j = k := by omega
              exact hv2)
          replace hv2 := Lib.hid hv2
          go_wp2_with fail
          with_reducible refine (CL.out k hlt _ (hr'.out.bel (by (repeat (first | (with_reducible exact Below.refl _ _) | (with_reducible assumption) | (with_reducible refine Later.out _ ?_) | (with_reducible refine bel_alloc ?_ _) | (with_reducible refine bel_drew ?_) | (with_reducible refine bel_drewN ?_ _) | (with_reducible refine bel_set ?_ ?_ _) | (with_reducible refine After.out _ ?_ ?_) | (dsimp only; omega) | omega | (simp only [World.size_alloc, World.size_setCell, World.size_drew]; omega)))))).mono ?_
          rintro e w' ⟨a4, c4, rfl, hown, y4, rfl⟩
          have hsy4 := y4.bel.size
          (try simp only [World.size_alloc, World.size_setCell, World.size_drew] at hsy4)
          have H4 := Lib.hid (Owns.of hown)
          clear hown
          go_wp2_with fail
          with_reducible refine (CA.out _ _ hv2.out hel2 _ _ _ (hr.out.bel (by (repeat (first | (with_reducible exact Below.refl _ _) | (with_reducible assumption) | (with_reducible refine Later.out _ ?_) | (with_reducible refine bel_alloc ?_ _) | (with_reducible refine bel_drew ?_) | (with_reducible refine bel_drewN ?_ _) | (with_reducible refine bel_set ?_ ?_ _) | (with_reducible refine After.out _ ?_ ?_) | (dsimp only; omega) | omega | (simp only [World.size_alloc, World.size_setCell, World.size_drew]; omega))))) H4.out.row).mono ?_
          rintro e w' ⟨rfl, y6, rfl⟩
          have hsy6 := y6.bel.size
          (try simp only [World.size_alloc, World.size_setCell, World.size_drew] at hsy6)
          go_wp2_with fail
          go_roundw
          case rel => exact ⟨k + 1, by omega, by go_num, Y.out, LaterC.mk (by (repeat (first | (with_reducible exact Below.refl _ _) | (with_reducible assumption) | (with_reducible refine Later.out _ ?_) | (with_reducible refine bel_alloc ?_ _) | (with_reducible refine bel_drew ?_) | (with_reducible refine bel_drewN ?_ _) | (with_reducible refine bel_set ?_ ?_ _) | (with_reducible refine After.out _ ?_ ?_) | (dsimp only; omega) | omega | (simp only [World.size_alloc, World.size_setCell, World.size_drew]; omega))))⟩
          case measure => first | (simp [intOf]; done) | (simp [intOf]; omega) | omega
        · have Y := Lib.hid (minB_no2 hlt hv2)
          replace hv2 := Lib.hid hv2
          go_wp2_with fail
          with_reducible refine (CL.out k hlt _ (hr'.out.bel (by (repeat (first | (with_reducible exact Below.refl _ _) | (with_reducible assumption) | (with_reducible refine Later.out _ ?_) | (with_reducible refine bel_alloc ?_ _) | (with_reducible refine bel_drew ?_) | (with_reducible refine bel_drewN ?_ _) | (with_reducible refine bel_set ?_ ?_ _) | (with_reducible refine After.out _ ?_ ?_) | (dsimp only; omega) | omega | (simp only [World.size_alloc, World.size_setCell, World.size_drew]; omega)))))).mono ?_
          rintro e w' ⟨a4, c4, rfl, hown, y4, rfl⟩
          have hsy4 := y4.bel.size
          (try simp only [World.size_alloc, World.size_setCell, World.size_drew] at hsy4)
          have H4 := Lib.hid (Owns.of hown)
          clear hown
          go_wp2_with fail
          with_reducible refine (CA.out _ _ hv2.out hel2 _ _ _ (hr.out.bel (by (repeat (first | (with_reducible exact Below.refl _ _) | (with_reducible assumption) | (with_reducible refine Later.out _ ?_) | (with_reducible refine bel_alloc ?_ _) | (with_reducible refine bel_drew ?_) | (with_reducible refine bel_drewN ?_ _) | (with_reducible refine bel_set ?_ ?_ _) | (with_reducible refine After.out _ ?_ ?_) | (dsimp only; omega) | omega | (simp only [World.size_alloc, World.size_setCell, World.size_drew]; omega))))) H4.out.row).mono ?_
          rintro e w' ⟨rfl, y6, rfl⟩
          have hsy6 := y6.bel.size
          (try simp only [World.size_alloc, World.size_setCell, World.size_drew] at hsy6)
          go_wp2_with fail
          go_ret
          exact .mk (by rw [Y.out]; rfl) (by (repeat (first | (with_reducible exact Below.refl _ _) | (with_reducible assumption) | (with_reducible refine Later.out _ ?_) | (with_reducible refine bel_alloc ?_ _) | (with_reducible refine bel_drew ?_) | (with_reducible refine bel_drewN ?_ _) | (with_reducible refine bel_set ?_ ?_ _) | (with_reducible refine After.out _ ?_ ?_) | (dsimp only; omega) | omega | (simp only [World.size_alloc, World.size_setCell, World.size_drew]; omega))))
      · obtain rfl : k = S.length := by omega
        have Y := Lib.hid (minB_yes G.out fun i hi => hall.out i hi hi)
        go_wp2_with fail
        go_ret
        exact .mk (by rw [Y.out]; rfl) (by (repeat (first | (with_reducible exact Below.refl _ _) | (with_reducible assumption) | (with_reducible refine Later.out _ ?_) | (with_reducible refine bel_alloc ?_ _) | (with_reducible refine bel_drew ?_) | (with_reducible refine bel_drewN ?_ _) | (with_reducible refine bel_set ?_ ?_ _) | (with_reducible refine After.out _ ?_ ?_) | (dsimp only; omega) | omega | (simp only [World.size_alloc, World.size_setCell, World.size_drew]; omega))))
set_option maxRecDepth 8000 in
set_option maxHeartbeats 4000000 in
theorem sMinimal_any (hv : Named L) : Calls Tryz.prog 112 #[.slice a n c, .slice a' n' c'] w (Ret w (.bool (minB (repG L) S))) := by
  subst hn'
  have CA := Lib.hid (fun (T : List Int) (b : Bool) (hb : repG L T = b) (hl : T.length ≤ 1000) a' c' (w : World) hr hr' => sRepair_b L T a a' n c T.length c' w hn rfl hm (by omega) hr hr' hv hb)
  have CL := Lib.hid (fun (i : Nat) (hi : i < S.length) (w : World) hr => sWithout_any S i a' S.length c' w rfl hi hm' hcap hr)
  have hle := Lib.hid (erase_le S)
  replace hr := Lib.hid hr
  replace hr' := Lib.hid hr'
  cases hg : repG L S
  · have X := Lib.hid (minB_no hg)
    replace hg := Lib.hid hg
    go_enter Tryz.func112, Tryz.ntmps112
    go_wp2_with fail
    with_reducible refine (CA.out S _ hg.out hm' _ _ _ (hr.out.bel (by (repeat (first | (with_reducible exact Below.refl _ _) | (with_reducible assumption) | (with_reducible refine Later.out _ ?_) | (with_reducible refine bel_alloc ?_ _) | (with_reducible refine bel_drew ?_) | (with_reducible refine bel_drewN ?_ _) | (with_reducible refine bel_set ?_ ?_ _) | (with_reducible refine After.out _ ?_ ?_) | (dsimp only; omega) | omega | (simp only [World.size_alloc, World.size_setCell, World.size_drew]; omega))))) (hr'.out.bel (by (repeat (first | (with_reducible exact Below.refl _ _) | (with_reducible assumption) | (with_reducible refine Later.out _ ?_) | (with_reducible refine bel_alloc ?_ _) | (with_reducible refine bel_drew ?_) | (with_reducible refine bel_drewN ?_ _) | (with_reducible refine bel_set ?_ ?_ _) | (with_reducible refine After.out _ ?_ ?_) | (dsimp only; omega) | omega | (simp only [World.size_alloc, World.size_setCell, World.size_drew]; omega)))))).mono ?_
    rintro e w' ⟨rfl, y3, rfl⟩
    have hsy3 := y3.bel.size
    (try simp only [World.size_alloc, World.size_setCell, World.size_drew] at hsy3)
    go_wp2_with fail
    go_ret
    exact .mk (by rw [X.out]; rfl) (by (repeat (first | (with_reducible exact Below.refl _ _) | (with_reducible assumption) | (with_reducible refine Later.out _ ?_) | (with_reducible refine bel_alloc ?_ _) | (with_reducible refine bel_drew ?_) | (with_reducible refine bel_drewN ?_ _) | (with_reducible refine bel_set ?_ ?_ _) | (with_reducible refine After.out _ ?_ ?_) | (dsimp only; omega) | omega | (simp only [World.size_alloc, World.size_setCell, World.size_drew]; omega))))
  · have G := Lib.hid hg
    replace hg := Lib.hid hg
    go_enter Tryz.func112, Tryz.ntmps112
    go_wp2_with fail
    with_reducible refine (CA.out S _ hg.out hm' _ _ _ (hr.out.bel (by (repeat (first | (with_reducible exact Below.refl _ _) | (with_reducible assumption) | (with_reducible refine Later.out _ ?_) | (with_reducible refine bel_alloc ?_ _) | (with_reducible refine bel_drew ?_) | (with_reducible refine bel_drewN ?_ _) | (with_reducible refine bel_set ?_ ?_ _) | (with_reducible refine After.out _ ?_ ?_) | (dsimp only; omega) | omega | (simp only [World.size_alloc, World.size_setCell, World.size_drew]; omega))))) (hr'.out.bel (by (repeat (first | (with_reducible exact Below.refl _ _) | (with_reducible assumption) | (with_reducible refine Later.out _ ?_) | (with_reducible refine bel_alloc ?_ _) | (with_reducible refine bel_drew ?_) | (with_reducible refine bel_drewN ?_ _) | (with_reducible refine bel_set ?_ ?_ _) | (with_reducible refine After.out _ ?_ ?_) | (dsimp only; omega) | omega | (simp only [World.size_alloc, World.size_setCell, World.size_drew]; omega)))))).mono ?_
    rintro e w' ⟨rfl, y3, rfl⟩
    have hsy3 := y3.bel.size
    (try simp only [World.size_alloc, World.size_setCell, World.size_drew] at hsy3)
    go_wp2_with fail
    go_loopw [5] (fun i wr => ∃ k : Nat, k ≤ S.length ∧ i = .int .i64 k ∧ (∀ j (hj : j < S.length), j < k → repG L (S.eraseIdx j) = false) ∧ ∃ z : Later w, wr = z.w) (fun i _ => S.length - (intOf i).toNat)
    case atStart => exact ⟨0, Nat.zero_le _, rfl, fun j _ h => absurd h (by omega), LaterC.mk (by (repeat (first | (with_reducible exact Below.refl _ _) | (with_reducible assumption) | (with_reducible refine Later.out _ ?_) | (with_reducible refine bel_alloc ?_ _) | (with_reducible refine bel_drew ?_) | (with_reducible refine bel_drewN ?_ _) | (with_reducible refine bel_set ?_ ?_ _) | (with_reducible refine After.out _ ?_ ?_) | (dsimp only; omega) | omega | (simp only [World.size_alloc, World.size_setCell, World.size_drew]; omega))))⟩
    case round =>
      obtain ⟨k, hk, rfl, hall, z, rfl⟩ := hrel
      replace hall := Lib.hid hall
      have hzz := z.bel.size
      by_cases hlt : k < S.length
      · have hi1 : (k : Int) < (S.length : Int) := by omega
        have hel := hle.out k
        have hel2 : (S.eraseIdx k).length ≤ 1000 := by omega
        cases hv2 : repG L (S.eraseIdx k)
        · have Y := Lib.hid (show ∀ j (hj : j < S.length), j < k + 1 → repG L (S.eraseIdx j) = false from fun j hj h1 => by
            rcases Nat.lt_or_ge j k with h2 | h2
            · exact hall.out j hj h2
            · obtain rfl : j = k := by omega
              exact hv2)
          replace hv2 := Lib.hid hv2
          go_wp2_with fail
          with_reducible refine (CL.out k hlt _ (hr'.out.bel (by (repeat (first | (with_reducible exact Below.refl _ _) | (with_reducible assumption) | (with_reducible refine Later.out _ ?_) | (with_reducible refine bel_alloc ?_ _) | (with_reducible refine bel_drew ?_) | (with_reducible refine bel_drewN ?_ _) | (with_reducible refine bel_set ?_ ?_ _) | (with_reducible refine After.out _ ?_ ?_) | (dsimp only; omega) | omega | (simp only [World.size_alloc, World.size_setCell, World.size_drew]; omega)))))).mono ?_
          rintro e w' ⟨a4, c4, rfl, hown, y4, rfl⟩
          have hsy4 := y4.bel.size
          (try simp only [World.size_alloc, World.size_setCell, World.size_drew] at hsy4)
          have H4 := Lib.hid (Owns.of hown)
          clear hown
          go_wp2_with fail
          with_reducible refine (CA.out _ _ hv2.out hel2 _ _ _ (hr.out.bel (by (repeat (first | (with_reducible exact Below.refl _ _) | (with_reducible assumption) | (with_reducible refine Later.out _ ?_) | (with_reducible refine bel_alloc ?_ _) | (with_reducible refine bel_drew ?_) | (with_reducible refine bel_drewN ?_ _) | (with_reducible refine bel_set ?_ ?_ _) | (with_reducible refine After.out _ ?_ ?_) | (dsimp only; omega) | omega | (simp only [World.size_alloc, World.size_setCell, World.size_drew]; omega))))) H4.out.row).mono ?_
          rintro e w' ⟨rfl, y6, rfl⟩
          have hsy6 := y6.bel.size
          (try simp only [World.size_alloc, World.size_setCell, World.size_drew] at hsy6)
          go_wp2_with fail
          go_roundw
          case rel => exact ⟨k + 1, by omega, by go_num, Y.out, LaterC.mk (by (repeat (first | (with_reducible exact Below.refl _ _) | (with_reducible assumption) | (with_reducible refine Later.out _ ?_) | (with_reducible refine bel_alloc ?_ _) | (with_reducible refine bel_drew ?_) | (with_reducible refine bel_drewN ?_ _) | (with_reducible refine bel_set ?_ ?_ _) | (with_reducible refine After.out _ ?_ ?_) | (dsimp only; omega) | omega | (simp only [World.size_alloc, World.size_setCell, World.size_drew]; omega))))⟩
          case measure => first | (simp [intOf]; done) | (simp [intOf]; omega) | omega
        · have Y := Lib.hid (minB_no2 hlt hv2)
          replace hv2 := Lib.hid hv2
          go_wp2_with fail
          with_reducible refine (CL.out k hlt _ (hr'.out.bel (by (repeat (first | (with_reducible exact Below.refl _ _) | (with_reducible assumption) | (with_reducible refine Later.out _ ?_) | (with_reducible refine bel_alloc ?_ _) | (with_reducible refine bel_drew ?_) | (with_reducible refine bel_drewN ?_ _) | (with_reducible refine bel_set ?_ ?_ _) | (with_reducible refine After.out _ ?_ ?_) | (dsimp only; omega) | omega | (simp only [World.size_alloc, World.size_setCell, World.size_drew]; omega)))))).mono ?_
          rintro e w' ⟨a4, c4, rfl, hown, y4, rfl⟩
          have hsy4 := y4.bel.size
          (try simp only [World.size_alloc, World.size_setCell, World.size_drew] at hsy4)
          have H4 := Lib.hid (Owns.of hown)
          clear hown
          go_wp2_with fail
          with_reducible refine (CA.out _ _ hv2.out hel2 _ _ _ (hr.out.bel (by (repeat (first | (with_reducible exact Below.refl _ _) | (with_reducible assumption) | (with_reducible refine Later.out _ ?_) | (with_reducible refine bel_alloc ?_ _) | (with_reducible refine bel_drew ?_) | (with_reducible refine bel_drewN ?_ _) | (with_reducible refine bel_set ?_ ?_ _) | (with_reducible refine After.out _ ?_ ?_) | (dsimp only; omega) | omega | (simp only [World.size_alloc, World.size_setCell, World.size_drew]; omega))))) H4.out.row).mono ?_
          rintro e w' ⟨rfl, y6, rfl⟩
          have hsy6 := y6.bel.size
          (try simp only [World.size_alloc, World.size_setCell, World.size_drew] at hsy6)
          go_wp2_with fail
          go_ret
          exact .mk (by rw [Y.out]; rfl) (by (repeat (first | (with_reducible exact Below.refl _ _) | (with_reducible assumption) | (with_reducible refine Later.out _ ?_) | (with_reducible refine bel_alloc ?_ _) | (with_reducible refine bel_drew ?_) | (with_reducible refine bel_drewN ?_ _) | (with_reducible refine bel_set ?_ ?_ _) | (with_reducible refine After.out _ ?_ ?_) | (dsimp only; omega) | omega | (simp only [World.size_alloc, World.size_setCell, World.size_drew]; omega))))
      · obtain rfl : k = S.length := by omega
        have Y := Lib.hid (minB_yes G.out fun i hi => hall.out i hi hi)
        go_wp2_with fail
        go_ret
        exact .mk (by rw [Y.out]; rfl) (by (repeat (first | (with_reducible exact Below.refl _ _) | (with_reducible assumption) | (with_reducible refine Later.out _ ?_) | (with_reducible refine bel_alloc ?_ _) | (with_reducible refine bel_drew ?_) | (with_reducible refine bel_drewN ?_ _) | (with_reducible refine bel_set ?_ ?_ _) | (with_reducible refine After.out _ ?_ ?_) | (dsimp only; omega) | omega | (simp only [World.size_alloc, World.size_setCell, World.size_drew]; omega))))
end
end Go.Proofs.YtflcfdiochohgaaGreatDoor
