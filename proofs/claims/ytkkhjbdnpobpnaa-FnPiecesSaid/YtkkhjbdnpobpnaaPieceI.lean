import Derived.Test.YtkkhjbdnpobpnaaPieceA
import Derived.Test.YtkkhjbdnpobpnaaMaskT
import Derived.Test.YtkkhjbdnpobpnaaQue
import Derived.Test.YtkkhjbdnpobpnaaInts
import Derived.Test.YtkkhjbdnpobpnaaFloat
import Derived.Deep.LoopGhost
/- A piece of a mask, the program's way: a queue. -/
set_option linter.unusedSimpArgs false
set_option linter.unusedVariables false
namespace Go.Proofs.Ytkkhjbdnpobpnaa
open Go.RowKit
def idxCells (Q : List Nat) : List Value := Q.map fun (k : Nat) => Value.int .i64 (k : Int)
theorem btw_alloc2 {lo hi : Nat} {a w : World} (h : Between lo hi a w) (hs : w.heap.size = a.heap.size) (o : Obj) : Between lo hi (a.alloc o) (w.alloc o) :=
  ⟨h.os, h.tape, h.output, by simp [hs], fun k hk ho => by
    by_cases hk' : k < a.heap.size
    · exact (Below.heap_alloc w o k (by omega)).trans ((h.block k hk' ho).trans (Below.heap_alloc a o k hk').symm)
    · obtain rfl : k = a.heap.size := by simp at hk; omega
      have e1 := heap_alloc_new w o
      rw [hs] at e1
      exact e1.trans (heap_alloc_new a o).symm⟩
theorem owns_alloc' {w : World} {lo hi e s n : Nat} {a : Option Addr} {c : Nat} {xs : List Value} (h : Owns w lo hi e s n a c xs) (o : Obj) : Owns (w.alloc o) lo hi e s n a c xs := ⟨h.own.alloc o, h.lt⟩
theorem Inv.ex {m : List Bool} {Nb : Nat → Int → Prop} {s : Nat} {Ex Ex' : Nat → Int → Prop} {S : List Bool} {Q : List Nat} (h : Inv m Nb s Ex S Q) (he : ∀ k j, Ex k j → Ex' k j) : Inv m Nb s Ex' S Q :=
  ⟨h.len, h.start, h.sub, h.inq, fun k hk hq k' hn hex hm => h.closed k hk hq k' hn (fun hx => hex (he _ _ hx)) hm⟩
/-- The four cells beside a point, in the program's order. -/
def nbI (x y W H px py : Int) (t : Nat) : Int :=
  if t = 0 then cellB x y W H (px + 1) py else if t = 1 then cellB x y W H px (py + 1) else if t = 2 then cellB x y W H (px - 1) py else cellB x y W H px (py - 1)
theorem beside_nbI {x y W H px py : Int} {p : Nat} (hx : x + (p : Int) % W = px) (hy : y + (p : Int) / W = py) {t : Nat} : Beside x y W H p (nbI x y W H px py t) := by
  unfold Beside nbI
  rw [hx, hy]
  split
  · exact .inl rfl
  · split
    · exact .inr (.inl rfl)
    · split
      · exact .inr (.inr (.inl rfl))
      · exact .inr (.inr (.inr rfl))
theorem beside_all {x y W H px py : Int} {p : Nat} (hx : x + (p : Int) % W = px) (hy : y + (p : Int) / W = py) {j : Int} (h : Beside x y W H p j) : ∃ t, t < 4 ∧ j = nbI x y W H px py t := by
  unfold Beside at h
  rw [hx, hy] at h
  rcases h with h | h | h | h
  · exact ⟨0, by omega, by simp [nbI, h]⟩
  · exact ⟨1, by omega, by simp [nbI, h]⟩
  · exact ⟨2, by omega, by simp [nbI, h]⟩
  · exact ⟨3, by omega, by simp [nbI, h]⟩
/-- The coordinates of a cell. -/
theorem coords {x y W H : Int} {n p : Nat} (b : Box x y W H n) (hp : p < n) : ∃ px py : Int, x + (p : Int) % W = px ∧ y + (p : Int) / W = py ∧ -1000 ≤ px ∧ px ≤ 1100 ∧ -1000 ≤ py ∧ py ≤ 1600 := by
  obtain ⟨x1, x2, y1, y2, w1, w2, g1, g2, n1, n2⟩ := b
  have r1 := Int.emod_nonneg (p : Int) (show W ≠ 0 by omega)
  have r2 := Int.emod_lt_of_pos (p : Int) (show 0 < W by omega)
  have r3 : 0 ≤ (p : Int) / W := Int.ediv_nonneg (by omega) (by omega)
  have r4 : (p : Int) / W ≤ p := Int.ediv_le_self _ (by omega)
  exact ⟨_, _, rfl, rfl, by omega, by omega, by omega, by omega⟩
set_option maxRecDepth 4000 in
set_option maxHeartbeats 2000000 in
theorem piece_any (x y W H : Int) (l : List Bool) (a : Option Addr) (n c s : Nat) (w : World) (b : Box x y W H n) (hn : l.length = n) (hs : s < n) (hr : Row w a (boolCells l)) :
    Calls Try.prog 24 #[.agg #[.int .i64 x, .int .i64 y, .int .i64 W, .int .i64 H, .slice a n c], .int .i64 s] w
      (RetOwn w 4 1 n (boolCells (pieceL l (Beside x y W H) s)) fun v => .agg #[.int .i64 x, .int .i64 y, .int .i64 W, .int .i64 H, v]) := by
  have n2 := b.n2
  have HB := Lib.hid b
  replace hr := Lib.hid hr
  have HN := Lib.hid hn
  clear b hn
  go_enter Try.func24, Try.ntmps24
  go_upto_region 2 with (first | (go_at_call 45; (with_reducible refine (empty_any x y W H a n c _ (by omega)).mono ?_); rintro e w' ⟨a5, c5, rfl, hown, xl, rfl⟩; have HO := Lib.hid (Owns.of hown); clear hown; have hsz := xl.bel.size; (try simp only [World.size_alloc, World.size_setCell, World.size_drew] at hsz); (try have hz0 : w.heap.size < xl.w.heap.size := (by omega)); (try have hz1 : w.heap.size + 1 < xl.w.heap.size := (by omega)); (try have hz2 : w.heap.size + 1 + 1 < xl.w.heap.size := (by omega))))
  obtain ⟨g, rfl, g1, g2, hc, hf⟩ := HO.out.at_ (j := s) (by omega)
  have ht : (List.replicate n (Value.bool false))[s]? = some (.bool false) := by simp [hs]
  rw [ht] at hc
  clear ht
  (try simp only [World.size_alloc] at g1)
  go_wp2_with fail
  obtain ⟨W1, hW1⟩ : ∃ W1, W1 = xl.w.alloc (.cells #[.int .i64 x, .int .i64 y, .int .i64 W, .int .i64 H, .slice (some ⟨g, 0, none⟩) n c5] 28) := ⟨_, rfl⟩
  have hW1s : W1.heap.size = xl.w.heap.size + 1 := by rw [hW1]; simp
  have HS0 : owed ((List.replicate l.length false).set s true) 1 ≤ 2 * n + 1 := by have := HN.out; have := List.count_le_length (a := false) (l := (List.replicate l.length false).set s true); simp at this; unfold owed; omega
  go_loopg [6] (2 * n + 1) (fun k q wr => ∃ (S : List Bool) (Q : List Nat) (a6 : Option Addr) (c6 : Nat), q = .slice a6 Q.length c6 ∧ owed S Q.length ≤ k ∧ k ≤ 2 * n + 1 ∧ Inv l (Beside x y W H) s (fun _ _ => False) S Q ∧ Between g (g + 1) W1 wr ∧
    Owns wr g (g + 1) 4 1 n (some ⟨g, 0, none⟩) c5 (boolCells S) ∧ Que wr W1.heap.size 2 a6 Q.length c6 (idxCells Q))
  case atStart =>
    refine ⟨(List.replicate l.length false).set s true, [s], _, _, rfl, HS0, Nat.le_refl _, Inv.first (by have := HN.out; omega), ?_, ?_, ?_⟩
    · rw [hW1]
      exact btw_alloc (btw_alloc2 (Between.set (lo := g) (hi := g + 1) (p := ⟨g, s, none⟩) (Between.refl _ _ _) (Nat.le_refl _) (Nat.lt_succ_self _) _) (by simp) _) _
    · have h1 := HO.out.set (j := s) (.bool true)
      have e1 : (List.replicate n (Value.bool false)).set s (.bool true) = boolCells ((List.replicate l.length false).set s true) := by rw [HN.out]; simp [boolCells, List.map_set]
      rw [e1] at h1
      exact ⟨World.ownsRow.alloc (World.ownsRow.alloc (own_lift h1.own) _) _, fun p hp => by injection hp with hp; subst hp; simp⟩
    · have h1 := Que.made ((xl.w.setCell ⟨g, s, none⟩ (.bool true)).alloc (.cells #[.int .i64 x, .int .i64 y, .int .i64 W, .int .i64 H, .slice (some ⟨g, 0, none⟩) n c5] 28)) W1.heap.size 2 (.int .i64 s) (by simp [hW1s])
      simpa [idxCells] using h1
  case round =>
    obtain ⟨S, Q, a6, c6, rfl, hk, hk1, hI, hb, ho, hq⟩ := hrel
    replace hk1 := Lib.hid hk1
    obtain ⟨z, rfl⟩ := AfterC.mk hb
    clear hb
    have HI := Lib.hid hI
    have HO := Lib.hid ho
    have HQ := Lib.hid hq
    clear hI ho hq HS0
    subst hW1
    clear hW1s
    have hzs := z.btw.size
    (try simp only [World.size_alloc] at hzs)
    cases Q with
    | nil =>
      go_wp2_with fail
      refine bodyPost_ret (by simp [results, Try.results24, go_sem, ↓IntWalk.iteOmega]; try rfl) rfl ?_
      refine RetOwn.mk _ rfl ?_ ?_
      · rw [← HI.out.piece]
        (refine own_mono (base := ?ob1) ?oh1 ?os1; (case oh1 => ((repeat (with_reducible refine own_set ?_ ?_ _)); (with_reducible exact HO.out.own); all_goals (first | (dsimp only; omega) | omega | (simp only [World.size_alloc, World.size_setCell, World.size_drew]; omega)))); (case os1 => (first | (dsimp only; omega) | omega | (simp only [World.size_alloc, World.size_setCell, World.size_drew]; omega))))
      · (repeat (first | (with_reducible exact Below.refl _ _) | (with_reducible assumption) | (with_reducible refine Later.out _ ?_) | (with_reducible refine bel_alloc ?_ _) | (with_reducible refine bel_drew ?_) | (with_reducible refine bel_drewN ?_ _) | (with_reducible refine bel_set ?_ ?_ _) | (with_reducible refine After.out _ ?_ ?_) | (dsimp only; omega) | omega | (simp only [World.size_alloc, World.size_setCell, World.size_drew]; omega)))
    | cons p Q =>
      have hpS := HI.out.inq p (by simp)
      have hp : p < n := by have h1 := (List.getElem?_eq_some_iff.1 hpS).1; rw [HI.out.len, HN.out] at h1; exact h1
      obtain ⟨px, py, ex, ey, px1, px2, py1, py2⟩ := coords HB.out hp
      have PT := fun w => point_any x y W H a p n c w HB.out hp
      simp only [ex, ey] at PT
      replace PT := Lib.hid PT
      have hQl := HQ.out.lt
      obtain ⟨gq, oq, rfl, hq0⟩ := HQ.out.get (j := 0) (by simp)
      have hgq := hQl _ rfl
      clear hQl
      simp [idxCells] at hq0
      simp only [World.size_alloc] at hgq
      replace ex := Lib.hid ex
      replace ey := Lib.hid ey
      replace hpS := Lib.hid hpS
      replace hk := Lib.hid hk
      go_upto_region 6 with fail
      go_cut [7] from 24 to 28 (fun t7 wx => ∃ g7, t7 = .pointer (some ⟨g7, 0, none⟩) ∧ z.w.heap.size ≤ g7 ∧ wx.cell? ⟨g7, 0, none⟩ = some (.int .i64 px) ∧ wx.cell? ⟨g7, 1, none⟩ = some (.int .i64 py) ∧ Below z.w.heap.size z.w wx)
      case first =>
        refine wp_region_float 5 [(0, true), (1, true), (2, true), (3, true), (4, false), (5, false), (6, false)] (C := LaterC _) (by kernel_rfl) (by kernel_rfl) (by kernel_rfl) rfl (fun _ _ d _ _ h => by cases d <;> exact h) (LaterC.mk ((Below.refl _ _).drew)) ?_
        repeat (any_goals (first | (with_reducible apply plan_nil) | ((with_reducible apply float_quiet); (first | (with_reducible exact nth0) | (with_reducible exact nth1) | (with_reducible exact nth2) | (with_reducible exact nth3) | (with_reducible exact nth4) | (with_reducible exact nth5) | (with_reducible exact nth6) | (with_reducible exact nth7) | (with_reducible exact nth8) | (with_reducible exact nth9) | (with_reducible exact nth10) | (with_reducible exact nth11) | (with_reducible exact nth12) | (with_reducible exact nth13) | (with_reducible exact nth14) | (with_reducible exact nth15) | (with_reducible exact nth16) | (with_reducible exact nth17) | (with_reducible exact nth18) | (with_reducible exact nth19) | (with_reducible exact nth20) | (with_reducible exact nth21) | (with_reducible exact nth22) | (with_reducible exact nth23)); rfl; intro KP hKP; go_big_quiet_op; go_big_quiet_on) | ((with_reducible apply float_skip); (first | (with_reducible exact nth0) | (with_reducible exact nth1) | (with_reducible exact nth2) | (with_reducible exact nth3) | (with_reducible exact nth4) | (with_reducible exact nth5) | (with_reducible exact nth6) | (with_reducible exact nth7) | (with_reducible exact nth8) | (with_reducible exact nth9) | (with_reducible exact nth10) | (with_reducible exact nth11) | (with_reducible exact nth12) | (with_reducible exact nth13) | (with_reducible exact nth14) | (with_reducible exact nth15) | (with_reducible exact nth16) | (with_reducible exact nth17) | (with_reducible exact nth18) | (with_reducible exact nth19) | (with_reducible exact nth20) | (with_reducible exact nth21) | (with_reducible exact nth22) | (with_reducible exact nth23)); rfl; rfl; simp only [Act.put, List.setIfInBounds_toArray, List.set_cons_zero, List.set_cons_succ]) | ((with_reducible apply plan_quiet); (first | (with_reducible exact nth0) | (with_reducible exact nth1) | (with_reducible exact nth2) | (with_reducible exact nth3) | (with_reducible exact nth4) | (with_reducible exact nth5) | (with_reducible exact nth6) | (with_reducible exact nth7) | (with_reducible exact nth8) | (with_reducible exact nth9) | (with_reducible exact nth10) | (with_reducible exact nth11) | (with_reducible exact nth12) | (with_reducible exact nth13) | (with_reducible exact nth14) | (with_reducible exact nth15) | (with_reducible exact nth16) | (with_reducible exact nth17) | (with_reducible exact nth18) | (with_reducible exact nth19) | (with_reducible exact nth20) | (with_reducible exact nth21) | (with_reducible exact nth22) | (with_reducible exact nth23)); rfl; intro KP hKP; go_big_quiet_op; go_big_quiet_on) | ((with_reducible apply plan_skip_q); (first | (with_reducible exact nth0) | (with_reducible exact nth1) | (with_reducible exact nth2) | (with_reducible exact nth3) | (with_reducible exact nth4) | (with_reducible exact nth5) | (with_reducible exact nth6) | (with_reducible exact nth7) | (with_reducible exact nth8) | (with_reducible exact nth9) | (with_reducible exact nth10) | (with_reducible exact nth11) | (with_reducible exact nth12) | (with_reducible exact nth13) | (with_reducible exact nth14) | (with_reducible exact nth15) | (with_reducible exact nth16) | (with_reducible exact nth17) | (with_reducible exact nth18) | (with_reducible exact nth19) | (with_reducible exact nth20) | (with_reducible exact nth21) | (with_reducible exact nth22) | (with_reducible exact nth23)); rfl; rfl; simp only [Act.put, List.setIfInBounds_toArray, List.set_cons_zero, List.set_cons_succ]) | ((with_reducible apply float_fork); rfl; (first | (with_reducible exact nth0) | (with_reducible exact nth1) | (with_reducible exact nth2) | (with_reducible exact nth3) | (with_reducible exact nth4) | (with_reducible exact nth5) | (with_reducible exact nth6) | (with_reducible exact nth7) | (with_reducible exact nth8) | (with_reducible exact nth9) | (with_reducible exact nth10) | (with_reducible exact nth11) | (with_reducible exact nth12) | (with_reducible exact nth13) | (with_reducible exact nth14) | (with_reducible exact nth15) | (with_reducible exact nth16) | (with_reducible exact nth17) | (with_reducible exact nth18) | (with_reducible exact nth19) | (with_reducible exact nth20) | (with_reducible exact nth21) | (with_reducible exact nth22) | (with_reducible exact nth23)); (first | (with_reducible exact nth0) | (with_reducible exact nth1) | (with_reducible exact nth2) | (with_reducible exact nth3) | (with_reducible exact nth4) | (with_reducible exact nth5) | (with_reducible exact nth6) | (with_reducible exact nth7) | (with_reducible exact nth8) | (with_reducible exact nth9) | (with_reducible exact nth10) | (with_reducible exact nth11) | (with_reducible exact nth12) | (with_reducible exact nth13) | (with_reducible exact nth14) | (with_reducible exact nth15) | (with_reducible exact nth16) | (with_reducible exact nth17) | (with_reducible exact nth18) | (with_reducible exact nth19) | (with_reducible exact nth20) | (with_reducible exact nth21) | (with_reducible exact nth22) | (with_reducible exact nth23)); rfl; rfl; (intro KP hKP; go_wp2_with (first | (go_at_call 46; (with_reducible refine (PT.out _).mono ?_); rintro e w' ⟨rfl, y1, rfl⟩; have hsz1 := y1.bel.size; (try simp only [World.size_alloc, World.size_setCell, World.size_drew] at hsz1))); refine hKP _ _ (LaterC.mk (by (repeat (first | (with_reducible exact Below.refl _ _) | (with_reducible assumption) | (with_reducible refine Later.out _ ?_) | (with_reducible refine bel_alloc ?_ _) | (with_reducible refine bel_drew ?_) | (with_reducible refine bel_drewN ?_ _) | (with_reducible refine bel_set ?_ ?_ _) | (with_reducible refine After.out _ ?_ ?_) | (dsimp only; omega) | omega | (simp only [World.size_alloc, World.size_setCell, World.size_drew]; omega))))) ?_; clear hKP KP); rotate_left; (intro KP hKP; go_wp2_with fail; refine hKP _ _ (LaterC.mk (by (repeat (first | (with_reducible exact Below.refl _ _) | (with_reducible assumption) | (with_reducible refine Later.out _ ?_) | (with_reducible refine bel_alloc ?_ _) | (with_reducible refine bel_drew ?_) | (with_reducible refine bel_drewN ?_ _) | (with_reducible refine bel_set ?_ ?_ _) | (with_reducible refine After.out _ ?_ ?_) | (dsimp only; omega) | omega | (simp only [World.size_alloc, World.size_setCell, World.size_drew]; omega))))) ?_; clear hKP KP); (try simp only [List.filter, bne_self_eq_false, Nat.reduceBNe])) | ((with_reducible apply float_last); (first | (with_reducible exact nth0) | (with_reducible exact nth1) | (with_reducible exact nth2) | (with_reducible exact nth3) | (with_reducible exact nth4) | (with_reducible exact nth5) | (with_reducible exact nth6) | (with_reducible exact nth7) | (with_reducible exact nth8) | (with_reducible exact nth9) | (with_reducible exact nth10) | (with_reducible exact nth11) | (with_reducible exact nth12) | (with_reducible exact nth13) | (with_reducible exact nth14) | (with_reducible exact nth15) | (with_reducible exact nth16) | (with_reducible exact nth17) | (with_reducible exact nth18) | (with_reducible exact nth19) | (with_reducible exact nth20) | (with_reducible exact nth21) | (with_reducible exact nth22) | (with_reducible exact nth23)); rfl; (intro KP hKP; go_wp2_with fail; refine hKP _ _ (LaterC.mk (by (repeat (first | (with_reducible exact Below.refl _ _) | (with_reducible assumption) | (with_reducible refine Later.out _ ?_) | (with_reducible refine bel_alloc ?_ _) | (with_reducible refine bel_drew ?_) | (with_reducible refine bel_drewN ?_ _) | (with_reducible refine bel_set ?_ ?_ _) | (with_reducible refine After.out _ ?_ ?_) | (dsimp only; omega) | omega | (simp only [World.size_alloc, World.size_setCell, World.size_drew]; omega))))) ?_; clear hKP KP)) | ((with_reducible apply plan_loud); (first | (with_reducible exact nth0) | (with_reducible exact nth1) | (with_reducible exact nth2) | (with_reducible exact nth3) | (with_reducible exact nth4) | (with_reducible exact nth5) | (with_reducible exact nth6) | (with_reducible exact nth7) | (with_reducible exact nth8) | (with_reducible exact nth9) | (with_reducible exact nth10) | (with_reducible exact nth11) | (with_reducible exact nth12) | (with_reducible exact nth13) | (with_reducible exact nth14) | (with_reducible exact nth15) | (with_reducible exact nth16) | (with_reducible exact nth17) | (with_reducible exact nth18) | (with_reducible exact nth19) | (with_reducible exact nth20) | (with_reducible exact nth21) | (with_reducible exact nth22) | (with_reducible exact nth23)); rfl; (intro KP hKP; go_wp2_with (first | (go_at_call 46; (with_reducible refine (PT.out _).mono ?_); rintro e w' ⟨rfl, y1, rfl⟩; have hsz1 := y1.bel.size; (try simp only [World.size_alloc, World.size_setCell, World.size_drew] at hsz1))); refine hKP _ _ (LaterC.mk (by (repeat (first | (with_reducible exact Below.refl _ _) | (with_reducible assumption) | (with_reducible refine Later.out _ ?_) | (with_reducible refine bel_alloc ?_ _) | (with_reducible refine bel_drew ?_) | (with_reducible refine bel_drewN ?_ _) | (with_reducible refine bel_set ?_ ?_ _) | (with_reducible refine After.out _ ?_ ?_) | (dsimp only; omega) | omega | (simp only [World.size_alloc, World.size_setCell, World.size_drew]; omega))))) ?_; clear hKP KP))))
        all_goals
          go_wp2_with fail
          go_meet
          refine ⟨_, rfl, ?_, ?_, ?_, ?_⟩
          · (try simp only [World.size_alloc, World.size_setCell, World.size_drew]); omega
          · simp [go_sem, ↓IntWalk.iteOmega]
          · simp [go_sem, ↓IntWalk.iteOmega]
          · (repeat (first | (with_reducible exact Below.refl _ _) | (with_reducible assumption) | (with_reducible refine Later.out _ ?_) | (with_reducible refine bel_alloc ?_ _) | (with_reducible refine bel_drew ?_) | (with_reducible refine bel_drewN ?_ _) | (with_reducible refine bel_set ?_ ?_ _) | (with_reducible refine After.out _ ?_ ?_) | (dsimp only; omega) | omega | (simp only [World.size_alloc, World.size_setCell, World.size_drew]; omega)))
      case rest =>
        obtain ⟨g7, rfl, h70, h71, h72, hbc⟩ := hcut
        obtain ⟨y2, rfl⟩ := LaterC.mk hbc
        clear hbc
        have hsz2 := y2.bel.size
        have HO2 := Lib.hid (HO.out.bel y2.bel (by omega))
        have HQ2 := Lib.hid (HQ.out.bel y2.bel)
        have HI2 := Lib.hid (HI.out.pop (p := p) (Q' := Q) (by simp))
        clear HO HQ HI
        go_wp2_with fail
        go_loopg [6, 54] 4 (fun k q i wr => ∃ (j : Nat) (S' : List Bool) (Q' : List Nat) (a6 : Option Addr) (c6 : Nat), j + k = 4 ∧ i = .int .i64 j ∧ q = .slice a6 (p :: Q').length c6 ∧ owed S' Q'.length < gk ∧ S'[p]? = some true ∧
          Inv l (Beside x y W H) s (fun i' jj => i' = p ∧ ∀ t, t < j → jj ≠ nbI x y W H px py t) S' Q' ∧ Between g (g + 1) (xl.w.alloc (.cells #[.int .i64 x, .int .i64 y, .int .i64 W, .int .i64 H, .slice (some ⟨g, 0, none⟩) n c5] 28)) wr ∧
          Owns wr g (g + 1) 4 1 n (some ⟨g, 0, none⟩) c5 (boolCells S') ∧ Que wr (xl.w.alloc (.cells #[.int .i64 x, .int .i64 y, .int .i64 W, .int .i64 H, .slice (some ⟨g, 0, none⟩) n c5] 28)).heap.size 2 a6 (p :: Q').length c6 (idxCells (p :: Q')))
        case atStart =>
          refine ⟨0, S, Q, _, _, rfl, rfl, rfl, ?_, hpS.out, HI2.out.ex (fun k j h => ⟨h, fun t ht => by omega⟩), ?_, HO2.out, HQ2.out⟩
          · have := hk.out
            simp only [List.length_cons, owed] at this ⊢
            omega
          · (repeat (first | (with_reducible exact Between.refl _ _ _) | (with_reducible refine Between.drew ?_) | (with_reducible refine Between.drewN ?_ _) | (with_reducible refine Between.set ?_ ?_ ?_ _) | (with_reducible refine btw_later _ ?_) | (with_reducible refine btw_alloc ?_ _) | (with_reducible refine btw_after _ ?_) | (with_reducible assumption) | (dsimp only; omega) | omega))
        case round =>
          obtain ⟨j, S', Q', a6', c6', hjk, rfl, rfl, hw, hpS', hI', hb', ho', hq'⟩ := hrel
          obtain ⟨zr, rfl⟩ := AfterC.mk hb'
          clear hb'
          have HI3 := Lib.hid hI'
          have HO3 := Lib.hid ho'
          have HQ3 := Lib.hid hq'
          have HW := Lib.hid hw
          have HP := Lib.hid hpS'
          clear hI' ho' hq' hw hpS' HO2 HQ2 HI2
          have hzs3 := zr.btw.size
          (try simp only [World.size_alloc] at hzs3)
          have hql3 := HQ3.out.lt
          obtain ⟨gq3, oq3, rfl, hq3⟩ := HQ3.out.get (j := 0) (by simp)
          have hgq3 := hql3 _ rfl
          clear hql3
          simp only [World.size_alloc] at hgq3
          by_cases hj4 : j < 4
          · obtain ⟨k, rfl⟩ : ∃ k, gk = k + 1 := ⟨gk - 1, by omega⟩
            go_upto_region 9 with fail
            go_cut [9] from 56 to 56 (fun t9 wx => ∃ g9 qx qy, t9 = .pointer (some ⟨g9, 0, none⟩) ∧ zr.w.heap.size ≤ g9 ∧ wx.cell? ⟨g9, 0, none⟩ = some (.int .i64 qx) ∧ wx.cell? ⟨g9, 1, none⟩ = some (.int .i64 qy) ∧ cellB x y W H qx qy = nbI x y W H px py j ∧ -2000 ≤ qx ∧ qx ≤ 2000 ∧ -2000 ≤ qy ∧ qy ≤ 2000 ∧ Below zr.w.heap.size zr.w wx)
            case first =>
              have i0 : ∀ w, (Instr.index 79 (.agg #[.int .i64 (px + 1), .int .i64 py, .int .i64 px, .int .i64 (py + 1), .int .i64 (px - 1), .int .i64 py, .int .i64 px, .int .i64 (py - 1)]) (.int .i64 0)).run Try.prog w = .ok (.agg #[.int .i64 (px + 1), .int .i64 py]) w := fun _ => by kernel_rfl
              have i1 : ∀ w, (Instr.index 79 (.agg #[.int .i64 (px + 1), .int .i64 py, .int .i64 px, .int .i64 (py + 1), .int .i64 (px - 1), .int .i64 py, .int .i64 px, .int .i64 (py - 1)]) (.int .i64 1)).run Try.prog w = .ok (.agg #[.int .i64 px, .int .i64 (py + 1)]) w := fun _ => by kernel_rfl
              have i2 : ∀ w, (Instr.index 79 (.agg #[.int .i64 (px + 1), .int .i64 py, .int .i64 px, .int .i64 (py + 1), .int .i64 (px - 1), .int .i64 py, .int .i64 px, .int .i64 (py - 1)]) (.int .i64 2)).run Try.prog w = .ok (.agg #[.int .i64 (px - 1), .int .i64 py]) w := fun _ => by kernel_rfl
              have i3 : ∀ w, (Instr.index 79 (.agg #[.int .i64 (px + 1), .int .i64 py, .int .i64 px, .int .i64 (py + 1), .int .i64 (px - 1), .int .i64 py, .int .i64 px, .int .i64 (py - 1)]) (.int .i64 3)).run Try.prog w = .ok (.agg #[.int .i64 px, .int .i64 (py - 1)]) w := fun _ => by kernel_rfl
              rcases (show j = 0 ∨ j = 1 ∨ j = 2 ∨ j = 3 by omega) with rfl | rfl | rfl | rfl
              · go_wp2_with fail
                go_meet
                refine ⟨_, px + 1, py, rfl, Nat.le_refl _, by simp [go_sem, ↓IntWalk.iteOmega], by simp [go_sem, ↓IntWalk.iteOmega], by simp [nbI], by omega, by omega, by omega, by omega, ?_⟩
                (repeat (first | (with_reducible exact Below.refl _ _) | (with_reducible assumption) | (with_reducible refine Later.out _ ?_) | (with_reducible refine bel_alloc ?_ _) | (with_reducible refine bel_drew ?_) | (with_reducible refine bel_drewN ?_ _) | (with_reducible refine bel_set ?_ ?_ _) | (with_reducible refine After.out _ ?_ ?_) | (dsimp only; omega) | omega | (simp only [World.size_alloc, World.size_setCell, World.size_drew]; omega)))
              · go_wp2_with fail
                go_meet
                refine ⟨_, px, py + 1, rfl, Nat.le_refl _, by simp [go_sem, ↓IntWalk.iteOmega], by simp [go_sem, ↓IntWalk.iteOmega], by simp [nbI], by omega, by omega, by omega, by omega, ?_⟩
                (repeat (first | (with_reducible exact Below.refl _ _) | (with_reducible assumption) | (with_reducible refine Later.out _ ?_) | (with_reducible refine bel_alloc ?_ _) | (with_reducible refine bel_drew ?_) | (with_reducible refine bel_drewN ?_ _) | (with_reducible refine bel_set ?_ ?_ _) | (with_reducible refine After.out _ ?_ ?_) | (dsimp only; omega) | omega | (simp only [World.size_alloc, World.size_setCell, World.size_drew]; omega)))
              · go_wp2_with fail
                go_meet
                refine ⟨_, px - 1, py, rfl, Nat.le_refl _, by simp [go_sem, ↓IntWalk.iteOmega], by simp [go_sem, ↓IntWalk.iteOmega], by simp [nbI], by omega, by omega, by omega, by omega, ?_⟩
                (repeat (first | (with_reducible exact Below.refl _ _) | (with_reducible assumption) | (with_reducible refine Later.out _ ?_) | (with_reducible refine bel_alloc ?_ _) | (with_reducible refine bel_drew ?_) | (with_reducible refine bel_drewN ?_ _) | (with_reducible refine bel_set ?_ ?_ _) | (with_reducible refine After.out _ ?_ ?_) | (dsimp only; omega) | omega | (simp only [World.size_alloc, World.size_setCell, World.size_drew]; omega)))
              · go_wp2_with fail
                go_meet
                refine ⟨_, px, py - 1, rfl, Nat.le_refl _, by simp [go_sem, ↓IntWalk.iteOmega], by simp [go_sem, ↓IntWalk.iteOmega], by simp [nbI], by omega, by omega, by omega, by omega, ?_⟩
                (repeat (first | (with_reducible exact Below.refl _ _) | (with_reducible assumption) | (with_reducible refine Later.out _ ?_) | (with_reducible refine bel_alloc ?_ _) | (with_reducible refine bel_drew ?_) | (with_reducible refine bel_drewN ?_ _) | (with_reducible refine bel_set ?_ ?_ _) | (with_reducible refine After.out _ ?_ ?_) | (dsimp only; omega) | omega | (simp only [World.size_alloc, World.size_setCell, World.size_drew]; omega)))
            case rest =>
              obtain ⟨g9, qx, qy, rfl, h90, h91, h92, hnb, b1, b2, b3, b4, hbc⟩ := hcut
              obtain ⟨y4, rfl⟩ := LaterC.mk hbc
              clear hbc
              have hsz4 := y4.bel.size
              have CE := fun w => cell_any x y W H qx qy a n c w HB.out b1 b2 b3 b4
              have hlt := cellB_lt HB.out hnb
              simp only [hnb] at CE
              have HO4 := Lib.hid (HO3.out.bel y4.bel (by omega))
              have HQ4 := Lib.hid (HQ3.out.bel y4.bel)
              obtain ⟨i, hi⟩ : ∃ i, nbI x y W H px py j = i := ⟨_, rfl⟩
              rw [hi] at CE hlt
              replace CE := Lib.hid CE
              have HI5 := Lib.hid hi
              clear hnb hi b1 b2 b3 b4
              rcases hlt with rfl | ⟨i0, i1⟩
              · have HJ : ∀ k'' : Nat, nbI x y W H px py j = k'' → l[k'']? = some true → S'[k'']? = some true := by
                  rw [HI5.out]
                  intro k'' h1
                  omega
                replace HJ := Lib.hid HJ
                go_wp2_with (first | (go_at_call 23; (with_reducible refine (CE.out _).mono ?_); rintro e w' ⟨rfl, y5, rfl⟩; have hsz5 := y5.bel.size))
                go_roundg k
                case measure => omega
                case rel =>
                  refine ⟨j + 1, S', Q', _, _, by omega, by go_num, rfl, HW.out, HP.out, (HI3.out.pass (j := nbI x y W H px py j) HJ.out).ex (fun i' jj h => ⟨h.1.1, fun t ht => ?_⟩), ?_, (HO4.out.bel y5.bel (by omega)), (HQ4.out.bel y5.bel)⟩
                  · by_cases htj : t = j
                    · rw [htj]; exact h.2
                    · exact h.1.2 t (by omega)
                  · (repeat (first | (with_reducible exact Between.refl _ _ _) | (with_reducible refine Between.drew ?_) | (with_reducible refine Between.drewN ?_ _) | (with_reducible refine Between.set ?_ ?_ ?_ _) | (with_reducible refine btw_later _ ?_) | (with_reducible refine btw_alloc ?_ _) | (with_reducible refine btw_after _ ?_) | (with_reducible assumption) | (dsimp only; omega) | omega))
              obtain ⟨k', rfl⟩ := Int.eq_ofNat_of_zero_le i0
              have hk'n : k' < n := by omega
              have hk'l : k' < l.length := by have := HN.out; omega
              have hk'S : k' < S'.length := by rw [HI3.out.len]; exact hk'l
              obtain ⟨bb, oo, rfl, hlc⟩ := hr.out k' _ (boolCells_get hk'l)
              have q3 : bb < w.heap.size := World.block_lt_of_cell? w _ hlc
              have bz : Below w.heap.size w zr.w := by (repeat (first | (with_reducible exact Below.refl _ _) | (with_reducible assumption) | (with_reducible refine Later.out _ ?_) | (with_reducible refine bel_alloc ?_ _) | (with_reducible refine bel_drew ?_) | (with_reducible refine bel_drewN ?_ _) | (with_reducible refine bel_set ?_ ?_ _) | (with_reducible refine After.out _ ?_ ?_) | (dsimp only; omega) | omega | (simp only [World.size_alloc, World.size_setCell, World.size_drew]; omega)))
              have hd := (bz.cell (p := ⟨bb, oo + k', none⟩) q3).trans hlc
              have hc := HO3.out.own.cellAt k' (by omega)
              rw [boolCells_get hk'S] at hc
              have hf := HO3.out.own.frozenAt k'
              clear bz hlc
              cases hv : l[k']
              · rw [hv] at hd
                have HV := Lib.hid hv
                clear hv
                have HJ : ∀ k'' : Nat, nbI x y W H px py j = k'' → l[k'']? = some true → S'[k'']? = some true := by
                  rw [HI5.out]
                  intro k'' h1 h2
                  obtain rfl : k' = k'' := by omega
                  rw [List.getElem?_eq_getElem hk'l, HV.out] at h2
                  cases h2
                replace HJ := Lib.hid HJ
                go_wp2_with (first | (go_at_call 23; (with_reducible refine (CE.out _).mono ?_); rintro e w' ⟨rfl, y5, rfl⟩; have hsz5 := y5.bel.size))
                go_roundg k
                case measure => omega
                case rel =>
                  refine ⟨j + 1, S', Q', _, _, by omega, by go_num, rfl, HW.out, HP.out, (HI3.out.pass (j := nbI x y W H px py j) HJ.out).ex (fun i' jj h => ⟨h.1.1, fun t ht => ?_⟩), ?_, (HO4.out.bel y5.bel (by omega)), (HQ4.out.bel y5.bel)⟩
                  · by_cases htj : t = j
                    · rw [htj]; exact h.2
                    · exact h.1.2 t (by omega)
                  · (repeat (first | (with_reducible exact Between.refl _ _ _) | (with_reducible refine Between.drew ?_) | (with_reducible refine Between.drewN ?_ _) | (with_reducible refine Between.set ?_ ?_ ?_ _) | (with_reducible refine btw_later _ ?_) | (with_reducible refine btw_alloc ?_ _) | (with_reducible refine btw_after _ ?_) | (with_reducible assumption) | (dsimp only; omega) | omega))
              rw [hv] at hd
              have HV := Lib.hid hv
              clear hv
              cases hu : S'[k']
              · rw [hu] at hc
                have HU := Lib.hid hu
                clear hu
                obtain ⟨ii, j1, j2, j3, j4⟩ := info_i64'
                have hql : (p :: Q').length ≤ 1048576 := by have h1 := HW.out; have h2 := hk1.out; simp only [owed, List.length_cons] at h1 ⊢; omega
                replace hql := Lib.hid hql
                have J := Lib.hid (And.intro j1 (And.intro j2 (And.intro j3 j4)))
                clear j1 j2 j3 j4
                go_wp2_with (first | (go_at_call 23; (with_reducible refine (CE.out _).mono ?_); rintro e w' ⟨rfl, y5, rfl⟩; have hsz5 := y5.bel.size) | (at_builtin; refine wpList_append_que _ rfl _ _ _ rfl _ 2 ii _ Try.underlying44 J.out.1 J.out.2.1 J.out.2.2.1 J.out.2.2.2 rfl rfl (Que.alloc (Que.set (HQ4.out.bel y5.bel) (by simp only [World.size_alloc]; omega) _) _) (.int .i64 k') _ 1 rfl (by simp [go_sem]) rfl hql.out (by simp only [World.size_alloc, World.size_setCell]; omega) ?_; intro a' c' w1 hq1 hgr hbl; have HQ7 := Lib.hid hq1; have HG7 := Lib.hid hgr; clear hq1 hgr hbl))
                go_roundg k
                case measure => omega
                case rel =>
                  have hSk : S'[k']? = some false := by rw [List.getElem?_eq_getElem hk'S, HU.out]
                  have hlk : l[k']? = some true := by rw [List.getElem?_eq_getElem hk'l, HV.out]
                  have hnb := beside_nbI (x := x) (y := y) (W := W) (H := H) (t := j) ex.out ey.out
                  rw [HI5.out] at hnb
                  have hgr : ∀ k, (Value.slice (some ⟨gq3, oq3, none⟩) (p :: Q').length c6').ownBlock = some k → xl.w.heap.size + 1 ≤ k := by
                    intro k hk
                    simp only [Value.ownBlock, Option.some.injEq] at hk
                    omega
                  refine ⟨j + 1, S'.set k' true, Q' ++ [k'], a', c', by omega, by go_num, by simp, ?_, ?_, ?_, ?_, ?_, ?_⟩
                  · rw [List.length_append]
                    exact Nat.lt_trans (owed_take hSk) HW.out
                  · rw [List.getElem?_set]
                    split
                    · simp [hk'S]
                    · exact HP.out
                  · refine (HI3.out.take (p := p) (k := k') HP.out hnb hlk (Q' := Q' ++ [k']) (by simp [or_comm])).ex (fun i' jj h => ⟨h.1.1, fun t ht => ?_⟩)
                    by_cases htj : t = j
                    · rw [htj, HI5.out]; exact h.2
                    · exact h.1.2 t (by omega)
                  · refine btw_grown (btw_alloc (Between.set (lo := g) (hi := g + 1) (p := ⟨g, k', none⟩) ?_ (Nat.le_refl _) (Nat.lt_succ_self _) _) _) HG7.out (fun k hk => by have := hgr k hk; simp only [World.size_alloc]; omega)
                    (repeat (first | (with_reducible exact Between.refl _ _ _) | (with_reducible refine Between.drew ?_) | (with_reducible refine Between.drewN ?_ _) | (with_reducible refine Between.set ?_ ?_ ?_ _) | (with_reducible refine btw_later _ ?_) | (with_reducible refine btw_alloc ?_ _) | (with_reducible refine btw_after _ ?_) | (with_reducible assumption) | (dsimp only; omega) | omega))
                  · have h1 := (HO4.out.bel y5.bel (by omega)).set (j := k') (.bool true)
                    have e1 : (boolCells S').set k' (.bool true) = boolCells (S'.set k' true) := by simp [boolCells, List.map_set]
                    rw [e1] at h1
                    exact owns_grown (owns_alloc' h1 _) HG7.out (fun k hk => by have := hgr k hk; omega)
                  · have h1 := HQ7.out
                    simpa [idxCells] using h1
              · rw [hu] at hc
                have HU := Lib.hid hu
                clear hu
                have HJ : ∀ k'' : Nat, nbI x y W H px py j = k'' → l[k'']? = some true → S'[k'']? = some true := by
                  rw [HI5.out]
                  intro k'' h1 h2
                  obtain rfl : k' = k'' := by omega
                  rw [List.getElem?_eq_getElem hk'S, HU.out]
                replace HJ := Lib.hid HJ
                go_wp2_with (first | (go_at_call 23; (with_reducible refine (CE.out _).mono ?_); rintro e w' ⟨rfl, y5, rfl⟩; have hsz5 := y5.bel.size))
                go_roundg k
                case measure => omega
                case rel =>
                  refine ⟨j + 1, S', Q', _, _, by omega, by go_num, rfl, HW.out, HP.out, (HI3.out.pass (j := nbI x y W H px py j) HJ.out).ex (fun i' jj h => ⟨h.1.1, fun t ht => ?_⟩), ?_, (HO4.out.bel y5.bel (by omega)), (HQ4.out.bel y5.bel)⟩
                  · by_cases htj : t = j
                    · rw [htj]; exact h.2
                    · exact h.1.2 t (by omega)
                  · (repeat (first | (with_reducible exact Between.refl _ _ _) | (with_reducible refine Between.drew ?_) | (with_reducible refine Between.drewN ?_ _) | (with_reducible refine Between.set ?_ ?_ ?_ _) | (with_reducible refine btw_later _ ?_) | (with_reducible refine btw_alloc ?_ _) | (with_reducible refine btw_after _ ?_) | (with_reducible assumption) | (dsimp only; omega) | omega))
          · obtain rfl : j = 4 := by omega
            by_cases hc1 : c6' = 1
            · subst hc1
              go_wp2_with fail
              go_roundg (owed S' Q'.length)
              case measure => exact HW.out
              case rel =>
                refine ⟨S', Q', _, _, rfl, Nat.le_refl _, by have := HW.out; have := hk1.out; omega, HI3.out.done (fun k j hn hex => ?_), zr.btw, HO3.out, ?_⟩
                · obtain ⟨rfl, h⟩ := hex
                  obtain ⟨t, ht, hj⟩ := beside_all ex.out ey.out hn
                  exact h t ht hj
                · have h1 := Que.tail (n := Q'.length) (q := idxCells Q') HQ3.out
                  simpa using h1
            · go_wp2_with fail
              go_roundg (owed S' Q'.length)
              case measure => exact HW.out
              case rel =>
                refine ⟨S', Q', _, _, rfl, Nat.le_refl _, by have := HW.out; have := hk1.out; omega, HI3.out.done (fun k j hn hex => ?_), zr.btw, HO3.out, ?_⟩
                · obtain ⟨rfl, h⟩ := hex
                  obtain ⟨t, ht, hj⟩ := beside_all ex.out ey.out hn
                  exact h t ht hj
                · have h1 := Que.tail (n := Q'.length) (q := idxCells Q') HQ3.out
                  simpa [hc1, Addr.add] using h1
end Go.Proofs.Ytkkhjbdnpobpnaa
