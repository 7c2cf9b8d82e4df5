import Derived.Test.YtkkhjbdnpobpnaaPieceI
/- A piece of a mask, the reference's way: a stack. -/
set_option linter.unusedSimpArgs false
set_option linter.unusedVariables false
namespace Go.Proofs.Ytkkhjbdnpobpnaa
open Go.RowKit
def BlockIs (w : World) (b : Nat) (o : Obj) : Prop := w.heap[b]? = some o
theorem Que.cap {w : World} {B : Nat} {e : TypeId} {a : Option Addr} {n c : Nat} {q : List Value} (h : Que w B e a n c q) : n ≤ c := by
  obtain ⟨_, _, _, _, _, _, _, h4, _⟩ := h
  exact h4
/-- The four cells beside a point, in the reference's order. -/
def nbS (x y W H px py : Int) (t : Nat) : Int :=
  if t = 0 then cellB x y W H (px + 1) py else if t = 1 then cellB x y W H (px - 1) py else if t = 2 then cellB x y W H px (py + 1) else cellB x y W H px (py - 1)
theorem beside_nbS {x y W H px py : Int} {p : Nat} (hx : x + (p : Int) % W = px) (hy : y + (p : Int) / W = py) {t : Nat} : Beside x y W H p (nbS x y W H px py t) := by
  unfold Beside nbS
  rw [hx, hy]
  split
  · exact .inl rfl
  · split
    · exact .inr (.inr (.inl rfl))
    · split
      · exact .inr (.inl rfl)
      · exact .inr (.inr (.inr rfl))
theorem besideS_all {x y W H px py : Int} {p : Nat} (hx : x + (p : Int) % W = px) (hy : y + (p : Int) / W = py) {j : Int} (h : Beside x y W H p j) : ∃ t, t < 4 ∧ j = nbS x y W H px py t := by
  unfold Beside at h
  rw [hx, hy] at h
  rcases h with h | h | h | h
  · exact ⟨0, by omega, by simp [nbS, h]⟩
  · exact ⟨2, by omega, by simp [nbS, h]⟩
  · exact ⟨1, by omega, by simp [nbS, h]⟩
  · exact ⟨3, by omega, by simp [nbS, h]⟩
set_option maxRecDepth 4000 in
set_option maxHeartbeats 2000000 in
theorem sPiece_any (x y W H : Int) (l : List Bool) (a : Option Addr) (n c s : Nat) (w : World) (b : Box x y W H n) (hn : l.length = n) (hs : s < n) (hr : Row w a (boolCells l)) :
    Calls Try.prog 28 #[.agg #[.int .i64 x, .int .i64 y, .int .i64 W, .int .i64 H, .slice a n c], .int .i64 s] w
      (RetOwn w 4 1 n (boolCells (pieceL l (Beside x y W H) s)) fun v => .agg #[.int .i64 x, .int .i64 y, .int .i64 W, .int .i64 H, v]) := by
  have n2 := b.n2
  have HB := Lib.hid b
  replace hr := Lib.hid hr
  have HN := Lib.hid hn
  clear b hn
  go_enter Try.func28, Try.ntmps28
  go_upto_region 2 with (first | (go_at_call 33; (with_reducible refine (sEmpty_any x y W H a n n c _ HB.out.n1.symm (by omega)).mono ?_); rintro e w' ⟨a5, c5, rfl, hown, xl, rfl⟩; have HO := Lib.hid (Owns.of hown); clear hown; have hsz := xl.bel.size; (try simp only [World.size_alloc, World.size_setCell, World.size_drew] at hsz); (try have hz0 : w.heap.size < xl.w.heap.size := (by omega)); (try have hz1 : w.heap.size + 1 < xl.w.heap.size := (by omega)); (try have hz2 : w.heap.size + 1 + 1 < xl.w.heap.size := (by omega))))
  obtain ⟨g, rfl, g1, g2, hc, hf⟩ := HO.out.at_ (j := s) (by omega)
  have ht : (List.replicate n (Value.bool false))[s]? = some (.bool false) := by simp [hs]
  rw [ht] at hc
  clear ht
  (try simp only [World.size_alloc] at g1)
  go_wp2_with fail
  obtain ⟨W1, hW1⟩ : ∃ W1, W1 = xl.w.alloc (.cells #[.int .i64 x, .int .i64 y, .int .i64 W, .int .i64 H, .slice (some ⟨g, 0, none⟩) n c5] 28) := ⟨_, rfl⟩
  have hW1s : W1.heap.size = xl.w.heap.size + 1 := by rw [hW1]; simp
  have HS0 : owed ((List.replicate l.length false).set s true) 1 ≤ 2 * n + 1 := by have := HN.out; have := List.count_le_length (a := false) (l := (List.replicate l.length false).set s true); simp at this; unfold owed; omega
  go_loopg [6] (2 * n + 1) (fun k q wr => ∃ (S : List Bool) (Q : List Nat) (a6 : Option Addr) (c6 : Nat), q = .slice a6 Q.length c6 ∧ owed S Q.length ≤ k ∧ k ≤ 2 * n + 1 ∧ Inv l (Beside x y W H) s (fun _ _ => False) S Q ∧ Between g (g + 1) W1 wr ∧
    Owns wr g (g + 1) 4 1 n (some ⟨g, 0, none⟩) c5 (boolCells S) ∧ Que wr W1.heap.size 2 a6 Q.length c6 (idxCells Q))
  case atStart =>
    refine ⟨(List.replicate l.length false).set s true, [s], _, _, rfl, HS0, Nat.le_refl _, Inv.first (by have := HN.out; omega), ?_, ?_, ?_⟩
    · rw [hW1]
      exact btw_alloc (btw_alloc2 (Between.set (lo := g) (hi := g + 1) (p := ⟨g, s, none⟩) (Between.refl _ _ _) (Nat.le_refl _) (Nat.lt_succ_self _) _) (by simp) _) _
    · have h1 := HO.out.set (j := s) (.bool true)
      have e1 : (List.replicate n (Value.bool false)).set s (.bool true) = boolCells ((List.replicate l.length false).set s true) := by rw [HN.out]; simp [boolCells, List.map_set]
      rw [e1] at h1
      exact ⟨World.ownsRow.alloc (World.ownsRow.alloc (own_lift h1.own) _) _, fun p hp => by injection hp with hp; subst hp; simp⟩
    · have h1 := Que.made ((xl.w.setCell ⟨g, s, none⟩ (.bool true)).alloc (.cells #[.int .i64 x, .int .i64 y, .int .i64 W, .int .i64 H, .slice (some ⟨g, 0, none⟩) n c5] 28)) W1.heap.size 2 (.int .i64 s) (by simp [hW1s])
      simpa [idxCells] using h1
  case round =>
    obtain ⟨S, Q, a6, c6, rfl, hk, hk1, hI, hb, ho, hq⟩ := hrel
    replace hk1 := Lib.hid hk1
    obtain ⟨z, rfl⟩ := AfterC.mk hb
    clear hb
    have HI := Lib.hid hI
    have HO := Lib.hid ho
    have HQ := Lib.hid hq
    clear hI ho hq HS0
    subst hW1
    clear hW1s
    have hzs := z.btw.size
    (try simp only [World.size_alloc] at hzs)
    rcases (show Q = [] ∨ ∃ (Q' : List Nat) (p : Nat), Q = Q' ++ [p] from by rcases List.eq_nil_or_concat Q with h | ⟨Q', p, h⟩; (exact .inl h); (exact .inr ⟨Q', p, by rw [h, List.concat_eq_append]⟩)) with rfl | ⟨Q, p, rfl⟩
    · go_wp2_with fail
      refine bodyPost_ret (by simp [results, Try.results28, go_sem, ↓IntWalk.iteOmega]; try rfl) rfl ?_
      refine RetOwn.mk _ rfl ?_ ?_
      · rw [← HI.out.piece]
        (refine own_mono (base := ?ob1) ?oh1 ?os1; (case oh1 => ((repeat (with_reducible refine own_set ?_ ?_ _)); (with_reducible exact HO.out.own); all_goals (first | (dsimp only; omega) | omega | (simp only [World.size_alloc, World.size_setCell, World.size_drew]; omega)))); (case os1 => (first | (dsimp only; omega) | omega | (simp only [World.size_alloc, World.size_setCell, World.size_drew]; omega))))
      · (repeat (first | (with_reducible exact Below.refl _ _) | (with_reducible assumption) | (with_reducible refine Later.out _ ?_) | (with_reducible refine bel_alloc ?_ _) | (with_reducible refine bel_drew ?_) | (with_reducible refine bel_drewN ?_ _) | (with_reducible refine bel_set ?_ ?_ _) | (with_reducible refine After.out _ ?_ ?_) | (dsimp only; omega) | omega | (simp only [World.size_alloc, World.size_setCell, World.size_drew]; omega)))
    · have hpS := HI.out.inq p (by simp)
      have hp : p < n := by have h1 := (List.getElem?_eq_some_iff.1 hpS).1; rw [HI.out.len, HN.out] at h1; exact h1
      obtain ⟨px, py, ex, ey, px1, px2, py1, py2⟩ := coords HB.out hp
      have PT := fun w => sPoint_any x y W H a p n c w HB.out hp
      simp only [ex, ey] at PT
      replace PT := Lib.hid PT
      have hQl := HQ.out.lt
      obtain ⟨gq, oq, rfl, hq0⟩ := HQ.out.get (j := Q.length) (by simp)
      have hgq := hQl _ rfl
      clear hQl
      have hq1 : (idxCells (Q ++ [p]))[Q.length]? = some (.int .i64 p) := by simp [idxCells]
      rw [hq1] at hq0
      clear hq1
      simp only [World.size_alloc] at hgq
      have hlen : (Q ++ [p]).length = Q.length + 1 := by simp
      have HQ0 := Lib.hid (show Que z.w (xl.w.alloc (.cells #[.int .i64 x, .int .i64 y, .int .i64 W, .int .i64 H, .slice (some ⟨g, 0, none⟩) n c5] 28)).heap.size 2 (some ⟨gq, oq, none⟩) (Q.length + 1) c6 (idxCells Q ++ [.int .i64 p]) from by have h1 := HQ.out; rw [hlen] at h1; rw [show idxCells (Q ++ [p]) = idxCells Q ++ [Value.int .i64 (p : Int)] from by simp [idxCells]] at h1; exact h1)
      clear HQ
      have hQcap := HQ0.out.cap
      have HQ := Lib.hid HQ0.out.init
      clear HQ0
      rw [hlen] at hk ⊢
      clear hlen
      have hQb : Q.length ≤ 2000 := by have h1 := hk1.out; simp only [owed] at hk; omega
      replace ex := Lib.hid ex
      replace ey := Lib.hid ey
      replace hpS := Lib.hid hpS
      replace hk := Lib.hid hk
      go_upto_region 5 with fail
      go_cut [7] from 22 to 29 (fun t7 wx => ∃ g7, t7 = .pointer (some ⟨g7, 0, none⟩) ∧ z.w.heap.size ≤ g7 ∧ wx.cell? ⟨g7, 0, none⟩ = some (.int .i64 px) ∧ wx.cell? ⟨g7, 1, none⟩ = some (.int .i64 py) ∧ Below z.w.heap.size z.w wx)
      case first =>
        refine wp_region_float 8 [(0, true), (1, true), (2, true), (3, false), (4, true), (5, true), (6, true), (7, false), (8, false), (9, false)] (C := LaterC _) (by kernel_rfl) (by kernel_rfl) (by kernel_rfl) rfl (fun _ _ d _ _ h => by cases d <;> exact h) (LaterC.mk ((Below.refl _ _).drew)) ?_
        repeat (any_goals (first | (with_reducible apply plan_nil) | ((with_reducible apply float_quiet); (first | (with_reducible exact nth0) | (with_reducible exact nth1) | (with_reducible exact nth2) | (with_reducible exact nth3) | (with_reducible exact nth4) | (with_reducible exact nth5) | (with_reducible exact nth6) | (with_reducible exact nth7) | (with_reducible exact nth8) | (with_reducible exact nth9) | (with_reducible exact nth10) | (with_reducible exact nth11) | (with_reducible exact nth12) | (with_reducible exact nth13) | (with_reducible exact nth14) | (with_reducible exact nth15) | (with_reducible exact nth16) | (with_reducible exact nth17) | (with_reducible exact nth18) | (with_reducible exact nth19) | (with_reducible exact nth20) | (with_reducible exact nth21) | (with_reducible exact nth22) | (with_reducible exact nth23)); rfl; intro KP hKP; go_big_quiet_op; go_big_quiet_on) | ((with_reducible apply float_skip); (first | (with_reducible exact nth0) | (with_reducible exact nth1) | (with_reducible exact nth2) | (with_reducible exact nth3) | (with_reducible exact nth4) | (with_reducible exact nth5) | (with_reducible exact nth6) | (with_reducible exact nth7) | (with_reducible exact nth8) | (with_reducible exact nth9) | (with_reducible exact nth10) | (with_reducible exact nth11) | (with_reducible exact nth12) | (with_reducible exact nth13) | (with_reducible exact nth14) | (with_reducible exact nth15) | (with_reducible exact nth16) | (with_reducible exact nth17) | (with_reducible exact nth18) | (with_reducible exact nth19) | (with_reducible exact nth20) | (with_reducible exact nth21) | (with_reducible exact nth22) | (with_reducible exact nth23)); rfl; rfl; simp only [Act.put, List.setIfInBounds_toArray, List.set_cons_zero, List.set_cons_succ]) | ((with_reducible apply plan_quiet); (first | (with_reducible exact nth0) | (with_reducible exact nth1) | (with_reducible exact nth2) | (with_reducible exact nth3) | (with_reducible exact nth4) | (with_reducible exact nth5) | (with_reducible exact nth6) | (with_reducible exact nth7) | (with_reducible exact nth8) | (with_reducible exact nth9) | (with_reducible exact nth10) | (with_reducible exact nth11) | (with_reducible exact nth12) | (with_reducible exact nth13) | (with_reducible exact nth14) | (with_reducible exact nth15) | (with_reducible exact nth16) | (with_reducible exact nth17) | (with_reducible exact nth18) | (with_reducible exact nth19) | (with_reducible exact nth20) | (with_reducible exact nth21) | (with_reducible exact nth22) | (with_reducible exact nth23)); rfl; intro KP hKP; go_big_quiet_op; go_big_quiet_on) | ((with_reducible apply plan_skip_q); (first | (with_reducible exact nth0) | (with_reducible exact nth1) | (with_reducible exact nth2) | (with_reducible exact nth3) | (with_reducible exact nth4) | (with_reducible exact nth5) | (with_reducible exact nth6) | (with_reducible exact nth7) | (with_reducible exact nth8) | (with_reducible exact nth9) | (with_reducible exact nth10) | (with_reducible exact nth11) | (with_reducible exact nth12) | (with_reducible exact nth13) | (with_reducible exact nth14) | (with_reducible exact nth15) | (with_reducible exact nth16) | (with_reducible exact nth17) | (with_reducible exact nth18) | (with_reducible exact nth19) | (with_reducible exact nth20) | (with_reducible exact nth21) | (with_reducible exact nth22) | (with_reducible exact nth23)); rfl; rfl; simp only [Act.put, List.setIfInBounds_toArray, List.set_cons_zero, List.set_cons_succ]) | ((with_reducible apply float_fork); rfl; (first | (with_reducible exact nth0) | (with_reducible exact nth1) | (with_reducible exact nth2) | (with_reducible exact nth3) | (with_reducible exact nth4) | (with_reducible exact nth5) | (with_reducible exact nth6) | (with_reducible exact nth7) | (with_reducible exact nth8) | (with_reducible exact nth9) | (with_reducible exact nth10) | (with_reducible exact nth11) | (with_reducible exact nth12) | (with_reducible exact nth13) | (with_reducible exact nth14) | (with_reducible exact nth15) | (with_reducible exact nth16) | (with_reducible exact nth17) | (with_reducible exact nth18) | (with_reducible exact nth19) | (with_reducible exact nth20) | (with_reducible exact nth21) | (with_reducible exact nth22) | (with_reducible exact nth23)); (first | (with_reducible exact nth0) | (with_reducible exact nth1) | (with_reducible exact nth2) | (with_reducible exact nth3) | (with_reducible exact nth4) | (with_reducible exact nth5) | (with_reducible exact nth6) | (with_reducible exact nth7) | (with_reducible exact nth8) | (with_reducible exact nth9) | (with_reducible exact nth10) | (with_reducible exact nth11) | (with_reducible exact nth12) | (with_reducible exact nth13) | (with_reducible exact nth14) | (with_reducible exact nth15) | (with_reducible exact nth16) | (with_reducible exact nth17) | (with_reducible exact nth18) | (with_reducible exact nth19) | (with_reducible exact nth20) | (with_reducible exact nth21) | (with_reducible exact nth22) | (with_reducible exact nth23)); rfl; rfl; (intro KP hKP; go_wp2_with (first | (go_at_call 35; (with_reducible refine (PT.out _).mono ?_); rintro e w' ⟨rfl, y1, rfl⟩; have hsz1 := y1.bel.size; (try simp only [World.size_alloc, World.size_setCell, World.size_drew] at hsz1))); refine hKP _ _ (LaterC.mk (by (repeat (first | (with_reducible exact Below.refl _ _) | (with_reducible assumption) | (with_reducible refine Later.out _ ?_) | (with_reducible refine bel_alloc ?_ _) | (with_reducible refine bel_drew ?_) | (with_reducible refine bel_drewN ?_ _) | (with_reducible refine bel_set ?_ ?_ _) | (with_reducible refine After.out _ ?_ ?_) | (dsimp only; omega) | omega | (simp only [World.size_alloc, World.size_setCell, World.size_drew]; omega))))) ?_; clear hKP KP); rotate_left; (intro KP hKP; go_wp2_with fail; refine hKP _ _ (LaterC.mk (by (repeat (first | (with_reducible exact Below.refl _ _) | (with_reducible assumption) | (with_reducible refine Later.out _ ?_) | (with_reducible refine bel_alloc ?_ _) | (with_reducible refine bel_drew ?_) | (with_reducible refine bel_drewN ?_ _) | (with_reducible refine bel_set ?_ ?_ _) | (with_reducible refine After.out _ ?_ ?_) | (dsimp only; omega) | omega | (simp only [World.size_alloc, World.size_setCell, World.size_drew]; omega))))) ?_; clear hKP KP); (try simp only [List.filter, bne_self_eq_false, Nat.reduceBNe])) | ((with_reducible apply float_last); (first | (with_reducible exact nth0) | (with_reducible exact nth1) | (with_reducible exact nth2) | (with_reducible exact nth3) | (with_reducible exact nth4) | (with_reducible exact nth5) | (with_reducible exact nth6) | (with_reducible exact nth7) | (with_reducible exact nth8) | (with_reducible exact nth9) | (with_reducible exact nth10) | (with_reducible exact nth11) | (with_reducible exact nth12) | (with_reducible exact nth13) | (with_reducible exact nth14) | (with_reducible exact nth15) | (with_reducible exact nth16) | (with_reducible exact nth17) | (with_reducible exact nth18) | (with_reducible exact nth19) | (with_reducible exact nth20) | (with_reducible exact nth21) | (with_reducible exact nth22) | (with_reducible exact nth23)); rfl; (intro KP hKP; go_wp2_with fail; refine hKP _ _ (LaterC.mk (by (repeat (first | (with_reducible exact Below.refl _ _) | (with_reducible assumption) | (with_reducible refine Later.out _ ?_) | (with_reducible refine bel_alloc ?_ _) | (with_reducible refine bel_drew ?_) | (with_reducible refine bel_drewN ?_ _) | (with_reducible refine bel_set ?_ ?_ _) | (with_reducible refine After.out _ ?_ ?_) | (dsimp only; omega) | omega | (simp only [World.size_alloc, World.size_setCell, World.size_drew]; omega))))) ?_; clear hKP KP)) | ((with_reducible apply plan_loud); (first | (with_reducible exact nth0) | (with_reducible exact nth1) | (with_reducible exact nth2) | (with_reducible exact nth3) | (with_reducible exact nth4) | (with_reducible exact nth5) | (with_reducible exact nth6) | (with_reducible exact nth7) | (with_reducible exact nth8) | (with_reducible exact nth9) | (with_reducible exact nth10) | (with_reducible exact nth11) | (with_reducible exact nth12) | (with_reducible exact nth13) | (with_reducible exact nth14) | (with_reducible exact nth15) | (with_reducible exact nth16) | (with_reducible exact nth17) | (with_reducible exact nth18) | (with_reducible exact nth19) | (with_reducible exact nth20) | (with_reducible exact nth21) | (with_reducible exact nth22) | (with_reducible exact nth23)); rfl; (intro KP hKP; go_wp2_with (first | (go_at_call 35; (with_reducible refine (PT.out _).mono ?_); rintro e w' ⟨rfl, y1, rfl⟩; have hsz1 := y1.bel.size; (try simp only [World.size_alloc, World.size_setCell, World.size_drew] at hsz1))); refine hKP _ _ (LaterC.mk (by (repeat (first | (with_reducible exact Below.refl _ _) | (with_reducible assumption) | (with_reducible refine Later.out _ ?_) | (with_reducible refine bel_alloc ?_ _) | (with_reducible refine bel_drew ?_) | (with_reducible refine bel_drewN ?_ _) | (with_reducible refine bel_set ?_ ?_ _) | (with_reducible refine After.out _ ?_ ?_) | (dsimp only; omega) | omega | (simp only [World.size_alloc, World.size_setCell, World.size_drew]; omega))))) ?_; clear hKP KP))))
        all_goals
          go_wp2_with fail
          go_meet
          refine ⟨_, rfl, ?_, ?_, ?_, ?_⟩
          · (try simp only [World.size_alloc, World.size_setCell, World.size_drew]); omega
          · simp [go_sem, ↓IntWalk.iteOmega]
          · simp [go_sem, ↓IntWalk.iteOmega]
          · (repeat (first | (with_reducible exact Below.refl _ _) | (with_reducible assumption) | (with_reducible refine Later.out _ ?_) | (with_reducible refine bel_alloc ?_ _) | (with_reducible refine bel_drew ?_) | (with_reducible refine bel_drewN ?_ _) | (with_reducible refine bel_set ?_ ?_ _) | (with_reducible refine After.out _ ?_ ?_) | (dsimp only; omega) | omega | (simp only [World.size_alloc, World.size_setCell, World.size_drew]; omega)))
      case rest =>
        obtain ⟨g7, rfl, h70, h71, h72, hbc⟩ := hcut
        obtain ⟨y2, rfl⟩ := LaterC.mk hbc
        clear hbc
        have hsz2 := y2.bel.size
        have HO2 := Lib.hid (HO.out.bel y2.bel (by omega))
        have HQ2 := Lib.hid (HQ.out.bel y2.bel)
        have HI2 := Lib.hid (HI.out.pop (p := p) (Q' := Q) (by simp [or_comm]))
        clear HO HQ HI
        go_wp2_with fail
        go_loopg [6, 9] 4 (fun k q i wr => ∃ (j : Nat) (S' : List Bool) (Q' : List Nat) (a6 : Option Addr) (c6 : Nat), j + k = 4 ∧ i = .int .i64 j ∧ q = .slice a6 Q'.length c6 ∧ owed S' Q'.length < gk ∧ S'[p]? = some true ∧
          Inv l (Beside x y W H) s (fun i' jj => i' = p ∧ ∀ t, t < j → jj ≠ nbS x y W H px py t) S' Q' ∧ Between g (g + 1) (xl.w.alloc (.cells #[.int .i64 x, .int .i64 y, .int .i64 W, .int .i64 H, .slice (some ⟨g, 0, none⟩) n c5] 28)) wr ∧
          Owns wr g (g + 1) 4 1 n (some ⟨g, 0, none⟩) c5 (boolCells S') ∧ Que wr (xl.w.alloc (.cells #[.int .i64 x, .int .i64 y, .int .i64 W, .int .i64 H, .slice (some ⟨g, 0, none⟩) n c5] 28)).heap.size 2 a6 Q'.length c6 (idxCells Q') ∧ (∀ r, a6 = some r → r.block ≠ y2.w.heap.size) ∧ BlockIs wr y2.w.heap.size (.cells #[.int .i64 (px + 1), .int .i64 py, .int .i64 (px - 1), .int .i64 py, .int .i64 px, .int .i64 (py + 1), .int .i64 px, .int .i64 (py - 1)] 25 (0, 0)))
        case atStart =>
          refine ⟨0, S, Q, some ⟨gq, oq, none⟩, c6, rfl, rfl, rfl, ?_, hpS.out, HI2.out.ex (fun k j h => ⟨h, fun t ht => by omega⟩), ?_, owns_alloc' HO2.out _, HQ2.out.alloc _, fun r hr => by cases hr; simp only []; omega, heap_alloc_new _ _⟩
          · have := hk.out
            simp only [owed] at this ⊢
            omega
          · (repeat (first | (with_reducible exact Between.refl _ _ _) | (with_reducible refine Between.drew ?_) | (with_reducible refine Between.drewN ?_ _) | (with_reducible refine Between.set ?_ ?_ ?_ _) | (with_reducible refine btw_later _ ?_) | (with_reducible refine btw_alloc ?_ _) | (with_reducible refine btw_after _ ?_) | (with_reducible assumption) | (dsimp only; omega) | omega))
        case round =>
          obtain ⟨j, S', Q', a6', c6', hjk, rfl, rfl, hw, hpS', hI', hb', ho', hq', hne', hp8⟩ := hrel
          obtain ⟨zr, rfl⟩ := AfterC.mk hb'
          clear hb'
          have HI3 := Lib.hid hI'
          have HO3 := Lib.hid ho'
          have HQ3 := Lib.hid hq'
          have HW := Lib.hid hw
          have HP := Lib.hid hpS'
          have HNE := Lib.hid hne'
          have HP3 := Lib.hid hp8
          clear hI' ho' hq' hw hpS' HO2 HQ2 HI2 hne' hp8
          have hzs3 := zr.btw.size
          (try simp only [World.size_alloc] at hzs3)
          have hg8 : y2.w.heap.size < zr.w.heap.size := (Array.getElem?_eq_some_iff.1 HP3.out).1
          have hql3 := HQ3.out.lt
          obtain ⟨gq3, oq3, rfl⟩ : ∃ gq3 oq3, a6' = some ⟨gq3, oq3, none⟩ := by obtain ⟨_, g', o', _, e, _⟩ := HQ3.out; exact ⟨g', o', e⟩
          have hgq3 := hql3 _ rfl
          have hne3 := HNE.out _ rfl
          clear hql3
          simp only [World.size_alloc] at hgq3
          by_cases hj4 : j < 4
          · obtain ⟨k, rfl⟩ : ∃ k, gk = k + 1 := ⟨gk - 1, by omega⟩
            go_upto_region 11 with fail
            go_cut [10] from 66 to 71 (fun t10 wx => t10 = .int .i64 (nbS x y W H px py j) ∧ Below zr.w.heap.size zr.w wx)
            case first =>
              have s0 : zr.w.cell? ⟨y2.w.heap.size, 0, none⟩ = some (.int .i64 (px + 1)) := by have h8 := HP3.out; unfold BlockIs at h8; simp [World.cell?, h8]
              have s1 : zr.w.cell? ⟨y2.w.heap.size, 1, none⟩ = some (.int .i64 py) := by have h8 := HP3.out; unfold BlockIs at h8; simp [World.cell?, h8]
              have s2 : zr.w.cell? ⟨y2.w.heap.size, 2, none⟩ = some (.int .i64 (px - 1)) := by have h8 := HP3.out; unfold BlockIs at h8; simp [World.cell?, h8]
              have s3 : zr.w.cell? ⟨y2.w.heap.size, 3, none⟩ = some (.int .i64 py) := by have h8 := HP3.out; unfold BlockIs at h8; simp [World.cell?, h8]
              have s4 : zr.w.cell? ⟨y2.w.heap.size, 4, none⟩ = some (.int .i64 px) := by have h8 := HP3.out; unfold BlockIs at h8; simp [World.cell?, h8]
              have s5 : zr.w.cell? ⟨y2.w.heap.size, 5, none⟩ = some (.int .i64 (py + 1)) := by have h8 := HP3.out; unfold BlockIs at h8; simp [World.cell?, h8]
              have s6 : zr.w.cell? ⟨y2.w.heap.size, 6, none⟩ = some (.int .i64 px) := by have h8 := HP3.out; unfold BlockIs at h8; simp [World.cell?, h8]
              have s7 : zr.w.cell? ⟨y2.w.heap.size, 7, none⟩ = some (.int .i64 (py - 1)) := by have h8 := HP3.out; unfold BlockIs at h8; simp [World.cell?, h8]
              rcases (show j = 0 ∨ j = 1 ∨ j = 2 ∨ j = 3 by omega) with rfl | rfl | rfl | rfl
              all_goals
                refine wp_region_plan [(0, true), (1, true), (2, true), (3, true), (4, true), (5, false), (6, true)] (C := LaterC _) (by kernel_rfl) (by kernel_rfl) (by kernel_rfl) rfl (fun _ _ d _ _ h => by cases d <;> exact h) (LaterC.mk ((Below.refl _ _).drew)) ?_
                first | (refine plan_quiet nth0 rfl ?_; intro KP hKP; go_big_quiet_op; go_big_quiet_on) | (refine plan_skip_q nth0 rfl rfl ?_; simp only [Act.put, List.setIfInBounds_toArray, List.set_cons_zero, List.set_cons_succ])
                first | (refine plan_quiet nth1 rfl ?_; intro KP hKP; go_big_quiet_op; go_big_quiet_on) | (refine plan_skip_q nth1 rfl rfl ?_; simp only [Act.put, List.setIfInBounds_toArray, List.set_cons_zero, List.set_cons_succ])
                first | (refine plan_quiet nth2 rfl ?_; intro KP hKP; go_big_quiet_op; go_big_quiet_on) | (refine plan_skip_q nth2 rfl rfl ?_; simp only [Act.put, List.setIfInBounds_toArray, List.set_cons_zero, List.set_cons_succ])
                first | (refine plan_quiet nth3 rfl ?_; intro KP hKP; go_big_quiet_op; go_big_quiet_on) | (refine plan_skip_q nth3 rfl rfl ?_; simp only [Act.put, List.setIfInBounds_toArray, List.set_cons_zero, List.set_cons_succ])
                first | (refine plan_quiet nth4 rfl ?_; intro KP hKP; go_big_quiet_op; go_big_quiet_on) | (refine plan_skip_q nth4 rfl rfl ?_; simp only [Act.put, List.setIfInBounds_toArray, List.set_cons_zero, List.set_cons_succ])
                first | (refine plan_loud nth5 rfl ?_; intro KP hKP; go_wp2_with (first | (go_at_call 27; first | ((with_reducible refine (Calls.later (sAt_any x y W H _ _ a n c _ HB.out (by omega) (by omega) (by omega) (by omega))).mono ?_); rintro e w' ⟨rfl, xl, rfl⟩; have hsz := xl.bel.size; (try simp only [World.size_alloc, World.size_setCell, World.size_drew] at hsz); (try have hz0 : w.heap.size < xl.w.heap.size := (by omega)); (try have hz1 : w.heap.size + 1 < xl.w.heap.size := (by omega)); (try have hz2 : w.heap.size + 1 + 1 < xl.w.heap.size := (by omega))) | ((with_reducible refine (sAt_any x y W H _ _ a n c _ HB.out (by omega) (by omega) (by omega) (by omega)).mono ?_); rintro e w' ⟨rfl, xl, rfl⟩; have hsz := xl.bel.size; (try simp only [World.size_alloc, World.size_setCell, World.size_drew] at hsz); (try have hz0 : w.heap.size < xl.w.heap.size := (by omega)); (try have hz1 : w.heap.size + 1 < xl.w.heap.size := (by omega)); (try have hz2 : w.heap.size + 1 + 1 < xl.w.heap.size := (by omega))))); refine hKP _ _ (LaterC.mk (by (repeat (first | (with_reducible exact Below.refl _ _) | (with_reducible assumption) | (with_reducible refine Later.out _ ?_) | (with_reducible refine bel_alloc ?_ _) | (with_reducible refine bel_drew ?_) | (with_reducible refine bel_drewN ?_ _) | (with_reducible refine bel_set ?_ ?_ _) | (with_reducible refine After.out _ ?_ ?_) | (dsimp only; omega) | omega | (simp only [World.size_alloc, World.size_setCell, World.size_drew]; omega))))) ?_; clear hKP KP) | (refine plan_skip nth5 rfl rfl (LaterC.mk (by (repeat (first | (with_reducible exact Below.refl _ _) | (with_reducible assumption) | (with_reducible refine Later.out _ ?_) | (with_reducible refine bel_alloc ?_ _) | (with_reducible refine bel_drew ?_) | (with_reducible refine bel_drewN ?_ _) | (with_reducible refine bel_set ?_ ?_ _) | (with_reducible refine After.out _ ?_ ?_) | (dsimp only; omega) | omega | (simp only [World.size_alloc, World.size_setCell, World.size_drew]; omega))))) ?_; simp only [Act.put, List.setIfInBounds_toArray, List.set_cons_zero, List.set_cons_succ])
                first | (refine plan_quiet nth6 rfl ?_; intro KP hKP; go_big_quiet_op; go_big_quiet_on) | (refine plan_skip_q nth6 rfl rfl ?_; simp only [Act.put, List.setIfInBounds_toArray, List.set_cons_zero, List.set_cons_succ])
                refine plan_nil ?_
                go_wp2_with fail
                go_meet
                refine ⟨by simp [nbS], ?_⟩
                (repeat (first | (with_reducible exact Below.refl _ _) | (with_reducible assumption) | (with_reducible refine Later.out _ ?_) | (with_reducible refine bel_alloc ?_ _) | (with_reducible refine bel_drew ?_) | (with_reducible refine bel_drewN ?_ _) | (with_reducible refine bel_set ?_ ?_ _) | (with_reducible refine After.out _ ?_ ?_) | (dsimp only; omega) | omega | (simp only [World.size_alloc, World.size_setCell, World.size_drew]; omega)))
            case rest =>
              obtain ⟨rfl, hbc⟩ := hcut
              obtain ⟨y4, rfl⟩ := LaterC.mk hbc
              clear hbc
              have hsz4 := y4.bel.size
              have hlt : nbS x y W H px py j = -1 ∨ (0 ≤ nbS x y W H px py j ∧ nbS x y W H px py j < n) := by
                unfold nbS
                split
                · exact cellB_lt HB.out rfl
                · split
                  · exact cellB_lt HB.out rfl
                  · split
                    · exact cellB_lt HB.out rfl
                    · exact cellB_lt HB.out rfl
              have HO4 := Lib.hid (HO3.out.bel y4.bel (by omega))
              have HQ4 := Lib.hid (HQ3.out.bel y4.bel)
              have HP4 := Lib.hid ((y4.bel.block _ hg8).trans HP3.out)
              obtain ⟨i, hi⟩ : ∃ i, nbS x y W H px py j = i := ⟨_, rfl⟩
              rw [hi] at hlt
              rw [hi]
              have HI5 := Lib.hid hi
              clear hi
              rcases hlt with rfl | ⟨i0, i1⟩
              · have HJ : ∀ k'' : Nat, nbS x y W H px py j = k'' → l[k'']? = some true → S'[k'']? = some true := by
                  rw [HI5.out]
                  intro k'' h1
                  omega
                replace HJ := Lib.hid HJ
                go_wp2_with fail
                go_roundg k
                case measure => omega
                case rel =>
                  refine ⟨j + 1, S', Q', _, _, by omega, by go_num, rfl, HW.out, HP.out, (HI3.out.pass (j := nbS x y W H px py j) HJ.out).ex (fun i' jj h => ⟨h.1.1, fun t ht => ?_⟩), ?_, HO4.out, HQ4.out, HNE.out, HP4.out⟩
                  · by_cases htj : t = j
                    · rw [htj]; exact h.2
                    · exact h.1.2 t (by omega)
                  · (repeat (first | (with_reducible exact Between.refl _ _ _) | (with_reducible refine Between.drew ?_) | (with_reducible refine Between.drewN ?_ _) | (with_reducible refine Between.set ?_ ?_ ?_ _) | (with_reducible refine btw_later _ ?_) | (with_reducible refine btw_alloc ?_ _) | (with_reducible refine btw_after _ ?_) | (with_reducible assumption) | (dsimp only; omega) | omega))
              obtain ⟨k', rfl⟩ := Int.eq_ofNat_of_zero_le i0
              have hk'n : k' < n := by omega
              have hk'l : k' < l.length := by have := HN.out; omega
              have hk'S : k' < S'.length := by rw [HI3.out.len]; exact hk'l
              obtain ⟨bb, oo, rfl, hlc⟩ := hr.out k' _ (boolCells_get hk'l)
              have q3 : bb < w.heap.size := World.block_lt_of_cell? w _ hlc
              have bz : Below w.heap.size w zr.w := by (repeat (first | (with_reducible exact Below.refl _ _) | (with_reducible assumption) | (with_reducible refine Later.out _ ?_) | (with_reducible refine bel_alloc ?_ _) | (with_reducible refine bel_drew ?_) | (with_reducible refine bel_drewN ?_ _) | (with_reducible refine bel_set ?_ ?_ _) | (with_reducible refine After.out _ ?_ ?_) | (dsimp only; omega) | omega | (simp only [World.size_alloc, World.size_setCell, World.size_drew]; omega)))
              have hd := (bz.cell (p := ⟨bb, oo + k', none⟩) q3).trans hlc
              have hc := HO3.out.own.cellAt k' (by omega)
              rw [boolCells_get hk'S] at hc
              have hf := HO3.out.own.frozenAt k'
              clear bz hlc
              cases hv : l[k']
              · rw [hv] at hd
                have HV := Lib.hid hv
                clear hv
                have HJ : ∀ k'' : Nat, nbS x y W H px py j = k'' → l[k'']? = some true → S'[k'']? = some true := by
                  rw [HI5.out]
                  intro k'' h1 h2
                  obtain rfl : k' = k'' := by omega
                  rw [List.getElem?_eq_getElem hk'l, HV.out] at h2
                  cases h2
                replace HJ := Lib.hid HJ
                go_wp2_with fail
                go_roundg k
                case measure => omega
                case rel =>
                  refine ⟨j + 1, S', Q', _, _, by omega, by go_num, rfl, HW.out, HP.out, (HI3.out.pass (j := nbS x y W H px py j) HJ.out).ex (fun i' jj h => ⟨h.1.1, fun t ht => ?_⟩), ?_, HO4.out, HQ4.out, HNE.out, HP4.out⟩
                  · by_cases htj : t = j
                    · rw [htj]; exact h.2
                    · exact h.1.2 t (by omega)
                  · (repeat (first | (with_reducible exact Between.refl _ _ _) | (with_reducible refine Between.drew ?_) | (with_reducible refine Between.drewN ?_ _) | (with_reducible refine Between.set ?_ ?_ ?_ _) | (with_reducible refine btw_later _ ?_) | (with_reducible refine btw_alloc ?_ _) | (with_reducible refine btw_after _ ?_) | (with_reducible assumption) | (dsimp only; omega) | omega))
              rw [hv] at hd
              have HV := Lib.hid hv
              clear hv
              cases hu : S'[k']
              · rw [hu] at hc
                have HU := Lib.hid hu
                clear hu
                obtain ⟨ii, j1, j2, j3, j4⟩ := info_i64'
                have hql : Q'.length ≤ 1048576 := by have h1 := HW.out; have h2 := hk1.out; simp only [owed] at h1; omega
                replace hql := Lib.hid hql
                have J := Lib.hid (And.intro j1 (And.intro j2 (And.intro j3 j4)))
                clear j1 j2 j3 j4
                go_wp2_with (first | (at_builtin; refine wpList_append_que _ rfl _ _ _ rfl _ 2 ii _ Try.underlying44 J.out.1 J.out.2.1 J.out.2.2.1 J.out.2.2.2 rfl rfl (Que.alloc (Que.set HQ4.out (by simp only [World.size_alloc]; omega) _) _) (.int .i64 k') _ 1 rfl (by simp [go_sem]) rfl hql.out (by simp only [World.size_alloc, World.size_setCell]; omega) ?_; intro a' c' w1 hq1 hgr hbl; have HQ7 := Lib.hid hq1; have HG7 := Lib.hid hgr; have HB7 := Lib.hid hbl; clear hq1 hgr hbl))
                go_roundg k
                case measure => omega
                case rel =>
                  have hSk : S'[k']? = some false := by rw [List.getElem?_eq_getElem hk'S, HU.out]
                  have hlk : l[k']? = some true := by rw [List.getElem?_eq_getElem hk'l, HV.out]
                  have hnb := beside_nbS (x := x) (y := y) (W := W) (H := H) (t := j) ex.out ey.out
                  rw [HI5.out] at hnb
                  have hob : ∀ k, (Value.slice (some ⟨gq3, oq3, none⟩) Q'.length c6').ownBlock = some k → k = gq3 := by
                    intro k hk
                    simp only [Value.ownBlock, Option.some.injEq] at hk
                    exact hk.symm
                  refine ⟨j + 1, S'.set k' true, Q' ++ [k'], a', c', by omega, by go_num, by simp, ?_, ?_, ?_, ?_, ?_, ?_, ?_, ?_⟩
                  · rw [List.length_append]
                    exact Nat.lt_trans (owed_take hSk) HW.out
                  · rw [List.getElem?_set]
                    split
                    · simp [hk'S]
                    · exact HP.out
                  · refine (HI3.out.take (p := p) (k := k') HP.out hnb hlk (Q' := Q' ++ [k']) (by simp [or_comm])).ex (fun i' jj h => ⟨h.1.1, fun t ht => ?_⟩)
                    by_cases htj : t = j
                    · rw [htj, HI5.out]; exact h.2
                    · exact h.1.2 t (by omega)
                  · refine btw_grown (btw_alloc (Between.set (lo := g) (hi := g + 1) (p := ⟨g, k', none⟩) ?_ (Nat.le_refl _) (Nat.lt_succ_self _) _) _) HG7.out (fun k hk => by have := hob k hk; simp only [World.size_alloc]; omega)
                    (repeat (first | (with_reducible exact Between.refl _ _ _) | (with_reducible refine Between.drew ?_) | (with_reducible refine Between.drewN ?_ _) | (with_reducible refine Between.set ?_ ?_ ?_ _) | (with_reducible refine btw_later _ ?_) | (with_reducible refine btw_alloc ?_ _) | (with_reducible refine btw_after _ ?_) | (with_reducible assumption) | (dsimp only; omega) | omega))
                  · have h1 := HO4.out.set (j := k') (.bool true)
                    have e1 : (boolCells S').set k' (.bool true) = boolCells (S'.set k' true) := by simp [boolCells, List.map_set]
                    rw [e1] at h1
                    exact owns_grown (owns_alloc' h1 _) HG7.out (fun k hk => by have := hob k hk; omega)
                  · have h1 := HQ7.out
                    simpa [idxCells] using h1
                  · intro r hr
                    rcases HB7.out r hr with h1 | h1
                    · have := hob _ h1.symm
                      omega
                    · simp only [World.size_alloc, World.size_setCell] at h1
                      omega
                  · refine (HG7.out.block _ (by simp only [World.size_alloc, World.size_setCell]; omega) (fun e => ?_)).trans ?_
                    · have := hob _ e.symm
                      omega
                    · exact (Below.heap_alloc _ _ _ (by simp only [World.size_setCell]; omega)).trans ((Below.heap_setCell _ _ _ _ (by show _ ≠ g; omega)).trans HP4.out)
              · rw [hu] at hc
                have HU := Lib.hid hu
                clear hu
                have HJ : ∀ k'' : Nat, nbS x y W H px py j = k'' → l[k'']? = some true → S'[k'']? = some true := by
                  rw [HI5.out]
                  intro k'' h1 h2
                  obtain rfl : k' = k'' := by omega
                  rw [List.getElem?_eq_getElem hk'S, HU.out]
                replace HJ := Lib.hid HJ
                go_wp2_with fail
                go_roundg k
                case measure => omega
                case rel =>
                  refine ⟨j + 1, S', Q', _, _, by omega, by go_num, rfl, HW.out, HP.out, (HI3.out.pass (j := nbS x y W H px py j) HJ.out).ex (fun i' jj h => ⟨h.1.1, fun t ht => ?_⟩), ?_, HO4.out, HQ4.out, HNE.out, HP4.out⟩
                  · by_cases htj : t = j
                    · rw [htj]; exact h.2
                    · exact h.1.2 t (by omega)
                  · (repeat (first | (with_reducible exact Between.refl _ _ _) | (with_reducible refine Between.drew ?_) | (with_reducible refine Between.drewN ?_ _) | (with_reducible refine Between.set ?_ ?_ ?_ _) | (with_reducible refine btw_later _ ?_) | (with_reducible refine btw_alloc ?_ _) | (with_reducible refine btw_after _ ?_) | (with_reducible assumption) | (dsimp only; omega) | omega))
          · obtain rfl : j = 4 := by omega
            go_wp2_with fail
            go_roundg (owed S' Q'.length)
            case measure => exact HW.out
            case rel =>
              refine ⟨S', Q', _, _, rfl, Nat.le_refl _, by have := HW.out; have := hk1.out; omega, HI3.out.done (fun k j hn hex => ?_), zr.btw, HO3.out, HQ3.out⟩
              obtain ⟨rfl, h⟩ := hex
              obtain ⟨t, ht, hj⟩ := besideS_all ex.out ey.out hn
              exact h t ht hj
end Go.Proofs.Ytkkhjbdnpobpnaa
