import Derived.Test.YtklcaphkfdlipaaGreatDoorPackVg
/- Several of my texts, one behind the other: DspW, DspF. -/
/- Disputed rings: the walks of both sides. -/
set_option linter.unusedSimpArgs false
set_option linter.unusedVariables false
namespace Go.Proofs.YtklcaphkfdlipaaGreatDoor
open Go.RowKit
set_option maxRecDepth 4000 in
set_option maxHeartbeats 1000000 in
theorem disp1_any (V : List Vw) (v : Vw) (i g3 g6 : Nat) (a b : Option Addr) (c d n : Nat) (w : World) (ok : VwsOk V n) (hv : v ∈ V) (hi : i < n) (h3 : w.cell? ⟨g3, 0, none⟩ = some (.slice b V.length d)) (h6 : w.cell? ⟨g6, 0, none⟩ = some (.int .i64 i))
    (hg3 : g3 < w.heap.size) (hg6 : g6 < w.heap.size) (hr : Row w a (strCells v.own)) (hr' : ViewsR w b V) :
    Calls Tryz.prog 109 #[.agg #[.string v.holder, .slice a v.own.length c], .pointer (some ⟨g3, 0, none⟩), .pointer (some ⟨g6, 0, none⟩)] w (Ret w (.bool (othB v (atV V 0) i))) := by
  have h1 := ok.one
  have hlt : 0 < V.length := by omega
  obtain ⟨b1, o1, a0, c0, rfl, hb1, q0, q1, q2, -, -⟩ := hr'.at_ hlt
  have CT := fun (w : World) (hr : Row w a (strCells v.own)) (hr' : Row w a0 (strCells V[0].own)) => tellsOther_any v V[0] i a a0 c c0 w (by rw [ok.own v hv]; exact hi) (by rw [ok.own _ (List.getElem_mem hlt)]; exact hi) hr hr'
  rw [← atV_get hlt] at q0 q1 q2 CT
  have hv1 : (0 : Int) < (V.length : Int) := by omega
  rw [Nat.zero_mul, Nat.add_zero] at q0 q1
  generalize othB v (atV V 0) i = B at *
  generalize atV V 0 = u at *
  replace CT := Lib.hid CT
  replace hr := Lib.hid hr
  replace q2 := Lib.hid q2
  clear ok hv hr' h1
  go_enter Tryz.func109, Tryz.ntmps109
  go_wp2_with fail
  refine wp_region_plan [(0, true), (1, true), (2, true), (3, true), (4, true), (5, false), (6, true)] (C := LaterC _) (by kernel_rfl) (by kernel_rfl) (by kernel_rfl) rfl (fun _ _ d _ _ h => by cases d <;> exact h) (LaterC.mk ((Below.refl _ _).drew)) ?_
  first | (refine plan_quiet nth0 rfl ?_; intro KP hKP; go_big_quiet_op; go_big_quiet_on) | (refine plan_skip_q nth0 rfl rfl ?_; simp only [Act.put, List.setIfInBounds_toArray, List.set_cons_zero, List.set_cons_succ])
  first | (refine plan_quiet nth1 rfl ?_; intro KP hKP; go_big_quiet_op; go_big_quiet_on) | (refine plan_skip_q nth1 rfl rfl ?_; simp only [Act.put, List.setIfInBounds_toArray, List.set_cons_zero, List.set_cons_succ])
  first | (refine plan_quiet nth2 rfl ?_; intro KP hKP; go_big_quiet_op; go_big_quiet_on) | (refine plan_skip_q nth2 rfl rfl ?_; simp only [Act.put, List.setIfInBounds_toArray, List.set_cons_zero, List.set_cons_succ])
  first | (refine plan_quiet nth3 rfl ?_; intro KP hKP; go_big_quiet_op; go_big_quiet_on) | (refine plan_skip_q nth3 rfl rfl ?_; simp only [Act.put, List.setIfInBounds_toArray, List.set_cons_zero, List.set_cons_succ])
  first | (refine plan_quiet nth4 rfl ?_; intro KP hKP; go_big_quiet_op; go_big_quiet_on) | (refine plan_skip_q nth4 rfl rfl ?_; simp only [Act.put, List.setIfInBounds_toArray, List.set_cons_zero, List.set_cons_succ])
  first | (refine plan_loud nth5 rfl ?_; intro KP hKP; go_wp2_with (first | (go_at_call 82; first | ((with_reducible refine (Calls.later (CT.out _ (hr.out.bel (by (repeat (first | (with_reducible first | exact Below.refl _ _ | assumption | refine Later.out _ ?_ | refine bel_alloc ?_ _ | refine bel_drew ?_ | refine bel_drewN ?_ _ | refine bel_set ?_ ?_ _ | refine After.out _ ?_ ?_) | (dsimp only; omega) | omega | (simp only [World.size_alloc, World.size_setCell, World.size_drew]; omega))))) (q2.out.bel (by (repeat (first | (with_reducible first | exact Below.refl _ _ | assumption | refine Later.out _ ?_ | refine bel_alloc ?_ _ | refine bel_drew ?_ | refine bel_drewN ?_ _ | refine bel_set ?_ ?_ _ | refine After.out _ ?_ ?_) | (dsimp only; omega) | omega | (simp only [World.size_alloc, World.size_setCell, World.size_drew]; omega))))))).mono ?_); rintro e w' ⟨rfl, xl, rfl⟩; have hsz := xl.bel.size; (try simp only [World.size_alloc, World.size_setCell, World.size_drew] at hsz); (try have hz0 : w.heap.size < xl.w.heap.size := (by omega)); (try have hz1 : w.heap.size + 1 < xl.w.heap.size := (by omega)); (try have hz2 : w.heap.size + 1 + 1 < xl.w.heap.size := (by omega))) | ((with_reducible refine (CT.out _ (hr.out.bel (by (repeat (first | (with_reducible first | exact Below.refl _ _ | assumption | refine Later.out _ ?_ | refine bel_alloc ?_ _ | refine bel_drew ?_ | refine bel_drewN ?_ _ | refine bel_set ?_ ?_ _ | refine After.out _ ?_ ?_) | (dsimp only; omega) | omega | (simp only [World.size_alloc, World.size_setCell, World.size_drew]; omega))))) (q2.out.bel (by (repeat (first | (with_reducible first | exact Below.refl _ _ | assumption | refine Later.out _ ?_ | refine bel_alloc ?_ _ | refine bel_drew ?_ | refine bel_drewN ?_ _ | refine bel_set ?_ ?_ _ | refine After.out _ ?_ ?_) | (dsimp only; omega) | omega | (simp only [World.size_alloc, World.size_setCell, World.size_drew]; omega)))))).mono ?_); rintro e w' ⟨rfl, xl, rfl⟩; have hsz := xl.bel.size; (try simp only [World.size_alloc, World.size_setCell, World.size_drew] at hsz); (try have hz0 : w.heap.size < xl.w.heap.size := (by omega)); (try have hz1 : w.heap.size + 1 < xl.w.heap.size := (by omega)); (try have hz2 : w.heap.size + 1 + 1 < xl.w.heap.size := (by omega))))); refine hKP _ _ (LaterC.mk (by (repeat (first | (with_reducible first | exact Below.refl _ _ | assumption | refine Later.out _ ?_ | refine bel_alloc ?_ _ | refine bel_drew ?_ | refine bel_drewN ?_ _ | refine bel_set ?_ ?_ _ | refine After.out _ ?_ ?_) | (dsimp only; omega) | omega | (simp only [World.size_alloc, World.size_setCell, World.size_drew]; omega))))) ?_; clear hKP KP) | (refine plan_skip nth5 rfl rfl (LaterC.mk (by (repeat (first | (with_reducible first | exact Below.refl _ _ | assumption | refine Later.out _ ?_ | refine bel_alloc ?_ _ | refine bel_drew ?_ | refine bel_drewN ?_ _ | refine bel_set ?_ ?_ _ | refine After.out _ ?_ ?_) | (dsimp only; omega) | omega | (simp only [World.size_alloc, World.size_setCell, World.size_drew]; omega))))) ?_; simp only [Act.put, List.setIfInBounds_toArray, List.set_cons_zero, List.set_cons_succ])
  first | (refine plan_quiet nth6 rfl ?_; intro KP hKP; go_big_quiet_op; go_big_quiet_on) | (refine plan_skip_q nth6 rfl rfl ?_; simp only [Act.put, List.setIfInBounds_toArray, List.set_cons_zero, List.set_cons_succ])
  refine plan_nil ?_
  go_wp2_with fail
  go_ret
  exact .mk rfl (by (repeat (first | (with_reducible first | exact Below.refl _ _ | assumption | refine Later.out _ ?_ | refine bel_alloc ?_ _ | refine bel_drew ?_ | refine bel_drewN ?_ _ | refine bel_set ?_ ?_ _ | refine After.out _ ?_ ?_) | (dsimp only; omega) | omega | (simp only [World.size_alloc, World.size_setCell, World.size_drew]; omega))))
theorem tells_disp {V : List Vw} {i g3 g6 d n : Nat} {b : Option Addr} {w : World} (ok : VwsOk V n) (hi : i < n) (h3 : w.cell? ⟨g3, 0, none⟩ = some (.slice b V.length d)) (h6 : w.cell? ⟨g6, 0, none⟩ = some (.int .i64 i))
    (hg3 : g3 < w.heap.size) (hg6 : g6 < w.heap.size) (hr' : ViewsR w b V) :
    TellsV 109 #[] #[.pointer (some ⟨g3, 0, none⟩), .pointer (some ⟨g6, 0, none⟩)] (fun v => othB v (atV V 0) i) V w :=
  fun v hv ai ci w' hb hrow h1 h2 => by simpa using disp1_any V v i g3 g6 ai b ci d n w' ok hv hi ((hb.cell hg3).trans h3) ((hb.cell hg6).trans h6) (Nat.lt_of_lt_of_le hg3 hb.size) (Nat.lt_of_lt_of_le hg6 hb.size) hrow (hr'.bel hb)
theorem enters_disp : ∀ args w, (callFunc 109 args).run Tryz.prog w = .ok (.enter 109 args) w := fun _ _ => by kernel_rfl
set_option maxRecDepth 4000 in
set_option maxHeartbeats 4000000 in
theorem disputed_any (V : List Vw) (a b : Option Addr) (n c m d : Nat) (w : World) (hn : n ≤ 1000) (ok : VwsOk V n) (hn' : V.length = m) (hr' : ViewsR w b V) :
    Calls Tryz.prog 61 #[.slice a n c, .slice b m d] w (RetOwn w 2 1 (dispTo V n).length (intCells (dispTo V n)) id) := by
  subst hn'
  have h4 := ok.four
  obtain ⟨ii, j1, j2, j3, j4⟩ := info_i64'
  have Jii := Lib.hid (And.intro j1 (And.intro j2 (And.intro j3 j4)))
  have CC := Lib.hid (fun (i : Nat) (hi : i < n) (g3 g6 : Nat) (w : World) (h3 : w.cell? ⟨g3, 0, none⟩ = some (.slice b V.length d)) (h6 : w.cell? ⟨g6, 0, none⟩ = some (.int .i64 i)) (hg3 : g3 < w.heap.size) (hg6 : g6 < w.heap.size) (hr' : ViewsR w b V) =>
    containsFuncV_any 109 #[] #[.pointer (some ⟨g3, 0, none⟩), .pointer (some ⟨g6, 0, none⟩)] (fun v => othB v (atV V 0) i) V b V.length d w enters_disp rfl (by omega) hr' (tells_disp (V := V) (i := i) (n := n) ok hi h3 h6 hg3 hg6 hr'))
  have hle := Lib.hid (dispTo_len V)
  have hY := Lib.hid (fun (k : Nat) (h : dispB V k = true) => dispTo_yes h)
  have hN := Lib.hid (fun (k : Nat) (h : dispB V k = false) => dispTo_no h)
  have hB := Lib.hid (fun i => (show V.any (fun v => othB v (atV V 0) i) = dispB V i from rfl))
  replace hr' := Lib.hid hr'
  clear ok j1 j2 j3 j4
  go_enter Tryz.func61, Tryz.ntmps61
  go_wp2_with fail
  go_loopw [5, 9] (fun t5 t9 wr => ∃ (k : Nat) (a5 : Option Addr) (c5 : Nat), k ≤ n ∧ t9 = .int .i64 k ∧ t5 = .slice a5 (dispTo V k).length c5 ∧ wr.ownsRow (w.heap.size + 1) 2 1 (.slice a5 (dispTo V k).length c5) (dispTo V k).length (intCells (dispTo V k)) ∧ ∃ z : Later (w.alloc (.cells #[.slice b V.length d] 31)), wr = z.w) (fun _ t9 _ => n - (intOf t9).toNat)
  case atStart => exact ⟨0, none, 0, Nat.zero_le _, rfl, rfl, World.ownsRow_nil _ _ _ _, LaterC.mk (by (repeat (first | (with_reducible first | exact Below.refl _ _ | assumption | refine Later.out _ ?_ | refine bel_alloc ?_ _ | refine bel_drew ?_ | refine bel_drewN ?_ _ | refine bel_set ?_ ?_ _ | refine After.out _ ?_ ?_) | (dsimp only; omega) | omega | (simp only [World.size_alloc, World.size_setCell, World.size_drew]; omega))))⟩
  case round =>
    obtain ⟨k, a5, c5, hk, rfl, rfl, hown, z, rfl⟩ := hrel
    have hzz := z.bel.size
    simp only [World.size_alloc] at hzz
    replace hown := Lib.hid hown
    have hlk := hle.out k
    by_cases hlt : k < n
    · have hk1 : (k : Int) < (n : Int) := by omega
      have CK := CC.out k hlt w.heap.size z.w.heap.size
      have e := hB.out k
      have Y := hY.out k
      have N := hN.out k
      rw [e] at CK
      have hc3 : z.w.cell? ⟨w.heap.size, 0, none⟩ = some (.slice b V.length d) := by
        refine (z.bel.cell (p := ⟨w.heap.size, 0, none⟩) (by simp only [World.size_alloc]; omega)).trans ?_
        simp [go_sem, ↓IntWalk.iteOmega]
      have hc3' : (z.w.alloc (.cells #[.int .i64 k] 3)).cell? ⟨w.heap.size, 0, none⟩ = some (.slice b V.length d) := by
        refine (Below.cell (((Below.refl _ _).alloc (Nat.le_refl _) _) : Below z.w.heap.size z.w (z.w.alloc (.cells #[.int .i64 k] 3))) (show w.heap.size < z.w.heap.size by omega)).trans hc3
      have hc6' : (z.w.alloc (.cells #[.int .i64 k] 3)).cell? ⟨z.w.heap.size, 0, none⟩ = some (.int .i64 k) := by simp [go_sem, ↓IntWalk.iteOmega]
      have CK2 := CK _ hc3' hc6' (by simp only [World.size_alloc]; omega) (by simp only [World.size_alloc]; omega) (hr'.out.bel (by (repeat (first | (with_reducible first | exact Below.refl _ _ | assumption | refine Later.out _ ?_ | refine bel_alloc ?_ _ | refine bel_drew ?_ | refine bel_drewN ?_ _ | refine bel_set ?_ ?_ _ | refine After.out _ ?_ ?_) | (dsimp only; omega) | omega | (simp only [World.size_alloc, World.size_setCell, World.size_drew]; omega)))))
      clear CK hc3' hc6' e
      replace CK2 := Lib.hid CK2
      go_wp2_with fail
      with_reducible refine CK2.out.mono ?_
      rintro e w' ⟨rfl, y2, rfl⟩
      have hs2 := y2.bel.size
      simp only [World.size_alloc] at hs2
      have hz2 : z.w.heap.size < y2.w.heap.size := by omega
      cases hd : dispB V k
      · have X := Lib.hid (N hd)
        clear Y N
        go_wp2_with fail
        go_roundw
        case rel => exact ⟨k + 1, a5, c5, by omega, by go_num, by rw [X.out], by rw [X.out]; exact own_bel hown.out (by (repeat (first | (with_reducible first | exact Below.refl _ _ | assumption | refine Later.out _ ?_ | refine bel_alloc ?_ _ | refine bel_drew ?_ | refine bel_drewN ?_ _ | refine bel_set ?_ ?_ _ | refine After.out _ ?_ ?_) | (dsimp only; omega) | omega | (simp only [World.size_alloc, World.size_setCell, World.size_drew]; omega)))), LaterC.mk (by (repeat (first | (with_reducible first | exact Below.refl _ _ | assumption | refine Later.out _ ?_ | refine bel_alloc ?_ _ | refine bel_drew ?_ | refine bel_drewN ?_ _ | refine bel_set ?_ ?_ _ | refine After.out _ ?_ ?_) | (dsimp only; omega) | omega | (simp only [World.size_alloc, World.size_setCell, World.size_drew]; omega))))⟩
        case measure => first | (simp [intOf]; done) | (simp [intOf]; omega) | omega
      · have X := Y hd
        have X3 : (dispTo V (k + 1)).length = (dispTo V k).length + 1 := by rw [X]; simp
        replace X := Lib.hid X
        replace X3 := Lib.hid X3
        clear Y N
        have hcl := length_intCells (dispTo V k)
        go_wp2_with (at_builtin; (refine wpList_append_later _ rfl _ _ _ rfl 2 ii _ 1 8 Tryz.underlying26 Jii.out.1 Jii.out.2.1 Jii.out.2.2.1 Jii.out.2.2.2 rfl (by decide) ((w.alloc (.cells #[.slice b V.length d] 31))) ?qa1 _ _ _ (intCells (dispTo V k)) rfl ?qa2 _ _ _ ([.int .i64 k]) rfl ?qa3 ?qa4 ?qa5 ?qa6 ?qa7 ?_); (case qa1 => (repeat (first | (with_reducible first | exact Below.refl _ _ | assumption | refine Later.out _ ?_ | refine bel_alloc ?_ _ | refine bel_drew ?_ | refine bel_drewN ?_ _ | refine bel_set ?_ ?_ _ | refine After.out _ ?_ ?_) | (dsimp only; omega) | omega | (simp only [World.size_alloc, World.size_setCell, World.size_drew]; omega)))); (case qa2 => exact own_mono (own_bel hown.out (by (repeat (first | (with_reducible first | exact Below.refl _ _ | assumption | refine Later.out _ ?_ | refine bel_alloc ?_ _ | refine bel_drew ?_ | refine bel_drewN ?_ _ | refine bel_set ?_ ?_ _ | refine After.out _ ?_ ?_) | (dsimp only; omega) | omega | (simp only [World.size_alloc, World.size_setCell, World.size_drew]; omega))))) (by simp only [World.size_alloc]; omega)); (case qa3 => (first | rfl | (simp [boolCells]; done) | (simp [intCells]; done) | (simp; done) | (first | omega | (simp only [List.length_append, List.length_cons, List.length_nil]; omega)))); (case qa4 => exact Row.madeAt (by simp only [World.size_alloc]; try rfl) rfl); (case qa5 => (intro u hu; simp at hu; subst hu; rfl)); (case qa6 => (unfold maxLen; (first | omega | (simp only [List.length_append, List.length_cons, List.length_nil]; omega)))); (case qa7 => (first | omega | (simp only [List.length_append, List.length_cons, List.length_nil]; omega))); intro a9 c9 x9 hown9)
        replace hown9 := Lib.hid hown9
        go_roundw
        case rel => exact ⟨k + 1, a9, c9, by omega, by go_num, by rw [X3.out], by rw [X3.out, X.out, intCells_snoc]; exact own_mono hown9.out (by simp only [World.size_alloc]; omega), x9, rfl⟩
        case measure => first | (simp [intOf]; done) | (simp [intOf]; omega) | omega
    · obtain rfl : k = n := by omega
      go_wp2_with fail
      go_ret
      exact RetOwn.mk _ rfl (own_mono hown.out (by omega)) (by (repeat (first | (with_reducible first | exact Below.refl _ _ | assumption | refine Later.out _ ?_ | refine bel_alloc ?_ _ | refine bel_drew ?_ | refine bel_drewN ?_ _ | refine bel_set ?_ ?_ _ | refine After.out _ ?_ ?_) | (dsimp only; omega) | omega | (simp only [World.size_alloc, World.size_setCell, World.size_drew]; omega))))
set_option maxRecDepth 4000 in
set_option maxHeartbeats 2000000 in
theorem sDisputed_any (V : List Vw) (i : Nat) (b : Option Addr) (m d n : Nat) (w : World) (ok : VwsOk V n) (hi : i < n) (hn : n ≤ 1000) (hn' : V.length = m) (hr' : ViewsR w b V) :
    Calls Tryz.prog 57 #[.slice b m d, .int .i64 i] w (Ret w (.bool (dispB V i))) := by
  subst hn'
  have h4 := ok.four
  have h1 := ok.one
  have XN := Lib.hid (fun (k : Nat) (h : k < V.length) (hf : othB V[k] (atV V 0) i = true) => (show dispB V i = true from List.any_eq_true.2 ⟨_, List.getElem_mem h, hf⟩))
  have XY := Lib.hid (fun (h : ∀ (k : Nat) (h : k < V.length), othB V[k] (atV V 0) i = false) => (show dispB V i = false from by
    unfold dispB
    rw [List.any_eq_false]
    intro x hx
    obtain ⟨k, hk, rfl⟩ := List.mem_iff_getElem.1 hx
    rw [h k hk]; decide))
  generalize dispB V i = D at *
  have hlt0 : 0 < V.length := by omega
  obtain ⟨b0, o0, a0, c0, rfl, hb0, p0, p1, p2, -, -⟩ := hr'.at_ hlt0
  obtain ⟨bs, os, rfl, hbs, ps⟩ := p2.str (k := i) (by rw [ok.own _ (List.getElem_mem hlt0)]; exact hi)
  have hl0 : V[0].own.length = n := ok.own _ (List.getElem_mem hlt0)
  have e0 : atV V 0 = V[0] := atV_get hlt0
  rw [Nat.zero_mul, Nat.add_zero] at p0 p1
  rw [hl0] at p1
  have hin : (i : Int) < (n : Int) := by omega
  have hv0 : (0 : Int) < (V.length : Int) := by omega
  have eo0 : ownAt V[0] i = V[0].own[i]'(by omega) := ownAt_get (by omega)
  generalize V[0].own[i]'(by omega) = t at *
  replace hr' := Lib.hid hr'
  have okw := Lib.hid ok.own
  clear p2 ok
  go_enter Tryz.func57, Tryz.ntmps57
  go_wp2_with fail
  go_loopw [5] (fun t5 wr => ∃ k : Nat, k ≤ V.length ∧ t5 = .int .i64 k ∧ (∀ (j : Nat) (h : j < V.length), j < k → othB V[j] (atV V 0) i = false) ∧ ∃ z : Later w, wr = z.w) (fun t5 _ => V.length - (intOf t5).toNat)
  case atStart => exact ⟨0, Nat.zero_le _, rfl, fun j _ h => absurd h (by omega), ⟨_, Below.refl _ _⟩, rfl⟩
  case round =>
    obtain ⟨k, hk, rfl, hno, z, rfl⟩ := hrel
    have hzz := z.bel.size
    replace hno := Lib.hid hno
    by_cases hlt : k < V.length
    · have hk1 : (k : Int) < (V.length : Int) := by omega
      obtain ⟨b1, o1, ak, ck, he, hb1, q0, q1, q2, -, -⟩ := hr'.out.at_ hlt
      cases he
      have hlk : V[k].own.length = n := okw.out _ (List.getElem_mem hlt)
      obtain ⟨bk, ok1, rfl, hbk, pk⟩ := q2.str (k := i) (by omega)
      rw [hlk] at q1
      have ek : othB V[k] (atV V 0) i = !((V[k].own[i]'(by omega)).toList == t.toList) := by
        unfold othB
        rw [e0, eo0, ownAt_get (by omega)]
      have Y := fun (h : othB V[k] (atV V 0) i = true) => XN.out k hlt h
      have N := fun (h : othB V[k] (atV V 0) i = false) => (show ∀ (j : Nat) (hj : j < V.length), j < k + 1 → othB V[j] (atV V 0) i = false from fun j hj hjk => by
        rcases Nat.lt_or_ge j k with h1 | h1
        · exact hno.out j hj h1
        · obtain rfl : j = k := by omega
          exact h)
      generalize othB V[k] (atV V 0) i = ob at *
      generalize V[k].own[i]'(by omega) = s at *
      replace Y := Lib.hid Y
      replace N := Lib.hid N
      replace ek := Lib.hid ek
      have z1 : b0 < z.w.heap.size := by omega
      have z2 : bs < z.w.heap.size := by omega
      have z3 : bk < z.w.heap.size := by omega
      clear q2
      replace hlk := Lib.hid hlk
      cases hst : (s.toList == t.toList)
      · have X := Lib.hid (Y.out (by rw [ek.out, hst]; rfl))
        clear Y N
        go_wp2_with fail
        refine wp_region_later (by kernel_rfl) (by kernel_rfl) ?_
        repeat (go_big_quiet_step (fail))
        refine wpQuiet_nil ?_
        rintro _ ⟨xq, rfl⟩
        go_wp2_with fail
        go_ret
        exact .mk (by rw [X.out]; rfl) (by (repeat (first | (with_reducible first | exact Below.refl _ _ | assumption | refine Later.out _ ?_ | refine bel_alloc ?_ _ | refine bel_drew ?_ | refine bel_drewN ?_ _ | refine bel_set ?_ ?_ _ | refine After.out _ ?_ ?_) | (dsimp only; omega) | omega | (simp only [World.size_alloc, World.size_setCell, World.size_drew]; omega))))
      · have X := Lib.hid (N.out (by rw [ek.out, hst]; rfl))
        clear Y N
        go_wp2_with fail
        refine wp_region_later (by kernel_rfl) (by kernel_rfl) ?_
        repeat (go_big_quiet_step (fail))
        refine wpQuiet_nil ?_
        rintro _ ⟨xq, rfl⟩
        go_wp2_with fail
        go_roundw
        case rel => exact ⟨k + 1, by omega, by go_num, X.out, LaterC.mk (by (repeat (first | (with_reducible first | exact Below.refl _ _ | assumption | refine Later.out _ ?_ | refine bel_alloc ?_ _ | refine bel_drew ?_ | refine bel_drewN ?_ _ | refine bel_set ?_ ?_ _ | refine After.out _ ?_ ?_) | (dsimp only; omega) | omega | (simp only [World.size_alloc, World.size_setCell, World.size_drew]; omega))))⟩
        case measure => first | (simp [intOf]; done) | (simp [intOf]; omega) | omega
    · obtain rfl : k = V.length := by omega
      have X := Lib.hid (XY.out fun j hj => hno.out j hj hj)
      go_wp2_with fail
      go_ret
      exact .mk (by rw [X.out]; rfl) (by (repeat (first | (with_reducible first | exact Below.refl _ _ | assumption | refine Later.out _ ?_ | refine bel_alloc ?_ _ | refine bel_drew ?_ | refine bel_drewN ?_ _ | refine bel_set ?_ ?_ _ | refine After.out _ ?_ ?_) | (dsimp only; omega) | omega | (simp only [World.size_alloc, World.size_setCell, World.size_drew]; omega))))
end Go.Proofs.YtklcaphkfdlipaaGreatDoor

/- DisputedRings: both sides. -/
set_option linter.unusedSimpArgs false
set_option linter.unusedVariables false
namespace Go.Proofs.YtklcaphkfdlipaaGreatDoor
open Go.RowKit
noncomputable def drL (R : List (List Pt)) (V : List Vw) : List Int := if viewsB R V then dispTo V R.length else []
noncomputable def drC (R : List (List Pt)) (V : List Vw) : Int := if viewsB R V then 0 else 1
theorem drL_len (R : List (List Pt)) (V : List Vw) : (drL R V).length ≤ 6 := by
  unfold drL
  split
  · rename_i h
    have h1 := mapB_len (viewsB_map h)
    have h2 := dispTo_len V R.length
    omega
  · simp
theorem viewC_nil (R : List (List Pt)) (V : List Vw) : viewC R V [] = drC R V := rfl
set_option maxHeartbeats 2000000 in
theorem dr_impl (R : List (List Pt)) (V : List Vw) (a b : Option Addr) (n c m d : Nat) (w : World) (hn : R.length = n) (hm : n ≤ 1048576) (hc : n ≤ c) (hcm : c ≤ maxLen) (ok : ∀ r ∈ R, r.length ≤ 1048576) (hr : RingsR w a R)
    (hn' : V.length = m) (hm' : m ≤ 1048576) (ok' : ∀ v ∈ V, VwOk v) (hr' : ViewsR w b V) :
    Calls Tryz.prog 13 #[.slice a n c, .slice b m d] w (RetOwn w 2 1 (drL R V).length (intCells (drL R V)) fun v => .tuple #[v, .int .i64 (drC R V)]) := by
  have CC := Lib.hid (fun (w : World) (hr : RingsR w a R) (hr' : ViewsR w b V) => viewCode_any R V [] a b none n c m d 0 0 w hn hm hc hcm ok hr hn' hm' ok' hr' rfl (by omega) (Row.nil _ _))
  rw [viewC_nil] at CC
  replace hr := Lib.hid hr
  replace hr' := Lib.hid hr'
  cases hB : viewsB R V
  · have e1 : drL R V = [] := by unfold drL; rw [hB]; rfl
    have e2 : drC R V = 1 := by unfold drC; rw [hB]; rfl
    rw [e1, e2]
    rw [e2] at CC
    clear e1 e2 hB ok ok' hcm
    go_enter Tryz.func13, Tryz.ntmps13
    go_wp2_with fail
    with_reducible refine (CC.out _ (hr.out.bel (by (repeat (first | (with_reducible first | exact Below.refl _ _ | assumption | refine Later.out _ ?_ | refine bel_alloc ?_ _ | refine bel_drew ?_ | refine bel_drewN ?_ _ | refine bel_set ?_ ?_ _ | refine After.out _ ?_ ?_) | (dsimp only; omega) | omega | (simp only [World.size_alloc, World.size_setCell, World.size_drew]; omega))))) (hr'.out.bel (by (repeat (first | (with_reducible first | exact Below.refl _ _ | assumption | refine Later.out _ ?_ | refine bel_alloc ?_ _ | refine bel_drew ?_ | refine bel_drewN ?_ _ | refine bel_set ?_ ?_ _ | refine After.out _ ?_ ?_) | (dsimp only; omega) | omega | (simp only [World.size_alloc, World.size_setCell, World.size_drew]; omega)))))).mono ?_
    rintro e w' ⟨rfl, y1, rfl⟩
    have hsy1 := y1.bel.size
    (try simp only [World.size_alloc, World.size_setCell, World.size_drew] at hsy1)
    go_wp2_with fail
    refine bodyPost_ret (by simp [results, Tryz.results13, go_sem, ↓IntWalk.iteOmega, *]; try rfl) rfl ?_
    exact RetOwn.mk (.slice none 0 0) rfl (World.ownsRow_nil _ _ _ _) (by (repeat (first | (with_reducible first | exact Below.refl _ _ | assumption | refine Later.out _ ?_ | refine bel_alloc ?_ _ | refine bel_drew ?_ | refine bel_drewN ?_ _ | refine bel_set ?_ ?_ _ | refine After.out _ ?_ ?_) | (dsimp only; omega) | omega | (simp only [World.size_alloc, World.size_setCell, World.size_drew]; omega))))
  · have h6 := mapB_len (viewsB_map hB)
    have CD := Lib.hid (fun (w : World) (hr' : ViewsR w b V) => disputed_any V a b R.length c m d w (by omega) (viewsB_ok hB) hn' hr')
    have e1 : drL R V = dispTo V R.length := by unfold drL; rw [hB]; rfl
    have e2 : drC R V = 0 := by unfold drC; rw [hB]; rfl
    rw [e1, e2]
    rw [e2] at CC
    subst hn
    generalize dispTo V R.length = D at *
    clear e1 e2 hB ok ok' hcm
    go_enter Tryz.func13, Tryz.ntmps13
    go_wp2_with fail
    with_reducible refine (CC.out _ (hr.out.bel (by (repeat (first | (with_reducible first | exact Below.refl _ _ | assumption | refine Later.out _ ?_ | refine bel_alloc ?_ _ | refine bel_drew ?_ | refine bel_drewN ?_ _ | refine bel_set ?_ ?_ _ | refine After.out _ ?_ ?_) | (dsimp only; omega) | omega | (simp only [World.size_alloc, World.size_setCell, World.size_drew]; omega))))) (hr'.out.bel (by (repeat (first | (with_reducible first | exact Below.refl _ _ | assumption | refine Later.out _ ?_ | refine bel_alloc ?_ _ | refine bel_drew ?_ | refine bel_drewN ?_ _ | refine bel_set ?_ ?_ _ | refine After.out _ ?_ ?_) | (dsimp only; omega) | omega | (simp only [World.size_alloc, World.size_setCell, World.size_drew]; omega)))))).mono ?_
    rintro e w' ⟨rfl, y1, rfl⟩
    have hsy1 := y1.bel.size
    (try simp only [World.size_alloc, World.size_setCell, World.size_drew] at hsy1)
    go_wp2_with fail
    with_reducible refine (CD.out _ (hr'.out.bel (by (repeat (first | (with_reducible first | exact Below.refl _ _ | assumption | refine Later.out _ ?_ | refine bel_alloc ?_ _ | refine bel_drew ?_ | refine bel_drewN ?_ _ | refine bel_set ?_ ?_ _ | refine After.out _ ?_ ?_) | (dsimp only; omega) | omega | (simp only [World.size_alloc, World.size_setCell, World.size_drew]; omega)))))).mono ?_
    rintro e w' ⟨a2, c2, rfl, hown, y2, rfl⟩
    have hsy2 := y2.bel.size
    (try simp only [World.size_alloc, World.size_setCell, World.size_drew] at hsy2)
    have O2 := Lib.hid (Owns.of hown)
    clear hown
    go_wp2_with fail
    refine bodyPost_ret (by simp [results, Tryz.results13, go_sem, ↓IntWalk.iteOmega, *]; try rfl) rfl ?_
    exact RetOwn.mk _ rfl (own_mono O2.out.own (by ((try simp only [World.size_alloc, World.size_setCell, World.size_drew]); omega))) (by (repeat (first | (with_reducible first | exact Below.refl _ _ | assumption | refine Later.out _ ?_ | refine bel_alloc ?_ _ | refine bel_drew ?_ | refine bel_drewN ?_ _ | refine bel_set ?_ ?_ _ | refine After.out _ ?_ ?_) | (dsimp only; omega) | omega | (simp only [World.size_alloc, World.size_setCell, World.size_drew]; omega))))
set_option maxRecDepth 4000 in
set_option maxHeartbeats 2000000 in
theorem dr_spec (R : List (List Pt)) (V : List Vw) (a b : Option Addr) (n c m d : Nat) (w : World) (hn : R.length = n) (hm : n ≤ 1048576) (ok : ∀ r ∈ R, r.length ≤ 1048576) (hr : RingsR w a R)
    (hn' : V.length = m) (hm' : m ≤ 1048576) (ok' : ∀ v ∈ V, VwOk v) (hr' : ViewsR w b V) :
    Calls Tryz.prog 10 #[.slice a n c, .slice b m d] w (RetOwn w 2 1 (drL R V).length (intCells (drL R V)) fun v => .tuple #[v, .int .i64 (drC R V)]) := by
  have CC := Lib.hid (fun (w : World) (hr : RingsR w a R) (hr' : ViewsR w b V) => sAreViews_any R V a b n c m d w hn hm ok hr hn' hm' ok' hr')
  replace hr := Lib.hid hr
  replace hr' := Lib.hid hr'
  cases hB : viewsB R V
  · have e1 : drL R V = [] := by unfold drL; rw [hB]; rfl
    have e2 : drC R V = 1 := by unfold drC; rw [hB]; rfl
    rw [e1, e2]
    rw [hB] at CC
    clear e1 e2 hB ok ok'
    go_enter Tryz.func10, Tryz.ntmps10
    go_wp2_with fail
    with_reducible refine (CC.out _ (hr.out.bel (by (repeat (first | (with_reducible first | exact Below.refl _ _ | assumption | refine Later.out _ ?_ | refine bel_alloc ?_ _ | refine bel_drew ?_ | refine bel_drewN ?_ _ | refine bel_set ?_ ?_ _ | refine After.out _ ?_ ?_) | (dsimp only; omega) | omega | (simp only [World.size_alloc, World.size_setCell, World.size_drew]; omega))))) (hr'.out.bel (by (repeat (first | (with_reducible first | exact Below.refl _ _ | assumption | refine Later.out _ ?_ | refine bel_alloc ?_ _ | refine bel_drew ?_ | refine bel_drewN ?_ _ | refine bel_set ?_ ?_ _ | refine After.out _ ?_ ?_) | (dsimp only; omega) | omega | (simp only [World.size_alloc, World.size_setCell, World.size_drew]; omega)))))).mono ?_
    rintro e w' ⟨rfl, y1, rfl⟩
    have hsy1 := y1.bel.size
    (try simp only [World.size_alloc, World.size_setCell, World.size_drew] at hsy1)
    go_wp2_with fail
    refine bodyPost_ret (by simp [results, Tryz.results10, go_sem, ↓IntWalk.iteOmega, *]; try rfl) rfl ?_
    exact RetOwn.mk (.slice none 0 0) rfl (World.ownsRow_nil _ _ _ _) (by (repeat (first | (with_reducible first | exact Below.refl _ _ | assumption | refine Later.out _ ?_ | refine bel_alloc ?_ _ | refine bel_drew ?_ | refine bel_drewN ?_ _ | refine bel_set ?_ ?_ _ | refine After.out _ ?_ ?_) | (dsimp only; omega) | omega | (simp only [World.size_alloc, World.size_setCell, World.size_drew]; omega))))
  · subst hn
    have h6 := mapB_len (viewsB_map hB)
    have CD := Lib.hid (fun (i : Nat) (hi : i < R.length) (w : World) (hr' : ViewsR w b V) => sDisputed_any V i b m d R.length w (viewsB_ok hB) hi (by omega) hn' hr')
    obtain ⟨ii, j1, j2, j3, j4⟩ := info_i64'
    have Jii := Lib.hid (And.intro j1 (And.intro j2 (And.intro j3 j4)))
    have e1 : drL R V = dispTo V R.length := by unfold drL; rw [hB]; rfl
    have e2 : drC R V = 0 := by unfold drC; rw [hB]; rfl
    rw [e1, e2]
    rw [hB] at CC
    have hle := Lib.hid (dispTo_len V)
    have hY := Lib.hid (fun (k : Nat) (h : dispB V k = true) => dispTo_yes h)
    have hN := Lib.hid (fun (k : Nat) (h : dispB V k = false) => dispTo_no h)
    have hlit := Lib.hid (fun (W : World) (h : w.heap.size ≤ W.heap.size) => World.ownsRow_lit (base := w.heap.size) (e := 2) (size := 1) W #[] 0 h (by unfold maxLen; omega) rfl)
    clear e1 e2 hB ok ok' j1 j2 j3 j4
    go_enter Tryz.func10, Tryz.ntmps10
    go_wp2_with fail
    with_reducible refine (CC.out _ (hr.out.bel (by (repeat (first | (with_reducible first | exact Below.refl _ _ | assumption | refine Later.out _ ?_ | refine bel_alloc ?_ _ | refine bel_drew ?_ | refine bel_drewN ?_ _ | refine bel_set ?_ ?_ _ | refine After.out _ ?_ ?_) | (dsimp only; omega) | omega | (simp only [World.size_alloc, World.size_setCell, World.size_drew]; omega))))) (hr'.out.bel (by (repeat (first | (with_reducible first | exact Below.refl _ _ | assumption | refine Later.out _ ?_ | refine bel_alloc ?_ _ | refine bel_drew ?_ | refine bel_drewN ?_ _ | refine bel_set ?_ ?_ _ | refine After.out _ ?_ ?_) | (dsimp only; omega) | omega | (simp only [World.size_alloc, World.size_setCell, World.size_drew]; omega)))))).mono ?_
    rintro e w' ⟨rfl, y1, rfl⟩
    have hsy1 := y1.bel.size
    (try simp only [World.size_alloc, World.size_setCell, World.size_drew] at hsy1)
    go_wp2_with fail
    go_loopw [6, 7] (fun t6 t7 wr => ∃ (k : Nat) (a5 : Option Addr) (c5 : Nat), k ≤ R.length ∧ t7 = .int .i64 k ∧ t6 = .slice a5 (dispTo V k).length c5 ∧ wr.ownsRow w.heap.size 2 1 (.slice a5 (dispTo V k).length c5) (dispTo V k).length (intCells (dispTo V k)) ∧ ∃ z : Later w, wr = z.w) (fun _ t7 _ => R.length - (intOf t7).toNat)
    case atStart => exact ⟨0, _, _, Nat.zero_le _, rfl, rfl, hlit.out _ hsy1, LaterC.mk (by (repeat (first | (with_reducible first | exact Below.refl _ _ | assumption | refine Later.out _ ?_ | refine bel_alloc ?_ _ | refine bel_drew ?_ | refine bel_drewN ?_ _ | refine bel_set ?_ ?_ _ | refine After.out _ ?_ ?_) | (dsimp only; omega) | omega | (simp only [World.size_alloc, World.size_setCell, World.size_drew]; omega))))⟩
    case round =>
      obtain ⟨k, a5, c5, hk, rfl, rfl, hown, z, rfl⟩ := hrel
      have hzz := z.bel.size
      replace hown := Lib.hid hown
      have hlk := hle.out k
      by_cases hlt : k < R.length
      · have hk1 : (k : Int) < (R.length : Int) := by omega
        have CK := Lib.hid (CD.out k hlt)
        have Y := hY.out k
        have N := hN.out k
        go_wp2_with fail
        with_reducible refine (CK.out _ (hr'.out.bel (by (repeat (first | (with_reducible first | exact Below.refl _ _ | assumption | refine Later.out _ ?_ | refine bel_alloc ?_ _ | refine bel_drew ?_ | refine bel_drewN ?_ _ | refine bel_set ?_ ?_ _ | refine After.out _ ?_ ?_) | (dsimp only; omega) | omega | (simp only [World.size_alloc, World.size_setCell, World.size_drew]; omega)))))).mono ?_
        rintro e w' ⟨rfl, y2, rfl⟩
        have hsy2 := y2.bel.size
        (try simp only [World.size_alloc, World.size_setCell, World.size_drew] at hsy2)
        cases hd : dispB V k
        · have X := Lib.hid (N hd)
          clear Y N
          go_wp2_with fail
          go_roundw
          case rel => exact ⟨k + 1, a5, c5, by omega, by go_num, by rw [X.out], by rw [X.out]; exact own_bel hown.out (by (repeat (first | (with_reducible first | exact Below.refl _ _ | assumption | refine Later.out _ ?_ | refine bel_alloc ?_ _ | refine bel_drew ?_ | refine bel_drewN ?_ _ | refine bel_set ?_ ?_ _ | refine After.out _ ?_ ?_) | (dsimp only; omega) | omega | (simp only [World.size_alloc, World.size_setCell, World.size_drew]; omega)))), LaterC.mk (by (repeat (first | (with_reducible first | exact Below.refl _ _ | assumption | refine Later.out _ ?_ | refine bel_alloc ?_ _ | refine bel_drew ?_ | refine bel_drewN ?_ _ | refine bel_set ?_ ?_ _ | refine After.out _ ?_ ?_) | (dsimp only; omega) | omega | (simp only [World.size_alloc, World.size_setCell, World.size_drew]; omega))))⟩
          case measure => first | (simp [intOf]; done) | (simp [intOf]; omega) | omega
        · have X := Y hd
          have X3 : (dispTo V (k + 1)).length = (dispTo V k).length + 1 := by rw [X]; simp
          replace X := Lib.hid X
          replace X3 := Lib.hid X3
          clear Y N
          have hcl := length_intCells (dispTo V k)
          go_wp2_with (at_builtin; (refine wpList_append_later _ rfl _ _ _ rfl 2 ii _ 1 8 Tryz.underlying26 Jii.out.1 Jii.out.2.1 Jii.out.2.2.1 Jii.out.2.2.2 rfl (by decide) (w) ?qa1 _ _ _ (intCells (dispTo V k)) rfl ?qa2 _ _ _ ([.int .i64 k]) rfl ?qa3 ?qa4 ?qa5 ?qa6 ?qa7 ?_); (case qa1 => (repeat (first | (with_reducible first | exact Below.refl _ _ | assumption | refine Later.out _ ?_ | refine bel_alloc ?_ _ | refine bel_drew ?_ | refine bel_drewN ?_ _ | refine bel_set ?_ ?_ _ | refine After.out _ ?_ ?_) | (dsimp only; omega) | omega | (simp only [World.size_alloc, World.size_setCell, World.size_drew]; omega)))); (case qa2 => exact own_bel hown.out (by (repeat (first | (with_reducible first | exact Below.refl _ _ | assumption | refine Later.out _ ?_ | refine bel_alloc ?_ _ | refine bel_drew ?_ | refine bel_drewN ?_ _ | refine bel_set ?_ ?_ _ | refine After.out _ ?_ ?_) | (dsimp only; omega) | omega | (simp only [World.size_alloc, World.size_setCell, World.size_drew]; omega))))); (case qa3 => (first | rfl | (simp [boolCells]; done) | (simp [intCells]; done) | (simp; done) | (first | omega | (simp only [List.length_append, List.length_cons, List.length_nil]; omega)))); (case qa4 => exact Row.madeAt (by simp only [World.size_alloc]; try rfl) rfl); (case qa5 => (intro u hu; simp at hu; subst hu; rfl)); (case qa6 => (unfold maxLen; (first | omega | (simp only [List.length_append, List.length_cons, List.length_nil]; omega)))); (case qa7 => (first | omega | (simp only [List.length_append, List.length_cons, List.length_nil]; omega))); intro a9 c9 x9 hown9)
          replace hown9 := Lib.hid hown9
          go_roundw
          case rel => exact ⟨k + 1, a9, c9, by omega, by go_num, by rw [X3.out], by rw [X3.out, X.out, intCells_snoc]; exact hown9.out, x9, rfl⟩
          case measure => first | (simp [intOf]; done) | (simp [intOf]; omega) | omega
      · obtain rfl : k = R.length := by omega
        go_wp2_with fail
        refine bodyPost_ret (by simp [results, Tryz.results10, go_sem, ↓IntWalk.iteOmega, *]; try rfl) rfl ?_
        exact RetOwn.mk _ rfl hown.out (by (repeat (first | (with_reducible first | exact Below.refl _ _ | assumption | refine Later.out _ ?_ | refine bel_alloc ?_ _ | refine bel_drew ?_ | refine bel_drewN ?_ _ | refine bel_set ?_ ?_ _ | refine After.out _ ?_ ?_) | (dsimp only; omega) | omega | (simp only [World.size_alloc, World.size_setCell, World.size_drew]; omega))))
end Go.Proofs.YtklcaphkfdlipaaGreatDoor
