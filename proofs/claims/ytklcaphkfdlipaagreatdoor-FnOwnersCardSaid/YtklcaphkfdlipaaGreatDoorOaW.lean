import Derived.Test.YtklcaphkfdlipaaGreatDoorPackVa
import Derived.Test.YtklcaphkfdlipaaGreatDoorPackVl
import Derived.Test.YtklcaphkfdlipaaGreatDoorMapW
import Derived.Test.YtklcaphkfdlipaaGreatDoorPackVg
/- OwnersAt: both sides. -/
set_option linter.unusedSimpArgs false
set_option linter.unusedVariables false
namespace Go.Proofs.YtklcaphkfdlipaaGreatDoor
open Go.RowKit
/-- Does a point lie inside of a ring? -/
def inP2 (p : Pt) (r : List Pt) : Bool := decide (0 < sideZ r p)
/-- The first ring inside of which a point lies. -/
def oaI (R : List (List Pt)) (p : Pt) : Int := idxG (inP2 p) R
theorem oaI_cases (R : List (List Pt)) (p : Pt) : (oaI R p = -1 ∧ ∀ k (h : k < R.length), inP2 p R[k] = false) ∨ (∃ j : Nat, oaI R p = j ∧ ∃ h : j < R.length, inP2 p R[j] = true) := by
  unfold oaI idxG
  cases h : R.findIdx? (inP2 p) with
  | none =>
    rw [List.findIdx?_eq_none_iff] at h
    exact .inl ⟨rfl, fun k hk => h _ (List.getElem_mem hk)⟩
  | some i =>
    rw [List.findIdx?_eq_some_iff_getElem] at h
    obtain ⟨hi, hp, _⟩ := h
    exact .inr ⟨i, rfl, hi, hp⟩
/-- The owner that a view tells for it. -/
def oaS (R : List (List Pt)) (p : Pt) (v : Vw) : ByteArray := if 0 ≤ oaI R p then ownAt v (oaI R p).toNat else .empty
noncomputable def oaB (R : List (List Pt)) (V : List Vw) (p : Pt) : Bool := viewsB R V && isPointB p.x p.y
noncomputable def oaC (R : List (List Pt)) (V : List Vw) (p : Pt) : Int := if oaB R V p then 0 else 1
noncomputable def oaL (R : List (List Pt)) (V : List Vw) (p : Pt) : List ByteArray := if oaB R V p then V.map (oaS R p) else []
/-- The owner behind the last of the first rings inside of which a point lies. -/
def lastO (R : List (List Pt)) (p : Pt) (v : Vw) : Nat → ByteArray
  | 0 => .empty
  | k + 1 => if inP2 p (R.getD k []) then ownAt v k else lastO R p v k
theorem lastO_none {R : List (List Pt)} {p : Pt} {v : Vw} : ∀ k, k ≤ R.length → (∀ j (h : j < R.length), j < k → inP2 p R[j] = false) → lastO R p v k = .empty
  | 0, _, _ => rfl
  | k + 1, hk, h => by
    have e : R.getD k [] = R[k] := by simp [show k < R.length by omega]
    show (if inP2 p (R.getD k []) then _ else _) = _
    rw [e, h k (by omega) (by omega)]
    exact lastO_none k (by omega) fun j h1 h2 => h j h1 (by omega)
theorem lastO_one {R : List (List Pt)} {p : Pt} {v : Vw} {j : Nat} (hj : j < R.length) (h1 : inP2 p R[j] = true) (h : ∀ i (hi : i < R.length), inP2 p R[i] = true → i = j) : ∀ k, j < k → k ≤ R.length → lastO R p v k = ownAt v j
  | 0, h0, _ => absurd h0 (by omega)
  | k + 1, h0, hk => by
    have e : R.getD k [] = R[k] := by simp [show k < R.length by omega]
    show (if inP2 p (R.getD k []) then _ else _) = _
    rw [e]
    by_cases hkj : k = j
    · subst hkj; rw [if_pos h1]
    · have : inP2 p R[k] = false := by
        rw [Bool.eq_false_iff]
        exact fun hc => hkj (h k (by omega) hc)
      rw [this]
      exact lastO_one hj h1 h k (by omega) (by omega)
/-- On a map the first and the last one are the same. -/
theorem lastO_all {R : List (List Pt)} {p : Pt} {v : Vw} (hM : mapB R = true) (hp : isPointB p.x p.y = true) : lastO R p v R.length = oaS R p v := by
  have hR := mapB_rings hM
  obtain ⟨p1, p2, p3, p4⟩ := isPointB_iff.1 hp
  have sp : SmPt p := ⟨p1, p2, p3, p4⟩
  unfold oaS
  rcases oaI_cases R p with ⟨e, h⟩ | ⟨j, e, hj, h⟩
  · rw [e, if_neg (by omega)]
    exact lastO_none _ (Nat.le_refl _) fun k hk _ => h k hk
  · rw [e, if_pos (by omega), Int.toNat_natCast]
    refine lastO_one hj h (fun i hi h2 => ?_) _ hj (Nat.le_refl _)
    unfold inP2 at h h2
    rw [decide_eq_true_eq] at h h2
    have key : ∀ a b (ha : a < R.length) (hb : b < R.length), b < a → 0 < sideZ R[a] p → 0 < sideZ R[b] p → False := fun a b ha hb hlt k1 k2 => by
      unfold mapB at hM
      simp only [Bool.and_eq_true, List.all_eq_true] at hM
      have h5 := hM.2 a (List.mem_range.2 ha)
      unfold mapAt at h5
      rw [List.all_eq_true] at h5
      have h6 := h5 b (List.mem_range.2 hlt)
      have e1 : R.getD a [] = R[a] := by simp [ha]
      have e2 : R.getD b [] = R[b] := by simp [hb]
      rw [e1, e2] at h6
      exact one_in (hR _ (List.getElem_mem ha)) (hR _ (List.getElem_mem hb)) h6 sp k1 k2
    rcases Nat.lt_trichotomy i j with h3 | h3 | h3
    · exact absurd (key j i hj hi h3 h h2) id
    · exact h3
    · exact absurd (key i j hi hj h3 h2 h) id
theorem strPart_skip (l : List ByteArray) (k : Nat) (h : k < l.length) (he : l[k] = .empty) : strPart l (k + 1) = strPart l k := by
  have e : l.length - k = (l.length - (k + 1)) + 1 := by omega
  unfold strPart
  rw [e, List.replicate_succ, List.take_succ_eq_append_getElem h, he]
  simp only [strCells, List.map_append, List.map_cons, List.map_nil, List.append_assoc, List.cons_append, List.nil_append]
set_option maxHeartbeats 1000000 in
theorem oa1_any (r : List Pt) (p : Pt) (g : Nat) (a : Option Addr) (c : Nat) (w : World) (hR : ringB r = true) (hp : PtB p) (h0 : w.cell? ⟨g, 0, none⟩ = some (.int .i64 p.x)) (h1 : w.cell? ⟨g, 1, none⟩ = some (.int .i64 p.y)) (hg : g < w.heap.size) (hr : Row w a (ptsCells r)) :
    Calls Tryz.prog 96 #[.slice a r.length c, .pointer (some ⟨g, 0, none⟩)] w (Ret w (.bool (inP2 p r))) := by
  have CS := Lib.hid (fun (w : World) (hr : Row w a (ptsCells r)) => side_any r p a r.length c w rfl (by have := (ringB_sizes hR).2; omega) (ringB_smL hR).ptsB hp hr)
  have e : inP2 p r = decide (0 < sideZ r p) := rfl
  rw [e]
  generalize sideZ r p = S at *
  replace hr := Lib.hid hr
  clear hR hp e
  go_enter Tryz.func96, Tryz.ntmps96
  go_wp2_with fail
  with_reducible refine (CS.out _ (hr.out.bel bb)).mono ?_
  rintro e w' ⟨rfl, y1, rfl⟩
  have hsy1 := y1.bel.size
  (try simp only [World.size_alloc, World.size_setCell, World.size_drew] at hsy1)
  go_wp2_with fail
  go_ret
  exact .mk rfl bb
theorem tells_oa {R : List (List Pt)} {p : Pt} {g : Nat} {w : World} (hR : ∀ r ∈ R, ringB r = true) (hp : PtB p) (h0 : w.cell? ⟨g, 0, none⟩ = some (.int .i64 p.x)) (h1 : w.cell? ⟨g, 1, none⟩ = some (.int .i64 p.y)) (hg : g < w.heap.size) :
    TellsG 96 #[] #[.pointer (some ⟨g, 0, none⟩)] (inP2 p) R w :=
  fun r hm ai ci w' hb hrow _ _ => by simpa using oa1_any r p g ai ci w' (hR r hm) hp ((hb.cell hg).trans h0) ((hb.cell hg).trans h1) (Nat.lt_of_lt_of_le hg hb.size) hrow
theorem enters_oa : ∀ args w, (callFunc 96 args).run Tryz.prog w = .ok (.enter 96 args) w := fun _ _ => by kernel_rfl
set_option maxRecDepth 8000 in
set_option maxHeartbeats 4000000 in
theorem oa_impl (R : List (List Pt)) (V : List Vw) (p : Pt) (a b : Option Addr) (n c m d : Nat) (w : World) (hn : R.length = n) (hm : n ≤ 1048576) (hc : n ≤ c) (hcm : c ≤ maxLen) (ok : ∀ r ∈ R, r.length ≤ 1048576) (hr : RingsR w a R)
    (hn' : V.length = m) (hm' : m ≤ 1048576) (ok' : ∀ v ∈ V, VwOk v) (hr' : ViewsR w b V) :
    Calls Tryz.prog 49 #[.slice a n c, .slice b m d, .agg #[.int .i64 p.x, .int .i64 p.y]] w (RetOwn w 9 1 (oaL R V p).length (strCells (oaL R V p)) fun v => .tuple #[v, .int .i64 (oaC R V p)]) := by
  subst hn hn'
  have CC := Lib.hid (fun (w : World) (hr : RingsR w a R) (hr' : ViewsR w b V) => areViews_any R V a b R.length c V.length d w rfl hm hc hcm ok hr rfl hm' ok' hr')
  replace hr := Lib.hid hr
  replace hr' := Lib.hid hr'
  have CP := isPoint_any p.x p.y
  have hB : oaB R V p = (viewsB R V && isPointB p.x p.y) := rfl
  cases hB1 : viewsB R V
  · have e0 : oaB R V p = false := by rw [hB, hB1]; rfl
    have e1 : oaL R V p = [] := by unfold oaL; rw [e0]; rfl
    have e2 : oaC R V p = 1 := by unfold oaC; rw [e0]; rfl
    rw [e1, e2]
    rw [hB1] at CC
    clear e0 e1 e2 hB hB1 ok ok' hcm CP
    go_enter Tryz.func49, Tryz.ntmps49
    go_wp2_with fail
    with_reducible refine (CC.out _ (hr.out.bel bb) (hr'.out.bel bb)).mono ?_
    rintro e w' ⟨rfl, y1, rfl⟩
    have hsy1 := y1.bel.size
    (try simp only [World.size_alloc, World.size_setCell, World.size_drew] at hsy1)
    go_wp2_with fail
    refine bodyPost_ret (by simp [results, Tryz.results49, go_sem, ↓IntWalk.iteOmega, *]; try rfl) rfl ?_
    exact RetOwn.mk (.slice none 0 0) rfl (World.ownsRow_nil _ _ _ _) bb
  cases hB2 : isPointB p.x p.y
  · have e0 : oaB R V p = false := by rw [hB, hB1, hB2]; rfl
    have e1 : oaL R V p = [] := by unfold oaL; rw [e0]; rfl
    have e2 : oaC R V p = 1 := by unfold oaC; rw [e0]; rfl
    rw [e1, e2]
    rw [hB1] at CC
    simp only [hB2] at CP
    replace CP := Lib.hid CP
    obtain ⟨px, py⟩ := p
    clear e0 e1 e2 hB hB1 ok ok' hcm hB2
    go_enter Tryz.func49, Tryz.ntmps49
    go_wp2_with fail
    with_reducible refine (CC.out _ (hr.out.bel bb) (hr'.out.bel bb)).mono ?_
    rintro e w' ⟨rfl, y1, rfl⟩
    have hsy1 := y1.bel.size
    (try simp only [World.size_alloc, World.size_setCell, World.size_drew] at hsy1)
    go_wp2_with fail
    with_reducible refine (CP.out _).mono ?_
    rintro e w' ⟨rfl, y2, rfl⟩
    have hsy2 := y2.bel.size
    (try simp only [World.size_alloc, World.size_setCell, World.size_drew] at hsy2)
    go_wp2_with fail
    refine bodyPost_ret (by simp [results, Tryz.results49, go_sem, ↓IntWalk.iteOmega, *]; try rfl) rfl ?_
    exact RetOwn.mk (.slice none 0 0) rfl (World.ownsRow_nil _ _ _ _) bb
  have e0 : oaB R V p = true := by rw [hB, hB1, hB2]; rfl
  have e1 : oaL R V p = V.map (oaS R p) := by unfold oaL; rw [e0]; rfl
  have e2 : oaC R V p = 0 := by unfold oaC; rw [e0]; rfl
  rw [e1, e2, List.length_map]
  rw [hB1] at CC
  simp only [hB2] at CP
  have h6 := mapB_len (viewsB_map hB1)
  have hR := mapB_rings (viewsB_map hB1)
  have hvo := viewsB_ok hB1
  have h4 := hvo.four
  obtain ⟨p1, p2, p3, p4⟩ := isPointB_iff.1 hB2
  have hpb : PtB p := ⟨by omega, by omega, by omega, by omega⟩
  have CI := Lib.hid (fun (g : Nat) (w : World) (h0 : w.cell? ⟨g, 0, none⟩ = some (.int .i64 p.x)) (h1 : w.cell? ⟨g, 1, none⟩ = some (.int .i64 p.y)) (hg : g < w.heap.size) (hr : RingsR w a R) => indexFuncG_any 96 #[] #[.pointer (some ⟨g, 0, none⟩)] (inP2 p) R a R.length c w enters_oa rfl hm hr (tells_oa hR hpb h0 h1 hg))
  have hI := oaI_cases R p
  have eI : idxG (inP2 p) R = oaI R p := rfl
  rw [eI] at CI
  have hMf : ∀ (k : Nat) (hk : k < V.length), (V.map (oaS R p))[k]? = some (oaS R p V[k]) := fun k hk => by simp [hk]
  have hMl : (V.map (oaS R p)).length = V.length := by simp
  have hS : ∀ v, oaS R p v = if 0 ≤ oaI R p then ownAt v (oaI R p).toNat else .empty := fun v => rfl
  generalize V.map (oaS R p) = ML at *
  generalize oaS R p = F at *
  generalize oaI R p = I at *
  have hI2 : (I = -1) ∨ (∃ j : Nat, I = j ∧ j < R.length) := by
    rcases hI with ⟨h1, _⟩ | ⟨j, h1, h2, _⟩
    · exact .inl h1
    · exact .inr ⟨j, h1, h2⟩
  replace CP := Lib.hid CP
  have hmk := run_make_row' (P := Tryz.prog) 46 9 (.string ByteArray.empty) 16 Tryz.underlying46 info_str rfl .i64 .i64 V.length (by omega) (by omega)
  have hmade : ∀ (W : World) (B : Nat), B ≤ W.heap.size → (W.alloc (.cells (madeCells #[.string ByteArray.empty] V.length) 9)).ownsRow B 9 1 (.slice (some ⟨W.heap.size, 0, none⟩) V.length V.length) V.length (strPart ML 0) := fun W B hB => by
    have hown0 := World.ownsRow_lit (base := B) (e := 9) (size := 1) W (madeCells #[.string ByteArray.empty] V.length) V.length hB (by unfold maxLen; omega) (by simp [size_madeCells])
    rw [toList_madeCells_one] at hown0
    rw [show List.replicate V.length (Value.string ByteArray.empty) = strPart ML 0 by simp [strPart, strCells, hMl]] at hown0
    exact hown0
  replace hmade := Lib.hid hmade
  replace hMf := Lib.hid hMf
  replace hS := Lib.hid hS
  have hvl := Lib.hid hvo.own
  obtain ⟨px, py⟩ := p
  dsimp only at *
  clear e0 e1 e2 hB hB1 hB2 ok ok' hcm hR hvo hI eI p1 p2 p3 p4 hpb
  go_enter Tryz.func49, Tryz.ntmps49
  go_wp2_with fail
  with_reducible refine (CC.out _ (hr.out.bel bb) (hr'.out.bel bb)).mono ?_
  rintro e w' ⟨rfl, y1, rfl⟩
  have hsy1 := y1.bel.size
  (try simp only [World.size_alloc, World.size_setCell, World.size_drew] at hsy1)
  go_wp2_with fail
  with_reducible refine (CP.out _).mono ?_
  rintro e w' ⟨rfl, y2, rfl⟩
  have hsy2 := y2.bel.size
  (try simp only [World.size_alloc, World.size_setCell, World.size_drew] at hsy2)
  go_wp2_with fail
  have hbb : Below (w.alloc (.cells #[.int .i64 px, .int .i64 py] 72)).heap.size (w.alloc (.cells #[.int .i64 px, .int .i64 py] 72)) y2.w := (y1.bel).trans (y2.bel.mono y1.bel.size)
  have k0 : (w.alloc (.cells #[.int .i64 px, .int .i64 py] 72)).cell? ⟨w.heap.size, 0, none⟩ = some (.int .i64 px) := by simp [go_sem, ↓IntWalk.iteOmega]
  have k1 : (w.alloc (.cells #[.int .i64 px, .int .i64 py] 72)).cell? ⟨w.heap.size, 1, none⟩ = some (.int .i64 py) := by simp [go_sem, ↓IntWalk.iteOmega]
  have hgl : w.heap.size < (w.alloc (.cells #[.int .i64 px, .int .i64 py] 72)).heap.size := by simp only [World.size_alloc]; omega
  have CI2 := CI.out w.heap.size y2.w ((hbb.cell (p := ⟨w.heap.size, 0, none⟩) hgl).trans k0) ((hbb.cell (p := ⟨w.heap.size, 1, none⟩) hgl).trans k1) (Nat.lt_of_lt_of_le hgl hbb.size) (hr.out.bel bb)
  with_reducible refine CI2.mono ?_
  rintro e w' ⟨rfl, y3, rfl⟩
  have hs3 := y3.bel.size
  have hws : w.heap.size ≤ y3.w.heap.size := by omega
  have HO := Lib.hid (hmade.out y3.w y3.w.heap.size (Nat.le_refl _))
  clear hbb k0 k1 hgl CI2 CI CC CP hmade
  go_wp2_with fail
  clear hmk
  go_loopw [29] (fun i wr => ∃ k : Nat, k ≤ V.length ∧ i = .int .i64 k ∧ Owns wr y3.w.heap.size (y3.w.heap.size + 1) 9 1 V.length (some ⟨y3.w.heap.size, 0, none⟩) V.length (strPart ML k) ∧ y3.w.heap.size < wr.heap.size ∧ ∃ z : Later y3.w, wr = z.w) (fun i _ => V.length - (intOf i).toNat)
  case atStart => exact ⟨0, Nat.zero_le _, rfl, ⟨HO.out, fun p hp => by cases hp; dsimp only; omega⟩, by simp only [World.size_alloc]; omega, ⟨_, bel_alloc (Below.refl _ _) _⟩, rfl⟩
  case round =>
    obtain ⟨k, hk, rfl, hown, hlt3, z, rfl⟩ := hrel
    have hzz := z.bel.size
    by_cases hlt : k < V.length
    · have hk1 : (k : Int) < (V.length : Int) := by omega
      obtain ⟨b1, o1, ai, ci, rfl, hb1, q0, q1, q2, -, -⟩ := hr'.out.at_ hlt
      have hl := hvl.out _ (List.getElem_mem hlt)
      rw [hl] at q1
      have hMk := hMf.out k hlt
      have hkM : k < ML.length := by omega
      have eM : ML[k] = F V[k] := by rw [List.getElem?_eq_getElem hkM] at hMk; injection hMk
      have hSk := hS.out V[k]
      have hb1z : b1 < z.w.heap.size := by omega
      have hb1y : b1 < y3.w.heap.size := by omega
      replace hown := Lib.hid hown
      rcases hI2 with rfl | ⟨j, rfl, hj⟩
      · have hsk := strPart_skip ML k hkM (by rw [eM, hSk, if_neg (by omega)])
        replace hsk := Lib.hid hsk
        clear hSk eM hMk q2
        go_wp2_with fail
        go_roundw
        case rel =>
          refine ⟨k + 1, by omega, by go_num, ?_, by (try simp only [World.size_alloc, World.size_setCell]); omega, LaterC.mk bb⟩
          rw [hsk.out]
          (repeat (first | (with_reducible exact hown.out) | (with_reducible refine owns_after _ ?_ ?_) | (with_reducible refine owns_later _ ?_ ?_) | (with_reducible refine owns_alloc ?_ _) | (with_reducible refine owns_set ?_ ?_ _) | (with_reducible refine Owns.drewN ?_ _) | (with_reducible refine owns_drew ?_) | (dsimp only; omega) | omega | ((try simp only [World.size_alloc, World.size_setCell, World.size_drew]); omega)))
        case measure => first | (simp [intOf]; done) | (simp [intOf]; omega) | omega
      · obtain ⟨b3, o3, rfl, hb3, c3⟩ := q2.str (k := j) (by omega)
        have eo : V[k].own[j]'(by omega) = ownAt V[k] j := by rw [ownAt_get]
        rw [eo] at c3
        rw [if_pos (by omega), Int.toNat_natCast] at hSk
        have hst := strPart_step ML k hkM
        rw [eM, hSk] at hst
        have hj1 : (j : Int) < (R.length : Int) := by omega
        have hj0 : (j : Int) ≥ 0 := by omega
        have hb3z : b3 < z.w.heap.size := by omega
        have hb3y : b3 < y3.w.heap.size := by omega
        obtain ⟨g0, e0, -, -, r0, f0⟩ := hown.out.at_ (j := k) (by omega)
        cases e0
        obtain ⟨vv, hvv⟩ : ∃ vv, (strPart ML k)[k]? = some vv := ⟨_, List.getElem?_eq_getElem (by rw [length_strPart ML k (by omega)]; omega)⟩
        rw [hvv] at r0
        generalize ownAt V[k] j = t at *

        replace hst := Lib.hid hst
        clear hSk eM hMk q2 eo hvv hl
        generalize V[k] = vk at *
        go_wp2_with fail
        go_roundw
        case rel =>
          refine ⟨k + 1, by omega, by go_num, ?_, by (try simp only [World.size_alloc, World.size_setCell]); omega, LaterC.mk bb⟩
          rw [← hst.out]
          exact owns_alloc (Owns.set hown.out _) _
        case measure => first | (simp [intOf]; done) | (simp [intOf]; omega) | omega
    · obtain rfl : k = V.length := by omega
      have hfull := strPart_full ML
      rw [hMl] at hfull
      rw [hfull] at hown
      replace hown := Lib.hid hown
      go_wp2_with fail
      refine bodyPost_ret (by simp [results, Tryz.results49, go_sem, ↓IntWalk.iteOmega, *]; try rfl) rfl ?_
      exact RetOwn.mk _ rfl (own_mono hown.out.own hws) bb
end Go.Proofs.YtklcaphkfdlipaaGreatDoor
