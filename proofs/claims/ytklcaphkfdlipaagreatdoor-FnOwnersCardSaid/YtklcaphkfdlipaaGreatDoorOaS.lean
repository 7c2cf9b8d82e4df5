import Derived.Test.YtklcaphkfdlipaaGreatDoorPackVa
import Derived.Test.YtklcaphkfdlipaaGreatDoorOaW
/- OwnersAt: the reference's side. -/
set_option linter.unusedSimpArgs false
set_option linter.unusedVariables false
namespace Go.Proofs.YtklcaphkfdlipaaGreatDoor
open Go.RowKit
theorem one_tx2 (s : ByteArray) : ∀ u ∈ [Value.string s], u.oneCell' = true := by
  intro u hu
  rw [List.mem_singleton.1 hu]; rfl
set_option maxRecDepth 8000 in
set_option maxHeartbeats 4000000 in
theorem oa_spec (R : List (List Pt)) (V : List Vw) (p : Pt) (a b : Option Addr) (n c m d : Nat) (w : World) (hn : R.length = n) (hm : n ≤ 1048576) (ok : ∀ r ∈ R, r.length ≤ 1048576) (hr : RingsR w a R)
    (hn' : V.length = m) (hm' : m ≤ 1048576) (ok' : ∀ v ∈ V, VwOk v) (hr' : ViewsR w b V) :
    Calls Tryz.prog 50 #[.slice a n c, .slice b m d, .agg #[.int .i64 p.x, .int .i64 p.y]] w (RetOwn w 9 1 (oaL R V p).length (strCells (oaL R V p)) fun v => .tuple #[v, .int .i64 (oaC R V p)]) := by
  subst hn hn'
  have CC := Lib.hid (fun (w : World) (hr : RingsR w a R) (hr' : ViewsR w b V) => sAreViews_any R V a b R.length c V.length d w rfl hm ok hr rfl hm' ok' hr')
  replace hr := Lib.hid hr
  replace hr' := Lib.hid hr'
  have CP := sIsPoint_any p.x p.y
  have hB : oaB R V p = (viewsB R V && isPointB p.x p.y) := rfl
  cases hB1 : viewsB R V
  · have e0 : oaB R V p = false := by rw [hB, hB1]; rfl
    have e1 : oaL R V p = [] := by unfold oaL; rw [e0]; rfl
    have e2 : oaC R V p = 1 := by unfold oaC; rw [e0]; rfl
    rw [e1, e2]
    rw [hB1] at CC
    clear e0 e1 e2 hB hB1 ok ok' CP
    go_enter Tryz.func50, Tryz.ntmps50
    go_wp2_with fail
    with_reducible refine (CC.out _ (hr.out.bel bb) (hr'.out.bel bb)).mono ?_
    rintro e w' ⟨rfl, y1, rfl⟩
    have hsy1 := y1.bel.size
    (try simp only [World.size_alloc, World.size_setCell, World.size_drew] at hsy1)
    go_wp2_with fail
    refine bodyPost_ret (by simp [results, Tryz.results50, go_sem, ↓IntWalk.iteOmega, *]; try rfl) rfl ?_
    exact RetOwn.mk (.slice none 0 0) rfl (World.ownsRow_nil _ _ _ _) bb
  cases hB2 : isPointB p.x p.y
  · have e0 : oaB R V p = false := by rw [hB, hB1, hB2]; rfl
    have e1 : oaL R V p = [] := by unfold oaL; rw [e0]; rfl
    have e2 : oaC R V p = 1 := by unfold oaC; rw [e0]; rfl
    rw [e1, e2]
    rw [hB1] at CC
    simp only [hB2] at CP
    replace CP := Lib.hid CP
    obtain ⟨px, py⟩ := p
    clear e0 e1 e2 hB hB1 ok ok' hB2
    go_enter Tryz.func50, Tryz.ntmps50
    go_wp2_with fail
    with_reducible refine (CC.out _ (hr.out.bel bb) (hr'.out.bel bb)).mono ?_
    rintro e w' ⟨rfl, y1, rfl⟩
    have hsy1 := y1.bel.size
    (try simp only [World.size_alloc, World.size_setCell, World.size_drew] at hsy1)
    go_wp2_with fail
    with_reducible refine (CP.out _).mono ?_
    rintro e w' ⟨rfl, y2, rfl⟩
    have hsy2 := y2.bel.size
    (try simp only [World.size_alloc, World.size_setCell, World.size_drew] at hsy2)
    go_wp2_with fail
    refine bodyPost_ret (by simp [results, Tryz.results50, go_sem, ↓IntWalk.iteOmega, *]; try rfl) rfl ?_
    exact RetOwn.mk (.slice none 0 0) rfl (World.ownsRow_nil _ _ _ _) bb
  have e0 : oaB R V p = true := by rw [hB, hB1, hB2]; rfl
  have e1 : oaL R V p = V.map (oaS R p) := by unfold oaL; rw [e0]; rfl
  have e2 : oaC R V p = 0 := by unfold oaC; rw [e0]; rfl
  rw [e1, e2, List.length_map]
  rw [hB1] at CC
  simp only [hB2] at CP
  have h6 := mapB_len (viewsB_map hB1)
  have hR := mapB_rings (viewsB_map hB1)
  have hvo := viewsB_ok hB1
  have h4 := hvo.four
  obtain ⟨p1, p2, p3, p4⟩ := isPointB_iff.1 hB2
  have hpb : PtB p := ⟨by omega, by omega, by omega, by omega⟩
  have CS := Lib.hid (fun (k : Nat) (hk : k < R.length) (ak : Option Addr) (ck : Nat) (w : World) (hr : Row w ak (ptsCells R[k])) => sSide_any R[k] p ak R[k].length ck w rfl (by have := (ringB_sizes (hR _ (List.getElem_mem hk))).2; omega) (ringB_smL (hR _ (List.getElem_mem hk))).ptsB hpb hr)
  have hLs : ∀ (k : Nat) (hk : k < R.length) (v : Vw), lastO R p v (k + 1) = if decide (0 < sideZ R[k] p) then ownAt v k else lastO R p v k := fun k hk v => by
    have e : R.getD k [] = R[k] := by simp [hk]
    show (if inP2 p (R.getD k []) then _ else _) = _
    rw [e]; rfl
  have hL0 : ∀ v, lastO R p v 0 = .empty := fun _ => rfl
  have hLa : ∀ v, lastO R p v R.length = oaS R p v := fun v => lastO_all (viewsB_map hB1) hB2
  have hMl : (V.map (oaS R p)).length = V.length := by simp
  have hMs : ∀ (k : Nat) (hk : k < V.length), strCells ((V.map (oaS R p)).take (k + 1)) = strCells ((V.map (oaS R p)).take k) ++ [.string (oaS R p V[k])] := fun k hk => by
    rw [List.take_succ_eq_append_getElem (by simpa using hk)]
    simp [strCells]
  have hMz : strCells ((V.map (oaS R p)).take 0) = [] := rfl
  have hMe : (V.map (oaS R p)).take V.length = V.map (oaS R p) := by
    have := List.take_length (l := V.map (oaS R p))
    rwa [hMl] at this
  have hMn : ∀ k, k ≤ V.length → (strCells ((V.map (oaS R p)).take k)).length = k := fun k hk => by simp [strCells]; omega
  generalize V.map (oaS R p) = ML at *
  replace CP := Lib.hid CP
  obtain ⟨ss, j1, j2, j3, j4⟩ := info_str'
  have Jss := Lib.hid (And.intro j1 (And.intro j2 (And.intro j3 j4)))
  clear j1 j2 j3 j4
  have hlit := Lib.hid (fun (W : World) => World.ownsRow_lit (base := W.heap.size) (e := 9) (size := 1) W #[] 0 (Nat.le_refl _) (by unfold maxLen; omega) rfl)
  replace hMs := Lib.hid hMs
  replace hMe := Lib.hid hMe
  replace hMn := Lib.hid hMn
  replace hMz := Lib.hid hMz
  replace hLs := Lib.hid hLs
  replace hL0 := Lib.hid hL0
  replace hLa := Lib.hid hLa
  have hvl := Lib.hid hvo.own
  obtain ⟨px, py⟩ := p
  dsimp only at *
  clear e0 e1 e2 hB hB1 hB2 ok ok' hR hvo p1 p2 p3 p4 hpb
  go_enter Tryz.func50, Tryz.ntmps50
  go_wp2_with fail
  with_reducible refine (CC.out _ (hr.out.bel bb) (hr'.out.bel bb)).mono ?_
  rintro e w' ⟨rfl, y1, rfl⟩
  have hsy1 := y1.bel.size
  (try simp only [World.size_alloc, World.size_setCell, World.size_drew] at hsy1)
  go_wp2_with fail
  with_reducible refine (CP.out _).mono ?_
  rintro e w' ⟨rfl, y2, rfl⟩
  have hsy2 := y2.bel.size
  (try simp only [World.size_alloc, World.size_setCell, World.size_drew] at hsy2)
  go_wp2_with fail
  go_loopw [8, 9] (fun t8 t9 wr => ∃ (i : Nat) (a8 : Option Addr) (c8 : Nat), i ≤ V.length ∧ t9 = .int .i64 i ∧ t8 = .slice a8 i c8 ∧ wr.ownsRow y2.w.heap.size 9 1 (.slice a8 i c8) i (strCells (ML.take i)) ∧ ∃ z : Later y2.w, wr = z.w) (fun _ t9 _ => V.length - (intOf t9).toNat)
  case atStart => exact ⟨0, _, _, Nat.zero_le _, rfl, rfl, by rw [hMz.out]; exact hlit.out y2.w, ⟨_, bel_alloc (Below.refl _ _) _⟩, rfl⟩
  case round =>
    obtain ⟨i, a8, c8, hi, rfl, rfl, hown, z, rfl⟩ := hrel
    have hzz := z.bel.size
    replace hown := Lib.hid hown
    by_cases hlt : i < V.length
    · have hi1 : (i : Int) < (V.length : Int) := by omega
      obtain ⟨b1, o1, ai, ci, rfl, hb1, -, q1, q2, -, -⟩ := hr'.out.at_ hlt
      have hl := hvl.out _ (List.getElem_mem hlt)
      rw [hl] at q1
      have hS := hMs.out i hlt
      have hLn := hLa.out V[i]
      have hLz := hL0.out V[i]
      have hLk := fun k hk => hLs.out k hk V[i]
      have hMi := hMn.out i (by omega)
      have hb1z : b1 < z.w.heap.size := by omega
      have hwz : w.heap.size < z.w.heap.size := by omega
      have hwz2 : w.heap.size < y2.w.heap.size := by omega
      have hwz1 : w.heap.size < y1.w.heap.size := by omega
      have hst : ∀ k (hk : k < R.length), ∃ b3 o3, ai = some ⟨b3, o3, none⟩ ∧ b3 < w.heap.size ∧ w.cell? ⟨b3, o3 + k, none⟩ = some (.string (ownAt V[i] k)) := fun k hk => by
        obtain ⟨b3, o3, e3, hb3, c3⟩ := q2.str (k := k) (by omega)
        exact ⟨b3, o3, e3, hb3, by rw [c3, ownAt_get]⟩
      replace hst := Lib.hid hst
      generalize V[i] = vi at *
      generalize lastO R ⟨px, py⟩ vi = LO at *
      generalize oaS R ⟨px, py⟩ vi = sO at *
      replace hS := Lib.hid hS
      replace hLn := Lib.hid hLn
      replace hLz := Lib.hid hLz
      replace hLk := Lib.hid hLk
      clear q2 hl
      go_wp2_with fail
      go_loopw [10, 11] (fun t10 t11 wr => ∃ k : Nat, k ≤ R.length ∧ t11 = .int .i64 k ∧ t10 = .string (LO k) ∧ ∃ u : Later z.w, wr = u.w) (fun _ t11 _ => R.length - (intOf t11).toNat)
      case atStart => exact ⟨0, Nat.zero_le _, rfl, by rw [hLz.out]; rfl, ⟨_, Below.refl _ _⟩, rfl⟩
      case round =>
        obtain ⟨k, hk, rfl, rfl, u, rfl⟩ := hrel
        have huu := u.bel.size
        by_cases hltk : k < R.length
        · have hk1 : (k : Int) < (R.length : Int) := by omega
          obtain ⟨b5, o5, ak, ck, rfl, hb5, s0, s1, -, -⟩ := hr.out.at_ hltk
          obtain ⟨b3, o3, rfl, hb3, c3⟩ := hst.out k hltk
          have CK := Lib.hid (fun (w : World) (hr : Row w ak (ptsCells R[k])) => CS.out k hltk ak ck w hr)
          have hLk2 := hLk.out k hltk
          generalize sideZ R[k] ⟨px, py⟩ = S at *
          generalize ownAt vi k = t at *
          have hb5u : b5 < u.w.heap.size := by omega
          have hb3u : b3 < u.w.heap.size := by omega
          have hb5z : b5 < z.w.heap.size := by omega
          have hb3z : b3 < z.w.heap.size := by omega
          have hb5y : b5 < y2.w.heap.size := by omega
          have hb3y : b3 < y2.w.heap.size := by omega
          have hb5y1 : b5 < y1.w.heap.size := by omega
          have hb3y1 : b3 < y1.w.heap.size := by omega
          have hwu : w.heap.size < u.w.heap.size := by omega
          replace s1 := Lib.hid s1
          by_cases hSp : 0 < S
          · have hSp' : S > 0 := hSp
            rw [if_pos (decide_eq_true hSp)] at hLk2
            replace hLk2 := Lib.hid hLk2
            go_wp2_with fail
            refine wp_region_later (by kernel_rfl) (by kernel_rfl) ?_
            repeat (go_big_quiet_step ((first | (go_at_call 99; exact Calls.later (CK.out _ (s1.out.bel bb))))))
            refine wpQuiet_nil ?_
            rintro _ ⟨xq, rfl⟩
            go_wp2_with fail
            go_roundw
            case rel => exact ⟨k + 1, by omega, by go_num, by rw [hLk2.out], LaterC.mk bb⟩
            case measure => first | (simp [intOf]; done) | (simp [intOf]; omega) | omega
          · have hSp' : ¬ S > 0 := hSp
            rw [if_neg (by simpa using hSp)] at hLk2
            replace hLk2 := Lib.hid hLk2
            go_wp2_with fail
            refine wp_region_later (by kernel_rfl) (by kernel_rfl) ?_
            repeat (go_big_quiet_step ((first | (go_at_call 99; exact Calls.later (CK.out _ (s1.out.bel bb))))))
            refine wpQuiet_nil ?_
            rintro _ ⟨xq, rfl⟩
            go_wp2_with fail
            go_roundw
            case rel => exact ⟨k + 1, by omega, by go_num, by rw [hLk2.out], LaterC.mk bb⟩
            case measure => first | (simp [intOf]; done) | (simp [intOf]; omega) | omega
        · obtain rfl : k = R.length := by omega
          rw [hLn.out]
          go_wp2_with (at_builtin; (refine wpList_append_later _ rfl _ _ _ rfl 9 ss _ 1 16 Tryz.underlying46 Jss.out.1 Jss.out.2.1 Jss.out.2.2.1 Jss.out.2.2.2 rfl (by decide) (y2.w) ?qa1 _ _ _ (strCells (ML.take i)) rfl ?qa2 _ _ _ ([.string sO]) rfl ?qa3 ?qa4 ?qa5 ?qa6 ?qa7 ?_); (case qa1 => (exact bb)); (case qa2 => exact own_bel hown.out bb); (case qa3 => (first | rfl | (simp [boolCells]; done) | (simp [intCells]; done) | (simp; done) | (first | omega | (simp only [List.length_append, List.length_cons, List.length_nil]; omega)))); (case qa4 => exact Row.made _ _ _); (case qa5 => exact one_tx2 _); (case qa6 => (unfold maxLen; (first | omega | (simp only [List.length_append, List.length_cons, List.length_nil]; omega)))); (case qa7 => (first | omega | (simp only [List.length_append, List.length_cons, List.length_nil]; omega))); intro a4 c4 x4 hown4; replace hown4 := Lib.hid hown4)
          go_roundw
          case rel => exact ⟨i + 1, a4, c4, by omega, by go_num, rfl, by rw [hS.out]; exact hown4.out, x4, rfl⟩
          case measure => first | (simp [intOf]; done) | (simp [intOf]; omega) | omega
    · obtain rfl : i = V.length := by omega
      have hfull := hMe.out
      rw [hfull] at hown
      go_wp2_with fail
      refine bodyPost_ret (by simp [results, Tryz.results50, go_sem, ↓IntWalk.iteOmega, *]; try rfl) rfl ?_
      exact RetOwn.mk _ rfl (own_mono hown.out (by omega)) bb
end Go.Proofs.YtklcaphkfdlipaaGreatDoor
