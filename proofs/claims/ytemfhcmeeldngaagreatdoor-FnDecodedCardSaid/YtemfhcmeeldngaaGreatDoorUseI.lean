import Derived.Test.YtemfhcmeeldngaaGreatDoorPackPb
import Derived.Test.YtemfhcmeeldngaaGreatDoorPackPa
/- Which rules are used, both sides. -/
set_option linter.unusedSimpArgs false
set_option linter.unusedVariables false
namespace Go.Proofs.YtemfhcmeeldngaaGreatDoor
open Go.RowKit
def sliceLen : Value → Nat
  | .slice _ n _ => n
  | _ => 0
def usL (o : Option (List Int)) : List Int := o.getD []
theorem Row.takeI {w : World} {a : Option Addr} {l : List Int} (h : Row w a (intCells l)) (m : Nat) : Row w a (intCells (l.take m)) := h.sub fun j v hj => by
  unfold intCells at hj ⊢
  rw [List.getElem?_map] at hj ⊢
  rw [List.getElem?_take] at hj
  split at hj
  · exact hj
  · cases hj
theorem Row.dropI {w : World} {b o : Nat} {l : List Int} (h : Row w (some ⟨b, o, none⟩) (intCells l)) (m : Nat) : Row w (some ⟨b, o + m, none⟩) (intCells (l.drop m)) := fun j v hj => by
  have : (intCells l)[m + j]? = some v := by
    unfold intCells at hj ⊢
    rw [List.getElem?_map] at hj ⊢
    rw [List.getElem?_drop] at hj
    exact hj
  obtain ⟨b', o', e, hc⟩ := h _ _ this
  cases e
  exact ⟨b, o + m, rfl, by rw [Nat.add_assoc]; exact hc⟩
theorem one_intU (x : Int) : ∀ u ∈ [Value.int .i64 x], u.oneCell' = true := by intro u hu; simp at hu; subst hu; rfl
set_option maxRecDepth 8000 in
set_option maxHeartbeats 4000000 in
theorem used_impl (T : List Rul) (s : List Int) (aT a : Option Addr) (nT cT n c : Nat) (w : World) (hnT : T.length = nT) (hmT : nT ≤ 1048576) (hok : ∀ r ∈ T, RulOk r) (hn : s.length = n) (hm : n ≤ 1048576) (hnc : n ≤ c) (hcm : c ≤ maxLen) (hr : RulesR w aT T) (hr' : Row w a (intCells s)) :
    Calls Tryz.prog 59 #[.slice aT nT cT, .slice a n c] w (RetOwn w 2 1 (usL (used T s)).length (intCells (usL (used T s))) fun v => .tuple #[v, .bool (used T s).isSome]) := by
  subst hnT hn
  obtain ⟨ii, j1, j2, j3, j4⟩ := info_i64'
  have Jii := Lib.hid (And.intro j1 (And.intro j2 (And.intro j3 j4)))
  have CF := Lib.hid (fun (q : List Int) (aq : Option Addr) (nq cq : Nat) (w : World) (h1 : q.length = nq) (h2 : nq ≤ 1048576) (hr : RulesR w aT T) (hr' : Row w aq (intCells q)) => findRule_any T q aT aq T.length cT nq cq w rfl hmT hok h1 h2 hr hr')
  replace hr := Lib.hid hr
  replace hok := Lib.hid hok
  have hO0 : used T s = usedF T s.length s := rfl
  obtain ⟨O, hO⟩ : ∃ O, used T s = O := ⟨_, rfl⟩
  rw [hO] at hO0 ⊢
  replace hO0 := Lib.hid hO0
  clear hO j1 j2 j3 j4
  go_enter Tryz.func59, Tryz.ntmps59
  go_wp2_with fail
  go_loopw [1, 6] (fun sv ov wr => ∃ (k f : Nat) (l : List Int) (ak : Option Addr) (ck : Nat) (al : Option Addr) (cl : Nat), k ≤ s.length ∧ s.length - k ≤ f ∧ sv = .slice ak (s.length - k) ck ∧ s.length - k ≤ ck ∧ ck ≤ maxLen ∧ ov = .slice al l.length cl ∧ l.length ≤ k ∧ O = (usedF T f (s.drop k)).map (l ++ ·) ∧ Row w ak (intCells (s.drop k)) ∧ wr.ownsRow w.heap.size 2 1 (.slice al l.length cl) l.length (intCells l) ∧ ∃ z : Later w, wr = z.w) (fun sv _ _ => sliceLen sv)
  case atStart => exact ⟨0, s.length, [], a, c, none, 0, by omega, by omega, rfl, by omega, hcm, rfl, by simp, by rw [List.drop_zero, hO0.out]; simp, by rw [List.drop_zero]; exact hr', World.ownsRow_nil _ _ _ _, ⟨_, Below.refl _ _⟩, rfl⟩
  case round =>
    obtain ⟨k, f, l, ak, ck, al, cl, hk, hf, rfl, hck, hcm', rfl, hlk, hu, hrk, ho, z, rfl⟩ := hrel
    have hzz := z.bel.size
    replace ho := Lib.hid ho
    obtain ⟨q, hq⟩ : ∃ q, s.drop k = q := ⟨_, rfl⟩
    have hql : q.length = s.length - k := by rw [← hq, List.length_drop]
    rw [hq] at hu hrk
    obtain ⟨N, hN⟩ : ∃ N, s.length - k = N := ⟨_, rfl⟩
    rw [hN] at hf hck hql ⊢
    have hN1 : N ≤ 1048576 := by omega
    replace hN := Lib.hid hN
    by_cases h0 : 0 < N
    · have h0' : (0 : Int) < (N : Int) := by omega
      have h0q : 0 < q.length := by omega
      obtain ⟨b, o, rfl, -⟩ := hrk 0 (.int .i64 q[0]) (by simp [intCells, h0q])
      obtain ⟨H, hH⟩ : ∃ H, headR T q = H := ⟨_, rfl⟩
      have hH0 : bestR T q (min 3 q.length) = H := hH
      have hHc := headR_cases (T := T) h0q
      rw [hH] at hHc
      have hmin : min (3 : Int) (N : Int) = ((min 3 N : Nat) : Int) := by omega
      have hml : min 3 N ≤ N := Nat.min_le_right _ _
      rw [hql] at hH0
      obtain ⟨m0, hm0⟩ : ∃ m, min 3 N = m := ⟨_, rfl⟩
      rw [hm0] at hmin hml hH0
      replace hu := Lib.hid hu
      replace hrk := Lib.hid hrk
      replace hH := Lib.hid hH
      replace hHc := Lib.hid hHc
      replace hq := Lib.hid hq
      replace hH0 := Lib.hid hH0
      replace hql := Lib.hid hql
      clear hm0 h0q
      go_wp2_with fail
      go_loopw [7, 8] (fun tv mv wr => ∃ (m : Nat) (t : Int), m ≤ m0 ∧ tv = .int .i64 t ∧ mv = .int .i64 m ∧ ((t = -1 ∧ bestR T q m = H) ∨ (0 ≤ t ∧ t = H)) ∧ ∃ y : Later z.w, wr = y.w) (fun tv mv _ => (intOf mv).toNat)
      case atStart => exact ⟨m0, -1, Nat.le_refl _, rfl, by first | rfl | go_num, .inl ⟨rfl, hH0.out⟩, ⟨_, Below.refl _ _⟩, rfl⟩
      case round =>
        obtain ⟨m, t, hm1, rfl, rfl, hc, y, rfl⟩ := hrel
        have hyy := y.bel.size
        by_cases hm2 : 0 < m ∧ t = -1
        · obtain ⟨hm2, rfl⟩ := hm2
          have hb := hc.resolve_right (by omega)
          obtain ⟨m', rfl⟩ : ∃ m', m = m' + 1 := ⟨m - 1, by omega⟩
          have hF := CF.out (q.take (m' + 1)) (some ⟨b, o, none⟩) (m' + 1) ck
          obtain ⟨F, hFe⟩ : ∃ F, findR T (q.take (m' + 1)) = F := ⟨_, rfl⟩
          have X := Lib.hid (show (F = -1 ∧ bestR T q m' = H) ∨ (0 ≤ F ∧ F = H) by
            by_cases h1 : 0 ≤ findR T (q.take (m' + 1))
            · rw [bestR_yes h1] at hb
              exact .inr ⟨by omega, by rw [← hFe]; exact hb.2⟩
            · rw [bestR_no h1] at hb
              refine .inl ⟨?_, hb.2⟩
              rcases findR_cases T (q.take (m' + 1)) with h2 | ⟨_, _, h2, _⟩
              · rw [← hFe]; exact h2
              · omega)
          rw [hFe] at hF
          replace hF := Lib.hid hF
          have hmi : (0 : Int) < ((m' + 1 : Nat) : Int) := by omega
          have hmk : m' + 1 ≤ ck := by omega
          have hmki : ((m' + 1 : Nat) : Int) ≤ (ck : Int) := by omega
          clear hc hb hFe
          go_wp2_with (go_at_call 83; (with_reducible refine (hF.out _ (by rw [List.length_take, hql.out]; omega) (by omega) (hr.out.bel (by (repeat (first | (with_reducible exact Below.refl _ _) | (with_reducible assumption) | (with_reducible refine Later.out _ ?_) | (with_reducible refine bel_alloc ?_ _) | (with_reducible refine bel_drew ?_) | (with_reducible refine bel_drewN ?_ _) | (with_reducible refine bel_set ?_ ?_ _) | (with_reducible refine After.out _ ?_ ?_) | (dsimp only; omega) | omega | (simp only [World.size_alloc, World.size_setCell, World.size_drew]; omega))))) ((hrk.out.takeI _).bel (by (repeat (first | (with_reducible exact Below.refl _ _) | (with_reducible assumption) | (with_reducible refine Later.out _ ?_) | (with_reducible refine bel_alloc ?_ _) | (with_reducible refine bel_drew ?_) | (with_reducible refine bel_drewN ?_ _) | (with_reducible refine bel_set ?_ ?_ _) | (with_reducible refine After.out _ ?_ ?_) | (dsimp only; omega) | omega | (simp only [World.size_alloc, World.size_setCell, World.size_drew]; omega)))))).mono ?_); rintro e w' ⟨rfl, x1, rfl⟩; have hsx1 := x1.bel.size)
          go_roundw
          case rel =>
            exact ⟨m', F, by omega, rfl, by go_num, X.out, LaterC.mk (by (repeat (first | (with_reducible exact Below.refl _ _) | (with_reducible assumption) | (with_reducible refine Later.out _ ?_) | (with_reducible refine bel_alloc ?_ _) | (with_reducible refine bel_drew ?_) | (with_reducible refine bel_drewN ?_ _) | (with_reducible refine bel_set ?_ ?_ _) | (with_reducible refine After.out _ ?_ ?_) | (dsimp only; omega) | omega | (simp only [World.size_alloc, World.size_setCell, World.size_drew]; omega))))⟩
          case measure => first | (simp [intOf]; done) | (simp [intOf]; omega) | omega
        · have ht : t = H := by
            rcases hc with ⟨h1, h2⟩ | ⟨_, h2⟩
            · have hm3 : m = 0 := by omega
              subst hm3
              rw [h1]
              exact h2
            · exact h2
          have hcond : ¬ (0 : Int) < (m : Int) ∨ ((0 : Int) < (m : Int) ∧ ¬ t < 0) := by
            rcases hc with ⟨h1, h2⟩ | ⟨h1, h2⟩ <;> omega
          subst ht
          clear hc hm2
          rcases hHc.out with h1 | ⟨kk, hkk, h1, h2, h3, -⟩
          · have hm0' : ¬ (0 : Int) < (m : Int) := by omega
            have X := Lib.hid (show O = none by rw [hu.out, usedF_no (by rw [hql.out]; exact h0) (hH.out.trans h1)]; rfl)
            subst h1
            clear hcond
            go_wp2_with fail
            refine bodyPost_ret (by simp [results, Tryz.results59, go_sem, ↓IntWalk.iteOmega, *]; try rfl) rfl ?_
            exact RetOwn.mk (.slice none 0 0) (by rw [X.out]; rfl) (by rw [X.out]; exact World.ownsRow_nil _ _ _ _) (by (repeat (first | (with_reducible exact Below.refl _ _) | (with_reducible assumption) | (with_reducible refine Later.out _ ?_) | (with_reducible refine bel_alloc ?_ _) | (with_reducible refine bel_drew ?_) | (with_reducible refine bel_drewN ?_ _) | (with_reducible refine bel_set ?_ ?_ _) | (with_reducible refine After.out _ ?_ ?_) | (dsimp only; omega) | omega | (simp only [World.size_alloc, World.size_setCell, World.size_drew]; omega))))
          · obtain ⟨f', rfl⟩ : ∃ f', f = f' + 1 := ⟨f - 1, by omega⟩
            rw [hql.out] at h3
            have hst := usedF_step (f := f') (show 0 < q.length by rw [hql.out]; exact h0) hkk (hH.out.trans h1)
            have X := Lib.hid (show O = (usedF T f' (s.drop (k + T[kk].sg.length))).map ((l ++ [(kk : Int)]) ++ ·) by
              rw [hu.out, hst, ← hq.out, List.drop_drop, Option.map_map]
              congr 1
              funext x
              simp)
            have hdr : Row w (some ⟨b, o + T[kk].sg.length, none⟩) (intCells (s.drop (k + T[kk].sg.length))) := by
              rw [← List.drop_drop, hq.out]
              exact hrk.out.dropI _
            have hdz : ck = T[kk].sg.length → s.drop (k + T[kk].sg.length) = [] := fun hc => by
              have := hN.out
              exact List.drop_of_length_le (by omega)
            have XR := Lib.hid (show Row w (if ck = T[kk].sg.length then some ⟨b, o, none⟩ else some ⟨b, o + T[kk].sg.length, none⟩) (intCells (s.drop (k + T[kk].sg.length))) by
              by_cases hc : ck = T[kk].sg.length
              · rw [hdz hc]
                intro j v hj
                simp [intCells] at hj
              · rw [if_neg hc]
                exact hdr)
            clear hdr hdz
            obtain ⟨bT, oT, ai, ci, rfl, hbT, q0, q1, q2, q3, q4⟩ := hr.out.at_ hkk
            obtain ⟨e, he⟩ : ∃ e, T[kk].sg.length = e := ⟨_, rfl⟩
            rw [he] at q0 h2 h3 X XR
            subst h1
            have hkk1 : (kk : Int) < (T.length : Int) := by omega
            have he1 : (e : Int) ≤ (N : Int) := by omega
            have hkk0 : ¬ (kk : Int) < 0 := by omega
            have hNk := hN.out
            have hl1 : l.length ≤ 1048576 := by omega
            have HN := Lib.hid (show k + e ≤ s.length ∧ s.length - (k + e) ≤ f' ∧ s.length - (k + e) ≤ ck - e ∧ l.length + 1 ≤ k + e by omega)
            replace hNk := Lib.hid hNk
            clear q1 q2 q3 q4 hst he
            rcases hcond with hc | ⟨hc, -⟩
            · go_wp2_with (at_builtin; (refine wpList_append_later _ rfl _ _ _ rfl 2 ii _ 1 8 Tryz.underlying25 Jii.out.1 Jii.out.2.1 Jii.out.2.2.1 Jii.out.2.2.2 rfl (by decide) (w) ?qa1 _ _ _ (intCells l) rfl ?qa2 _ _ _ ([.int .i64 kk]) rfl ?qa3 ?qa4 ?qa5 ?qa6 ?qa7 ?_); (case qa1 => (repeat (first | (with_reducible exact Below.refl _ _) | (with_reducible assumption) | (with_reducible refine Later.out _ ?_) | (with_reducible refine bel_alloc ?_ _) | (with_reducible refine bel_drew ?_) | (with_reducible refine bel_drewN ?_ _) | (with_reducible refine bel_set ?_ ?_ _) | (with_reducible refine After.out _ ?_ ?_) | (dsimp only; omega) | omega | (simp only [World.size_alloc, World.size_setCell, World.size_drew]; omega)))); (case qa2 => exact own_bel ho.out (by (repeat (first | (with_reducible exact Below.refl _ _) | (with_reducible assumption) | (with_reducible refine Later.out _ ?_) | (with_reducible refine bel_alloc ?_ _) | (with_reducible refine bel_drew ?_) | (with_reducible refine bel_drewN ?_ _) | (with_reducible refine bel_set ?_ ?_ _) | (with_reducible refine After.out _ ?_ ?_) | (dsimp only; omega) | omega | (simp only [World.size_alloc, World.size_setCell, World.size_drew]; omega))))); (case qa3 => (first | rfl | (simp [boolCells]; done) | (simp [intCells]; done) | (simp; done) | (first | omega | (simp only [List.length_append, List.length_cons, List.length_nil]; omega)))); (case qa4 => exact Row.made _ _ _); (case qa5 => exact one_intU _); (case qa6 => (unfold maxLen; (first | omega | (simp only [List.length_append, List.length_cons, List.length_nil]; omega)))); (case qa7 => (first | omega | (simp only [List.length_append, List.length_cons, List.length_nil]; omega))); intro a9 c9 x9 hown9; replace hown9 := Lib.hid hown9; have hs9 := x9.bel.size; (try simp only [World.size_alloc] at hs9))
              go_roundw
              case rel => exact ⟨k + e, f', l ++ [(kk : Int)], (if ck = e then some ⟨b, o, none⟩ else some ⟨b, o + e, none⟩), ck - e, a9, c9, HN.out.1, HN.out.2.1, (by rw [← Nat.sub_sub, hNk.out]), HN.out.2.2.1, Nat.le_trans (Nat.sub_le _ _) hcm', by simp, (by simpa using HN.out.2.2.2), X.out, XR.out, by rw [List.length_append, intCells_snoc]; exact hown9.out, x9, rfl⟩
              case measure => simp [sliceLen]; omega
            · go_wp2_with (at_builtin; (refine wpList_append_later _ rfl _ _ _ rfl 2 ii _ 1 8 Tryz.underlying25 Jii.out.1 Jii.out.2.1 Jii.out.2.2.1 Jii.out.2.2.2 rfl (by decide) (w) ?qa8 _ _ _ (intCells l) rfl ?qa9 _ _ _ ([.int .i64 kk]) rfl ?qa10 ?qa11 ?qa12 ?qa13 ?qa14 ?_); (case qa8 => (repeat (first | (with_reducible exact Below.refl _ _) | (with_reducible assumption) | (with_reducible refine Later.out _ ?_) | (with_reducible refine bel_alloc ?_ _) | (with_reducible refine bel_drew ?_) | (with_reducible refine bel_drewN ?_ _) | (with_reducible refine bel_set ?_ ?_ _) | (with_reducible refine After.out _ ?_ ?_) | (dsimp only; omega) | omega | (simp only [World.size_alloc, World.size_setCell, World.size_drew]; omega)))); (case qa9 => exact own_bel ho.out (by (repeat (first | (with_reducible exact Below.refl _ _) | (with_reducible assumption) | (with_reducible refine Later.out _ ?_) | (with_reducible refine bel_alloc ?_ _) | (with_reducible refine bel_drew ?_) | (with_reducible refine bel_drewN ?_ _) | (with_reducible refine bel_set ?_ ?_ _) | (with_reducible refine After.out _ ?_ ?_) | (dsimp only; omega) | omega | (simp only [World.size_alloc, World.size_setCell, World.size_drew]; omega))))); (case qa10 => (first | rfl | (simp [boolCells]; done) | (simp [intCells]; done) | (simp; done) | (first | omega | (simp only [List.length_append, List.length_cons, List.length_nil]; omega)))); (case qa11 => exact Row.made _ _ _); (case qa12 => exact one_intU _); (case qa13 => (unfold maxLen; (first | omega | (simp only [List.length_append, List.length_cons, List.length_nil]; omega)))); (case qa14 => (first | omega | (simp only [List.length_append, List.length_cons, List.length_nil]; omega))); intro a9 c9 x9 hown9; replace hown9 := Lib.hid hown9; have hs9 := x9.bel.size; (try simp only [World.size_alloc] at hs9))
              go_roundw
              case rel => exact ⟨k + e, f', l ++ [(kk : Int)], (if ck = e then some ⟨b, o, none⟩ else some ⟨b, o + e, none⟩), ck - e, a9, c9, HN.out.1, HN.out.2.1, (by rw [← Nat.sub_sub, hNk.out]), HN.out.2.2.1, Nat.le_trans (Nat.sub_le _ _) hcm', by simp, (by simpa using HN.out.2.2.2), X.out, XR.out, by rw [List.length_append, intCells_snoc]; exact hown9.out, x9, rfl⟩
              case measure => simp [sliceLen]; omega
    · obtain rfl : N = 0 := by omega
      have X := Lib.hid (show O = some l by rw [hu, usedF_nil T hql]; simp)
      clear hu
      go_wp2_with fail
      refine bodyPost_ret (by simp [results, Tryz.results59, go_sem, ↓IntWalk.iteOmega, *]; try rfl) rfl ?_
      exact RetOwn.mk (.slice al l.length cl) (by rw [X.out]; rfl) (by rw [X.out]; exact ho.out) (by (repeat (first | (with_reducible exact Below.refl _ _) | (with_reducible assumption) | (with_reducible refine Later.out _ ?_) | (with_reducible refine bel_alloc ?_ _) | (with_reducible refine bel_drew ?_) | (with_reducible refine bel_drewN ?_ _) | (with_reducible refine bel_set ?_ ?_ _) | (with_reducible refine After.out _ ?_ ?_) | (dsimp only; omega) | omega | (simp only [World.size_alloc, World.size_setCell, World.size_drew]; omega))))
end Go.Proofs.YtemfhcmeeldngaaGreatDoor
