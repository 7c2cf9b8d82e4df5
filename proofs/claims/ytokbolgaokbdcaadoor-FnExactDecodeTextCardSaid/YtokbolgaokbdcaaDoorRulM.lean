import Derived.Test.YtokbolgaokbdcaaDoorPackPb
import Derived.Test.YtokbolgaokbdcaaDoorMarkT
/- Marks over tables. -/
set_option linter.unusedSimpArgs false
set_option linter.unusedVariables false
namespace Go.Proofs.YtokbolgaokbdcaaDoor
open Go.RowKit
theorem Owns.keepK {w w' : World} {lo hi g g' e s n : Nat} {a : Option Addr} {c : Nat} {xs : List Value} (h : Owns w lo hi e s n a c xs) (hb : Between g g' w w') (ho : ∀ k, (Value.slice a n c).ownBlock = some k → k < g ∨ g' ≤ k) : Owns w' lo hi e s n a c xs := ⟨own_btw h.own hb ho, h.lt⟩
/-- The block in which a slice of one's own lies. -/
theorem Owns.tightK {w : World} {lo hi e s n : Nat} {a : Option Addr} {c : Nat} {xs : List Value} (h : Owns w lo hi e s n a c xs) (hlh : lo ≤ hi) :
    ∃ g g', lo ≤ g ∧ g ≤ g' ∧ g' ≤ hi ∧ Owns w g g' e s n a c xs ∧ (∀ k, g ≤ k → k < g' → (Value.slice a n c).ownBlock = some k) := by
  rcases h.own.2 with ⟨hv, hn⟩ | ⟨g, cap, cur, hv, hg, hh, r⟩
  · have ha : a = none := by injection hv
    have hc : c = 0 := by injection hv
    subst ha hn hc
    exact ⟨hi, hi, hlh, Nat.le_refl _, Nat.le_refl _, ⟨⟨h.own.1, .inl ⟨rfl, rfl⟩⟩, fun p hp => by cases hp⟩, fun k h1 h2 => absurd h2 (by omega)⟩
  · have ha : a = some ⟨g, 0, none⟩ := by injection hv
    subst ha
    have h1 := h.lt _ rfl
    simp only at h1
    refine ⟨g, g + 1, hg, by omega, h1, ⟨⟨h.own.1, .inr ⟨g, cap, cur, hv, Nat.le_refl _, hh, r⟩⟩, fun p hp => by cases hp; exact Nat.lt_succ_self _⟩, fun k h1 h2 => ?_⟩
    obtain rfl : k = g := by omega
    rfl
theorem own_zero {w : World} {lo hi e s n c k : Nat} {a : Option Addr} {xs : List Value} (h : Owns w lo hi e s n a c xs) (hk : (Value.slice a n c).ownBlock = some k) : a = some ⟨k, 0, none⟩ := by
  rcases h.own.2 with ⟨hv, hn⟩ | ⟨g, cap, cur, hv, _⟩
  · rw [hv] at hk; simp [Value.ownBlock] at hk
  · rw [hv] at hk
    simp only [Value.ownBlock, Option.some.injEq] at hk
    subst hk
    injection hv
/-- A table of which some is marked: its slices are as they were, what they hold is one's own. -/
structure TabM (w : World) (g hi n c : Nat) (T : List Rul) (vs : List Value) : Prop where
  own : ∃ vs', Owns w g (g + 1) 49 2 n (some ⟨g, 0, none⟩) c vs' ∧ ∀ i, i < T.length → vs'[i * 2]? = vs[i * 2]?
  at_ : ∀ i (h : i < T.length), ∃ ai ci xs, vs[i * 2]? = some (.slice ai T[i].sg.length ci) ∧ Owns w (g + 1) hi 2 1 T[i].sg.length ai ci xs
theorem TabM.of {w : World} {g hi n c : Nat} {T : List Rul} {vs : List Value} (h : OTab w g hi n c T vs) : TabM w g hi n c T vs :=
  ⟨⟨vs, h.own, fun _ _ => rfl⟩, fun i hi => by
    obtain ⟨ai, ci, h1, _, h3, _⟩ := h.at_ i hi
    exact ⟨ai, ci, _, h1, h3⟩⟩
theorem TabM.signs {w w' : World} {g hi n c j p p' cj : Nat} {T : List Rul} {vs xs xs' : List Value} {aj : Option Addr} (h : TabM w g hi n c T vs)
    (SEP : ∀ i j gi gj ni nj ci cj, i < j → j < T.length → vs[i * 2]? = some (.slice (some ⟨gi, 0, none⟩) ni ci) → vs[j * 2]? = some (.slice (some ⟨gj, 0, none⟩) nj cj) → gi ≠ gj)
    (hj : j < T.length) (hvj : vs[j * 2]? = some (.slice aj T[j].sg.length cj)) (hp1 : g + 1 ≤ p) (hp' : p' ≤ hi)
    (hpb : ∀ k, p ≤ k → k < p' → (Value.slice aj T[j].sg.length cj).ownBlock = some k) (hoj : Owns w p p' 2 1 T[j].sg.length aj cj xs) (hb : Between p p' w w') (ho2 : Owns w' p p' 2 1 T[j].sg.length aj cj xs') : TabM w' g hi n c T vs := by
  obtain ⟨⟨vs', h1, h2⟩, h3⟩ := h
  refine ⟨⟨vs', h1.btw hb (.inl hp1), h2⟩, fun i hi => ?_⟩
  obtain ⟨ai, ci, ys, e1, e2⟩ := h3 i hi
  by_cases hij : i = j
  · subst hij
    rw [hvj] at e1
    injection e1 with e1
    injection e1 with e1 _ e4
    subst e1 e4
    exact ⟨aj, cj, xs', hvj, ⟨own_mono ho2.own (by omega), fun q hq => Nat.lt_of_lt_of_le (ho2.lt q hq) hp'⟩⟩
  · refine ⟨ai, ci, ys, e1, e2.keepK hb fun k hk => ?_⟩
    by_cases h4 : p ≤ k ∧ k < p'
    · exfalso
      have h5 := own_zero hoj (hpb k h4.1 h4.2)
      have h6 := own_zero e2 hk
      subst h5 h6
      rcases Nat.lt_or_ge i j with h7 | h7
      · exact SEP i j k k _ _ _ _ h7 hj e1 hvj rfl
      · exact SEP j i k k _ _ _ _ (by omega) hi hvj e1 rfl
    · omega
theorem TabM.roman {w : World} {g hi n c j : Nat} {T : List Rul} {vs : List Value} (h : TabM w g hi n c T vs) (v : Value) : TabM (w.setCell ⟨g, j * 2 + 1, none⟩ v) g hi n c T vs := by
  obtain ⟨⟨vs', h1, h2⟩, h3⟩ := h
  refine ⟨⟨_, h1.set (j := j * 2 + 1) v, fun i hi => by rw [List.getElem?_set_ne (by omega)]; exact h2 i hi⟩, fun i hi => ?_⟩
  obtain ⟨ai, ci, ys, e1, e2⟩ := h3 i hi
  exact ⟨ai, ci, ys, e1, ⟨own_set e2.own (p := ⟨g, j * 2 + 1, none⟩) (Nat.lt_succ_self _) _, e2.lt⟩⟩
theorem TabM.bel {w w' : World} {g hi n c : Nat} {T : List Rul} {vs : List Value} (h : TabM w g hi n c T vs) (hb : Below w.heap.size w w') (hg : g < w.heap.size) (hh : hi ≤ w.heap.size) : TabM w' g hi n c T vs := by
  obtain ⟨⟨vs', h1, h2⟩, h3⟩ := h
  refine ⟨⟨vs', h1.bel hb hg, h2⟩, fun i hi => ?_⟩
  obtain ⟨ai, ci, ys, e1, e2⟩ := h3 i hi
  exact ⟨ai, ci, ys, e1, e2.bel hb hh⟩
/-- How many marks lie ahead of the `j`-th rule. -/
def offT (T : List Rul) (j : Nat) : Nat := ((T.take j).map fun r => r.sg.length + 1).sum
theorem offT_zero (T : List Rul) : offT T 0 = 0 := rfl
theorem offT_succ {T : List Rul} {j : Nat} (h : j < T.length) : offT T (j + 1) = offT T j + T[j].sg.length + 1 := by
  unfold offT
  rw [List.take_succ_eq_append_getElem h, List.map_append, List.sum_append]
  simp
  omega
theorem offT_le (T : List Rul) : ∀ j, j ≤ T.length → (offT T j : Int) ≤ j + rulsSz (T.take j)
  | 0, _ => by simp [offT_zero, rulsSz]
  | j + 1, h => by
    have ih := offT_le T j (by omega)
    rw [offT_succ (by omega), rulsSz_succ (by omega)]
    unfold rulSz
    omega
theorem offT_bd (T : List Rul) {j : Nat} (h : j ≤ T.length) : (offT T j : Int) ≤ tabSz T := by
  have h1 := offT_le T j h
  have h2 := rulsSz_take T j
  unfold tabSz
  omega
/-- A number, and only blocks of [g, hi) have turned. -/
def RetAft (w : World) (g hi : Nat) (v : Value) (e : Ending) (w' : World) : Prop := e = .returned v ∧ ∃ z : After w g hi, w' = z.w
set_option maxRecDepth 8000 in
set_option maxHeartbeats 4000000 in
theorem markRuleS_any (T : List Rul) (g hi n c : Nat) (vs : List Value) (w : World) (h : OTab w g hi n c T vs) (hn : T.length = n) (hgh : g + 1 ≤ hi) (hh : hi ≤ w.heap.size) (hm : tabSz T ≤ 1048576) :
    Calls Tryd.prog 16 #[.slice (some ⟨g, 0, none⟩) n c, .int .i64 1] w (RetAft w g hi (.int .i64 (1 + offT T n))) := by
  have SEP := Lib.hid h.sep
  have HN := Lib.hid (TabM.of h)
  have hbd := Lib.hid (fun j (h : j ≤ T.length) => offT_bd T h)
  have hTs := rulsSz_nonneg T
  have hTm := Lib.hid (fun r (h : r ∈ T) => rulSz_mem h)
  have hTl : T.length ≤ 1048576 := by unfold tabSz at hm; omega
  have hgw := h.lt
  clear h
  subst hn
  go_enter Tryd.func16, Tryd.ntmps16
  go_wp2_with fail
  go_loopw [1, 5] (fun kk i wr => ∃ j : Nat, j ≤ T.length ∧ i = .int .i64 j ∧ kk = .int .i64 (1 + offT T j) ∧ Between g hi w wr ∧ TabM wr g hi T.length c T vs) (fun _ i _ => T.length - (intOf i).toNat)
  case atStart => exact ⟨0, Nat.zero_le _, rfl, by simp [offT_zero], Between.refl _ _ _, HN.out⟩
  case round =>
    obtain ⟨j, hj, rfl, rfl, hb, ho⟩ := hrel
    obtain ⟨z, rfl⟩ := AfterC.mk hb
    have hzs := z.btw.size
    by_cases hlt : j < T.length
    · obtain ⟨aj, cj, xs, hvj, hown⟩ := ho.at_ j hlt
      obtain ⟨vs', hov, hve⟩ := ho.own
      have hvl := hov.own.1
      have hc0 := hov.own.cellAt (j * 2) (by omega)
      rw [hve j hlt, hvj] at hc0
      obtain ⟨u1, hc1⟩ : ∃ u, z.w.cell? ⟨g, j * 2 + 1, none⟩ = some u := ⟨_, (hov.own.cellAt (j * 2 + 1) (by omega)).trans (List.getElem?_eq_getElem (by omega))⟩
      have f1 := hov.own.frozenAt (j * 2 + 1)
      have hi1 : (j : Int) < (T.length : Int) := by omega
      obtain ⟨p, p', hp1, hp, hp2, hpo, hpb⟩ := hown.tightK (by omega)
      have hsz := hTm.out _ (List.getElem_mem hlt)
      have hof := hbd.out j (by omega)
      have hof2 := hbd.out (j + 1) (by omega)
      have hsu := offT_succ hlt
      have hlj : T[j].sg.length ≤ 1048576 := by unfold rulSz at hsz; unfold tabSz at hm; omega
      have C := Lib.hid (markInt64S_any aj T[j].sg.length cj p p' (1 + offT T j) _ z.w hpo hlj (by omega) (by omega))
      have hnew := Lib.hid (fun (z2 : After z.w p p') (ho2 : Owns z2.w p p' 2 1 T[j].sg.length aj cj (markInts (1 + offT T j) T[j].sg.length)) => ho.signs SEP.out hlt hvj hp1 hp2 hpb hpo z2.btw ho2)
      have hbz := Lib.hid z.btw
      have D := Lib.hid (fun w => mText_any (1 + (offT T j : Int) + (T[j].sg.length : Int)) w (by omega) (by omega))
      have X := Lib.hid hsu
      have hgz : g < z.w.heap.size := by omega
      clear ho hown hpo hpb hb hsz hsu hve hov hvj
      go_wp2_with fail
      with_reducible refine C.out.mono ?_
      rintro e w' ⟨rfl, z2, rfl, ho2⟩
      have N2 := Lib.hid (hnew.out z2 ho2)
      have hs2 := z2.btw.size
      have hgz2 : g < z2.w.heap.size := by omega
      clear ho2 hnew
      go_wp2_with fail
      with_reducible refine (D.out _).mono ?_
      rintro e w' ⟨rfl, y3, rfl⟩
      have hsy3 := y3.bel.size
      (try simp only [World.size_alloc, World.size_setCell, World.size_drew] at hsy3)
      have hgz3 : g < y3.w.heap.size := by omega
      go_wp2_with fail
      go_roundw
      case rel =>
        refine ⟨j + 1, by omega, by go_num, by rw [X.out]; go_num, ?_, ?_⟩
        · have h0 := hbz.out
          have h1 : Between g hi w z2.w := ⟨z2.btw.os.trans h0.os, z2.btw.tape.trans h0.tape, z2.btw.output.trans h0.output, Nat.le_trans h0.size z2.btw.size, fun q hq hor => (z2.btw.block q (Nat.lt_of_lt_of_le hq h0.size) (by omega)).trans (h0.block q hq hor)⟩
          exact (h1.later y3.bel).set (p := ⟨g, j * 2 + 1, none⟩) (Nat.le_refl _) (by dsimp only; omega) _
        · exact ((N2.out.bel y3.bel (by omega) (by omega))).roman _
      case measure => first | (simp [intOf]; done) | (simp [intOf]; omega) | omega
    · obtain rfl : j = T.length := by omega
      clear ho
      go_wp2_with fail
      go_ret
      exact ⟨rfl, z, rfl⟩
end Go.Proofs.YtokbolgaokbdcaaDoor
