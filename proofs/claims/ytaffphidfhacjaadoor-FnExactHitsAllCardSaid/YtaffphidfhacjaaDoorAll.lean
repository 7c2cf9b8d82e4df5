import Derived.Test.YtaffphidfhacjaaDoorCore
import Derived.Test.YtaffphidfhacjaaDoorNestR
import Derived.Test.YtaffphidfhacjaaDoorCode
/- All cores that begin with some indices: the reference's side. -/
set_option linter.unusedSimpArgs false
set_option linter.unusedVariables false
namespace Go.Proofs.YtaffphidfhacjaaDoor
open Go.RowKit
/-- The call handed back slices of its own, from a place on. -/
def RetNestAt (lo : Nat) (w : World) (S : List (List Int)) (e : Ending) (w' : World) : Prop :=
  ∃ (a : Option Addr) (c : Nat) (vs : List Value), e = .returned (.slice a S.length c) ∧ Nest w' lo w'.heap.size a S.length c S vs ∧ ∃ y : Later w, w' = y.w
theorem RetNestAt.mk' {lo : Nat} {w w' : World} {S : List (List Int)} {e : Ending} {a : Option Addr} {n c : Nat} {vs : List Value} (h : e = .returned (.slice a n c)) (hn : Nest w' lo w'.heap.size a n c S vs) (hb : Below w.heap.size w w') : RetNestAt lo w S e w' := by
  obtain rfl := hn.len
  exact ⟨a, c, vs, h, hn, ⟨w', hb⟩, rfl⟩
theorem next_getLast {S : List Int} {n : Nat} (h : Ixs n S) (hp : 0 < S.length) : S[S.length - 1]'(by omega) = ((nextN S : Nat) : Int) - 1 := by
  unfold nextN
  rw [List.getLast?_eq_getElem?, List.getElem?_eq_getElem (by omega)]
  have := (h.bd _ (List.getElem_mem (show S.length - 1 < S.length by omega))).1
  simp only
  omega
theorem nextN_le {S : List Int} {n : Nat} (h : Ixs n S) : nextN S ≤ n := by
  rcases Nat.eq_zero_or_pos S.length with h0 | h0
  · rw [List.length_eq_zero_iff.1 h0]; exact Nat.zero_le _
  · have h1 := next_getLast h h0
    have h2 := (h.bd _ (List.getElem_mem (show S.length - 1 < S.length by omega))).2
    omega
theorem minTo_zero (G : List Int → Bool) (n : Nat) (S : List Int) : minTo G n S 0 = [] := rfl
theorem minZ_len (G : List Int → Bool) (n : Nat) : ∀ (d : Nat) (S : List Int), n - nextN S ≤ d → (minZ G n S).length ≤ 2 ^ (n - nextN S) ∧ ∀ k, k ≤ n - nextN S → (minTo G n S k).length + 2 ^ (n - nextN S - k) ≤ 2 ^ (n - nextN S)
  | 0, S, hd => by
    have h0 : n - nextN S = 0 := by omega
    constructor
    · cases hg : G S
      · rw [minZ_bad hg, h0, minTo_zero]; simp
      · rw [minZ_good hg]; split <;> simp [h0]
    · intro k hk
      obtain rfl : k = 0 := by omega
      rw [minTo_zero]; simp
  | d + 1, S, hd => by
    have key : ∀ k, k ≤ n - nextN S → (minTo G n S k).length + 2 ^ (n - nextN S - k) ≤ 2 ^ (n - nextN S) := by
      intro k
      induction k with
      | zero => intro _; rw [minTo_zero]; simp
      | succ k ih =>
        intro hk
        have h1 := ih (by omega)
        have h2 := (minZ_len G n d (S ++ [((nextN S + k : Nat) : Int)]) (by rw [nextN_snoc]; omega)).1
        rw [nextN_snoc] at h2
        rw [minTo_succ, List.length_append]
        have h3 : 2 ^ (n - nextN S - k) = 2 ^ (n - nextN S - (k + 1)) + 2 ^ (n - nextN S - (k + 1)) := by
          rw [show n - nextN S - k = (n - nextN S - (k + 1)) + 1 by omega, Nat.pow_succ]; omega
        have h4 : n - (nextN S + k + 1) = n - nextN S - (k + 1) := by omega
        rw [h4] at h2
        omega
    refine ⟨?_, key⟩
    cases hg : G S
    · rw [minZ_bad hg]
      exact Nat.le_trans (Nat.le_add_right _ _) (key (n - nextN S) (Nat.le_refl _))
    · rw [minZ_good hg]
      have := Nat.one_le_two_pow (n := n - nextN S)
      split <;> simp <;> omega
theorem minZ_small (G : List Int → Bool) {n : Nat} (hn : n ≤ 12) (S : List Int) : (minZ G n S).length ≤ 4096 := by
  have h := (minZ_len G n _ S (Nat.le_refl _)).1
  have : 2 ^ (n - nextN S) ≤ 2 ^ 12 := Nat.pow_le_pow_right (by omega) (by omega)
  omega
theorem minTo_small (G : List Int → Bool) {n : Nat} (hn : n ≤ 12) (S : List Int) {k : Nat} (hk : k ≤ n - nextN S) : (minTo G n S k).length ≤ 4096 := by
  have h := (minZ_len G n _ S (Nat.le_refl _)).2 k hk
  have : 2 ^ (n - nextN S) ≤ 2 ^ 12 := Nat.pow_le_pow_right (by omega) (by omega)
  exact Nat.le_trans (Nat.le_trans (Nat.le_add_right _ _) h) this
theorem Nest.wrap (W : World) (lo : Nat) (hlo : lo ≤ W.heap.size) {l : List Int} {ai : Option Addr} {ci m : Nat} (hm : l.length = m) (h : Owns W lo W.heap.size 2 1 m ai ci (intCells l)) :
    Nest (W.alloc (.cells #[.slice ai m ci] 23)) lo (W.alloc (.cells #[.slice ai m ci] 23)).heap.size (some ⟨W.heap.size, 0, none⟩) 1 1 [l] [.slice ai m ci] := by
  subst hm
  have h2 := Owns.of (World.ownsRow_lit (base := lo) (e := 23) (size := 1) W #[.slice ai l.length ci] 1 hlo (by unfold maxLen; omega) rfl)
  exact Nest.lit h2 ((h.bel (B := W.heap.size) ((Below.refl _ _).alloc (Nat.le_refl _) _) (Nat.le_refl _)).wide (by simp only [World.size_alloc]; omega))
theorem ixs_len {n : Nat} {S : List Int} (h : Ixs n S) : S.length ≤ n := within_len n S h.nodup (fun x hx => h.bd x hx)
set_option maxRecDepth 8000 in
set_option maxHeartbeats 4000000 in
theorem sCores_any (L : List Clm) (a : Option Addr) (n c : Nat) (hn : L.length = n) (hm : n ≤ 12) (hv : Named L) : ∀ (f : Nat) (S : List Int), Ixs n S → n - nextN S < f →
    ∀ (lo : Nat) (a' : Option Addr) (n' c' : Nat) (w : World), S.length = n' → Row w a (clmsCells L) → lo ≤ w.heap.size → Owns w lo w.heap.size 2 1 n' a' c' (intCells S) →
    Calls Tryd.prog 40 #[.slice a n c, .slice a' n' c'] w (RetNestAt lo w (minZ (coreG L) n S)) := by
  intro f
  induction f with
  | zero => intro S _ hf; omega
  | succ f ih =>
    intro S hS hf lo a' n' c' w hn' hr hlo ho
    have hin : Within L.length S := fun x hx => by rw [hn]; exact hS.bd x hx
    have hsl := ixs_len hS
    have CH := Lib.hid (fun w hr hr' => sChosen_any L S a a' n c n' c' w hn hn' (by omega) (by omega) hr hr' hin)
    have hpl := pick_le L S
    have CR := Lib.hid (fun w hr hr' => sCore_any L S a a' n c n' c' w hn hn' (by omega) (by omega) ho.cap hr hr' hin hv)
    have HO := Lib.hid ho
    replace hr := Lib.hid hr
    cases hg : coreG L S
    · have CA := Lib.hid (fun a c w hr => sCons_b (L := pick L S) (a := a) (c := c) (w := w) (n := (pick L S).length) rfl (by omega) hr (named_pick hv S) (coreG_b hg))
      have hnx := nextN_le hS
      have X := Lib.hid (minZ_bad (n := n) hg)
      obtain ⟨ii, j1, j2, j3, j4⟩ := info_i64'
      have Jii := Lib.hid (And.intro j1 (And.intro j2 (And.intro j3 j4)))
      obtain ⟨i2, k1, k2, k3, k4⟩ := info_ints'
      have Ji2 := Lib.hid (And.intro k1 (And.intro k2 (And.intro k3 k4)))
      have COwn := Lib.hid (fun w hr => sOwn_any S a' n' c' w hn' (by omega) hr)
      have IH := Lib.hid (fun (x : Nat) (h1 : nextN S ≤ x) (h2 : x < n) (lo : Nat) a' c' (w : World) hr hlo ho => ih (S ++ [(x : Int)]) (ixs_snoc hS h1 h2) (by rw [nextN_snoc]; omega) lo a' (n' + 1) c' w (by simp [hn']) hr hlo ho)
      have hT := Lib.hid (fun k hk => minTo_small (coreG L) hm S (k := k) hk)
      have hZ := Lib.hid (fun S => minZ_small (coreG L) hm S)
      have hlast : ∀ m, n' = m + 1 → ∃ b o, a' = some ⟨b, o, none⟩ ∧ b < w.heap.size ∧ w.cell? ⟨b, o + m, none⟩ = some (.int .i64 ((nextN S : Int) - 1)) := fun m hm' => by
        obtain ⟨b, o, h1, h2, h3⟩ := ho.row.int (k := m) (by omega)
        have h4 := next_getLast hS (by omega)
        refine ⟨b, o, h1, h2, ?_⟩
        rw [h3, ← h4]
        congr 3
        omega
      have hzero : n' = 0 → nextN S = 0 := fun h => by rw [List.length_eq_zero_iff.1 (hn'.trans h)]; rfl
      obtain ⟨q, hq⟩ : ∃ q, nextN S = q := ⟨_, rfl⟩
      rw [hq] at hnx IH hlast hzero
      have hcS := Lib.hid (intCells_snoc S)
      have hlS := length_intCells S
      rw [hn'] at hlS
      have hTz := Lib.hid (minTo_zero (coreG L) n S)
      have hTs := Lib.hid (fun k => minTo_succ (coreG L) n S k)
      rw [hq] at hTs hT X
      clear ho hin hg ih j1 j2 j3 j4 k1 k2 k3 k4 hpl hq
      rw [X.out]
      rcases Nat.eq_zero_or_pos n' with h0 | h0
      · obtain rfl : n' = 0 := h0
        have hq0 := hzero rfl
        clear hlast hzero
        go_enter Tryd.func40, Tryd.ntmps40
        go_wp2_with fail
        with_reducible refine (CH.out _ (hr.out.bel (by (repeat (first | (with_reducible exact Below.refl _ _) | (with_reducible assumption) | (with_reducible refine Later.out _ ?_) | (with_reducible refine bel_alloc ?_ _) | (with_reducible refine bel_drew ?_) | (with_reducible refine bel_drewN ?_ _) | (with_reducible refine bel_set ?_ ?_ _) | (with_reducible refine After.out _ ?_ ?_) | (dsimp only; omega) | omega | (simp only [World.size_alloc, World.size_setCell, World.size_drew]; omega))))) (HO.out.row.bel (by (repeat (first | (with_reducible exact Below.refl _ _) | (with_reducible assumption) | (with_reducible refine Later.out _ ?_) | (with_reducible refine bel_alloc ?_ _) | (with_reducible refine bel_drew ?_) | (with_reducible refine bel_drewN ?_ _) | (with_reducible refine bel_set ?_ ?_ _) | (with_reducible refine After.out _ ?_ ?_) | (dsimp only; omega) | omega | (simp only [World.size_alloc, World.size_setCell, World.size_drew]; omega)))))).mono ?_
        rintro e w' ⟨a2, c2, rfl, hown, y2, rfl⟩
        have hsy2 := y2.bel.size
        (try simp only [World.size_alloc, World.size_setCell, World.size_drew] at hsy2)
        have H2 := Lib.hid (Owns.of hown)
        clear hown
        go_wp2_with fail
        with_reducible refine (CA.out _ _ _ H2.out.row).mono ?_
        rintro e w' ⟨rfl, y3, rfl⟩
        have hsy3 := y3.bel.size
        (try simp only [World.size_alloc, World.size_setCell, World.size_drew] at hsy3)
        go_wp2_with fail
        go_loopw [5, 7] (fun t5 i wr => ∃ (k : Nat) (a5 : Option Addr) (c5 : Nat) (vs : List Value), k ≤ n - q ∧ i = .int .i64 ((q + k : Nat) : Int) ∧ t5 = .slice a5 (minTo (coreG L) n S k).length c5 ∧ Nest wr w.heap.size wr.heap.size a5 (minTo (coreG L) n S k).length c5 (minTo (coreG L) n S k) vs ∧ ∃ z : Later w, wr = z.w) (fun _ i _ => n - (intOf i).toNat)
        case atStart => exact ⟨0, _, _, [], Nat.zero_le _, by first | rfl | go_num | (congr 1; omega), by rw [hTz.out]; rfl, by rw [hTz.out]; exact (Nest.made0 y3.w w.heap.size (by omega)).bel (B := (y3.w.alloc (.cells #[] 23)).heap.size) (by (repeat (first | (with_reducible exact Below.refl _ _) | (with_reducible assumption) | (with_reducible refine Later.out _ ?_) | (with_reducible refine bel_alloc ?_ _) | (with_reducible refine bel_drew ?_) | (with_reducible refine bel_drewN ?_ _) | (with_reducible refine bel_set ?_ ?_ _) | (with_reducible refine After.out _ ?_ ?_) | (dsimp only; omega) | omega | (simp only [World.size_alloc, World.size_setCell, World.size_drew]; omega)))) (Nat.le_refl _), LaterC.mk (by (repeat (first | (with_reducible exact Below.refl _ _) | (with_reducible assumption) | (with_reducible refine Later.out _ ?_) | (with_reducible refine bel_alloc ?_ _) | (with_reducible refine bel_drew ?_) | (with_reducible refine bel_drewN ?_ _) | (with_reducible refine bel_set ?_ ?_ _) | (with_reducible refine After.out _ ?_ ?_) | (dsimp only; omega) | omega | (simp only [World.size_alloc, World.size_setCell, World.size_drew]; omega))))⟩
        case round =>
          obtain ⟨k, a5, c5, vs, hk, rfl, rfl, hnest, z, rfl⟩ := hrel
          have hzz := z.bel.size
          obtain ⟨x, hx⟩ : ∃ x, q + k = x := ⟨_, rfl⟩
          have hS1 := hTs.out k
          rw [hx] at hS1 ⊢
          by_cases hlt : x < n
          · have hi1 : (x : Int) < (n : Int) := by omega
            have hN1 := hT.out k hk
            have hN2 := hZ.out (S ++ [(x : Int)])
            have IHx := fun lo a' c' w hr hlo ho => IH.out x (by omega) hlt lo a' c' w hr hlo ho
            obtain ⟨Zs, hZs⟩ : ∃ Zs, minZ (coreG L) n (S ++ [(x : Int)]) = Zs := ⟨_, rfl⟩
            rw [hZs] at hS1 hN2
            simp only [hZs] at IHx
            obtain ⟨N, hN⟩ : ∃ N, minTo (coreG L) n S k = N := ⟨_, rfl⟩
            rw [hN] at hS1 hN1 hnest ⊢
            replace IHx := Lib.hid IHx
            replace hS1 := Lib.hid hS1
            obtain ⟨p, p', hp1, hp2, hp3, hpo, hpk, hpb⟩ := hnest.own.tight hzz
            have hon := Lib.hid hpo
            have hpb' := Lib.hid (fun k h1 h2 => (hpb k h1 h2).1)
            replace hnest := Lib.hid hnest
            clear hZs hN hpo hpk hpb
            go_wp2_with (first | (go_at_call 60; (with_reducible refine (COwn.out _ (HO.out.row.bel (by (repeat (first | (with_reducible exact Below.refl _ _) | (with_reducible assumption) | (with_reducible refine Later.out _ ?_) | (with_reducible refine bel_alloc ?_ _) | (with_reducible refine bel_drew ?_) | (with_reducible refine bel_drewN ?_ _) | (with_reducible refine bel_set ?_ ?_ _) | (with_reducible refine After.out _ ?_ ?_) | (dsimp only; omega) | omega | (simp only [World.size_alloc, World.size_setCell, World.size_drew]; omega)))))).mono ?_); rintro e w' ⟨a4, c4, rfl, hown4, y4, rfl⟩; have hs4 := y4.bel.size; (try simp only [World.size_alloc, World.size_setCell, World.size_drew] at hs4); have H4 := Lib.hid hown4; clear hown4) | (go_at_call 40; (with_reducible refine (IHx.out z.w.heap.size _ _ _ (hr.out.bel (by (repeat (first | (with_reducible exact Below.refl _ _) | (with_reducible assumption) | (with_reducible refine Later.out _ ?_) | (with_reducible refine bel_alloc ?_ _) | (with_reducible refine bel_drew ?_) | (with_reducible refine bel_drewN ?_ _) | (with_reducible refine bel_set ?_ ?_ _) | (with_reducible refine After.out _ ?_ ?_) | (dsimp only; omega) | omega | (simp only [World.size_alloc, World.size_setCell, World.size_drew]; omega))))) (by ((try simp only [World.size_alloc, World.size_setCell, World.size_drew]); omega)) N6.out).mono ?_); rintro e w' ⟨a7, c7, vs7, rfl, hn7, y7, rfl⟩; have hs7 := y7.bel.size; (try simp only [World.size_alloc, World.size_setCell, World.size_drew] at hs7); have hv7 := hn7.vlen; have N7 := Lib.hid hn7; clear hn7) | (at_builtin; (refine wpList_append_later _ rfl _ _ _ rfl 2 ii _ 1 8 Tryd.underlying23 Jii.out.1 Jii.out.2.1 Jii.out.2.2.1 Jii.out.2.2.2 rfl (by decide) (z.w) ?qa1 _ _ _ (intCells S) rfl ?qa2 _ _ _ ([.int .i64 x]) rfl ?qa3 ?qa4 ?qa5 ?qa6 ?qa7 ?_); (case qa1 => (repeat (first | (with_reducible exact Below.refl _ _) | (with_reducible assumption) | (with_reducible refine Later.out _ ?_) | (with_reducible refine bel_alloc ?_ _) | (with_reducible refine bel_drew ?_) | (with_reducible refine bel_drewN ?_ _) | (with_reducible refine bel_set ?_ ?_ _) | (with_reducible refine After.out _ ?_ ?_) | (dsimp only; omega) | omega | (simp only [World.size_alloc, World.size_setCell, World.size_drew]; omega)))); (case qa2 => exact own_mono (own_bel H4.out (by (repeat (first | (with_reducible exact Below.refl _ _) | (with_reducible assumption) | (with_reducible refine Later.out _ ?_) | (with_reducible refine bel_alloc ?_ _) | (with_reducible refine bel_drew ?_) | (with_reducible refine bel_drewN ?_ _) | (with_reducible refine bel_set ?_ ?_ _) | (with_reducible refine After.out _ ?_ ?_) | (dsimp only; omega) | omega | (simp only [World.size_alloc, World.size_setCell, World.size_drew]; omega))))) (by first | omega | (simp only [World.size_drew]; omega) | (simp only [World.size_drew]; done) | exact Nat.le_refl _)); (case qa3 => (first | rfl | (simp [boolCells]; done) | (simp [intCells]; done) | (simp; done) | (first | omega | (simp only [List.length_append, List.length_cons, List.length_nil]; omega)))); (case qa4 => exact Row.madeAt (by simp only [World.size_alloc]; try rfl) rfl); (case qa5 => (intro u hu; simp at hu; subst hu; rfl)); (case qa6 => (unfold maxLen; (first | omega | (simp only [List.length_append, List.length_cons, List.length_nil]; omega)))); (case qa7 => (first | omega | (simp only [List.length_append, List.length_cons, List.length_nil]; omega))); intro a6 c6 x6 hown6; rw [← hcS.out] at hown6; have hs6 := x6.bel.size; have N6 := Lib.hid (Owns.of hown6); clear hown6) | (at_builtin; (refine wpList_append_after _ rfl _ _ _ rfl 23 i2 _ 1 24 Tryd.underlying52 Ji2.out.1 Ji2.out.2.1 Ji2.out.2.2.1 Ji2.out.2.2.2 rfl (by decide) (p) (p') ?qb15 _ _ _ (vs) rfl ?qb16 ?qb22 _ _ _ (vs7) rfl ?qb17 ?qb18 ?qb19 ?qb20 ?qb21 ?_); (case qb15 => (first | (dsimp only; omega) | omega | (simp only [World.size_alloc, World.size_setCell, World.size_drew]; omega))); (case qb16 => exact (hon.out.bel (B := z.w.heap.size) (by (repeat (first | (with_reducible exact Below.refl _ _) | (with_reducible assumption) | (with_reducible refine Later.out _ ?_) | (with_reducible refine bel_alloc ?_ _) | (with_reducible refine bel_drew ?_) | (with_reducible refine bel_drewN ?_ _) | (with_reducible refine bel_set ?_ ?_ _) | (with_reducible refine After.out _ ?_ ?_) | (dsimp only; omega) | omega | (simp only [World.size_alloc, World.size_setCell, World.size_drew]; omega)))) hp3).own); (case qb22 => exact hon.out.lt); (case qb17 => (first | rfl | (simp [boolCells]; done) | (simp [intCells]; done) | (simp; done) | (first | omega | (simp only [List.length_append, List.length_cons, List.length_nil]; omega)))); (case qb18 => exact N7.out.own.row); (case qb19 => exact N7.out.one); (case qb20 => (unfold maxLen; (first | omega | (simp only [List.length_append, List.length_cons, List.length_nil]; omega)))); (case qb21 => (first | omega | (simp only [List.length_append, List.length_cons, List.length_nil]; omega))); intro a9 c9 x9 hown9))
            have N2 := Nest.append hnest.out (show Below z.w.heap.size z.w y7.w by (repeat (first | (with_reducible exact Below.refl _ _) | (with_reducible assumption) | (with_reducible refine Later.out _ ?_) | (with_reducible refine bel_alloc ?_ _) | (with_reducible refine bel_drew ?_) | (with_reducible refine bel_drewN ?_ _) | (with_reducible refine bel_set ?_ ?_ _) | (with_reducible refine After.out _ ?_ ?_) | (dsimp only; omega) | omega | (simp only [World.size_alloc, World.size_setCell, World.size_drew]; omega)))) N7.out hp1 hzz hp3 hpb'.out x9.btw hown9
            replace N2 := Lib.hid N2
            clear hown9
            go_roundw
            case rel => exact ⟨k + 1, a9, c9, _, by omega, by rw [show q + (k + 1) = x + 1 by omega]; go_num, by rw [hS1.out]; simp, by rw [hS1.out, List.length_append]; exact N2.out, LaterC.mk (x9.out (by (repeat (first | (with_reducible exact Below.refl _ _) | (with_reducible assumption) | (with_reducible refine Later.out _ ?_) | (with_reducible refine bel_alloc ?_ _) | (with_reducible refine bel_drew ?_) | (with_reducible refine bel_drewN ?_ _) | (with_reducible refine bel_set ?_ ?_ _) | (with_reducible refine After.out _ ?_ ?_) | (dsimp only; omega) | omega | (simp only [World.size_alloc, World.size_setCell, World.size_drew]; omega)))) hp1)⟩
            case measure => simp [intOf]; omega
          · obtain rfl : k = n - q := by omega
            go_wp2_with fail
            go_ret
            exact RetNestAt.mk' rfl (hnest.mono hlo (Nat.le_refl _)) (by (repeat (first | (with_reducible exact Below.refl _ _) | (with_reducible assumption) | (with_reducible refine Later.out _ ?_) | (with_reducible refine bel_alloc ?_ _) | (with_reducible refine bel_drew ?_) | (with_reducible refine bel_drewN ?_ _) | (with_reducible refine bel_set ?_ ?_ _) | (with_reducible refine After.out _ ?_ ?_) | (dsimp only; omega) | omega | (simp only [World.size_alloc, World.size_setCell, World.size_drew]; omega))))
      · obtain ⟨m, rfl⟩ : ∃ m, n' = m + 1 := ⟨n' - 1, by omega⟩
        obtain ⟨b, o, rfl, hb, hc⟩ := hlast m rfl
        clear hlast hzero
        go_enter Tryd.func40, Tryd.ntmps40
        go_wp2_with fail
        with_reducible refine (CH.out _ (hr.out.bel (by (repeat (first | (with_reducible exact Below.refl _ _) | (with_reducible assumption) | (with_reducible refine Later.out _ ?_) | (with_reducible refine bel_alloc ?_ _) | (with_reducible refine bel_drew ?_) | (with_reducible refine bel_drewN ?_ _) | (with_reducible refine bel_set ?_ ?_ _) | (with_reducible refine After.out _ ?_ ?_) | (dsimp only; omega) | omega | (simp only [World.size_alloc, World.size_setCell, World.size_drew]; omega))))) (HO.out.row.bel (by (repeat (first | (with_reducible exact Below.refl _ _) | (with_reducible assumption) | (with_reducible refine Later.out _ ?_) | (with_reducible refine bel_alloc ?_ _) | (with_reducible refine bel_drew ?_) | (with_reducible refine bel_drewN ?_ _) | (with_reducible refine bel_set ?_ ?_ _) | (with_reducible refine After.out _ ?_ ?_) | (dsimp only; omega) | omega | (simp only [World.size_alloc, World.size_setCell, World.size_drew]; omega)))))).mono ?_
        rintro e w' ⟨a2, c2, rfl, hown, y2, rfl⟩
        have hsy2 := y2.bel.size
        (try simp only [World.size_alloc, World.size_setCell, World.size_drew] at hsy2)
        have H2 := Lib.hid (Owns.of hown)
        clear hown
        have lb2 : b < y2.w.heap.size := by omega
        go_wp2_with fail
        with_reducible refine (CA.out _ _ _ H2.out.row).mono ?_
        rintro e w' ⟨rfl, y3, rfl⟩
        have hsy3 := y3.bel.size
        (try simp only [World.size_alloc, World.size_setCell, World.size_drew] at hsy3)
        have lb3 : b < y3.w.heap.size := by omega
        go_wp2_with fail
        go_loopw [5, 7] (fun t5 i wr => ∃ (k : Nat) (a5 : Option Addr) (c5 : Nat) (vs : List Value), k ≤ n - q ∧ i = .int .i64 ((q + k : Nat) : Int) ∧ t5 = .slice a5 (minTo (coreG L) n S k).length c5 ∧ Nest wr w.heap.size wr.heap.size a5 (minTo (coreG L) n S k).length c5 (minTo (coreG L) n S k) vs ∧ ∃ z : Later w, wr = z.w) (fun _ i _ => n - (intOf i).toNat)
        case atStart => exact ⟨0, _, _, [], Nat.zero_le _, by first | rfl | go_num | (congr 1; omega), by rw [hTz.out]; rfl, by rw [hTz.out]; exact (Nest.made0 y3.w w.heap.size (by omega)).bel (B := (y3.w.alloc (.cells #[] 23)).heap.size) (by (repeat (first | (with_reducible exact Below.refl _ _) | (with_reducible assumption) | (with_reducible refine Later.out _ ?_) | (with_reducible refine bel_alloc ?_ _) | (with_reducible refine bel_drew ?_) | (with_reducible refine bel_drewN ?_ _) | (with_reducible refine bel_set ?_ ?_ _) | (with_reducible refine After.out _ ?_ ?_) | (dsimp only; omega) | omega | (simp only [World.size_alloc, World.size_setCell, World.size_drew]; omega)))) (Nat.le_refl _), LaterC.mk (by (repeat (first | (with_reducible exact Below.refl _ _) | (with_reducible assumption) | (with_reducible refine Later.out _ ?_) | (with_reducible refine bel_alloc ?_ _) | (with_reducible refine bel_drew ?_) | (with_reducible refine bel_drewN ?_ _) | (with_reducible refine bel_set ?_ ?_ _) | (with_reducible refine After.out _ ?_ ?_) | (dsimp only; omega) | omega | (simp only [World.size_alloc, World.size_setCell, World.size_drew]; omega))))⟩
        case round =>
          obtain ⟨k, a5, c5, vs, hk, rfl, rfl, hnest, z, rfl⟩ := hrel
          have hzz := z.bel.size
          obtain ⟨x, hx⟩ : ∃ x, q + k = x := ⟨_, rfl⟩
          have hS1 := hTs.out k
          rw [hx] at hS1 ⊢
          by_cases hlt : x < n
          · have hi1 : (x : Int) < (n : Int) := by omega
            have hN1 := hT.out k hk
            have hN2 := hZ.out (S ++ [(x : Int)])
            have IHx := fun lo a' c' w hr hlo ho => IH.out x (by omega) hlt lo a' c' w hr hlo ho
            obtain ⟨Zs, hZs⟩ : ∃ Zs, minZ (coreG L) n (S ++ [(x : Int)]) = Zs := ⟨_, rfl⟩
            rw [hZs] at hS1 hN2
            simp only [hZs] at IHx
            obtain ⟨N, hN⟩ : ∃ N, minTo (coreG L) n S k = N := ⟨_, rfl⟩
            rw [hN] at hS1 hN1 hnest ⊢
            replace IHx := Lib.hid IHx
            replace hS1 := Lib.hid hS1
            obtain ⟨p, p', hp1, hp2, hp3, hpo, hpk, hpb⟩ := hnest.own.tight hzz
            have hon := Lib.hid hpo
            have hpb' := Lib.hid (fun k h1 h2 => (hpb k h1 h2).1)
            replace hnest := Lib.hid hnest
            clear hZs hN hpo hpk hpb
            go_wp2_with (first | (go_at_call 60; (with_reducible refine (COwn.out _ (HO.out.row.bel (by (repeat (first | (with_reducible exact Below.refl _ _) | (with_reducible assumption) | (with_reducible refine Later.out _ ?_) | (with_reducible refine bel_alloc ?_ _) | (with_reducible refine bel_drew ?_) | (with_reducible refine bel_drewN ?_ _) | (with_reducible refine bel_set ?_ ?_ _) | (with_reducible refine After.out _ ?_ ?_) | (dsimp only; omega) | omega | (simp only [World.size_alloc, World.size_setCell, World.size_drew]; omega)))))).mono ?_); rintro e w' ⟨a4, c4, rfl, hown4, y4, rfl⟩; have hs4 := y4.bel.size; (try simp only [World.size_alloc, World.size_setCell, World.size_drew] at hs4); have H4 := Lib.hid hown4; clear hown4) | (go_at_call 40; (with_reducible refine (IHx.out z.w.heap.size _ _ _ (hr.out.bel (by (repeat (first | (with_reducible exact Below.refl _ _) | (with_reducible assumption) | (with_reducible refine Later.out _ ?_) | (with_reducible refine bel_alloc ?_ _) | (with_reducible refine bel_drew ?_) | (with_reducible refine bel_drewN ?_ _) | (with_reducible refine bel_set ?_ ?_ _) | (with_reducible refine After.out _ ?_ ?_) | (dsimp only; omega) | omega | (simp only [World.size_alloc, World.size_setCell, World.size_drew]; omega))))) (by ((try simp only [World.size_alloc, World.size_setCell, World.size_drew]); omega)) N6.out).mono ?_); rintro e w' ⟨a7, c7, vs7, rfl, hn7, y7, rfl⟩; have hs7 := y7.bel.size; (try simp only [World.size_alloc, World.size_setCell, World.size_drew] at hs7); have hv7 := hn7.vlen; have N7 := Lib.hid hn7; clear hn7) | (at_builtin; (refine wpList_append_later _ rfl _ _ _ rfl 2 ii _ 1 8 Tryd.underlying23 Jii.out.1 Jii.out.2.1 Jii.out.2.2.1 Jii.out.2.2.2 rfl (by decide) (z.w) ?qa8 _ _ _ (intCells S) rfl ?qa9 _ _ _ ([.int .i64 x]) rfl ?qa10 ?qa11 ?qa12 ?qa13 ?qa14 ?_); (case qa8 => (repeat (first | (with_reducible exact Below.refl _ _) | (with_reducible assumption) | (with_reducible refine Later.out _ ?_) | (with_reducible refine bel_alloc ?_ _) | (with_reducible refine bel_drew ?_) | (with_reducible refine bel_drewN ?_ _) | (with_reducible refine bel_set ?_ ?_ _) | (with_reducible refine After.out _ ?_ ?_) | (dsimp only; omega) | omega | (simp only [World.size_alloc, World.size_setCell, World.size_drew]; omega)))); (case qa9 => exact own_mono (own_bel H4.out (by (repeat (first | (with_reducible exact Below.refl _ _) | (with_reducible assumption) | (with_reducible refine Later.out _ ?_) | (with_reducible refine bel_alloc ?_ _) | (with_reducible refine bel_drew ?_) | (with_reducible refine bel_drewN ?_ _) | (with_reducible refine bel_set ?_ ?_ _) | (with_reducible refine After.out _ ?_ ?_) | (dsimp only; omega) | omega | (simp only [World.size_alloc, World.size_setCell, World.size_drew]; omega))))) (by first | omega | (simp only [World.size_drew]; omega) | (simp only [World.size_drew]; done) | exact Nat.le_refl _)); (case qa10 => (first | rfl | (simp [boolCells]; done) | (simp [intCells]; done) | (simp; done) | (first | omega | (simp only [List.length_append, List.length_cons, List.length_nil]; omega)))); (case qa11 => exact Row.madeAt (by simp only [World.size_alloc]; try rfl) rfl); (case qa12 => (intro u hu; simp at hu; subst hu; rfl)); (case qa13 => (unfold maxLen; (first | omega | (simp only [List.length_append, List.length_cons, List.length_nil]; omega)))); (case qa14 => (first | omega | (simp only [List.length_append, List.length_cons, List.length_nil]; omega))); intro a6 c6 x6 hown6; rw [← hcS.out] at hown6; have hs6 := x6.bel.size; have N6 := Lib.hid (Owns.of hown6); clear hown6) | (at_builtin; (refine wpList_append_after _ rfl _ _ _ rfl 23 i2 _ 1 24 Tryd.underlying52 Ji2.out.1 Ji2.out.2.1 Ji2.out.2.2.1 Ji2.out.2.2.2 rfl (by decide) (p) (p') ?qb23 _ _ _ (vs) rfl ?qb24 ?qb30 _ _ _ (vs7) rfl ?qb25 ?qb26 ?qb27 ?qb28 ?qb29 ?_); (case qb23 => (first | (dsimp only; omega) | omega | (simp only [World.size_alloc, World.size_setCell, World.size_drew]; omega))); (case qb24 => exact (hon.out.bel (B := z.w.heap.size) (by (repeat (first | (with_reducible exact Below.refl _ _) | (with_reducible assumption) | (with_reducible refine Later.out _ ?_) | (with_reducible refine bel_alloc ?_ _) | (with_reducible refine bel_drew ?_) | (with_reducible refine bel_drewN ?_ _) | (with_reducible refine bel_set ?_ ?_ _) | (with_reducible refine After.out _ ?_ ?_) | (dsimp only; omega) | omega | (simp only [World.size_alloc, World.size_setCell, World.size_drew]; omega)))) hp3).own); (case qb30 => exact hon.out.lt); (case qb25 => (first | rfl | (simp [boolCells]; done) | (simp [intCells]; done) | (simp; done) | (first | omega | (simp only [List.length_append, List.length_cons, List.length_nil]; omega)))); (case qb26 => exact N7.out.own.row); (case qb27 => exact N7.out.one); (case qb28 => (unfold maxLen; (first | omega | (simp only [List.length_append, List.length_cons, List.length_nil]; omega)))); (case qb29 => (first | omega | (simp only [List.length_append, List.length_cons, List.length_nil]; omega))); intro a9 c9 x9 hown9))
            have N2 := Nest.append hnest.out (show Below z.w.heap.size z.w y7.w by (repeat (first | (with_reducible exact Below.refl _ _) | (with_reducible assumption) | (with_reducible refine Later.out _ ?_) | (with_reducible refine bel_alloc ?_ _) | (with_reducible refine bel_drew ?_) | (with_reducible refine bel_drewN ?_ _) | (with_reducible refine bel_set ?_ ?_ _) | (with_reducible refine After.out _ ?_ ?_) | (dsimp only; omega) | omega | (simp only [World.size_alloc, World.size_setCell, World.size_drew]; omega)))) N7.out hp1 hzz hp3 hpb'.out x9.btw hown9
            replace N2 := Lib.hid N2
            clear hown9
            go_roundw
            case rel => exact ⟨k + 1, a9, c9, _, by omega, by rw [show q + (k + 1) = x + 1 by omega]; go_num, by rw [hS1.out]; simp, by rw [hS1.out, List.length_append]; exact N2.out, LaterC.mk (x9.out (by (repeat (first | (with_reducible exact Below.refl _ _) | (with_reducible assumption) | (with_reducible refine Later.out _ ?_) | (with_reducible refine bel_alloc ?_ _) | (with_reducible refine bel_drew ?_) | (with_reducible refine bel_drewN ?_ _) | (with_reducible refine bel_set ?_ ?_ _) | (with_reducible refine After.out _ ?_ ?_) | (dsimp only; omega) | omega | (simp only [World.size_alloc, World.size_setCell, World.size_drew]; omega)))) hp1)⟩
            case measure => simp [intOf]; omega
          · obtain rfl : k = n - q := by omega
            go_wp2_with fail
            go_ret
            exact RetNestAt.mk' rfl (hnest.mono hlo (Nat.le_refl _)) (by (repeat (first | (with_reducible exact Below.refl _ _) | (with_reducible assumption) | (with_reducible refine Later.out _ ?_) | (with_reducible refine bel_alloc ?_ _) | (with_reducible refine bel_drew ?_) | (with_reducible refine bel_drewN ?_ _) | (with_reducible refine bel_set ?_ ?_ _) | (with_reducible refine After.out _ ?_ ?_) | (dsimp only; omega) | omega | (simp only [World.size_alloc, World.size_setCell, World.size_drew]; omega))))
    · have CA := Lib.hid (fun a c w hr => sCons_b (L := pick L S) (a := a) (c := c) (w := w) (n := (pick L S).length) rfl (by omega) hr (named_pick hv S) (coreG_b hg))
      cases hmb : minB (coreG L) S
      · have X := Lib.hid (show minZ (coreG L) n S = [] by rw [minZ_good hg, hmb]; rfl)
        rw [hmb] at CR
        clear ho hin hg hmb ih
        rw [X.out]
        go_enter Tryd.func40, Tryd.ntmps40
        go_wp2_with fail
        with_reducible refine (CH.out _ (hr.out.bel (by (repeat (first | (with_reducible exact Below.refl _ _) | (with_reducible assumption) | (with_reducible refine Later.out _ ?_) | (with_reducible refine bel_alloc ?_ _) | (with_reducible refine bel_drew ?_) | (with_reducible refine bel_drewN ?_ _) | (with_reducible refine bel_set ?_ ?_ _) | (with_reducible refine After.out _ ?_ ?_) | (dsimp only; omega) | omega | (simp only [World.size_alloc, World.size_setCell, World.size_drew]; omega))))) (HO.out.row.bel (by (repeat (first | (with_reducible exact Below.refl _ _) | (with_reducible assumption) | (with_reducible refine Later.out _ ?_) | (with_reducible refine bel_alloc ?_ _) | (with_reducible refine bel_drew ?_) | (with_reducible refine bel_drewN ?_ _) | (with_reducible refine bel_set ?_ ?_ _) | (with_reducible refine After.out _ ?_ ?_) | (dsimp only; omega) | omega | (simp only [World.size_alloc, World.size_setCell, World.size_drew]; omega)))))).mono ?_
        rintro e w' ⟨a2, c2, rfl, hown, y2, rfl⟩
        have hsy2 := y2.bel.size
        (try simp only [World.size_alloc, World.size_setCell, World.size_drew] at hsy2)
        have H2 := Lib.hid (Owns.of hown)
        clear hown
        go_wp2_with fail
        with_reducible refine (CA.out _ _ _ H2.out.row).mono ?_
        rintro e w' ⟨rfl, y3, rfl⟩
        have hsy3 := y3.bel.size
        (try simp only [World.size_alloc, World.size_setCell, World.size_drew] at hsy3)
        go_wp2_with fail
        with_reducible refine (CR.out _ (hr.out.bel (by (repeat (first | (with_reducible exact Below.refl _ _) | (with_reducible assumption) | (with_reducible refine Later.out _ ?_) | (with_reducible refine bel_alloc ?_ _) | (with_reducible refine bel_drew ?_) | (with_reducible refine bel_drewN ?_ _) | (with_reducible refine bel_set ?_ ?_ _) | (with_reducible refine After.out _ ?_ ?_) | (dsimp only; omega) | omega | (simp only [World.size_alloc, World.size_setCell, World.size_drew]; omega))))) (HO.out.row.bel (by (repeat (first | (with_reducible exact Below.refl _ _) | (with_reducible assumption) | (with_reducible refine Later.out _ ?_) | (with_reducible refine bel_alloc ?_ _) | (with_reducible refine bel_drew ?_) | (with_reducible refine bel_drewN ?_ _) | (with_reducible refine bel_set ?_ ?_ _) | (with_reducible refine After.out _ ?_ ?_) | (dsimp only; omega) | omega | (simp only [World.size_alloc, World.size_setCell, World.size_drew]; omega)))))).mono ?_
        rintro e w' ⟨rfl, y4, rfl⟩
        have hsy4 := y4.bel.size
        (try simp only [World.size_alloc, World.size_setCell, World.size_drew] at hsy4)
        go_wp2_with fail
        go_ret
        exact RetNestAt.mk' rfl ((Nest.made0 y4.w lo (by omega)).bel (B := (y4.w.alloc (.cells #[] 23)).heap.size) (by (repeat (first | (with_reducible exact Below.refl _ _) | (with_reducible assumption) | (with_reducible refine Later.out _ ?_) | (with_reducible refine bel_alloc ?_ _) | (with_reducible refine bel_drew ?_) | (with_reducible refine bel_drewN ?_ _) | (with_reducible refine bel_set ?_ ?_ _) | (with_reducible refine After.out _ ?_ ?_) | (dsimp only; omega) | omega | (simp only [World.size_alloc, World.size_setCell, World.size_drew]; omega)))) (Nat.le_refl _)) (by (repeat (first | (with_reducible exact Below.refl _ _) | (with_reducible assumption) | (with_reducible refine Later.out _ ?_) | (with_reducible refine bel_alloc ?_ _) | (with_reducible refine bel_drew ?_) | (with_reducible refine bel_drewN ?_ _) | (with_reducible refine bel_set ?_ ?_ _) | (with_reducible refine After.out _ ?_ ?_) | (dsimp only; omega) | omega | (simp only [World.size_alloc, World.size_setCell, World.size_drew]; omega))))
      · have X := Lib.hid (show minZ (coreG L) n S = [S] by rw [minZ_good hg, hmb]; rfl)
        rw [hmb] at CR
        clear ho hin hg hmb ih
        rw [X.out]
        go_enter Tryd.func40, Tryd.ntmps40
        go_wp2_with fail
        with_reducible refine (CH.out _ (hr.out.bel (by (repeat (first | (with_reducible exact Below.refl _ _) | (with_reducible assumption) | (with_reducible refine Later.out _ ?_) | (with_reducible refine bel_alloc ?_ _) | (with_reducible refine bel_drew ?_) | (with_reducible refine bel_drewN ?_ _) | (with_reducible refine bel_set ?_ ?_ _) | (with_reducible refine After.out _ ?_ ?_) | (dsimp only; omega) | omega | (simp only [World.size_alloc, World.size_setCell, World.size_drew]; omega))))) (HO.out.row.bel (by (repeat (first | (with_reducible exact Below.refl _ _) | (with_reducible assumption) | (with_reducible refine Later.out _ ?_) | (with_reducible refine bel_alloc ?_ _) | (with_reducible refine bel_drew ?_) | (with_reducible refine bel_drewN ?_ _) | (with_reducible refine bel_set ?_ ?_ _) | (with_reducible refine After.out _ ?_ ?_) | (dsimp only; omega) | omega | (simp only [World.size_alloc, World.size_setCell, World.size_drew]; omega)))))).mono ?_
        rintro e w' ⟨a2, c2, rfl, hown, y2, rfl⟩
        have hsy2 := y2.bel.size
        (try simp only [World.size_alloc, World.size_setCell, World.size_drew] at hsy2)
        have H2 := Lib.hid (Owns.of hown)
        clear hown
        go_wp2_with fail
        with_reducible refine (CA.out _ _ _ H2.out.row).mono ?_
        rintro e w' ⟨rfl, y3, rfl⟩
        have hsy3 := y3.bel.size
        (try simp only [World.size_alloc, World.size_setCell, World.size_drew] at hsy3)
        go_wp2_with fail
        with_reducible refine (CR.out _ (hr.out.bel (by (repeat (first | (with_reducible exact Below.refl _ _) | (with_reducible assumption) | (with_reducible refine Later.out _ ?_) | (with_reducible refine bel_alloc ?_ _) | (with_reducible refine bel_drew ?_) | (with_reducible refine bel_drewN ?_ _) | (with_reducible refine bel_set ?_ ?_ _) | (with_reducible refine After.out _ ?_ ?_) | (dsimp only; omega) | omega | (simp only [World.size_alloc, World.size_setCell, World.size_drew]; omega))))) (HO.out.row.bel (by (repeat (first | (with_reducible exact Below.refl _ _) | (with_reducible assumption) | (with_reducible refine Later.out _ ?_) | (with_reducible refine bel_alloc ?_ _) | (with_reducible refine bel_drew ?_) | (with_reducible refine bel_drewN ?_ _) | (with_reducible refine bel_set ?_ ?_ _) | (with_reducible refine After.out _ ?_ ?_) | (dsimp only; omega) | omega | (simp only [World.size_alloc, World.size_setCell, World.size_drew]; omega)))))).mono ?_
        rintro e w' ⟨rfl, y4, rfl⟩
        have hsy4 := y4.bel.size
        (try simp only [World.size_alloc, World.size_setCell, World.size_drew] at hsy4)
        go_wp2_with fail
        have N := Lib.hid (Nest.wrap y4.w lo (by omega) hn' ((HO.out.bel (B := w.heap.size) (by (repeat (first | (with_reducible exact Below.refl _ _) | (with_reducible assumption) | (with_reducible refine Later.out _ ?_) | (with_reducible refine bel_alloc ?_ _) | (with_reducible refine bel_drew ?_) | (with_reducible refine bel_drewN ?_ _) | (with_reducible refine bel_set ?_ ?_ _) | (with_reducible refine After.out _ ?_ ?_) | (dsimp only; omega) | omega | (simp only [World.size_alloc, World.size_setCell, World.size_drew]; omega)))) (Nat.le_refl _)).wide (by omega)))
        go_ret
        exact RetNestAt.mk' rfl (N.out.bel (B := (y4.w.alloc (.cells #[.slice a' n' c'] 23)).heap.size) (by (repeat (first | (with_reducible exact Below.refl _ _) | (with_reducible assumption) | (with_reducible refine Later.out _ ?_) | (with_reducible refine bel_alloc ?_ _) | (with_reducible refine bel_drew ?_) | (with_reducible refine bel_drewN ?_ _) | (with_reducible refine bel_set ?_ ?_ _) | (with_reducible refine After.out _ ?_ ?_) | (dsimp only; omega) | omega | (simp only [World.size_alloc, World.size_setCell, World.size_drew]; omega)))) (Nat.le_refl _)) (by (repeat (first | (with_reducible exact Below.refl _ _) | (with_reducible assumption) | (with_reducible refine Later.out _ ?_) | (with_reducible refine bel_alloc ?_ _) | (with_reducible refine bel_drew ?_) | (with_reducible refine bel_drewN ?_ _) | (with_reducible refine bel_set ?_ ?_ _) | (with_reducible refine After.out _ ?_ ?_) | (dsimp only; omega) | omega | (simp only [World.size_alloc, World.size_setCell, World.size_drew]; omega))))
end Go.Proofs.YtaffphidfhacjaaDoor
