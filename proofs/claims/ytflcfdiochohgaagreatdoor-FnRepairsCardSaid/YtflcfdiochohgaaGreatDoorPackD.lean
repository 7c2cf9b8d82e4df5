import Derived.Test.YtflcfdiochohgaaGreatDoorPackC
import Derived.Test.YtflcfdiochohgaaGreatDoorPackAb
import Derived.Test.YtflcfdiochohgaaGreatDoorPackB
/- Several of my texts, one behind the other: All, Tab, TabR, AllR. -/
/- All cores that begin with some indices: the reference's side. -/
set_option linter.unusedSimpArgs false
set_option linter.unusedVariables false
namespace Go.Proofs.YtflcfdiochohgaaGreatDoor
open Go.RowKit
/-- The call handed back slices of its own, from a place on. -/
def RetNestAt (lo : Nat) (w : World) (S : List (List Int)) (e : Ending) (w' : World) : Prop :=
  ∃ (a : Option Addr) (c : Nat) (vs : List Value), e = .returned (.slice a S.length c) ∧ Nest w' lo w'.heap.size a S.length c S vs ∧ ∃ y : Later w, w' = y.w
theorem RetNestAt.mk' {lo : Nat} {w w' : World} {S : List (List Int)} {e : Ending} {a : Option Addr} {n c : Nat} {vs : List Value} (h : e = .returned (.slice a n c)) (hn : Nest w' lo w'.heap.size a n c S vs) (hb : Below w.heap.size w w') : RetNestAt lo w S e w' := by
  obtain rfl := hn.len
  exact ⟨a, c, vs, h, hn, ⟨w', hb⟩, rfl⟩
theorem next_getLast {S : List Int} {n : Nat} (h : Ixs n S) (hp : 0 < S.length) : S[S.length - 1]'(by omega) = ((nextN S : Nat) : Int) - 1 := by
  unfold nextN
  rw [List.getLast?_eq_getElem?, List.getElem?_eq_getElem (by omega)]
  have := (h.bd _ (List.getElem_mem (show S.length - 1 < S.length by omega))).1
  simp only
  omega
theorem nextN_le {S : List Int} {n : Nat} (h : Ixs n S) : nextN S ≤ n := by
  rcases Nat.eq_zero_or_pos S.length with h0 | h0
  · rw [List.length_eq_zero_iff.1 h0]; exact Nat.zero_le _
  · have h1 := next_getLast h h0
    have h2 := (h.bd _ (List.getElem_mem (show S.length - 1 < S.length by omega))).2
    omega
theorem minTo_zero (G : List Int → Bool) (n : Nat) (S : List Int) : minTo G n S 0 = [] := rfl
theorem minZ_len (G : List Int → Bool) (n : Nat) : ∀ (d : Nat) (S : List Int), n - nextN S ≤ d → (minZ G n S).length ≤ 2 ^ (n - nextN S) ∧ ∀ k, k ≤ n - nextN S → (minTo G n S k).length + 2 ^ (n - nextN S - k) ≤ 2 ^ (n - nextN S)
  | 0, S, hd => by
    have h0 : n - nextN S = 0 := by omega
    constructor
    · cases hg : G S
      · rw [minZ_bad hg, h0, minTo_zero]; simp
      · rw [minZ_good hg]; split <;> simp [h0]
    · intro k hk
      obtain rfl : k = 0 := by omega
      rw [minTo_zero]; simp
  | d + 1, S, hd => by
    have key : ∀ k, k ≤ n - nextN S → (minTo G n S k).length + 2 ^ (n - nextN S - k) ≤ 2 ^ (n - nextN S) := by
      intro k
      induction k with
      | zero => intro _; rw [minTo_zero]; simp
      | succ k ih =>
        intro hk
        have h1 := ih (by omega)
        have h2 := (minZ_len G n d (S ++ [((nextN S + k : Nat) : Int)]) (by rw [nextN_snoc]; omega)).1
        rw [nextN_snoc] at h2
        rw [minTo_succ, List.length_append]
        have h3 : 2 ^ (n - nextN S - k) = 2 ^ (n - nextN S - (k + 1)) + 2 ^ (n - nextN S - (k + 1)) := by
          rw [show n - nextN S - k = (n - nextN S - (k + 1)) + 1 by omega, Nat.pow_succ]; omega
        have h4 : n - (nextN S + k + 1) = n - nextN S - (k + 1) := by omega
        rw [h4] at h2
        omega
    refine ⟨?_, key⟩
    cases hg : G S
    · rw [minZ_bad hg]
      exact Nat.le_trans (Nat.le_add_right _ _) (key (n - nextN S) (Nat.le_refl _))
    · rw [minZ_good hg]
      have := Nat.one_le_two_pow (n := n - nextN S)
      split <;> simp <;> omega
theorem minZ_small (G : List Int → Bool) {n : Nat} (hn : n ≤ 12) (S : List Int) : (minZ G n S).length ≤ 4096 := by
  have h := (minZ_len G n _ S (Nat.le_refl _)).1
  have : 2 ^ (n - nextN S) ≤ 2 ^ 12 := Nat.pow_le_pow_right (by omega) (by omega)
  omega
theorem minTo_small (G : List Int → Bool) {n : Nat} (hn : n ≤ 12) (S : List Int) {k : Nat} (hk : k ≤ n - nextN S) : (minTo G n S k).length ≤ 4096 := by
  have h := (minZ_len G n _ S (Nat.le_refl _)).2 k hk
  have : 2 ^ (n - nextN S) ≤ 2 ^ 12 := Nat.pow_le_pow_right (by omega) (by omega)
  exact Nat.le_trans (Nat.le_trans (Nat.le_add_right _ _) h) this
theorem Nest.wrap (W : World) (lo : Nat) (hlo : lo ≤ W.heap.size) {l : List Int} {ai : Option Addr} {ci m : Nat} (hm : l.length = m) (h : Owns W lo W.heap.size 2 1 m ai ci (intCells l)) :
    Nest (W.alloc (.cells #[.slice ai m ci] 35)) lo (W.alloc (.cells #[.slice ai m ci] 35)).heap.size (some ⟨W.heap.size, 0, none⟩) 1 1 [l] [.slice ai m ci] := by
  subst hm
  have h2 := Owns.of (World.ownsRow_lit (base := lo) (e := 35) (size := 1) W #[.slice ai l.length ci] 1 hlo (by unfold maxLen; omega) rfl)
  exact Nest.lit h2 ((h.bel (B := W.heap.size) ((Below.refl _ _).alloc (Nat.le_refl _) _) (Nat.le_refl _)).wide (by simp only [World.size_alloc]; omega))
theorem ixs_len {n : Nat} {S : List Int} (h : Ixs n S) : S.length ≤ n := within_len n S h.nodup (fun x hx => h.bd x hx)
end Go.Proofs.YtflcfdiochohgaaGreatDoor

/- All cores, by number: impl.coresOf. -/
set_option linter.unusedSimpArgs false
set_option linter.unusedVariables false
namespace Go.Proofs.YtflcfdiochohgaaGreatDoor
open Go.RowKit
theorem info_boolT : (Tryz.prog.info? 4).map (fun i => (i.zero, i.size, i.bytes)) = some (some (.bool false), 1, 1) := by kernel_rfl
theorem boolCells_set (l : List Bool) (k : Nat) (v : Bool) : boolCells (l.set k v) = (boolCells l).set k (.bool v) := by simp [boolCells, List.map_set]
theorem boolCells_false (N : Nat) : boolCells (List.replicate N false) = List.replicate N (.bool false) := by simp [boolCells]
theorem Nest.append2 {W x : World} {lo mid p p' : Nat} {a a2 a' : Option Addr} {n c n2 c2 c' : Nat} {S S2 : List (List Int)} {vs vs2 : List Value} (h : Nest W lo mid a n c S vs) (h2 : Nest W mid W.heap.size a2 n2 c2 S2 vs2) (hlp : lo ≤ p) (hlm : lo ≤ mid) (hmw : mid ≤ W.heap.size) (hpp : p' ≤ mid)
    (hpb : ∀ k, p ≤ k → k < p' → (Value.slice a n c).ownBlock = some k) (hx : Between p p' W x) (hown : x.ownsRow p 35 1 (.slice a' (n + n2) c') (n + n2) (vs ++ vs2)) : Nest x lo x.heap.size a' (n + n2) c' (S ++ S2) (vs ++ vs2) := by
  have l1 := h.len
  have l2 := h2.len
  have v1 := h.vlen
  have v2 := h2.vlen
  have hs2 := hx.size
  refine ⟨⟨own_mono hown hlp, fun q hq => by subst hq; exact (hown.lt q.block rfl).2⟩, by simp [l1, l2], fun i hi => ?_, ?_⟩
  · rw [List.length_append] at hi
    rcases Nat.lt_or_ge i S.length with h3 | h3
    · obtain ⟨ai, ci, h4, h5⟩ := h.at_ i h3
      refine ⟨ai, ci, ?_, ?_⟩
      · rw [List.getElem?_append_left (by omega), h4, List.getElem_append_left h3]
      · rw [List.getElem_append_left h3]
        refine (h5.keep hx fun k hk => ?_).wide (by omega)
        by_cases h7 : p ≤ k ∧ k < p'
        · obtain ⟨cur, fr, h8⟩ := h5.elem hk
          obtain ⟨cur', fr', h9⟩ := h.own.elem (hpb k h7.1 h7.2)
          exact absurd (elem_ne h8 h9) (by decide)
        · omega
    · obtain ⟨ai, ci, h4, h5⟩ := h2.at_ (i - S.length) (by omega)
      refine ⟨ai, ci, ?_, ?_⟩
      · rw [List.getElem?_append_right (by omega), show vs.length = S.length by omega, h4, List.getElem_append_right h3]
      · rw [List.getElem_append_right h3]
        have h6 := h5.keep hx fun k hk => by have := (h5.blk_lt hk).1; omega
        exact ⟨own_mono h6.own hlm, fun q hq => Nat.lt_of_lt_of_le (h6.lt q hq) hs2⟩
  · rw [List.pairwise_append]
    refine ⟨h.sep, h2.sep, fun u hu v hv g hg hg' => ?_⟩
    obtain ⟨i, hi, rfl⟩ := List.mem_iff_getElem.1 hu
    obtain ⟨j, hj, rfl⟩ := List.mem_iff_getElem.1 hv
    obtain ⟨ai, ci, h4, h5⟩ := h.at_ i (by omega)
    obtain ⟨aj, cj, h6, h7⟩ := h2.at_ j (by omega)
    rw [List.getElem?_eq_getElem hi] at h4
    rw [List.getElem?_eq_getElem hj] at h6
    rw [Option.some.inj h4] at hg
    rw [Option.some.inj h6] at hg'
    have := h5.blk_lt hg
    have := h7.blk_lt hg'
    omega
/-- One more slice behind such slices. -/
theorem Nest.snoc {W x : World} {lo mid p p' : Nat} {a a' ai : Option Addr} {n c ci c' m : Nat} {S : List (List Int)} {vs : List Value} {l : List Int} (h : Nest W lo mid a n c S vs) (hl : l.length = m) (hlm : lo ≤ mid) (hmw : mid ≤ W.heap.size) (ho : Owns W mid W.heap.size 2 1 m ai ci (intCells l)) (hlp : lo ≤ p) (hpp : p' ≤ mid)
    (hpb : ∀ k, p ≤ k → k < p' → (Value.slice a n c).ownBlock = some k) (hx : Between p p' (W.alloc (.cells #[.slice ai m ci] 35)) x) (hown : x.ownsRow p 35 1 (.slice a' (n + 1) c') (n + 1) (vs ++ [.slice ai m ci])) : Nest x lo x.heap.size a' (n + 1) c' (S ++ [l]) (vs ++ [.slice ai m ci]) := by
  subst hl
  have hb := (Below.refl W.heap.size W).alloc (Nat.le_refl _) (.cells #[.slice ai l.length ci] 35)
  have h1 := Owns.of (World.ownsRow_lit (base := mid) (e := 35) (size := 1) W #[.slice ai l.length ci] 1 hmw (by unfold maxLen; omega) rfl)
  have h2 := (ho.bel hb (Nat.le_refl _)).wide (hi' := (W.alloc (.cells #[.slice ai l.length ci] 35)).heap.size) (by simp only [World.size_alloc]; omega)
  exact Nest.append2 (h.bel hb hmw) (Nest.lit h1 h2) hlp hlm (by simp only [World.size_alloc]; omega) hpp hpb hx hown
theorem bits_len (G : List Int → Bool) (n k : Nat) : ∀ l ∈ bitsTo G n k, l.length ≤ n := by
  intro l hl
  unfold bitsTo at hl
  obtain ⟨b, _, rfl⟩ := List.mem_map.1 (List.mem_filter.1 hl).1
  exact subN_len n b
theorem tab_cell {W : World} {lo hi gb N k : Nat} {l : List Bool} (h : Owns W lo hi 4 1 N (some ⟨gb, 0, none⟩) N (boolCells l)) (hl : l.length = N) (hk : k < N) : ∃ v, W.cell? ⟨gb, k, none⟩ = some (.bool v) ∧ W.frozen? ⟨gb, k, none⟩ = false := by
  obtain ⟨g0, e0, -, -, kc, kf⟩ := h.at_ (j := k) (by omega)
  cases e0
  exact ⟨l[k], by rw [kc]; exact boolCells_get (by omega), kf⟩
end Go.Proofs.YtflcfdiochohgaaGreatDoor

/- All minimal repairs, by number: impl.minimalRepairs. -/
set_option linter.unusedSimpArgs false
set_option linter.unusedVariables false
namespace Go.Proofs.YtflcfdiochohgaaGreatDoor
open Go.RowKit
theorem enters_repairs1 : ∀ args w, (callFunc 169 args).run Tryz.prog w = .ok (.enter 169 args) w := fun _ _ => by kernel_rfl
set_option maxHeartbeats 1000000 in
theorem repairs1_any (gb g3 g5 N k i d : Nat) (v : Bool) (w : World) (hk : k < 4096) (hi : i < 12) (hd : bits .andNot .i64 (k : Int) (wrap64 ((2 : Int) ^ i)) = (d : Int)) (hdN : d < N) (h3 : w.cell? ⟨g3, 0, none⟩ = some (.slice (some ⟨gb, 0, none⟩) N N)) (h5 : w.cell? ⟨g5, 0, none⟩ = some (.int .i64 k))
    (hb : w.cell? ⟨gb, d, none⟩ = some (.bool v)) : Calls Tryz.prog 169 #[.int .i64 i, .pointer (some ⟨g3, 0, none⟩), .pointer (some ⟨g5, 0, none⟩)] w (Ret w (.bool v)) := by
  have l3 := World.block_lt_of_cell? w _ h3
  have l5 := World.block_lt_of_cell? w _ h5
  have lb := World.block_lt_of_cell? w _ hb
  have hd2 : (d : Int) < (N : Int) := by omega
  go_enter Tryz.func169, Tryz.ntmps169
  go_wp2_with fail
  refine wp_region_later (by kernel_rfl) (by kernel_rfl) ?_
  repeat (go_big_quiet_step (fail))
  refine wpQuiet_nil ?_
  rintro _ ⟨xq, rfl⟩
  go_wp2_with fail
  go_ret
  exact .mk rfl (by (repeat (first | (with_reducible exact Below.refl _ _) | (with_reducible assumption) | (with_reducible refine Later.out _ ?_) | (with_reducible refine bel_alloc ?_ _) | (with_reducible refine bel_drew ?_) | (with_reducible refine bel_drewN ?_ _) | (with_reducible refine bel_set ?_ ?_ _) | (with_reducible refine After.out _ ?_ ?_) | (dsimp only; omega) | omega | (simp only [World.size_alloc, World.size_setCell, World.size_drew]; omega))))
theorem tells_repairs1 {G : List Int → Bool} {n N k gb g3 g5 : Nat} {W : World} (hn : n ≤ 12) (hN : N = 2 ^ n) (hk : k < N) (h3 : W.cell? ⟨g3, 0, none⟩ = some (.slice (some ⟨gb, 0, none⟩) N N)) (h5 : W.cell? ⟨g5, 0, none⟩ = some (.int .i64 k))
    (hb : Row W (some ⟨gb, 0, none⟩) (boolCells (tabG G n N k))) : TellsI 169 #[.pointer (some ⟨g3, 0, none⟩), .pointer (some ⟨g5, 0, none⟩)] (fun x => G (subN n (dropN k x.toNat))) (subN n k) W := by
  intro x hx w' hbw
  obtain ⟨i, rfl, hi, hbit⟩ := mem_subN.1 hx
  have hN2 : N ≤ 2 ^ 12 := by rw [hN]; exact Nat.pow_le_pow_right (by omega) hn
  have hd := dropN_lt (b := k) (i := i) (by omega) (by omega) hbit
  have ht := tabG_at G n N k (j := dropN k i) (by omega)
  rw [decide_eq_true hd, Bool.true_and] at ht
  have e3 := (hbw.cell (p := ⟨g3, 0, none⟩) (World.block_lt_of_cell? W _ h3)).trans h3
  have e5 := (hbw.cell (p := ⟨g5, 0, none⟩) (World.block_lt_of_cell? W _ h5)).trans h5
  exact repairs1_any gb g3 g5 N k i (dropN k i) _ w' (by omega) (by omega) (andNot_wrap (by omega) (by omega) hbit) (by omega) e3 e5 (bool_at (hb.bel hbw) ht)
set_option maxRecDepth 8000 in
set_option maxHeartbeats 4000000 in
theorem minimalRepairs_any (L : List Clm) (a : Option Addr) (n c : Nat) (w : World) (hn : L.length = n) (hm : n ≤ 12) (hr : Row w a (clmsCells L)) : Calls Tryz.prog 105 #[.slice a n c] w (RetNest w (minZ (repG L) n []) id) := by
  obtain ⟨N, hN⟩ : ∃ N, N = 2 ^ n := ⟨_, rfl⟩
  have hN2 : N ≤ 4096 := by rw [hN]; exact Nat.pow_le_pow_right (n := 2) (by omega) hm
  have hsh := wrap_pow hm
  rw [← hN] at hsh
  have hmk := run_make_row' (P := Tryz.prog) 127 4 (.bool false) 1 Tryz.underlying127 info_boolT rfl .i64 .i64 N (by omega) (by omega)
  replace hN := Lib.hid hN
  have hS := Lib.hid (fun k => ixs_subN n k)
  have hSl := Lib.hid (fun k => subN_len n k)
  have CSub := Lib.hid (fun (k : Nat) (hk : k < N) (w : World) => subset_any n k w hm (by rw [← hN.out]; exact hk))
  have CF := Lib.hid (fun (k g3 g5 gb : Nat) (hk : k < N) a c (w : World) hr h3 h5 hb => containsFuncI_any 169 #[.pointer (some ⟨g3, 0, none⟩), .pointer (some ⟨g5, 0, none⟩)] _ (subN n k) a (subN n k).length c w enters_repairs1 rfl (by have := subN_len n k; omega) hr (tells_repairs1 (G := repG L) (gb := gb) hm hN.out hk h3 h5 hb))
  have hLB := Lib.hid (fun (k : Nat) (hk : k < N) => lessB_any (b := k) (by omega) hm (repG L))
  have hGO := Lib.hid (fun k => good_or (repG_mono L) (show Ixs L.length (subN n k) by rw [hn]; exact ixs_subN n k))
  have CA := Lib.hid (fun (T : List Int) (b : Bool) (hT : Ixs n T) (hb : repG L T = b) a' c' (w : World) hr hr' => isRepair_b L T a a' n c T.length c' w hn rfl (by omega) (by have := ixs_len hT; omega) hr hr' hb)
  have hB0 := Lib.hid (bitsTo_zero (repG L) n)
  have hT0 := Lib.hid (tabG_zero (repG L) n N)
  have hTl := Lib.hid (fun k => tabG_len (repG L) n N k)
  replace hr := Lib.hid hr
  obtain ⟨i2, j1, j2, j3, j4⟩ := info_ints'
  have Ji2 := Lib.hid (And.intro j1 (And.intro j2 (And.intro j3 j4)))
  clear j1 j2 j3 j4
  go_enter Tryz.func105, Tryz.ntmps105
  go_wp2_with fail
  go_loopw [4, 15] (fun t4 i wr => ∃ (k : Nat) (a5 : Option Addr) (c5 : Nat) (vs : List Value), k ≤ N ∧ i = .int .i64 k ∧ t4 = .slice a5 (bitsTo (repG L) n k).length c5 ∧ Nest wr (w.heap.size + 2) wr.heap.size a5 (bitsTo (repG L) n k).length c5 (bitsTo (repG L) n k) vs ∧
    Owns wr w.heap.size (w.heap.size + 1) 4 1 N (some ⟨w.heap.size, 0, none⟩) N (boolCells (tabG (repG L) n N k)) ∧ wr.cell? ⟨w.heap.size + 1, 0, none⟩ = some (.slice (some ⟨w.heap.size, 0, none⟩) N N) ∧ ∃ z : Later w, wr = z.w) (fun _ i _ => N - (intOf i).toNat)
  case atStart =>
    refine ⟨0, none, 0, [], Nat.zero_le _, rfl, by rw [hB0.out]; rfl, by rw [hB0.out]; exact Nest.nil _ _ _, ?_, ?_, LaterC.mk (by (repeat (first | (with_reducible exact Below.refl _ _) | (with_reducible assumption) | (with_reducible refine Later.out _ ?_) | (with_reducible refine bel_alloc ?_ _) | (with_reducible refine bel_drew ?_) | (with_reducible refine bel_drewN ?_ _) | (with_reducible refine bel_set ?_ ?_ _) | (with_reducible refine After.out _ ?_ ?_) | (dsimp only; omega) | omega | (simp only [World.size_alloc, World.size_setCell, World.size_drew]; omega))))⟩
    · have h := Owns.of (World.ownsRow_lit (base := w.heap.size) (e := 4) (size := 1) w (madeCells #[Value.bool false] N) N (Nat.le_refl _) (by unfold maxLen; omega) (by simp [madeCells]))
      rw [toList_madeCells_one] at h
      rw [hT0.out, boolCells_false]
      exact (h.bel (B := (w.alloc (.cells (madeCells #[Value.bool false] N) 4)).heap.size) ((Below.refl _ _).alloc (Nat.le_refl _) _) (Nat.le_refl _)).wide (by simp only [World.size_alloc]; omega)
    · simp [go_sem, ↓IntWalk.iteOmega]
  case round =>
    obtain ⟨k, a5, c5, vs, hk, rfl, rfl, hnest, hown, hbox, z, rfl⟩ := hrel
    have hzz := z.bel.size
    have lbx := World.block_lt_of_cell? _ _ hbox
    replace hnest := Lib.hid hnest
    replace hown := Lib.hid hown
    by_cases hlt : k < N
    · have hi1 : (k : Int) < wrap64 ((2 : Int) ^ n) := by rw [hsh]; omega
      have hi2 : (k : Int) < (N : Int) := by omega
      clear hsh
      have hlen := hSl.out k
      have CS := Lib.hid (fun w => CSub.out k hlt w)
      have CFk := Lib.hid (fun g3 g5 gb a c w hr h3 h5 hb => CF.out k g3 g5 gb hlt a c w hr h3 h5 hb)
      have hSk := hS.out k
      obtain ⟨S, hSe⟩ : ∃ S, subN n k = S := ⟨_, rfl⟩
      have hlb := hLB.out k hlt
      have hgo := hGO.out k
      rw [hSe] at hlb hgo hlen hSk
      simp only [hSe] at CS CFk
      simp only [hlb] at CFk
      cases hls : lessB (repG L) S
      · cases hg : repG L S
        · rw [hls] at CFk
          have CAk := Lib.hid (fun a' c' w hr hr' => CA.out S _ hSk hg a' c' w hr hr')
          have X := Lib.hid (bitsTo_no (G := repG L) (n := n) (k := k) (by rw [hSe, minB_small, hg]; rfl))
          have Y := Lib.hid (show tabG (repG L) n N (k + 1) = (tabG (repG L) n N k).set k false by rw [← tabG_set _ _ _ _ hlt, hSe, hg])
          clear hlb hgo hSe hls hg
          go_wp2_with fail
          with_reducible refine (CS.out _).mono ?_
          rintro e w' ⟨a6, c6, rfl, hown, y6, rfl⟩
          have hsy6 := y6.bel.size
          (try simp only [World.size_alloc, World.size_setCell, World.size_drew] at hsy6)
          have H6 := Lib.hid (Owns.of hown)
          clear hown
          have h3 : y6.w.cell? ⟨w.heap.size + 1, 0, none⟩ = some (.slice (some ⟨w.heap.size, 0, none⟩) N N) := (Below.cell (B := z.w.heap.size) (by (repeat (first | (with_reducible exact Below.refl _ _) | (with_reducible assumption) | (with_reducible refine Later.out _ ?_) | (with_reducible refine bel_alloc ?_ _) | (with_reducible refine bel_drew ?_) | (with_reducible refine bel_drewN ?_ _) | (with_reducible refine bel_set ?_ ?_ _) | (with_reducible refine After.out _ ?_ ?_) | (dsimp only; omega) | omega | (simp only [World.size_alloc, World.size_setCell, World.size_drew]; omega)))) lbx).trans hbox
          have h5 : y6.w.cell? ⟨z.w.heap.size, 0, none⟩ = some (.int .i64 k) := (Below.cell y6.bel (by simp only [World.size_alloc]; omega)).trans (by simp [go_sem, ↓IntWalk.iteOmega])
          go_wp2_with fail
          with_reducible refine (CFk.out (w.heap.size + 1) z.w.heap.size w.heap.size _ _ _ H6.out.row h3 h5 (hown.out.row.bel (by (repeat (first | (with_reducible exact Below.refl _ _) | (with_reducible assumption) | (with_reducible refine Later.out _ ?_) | (with_reducible refine bel_alloc ?_ _) | (with_reducible refine bel_drew ?_) | (with_reducible refine bel_drewN ?_ _) | (with_reducible refine bel_set ?_ ?_ _) | (with_reducible refine After.out _ ?_ ?_) | (dsimp only; omega) | omega | (simp only [World.size_alloc, World.size_setCell, World.size_drew]; omega)))))).mono ?_
          rintro e w' ⟨rfl, y7, rfl⟩
          have hsy7 := y7.bel.size
          (try simp only [World.size_alloc, World.size_setCell, World.size_drew] at hsy7)
          have k3 : y7.w.cell? ⟨w.heap.size + 1, 0, none⟩ = some (.slice (some ⟨w.heap.size, 0, none⟩) N N) := (Below.cell (B := z.w.heap.size) (by (repeat (first | (with_reducible exact Below.refl _ _) | (with_reducible assumption) | (with_reducible refine Later.out _ ?_) | (with_reducible refine bel_alloc ?_ _) | (with_reducible refine bel_drew ?_) | (with_reducible refine bel_drewN ?_ _) | (with_reducible refine bel_set ?_ ?_ _) | (with_reducible refine After.out _ ?_ ?_) | (dsimp only; omega) | omega | (simp only [World.size_alloc, World.size_setCell, World.size_drew]; omega)))) lbx).trans hbox
          have k5 : y7.w.cell? ⟨z.w.heap.size, 0, none⟩ = some (.int .i64 k) := (y7.bel.cell (World.block_lt_of_cell? _ _ h5)).trans h5
          have lz3 := World.block_lt_of_cell? _ _ k3
          have lz5 := World.block_lt_of_cell? _ _ k5
          obtain ⟨v0, kc, kf⟩ := tab_cell (hown.out.bel (B := z.w.heap.size) (w' := y7.w) (by (repeat (first | (with_reducible exact Below.refl _ _) | (with_reducible assumption) | (with_reducible refine Later.out _ ?_) | (with_reducible refine bel_alloc ?_ _) | (with_reducible refine bel_drew ?_) | (with_reducible refine bel_drewN ?_ _) | (with_reducible refine bel_set ?_ ?_ _) | (with_reducible refine After.out _ ?_ ?_) | (dsimp only; omega) | omega | (simp only [World.size_alloc, World.size_setCell, World.size_drew]; omega)))) (by omega)) (hTl.out k) hlt
          clear h3 h5
          go_wp2_with fail
          refine wp_region_plan [(0, true), (1, true), (2, true), (3, true), (4, true), (5, true), (6, false), (7, true), (8, true), (9, false)] (C := AfterC w.heap.size (w.heap.size + 1) _) (by kernel_rfl) (by kernel_rfl) (by kernel_rfl) rfl (fun _ _ d _ _ h => by cases d <;> exact h) (AfterC.mk ((Between.refl _ _ _).drew)) ?_
          first | (refine plan_quiet nth0 rfl ?_; intro KP hKP; go_big_quiet_op; go_big_quiet_on) | (refine plan_skip_q nth0 rfl rfl ?_; simp only [Act.put, List.setIfInBounds_toArray, List.set_cons_zero, List.set_cons_succ])
          first | (refine plan_quiet nth1 rfl ?_; intro KP hKP; go_big_quiet_op; go_big_quiet_on) | (refine plan_skip_q nth1 rfl rfl ?_; simp only [Act.put, List.setIfInBounds_toArray, List.set_cons_zero, List.set_cons_succ])
          first | (refine plan_quiet nth2 rfl ?_; intro KP hKP; go_big_quiet_op; go_big_quiet_on) | (refine plan_skip_q nth2 rfl rfl ?_; simp only [Act.put, List.setIfInBounds_toArray, List.set_cons_zero, List.set_cons_succ])
          first | (refine plan_quiet nth3 rfl ?_; intro KP hKP; go_big_quiet_op; go_big_quiet_on) | (refine plan_skip_q nth3 rfl rfl ?_; simp only [Act.put, List.setIfInBounds_toArray, List.set_cons_zero, List.set_cons_succ])
          first | (refine plan_quiet nth4 rfl ?_; intro KP hKP; go_big_quiet_op; go_big_quiet_on) | (refine plan_skip_q nth4 rfl rfl ?_; simp only [Act.put, List.setIfInBounds_toArray, List.set_cons_zero, List.set_cons_succ])
          first | (refine plan_quiet nth5 rfl ?_; intro KP hKP; go_big_quiet_op; go_big_quiet_on) | (refine plan_skip_q nth5 rfl rfl ?_; simp only [Act.put, List.setIfInBounds_toArray, List.set_cons_zero, List.set_cons_succ])
          first | (refine plan_loud nth6 rfl ?_; intro KP hKP; go_wp2_with (first | (go_at_call 108; first | ((with_reducible refine (Calls.later (CAk.out _ _ _ (hr.out.bel (by (repeat (first | (with_reducible exact Below.refl _ _) | (with_reducible assumption) | (with_reducible refine Later.out _ ?_) | (with_reducible refine bel_alloc ?_ _) | (with_reducible refine bel_drew ?_) | (with_reducible refine bel_drewN ?_ _) | (with_reducible refine bel_set ?_ ?_ _) | (with_reducible refine After.out _ ?_ ?_) | (dsimp only; omega) | omega | (simp only [World.size_alloc, World.size_setCell, World.size_drew]; omega))))) (H6.out.row.bel (by (repeat (first | (with_reducible exact Below.refl _ _) | (with_reducible assumption) | (with_reducible refine Later.out _ ?_) | (with_reducible refine bel_alloc ?_ _) | (with_reducible refine bel_drew ?_) | (with_reducible refine bel_drewN ?_ _) | (with_reducible refine bel_set ?_ ?_ _) | (with_reducible refine After.out _ ?_ ?_) | (dsimp only; omega) | omega | (simp only [World.size_alloc, World.size_setCell, World.size_drew]; omega))))))).mono ?_); rintro e w' ⟨rfl, xl, rfl⟩; have hsz := xl.bel.size; (try simp only [World.size_alloc, World.size_setCell, World.size_drew] at hsz); (try have hz0 : w.heap.size < xl.w.heap.size := (by omega)); (try have hz1 : w.heap.size + 1 < xl.w.heap.size := (by omega)); (try have hz2 : w.heap.size + 1 + 1 < xl.w.heap.size := (by omega))) | ((with_reducible refine (CAk.out _ _ _ (hr.out.bel (by (repeat (first | (with_reducible exact Below.refl _ _) | (with_reducible assumption) | (with_reducible refine Later.out _ ?_) | (with_reducible refine bel_alloc ?_ _) | (with_reducible refine bel_drew ?_) | (with_reducible refine bel_drewN ?_ _) | (with_reducible refine bel_set ?_ ?_ _) | (with_reducible refine After.out _ ?_ ?_) | (dsimp only; omega) | omega | (simp only [World.size_alloc, World.size_setCell, World.size_drew]; omega))))) (H6.out.row.bel (by (repeat (first | (with_reducible exact Below.refl _ _) | (with_reducible assumption) | (with_reducible refine Later.out _ ?_) | (with_reducible refine bel_alloc ?_ _) | (with_reducible refine bel_drew ?_) | (with_reducible refine bel_drewN ?_ _) | (with_reducible refine bel_set ?_ ?_ _) | (with_reducible refine After.out _ ?_ ?_) | (dsimp only; omega) | omega | (simp only [World.size_alloc, World.size_setCell, World.size_drew]; omega)))))).mono ?_); rintro e w' ⟨rfl, xl, rfl⟩; have hsz := xl.bel.size; (try simp only [World.size_alloc, World.size_setCell, World.size_drew] at hsz); (try have hz0 : w.heap.size < xl.w.heap.size := (by omega)); (try have hz1 : w.heap.size + 1 < xl.w.heap.size := (by omega)); (try have hz2 : w.heap.size + 1 + 1 < xl.w.heap.size := (by omega))))); refine hKP _ _ (AfterC.mk (by (repeat (first | (with_reducible exact Between.refl _ _ _) | (with_reducible refine Between.drew ?_) | (with_reducible refine Between.drewN ?_ _) | (with_reducible refine Between.set ?_ ?_ ?_ _) | (with_reducible refine btw_later _ ?_) | (with_reducible refine btw_alloc ?_ _) | (with_reducible refine btw_after _ ?_) | (with_reducible assumption) | (dsimp only; omega) | omega)))) ?_; clear hKP KP) | (refine plan_skip nth6 rfl rfl (AfterC.mk (by (repeat (first | (with_reducible exact Between.refl _ _ _) | (with_reducible refine Between.drew ?_) | (with_reducible refine Between.drewN ?_ _) | (with_reducible refine Between.set ?_ ?_ ?_ _) | (with_reducible refine btw_later _ ?_) | (with_reducible refine btw_alloc ?_ _) | (with_reducible refine btw_after _ ?_) | (with_reducible assumption) | (dsimp only; omega) | omega)))) ?_; simp only [Act.put, List.setIfInBounds_toArray, List.set_cons_zero, List.set_cons_succ])
          first | (refine plan_quiet nth7 rfl ?_; intro KP hKP; go_big_quiet_op; go_big_quiet_on) | (refine plan_skip_q nth7 rfl rfl ?_; simp only [Act.put, List.setIfInBounds_toArray, List.set_cons_zero, List.set_cons_succ])
          first | (refine plan_quiet nth8 rfl ?_; intro KP hKP; go_big_quiet_op; go_big_quiet_on) | (refine plan_skip_q nth8 rfl rfl ?_; simp only [Act.put, List.setIfInBounds_toArray, List.set_cons_zero, List.set_cons_succ])
          first | (refine plan_loud nth9 rfl ?_; intro KP hKP; go_wp2_with (first | (go_at_call 108; first | ((with_reducible refine (Calls.later (CAk.out _ _ _ (hr.out.bel (by (repeat (first | (with_reducible exact Below.refl _ _) | (with_reducible assumption) | (with_reducible refine Later.out _ ?_) | (with_reducible refine bel_alloc ?_ _) | (with_reducible refine bel_drew ?_) | (with_reducible refine bel_drewN ?_ _) | (with_reducible refine bel_set ?_ ?_ _) | (with_reducible refine After.out _ ?_ ?_) | (dsimp only; omega) | omega | (simp only [World.size_alloc, World.size_setCell, World.size_drew]; omega))))) (H6.out.row.bel (by (repeat (first | (with_reducible exact Below.refl _ _) | (with_reducible assumption) | (with_reducible refine Later.out _ ?_) | (with_reducible refine bel_alloc ?_ _) | (with_reducible refine bel_drew ?_) | (with_reducible refine bel_drewN ?_ _) | (with_reducible refine bel_set ?_ ?_ _) | (with_reducible refine After.out _ ?_ ?_) | (dsimp only; omega) | omega | (simp only [World.size_alloc, World.size_setCell, World.size_drew]; omega))))))).mono ?_); rintro e w' ⟨rfl, xl, rfl⟩; have hsz := xl.bel.size; (try simp only [World.size_alloc, World.size_setCell, World.size_drew] at hsz); (try have hz0 : w.heap.size < xl.w.heap.size := (by omega)); (try have hz1 : w.heap.size + 1 < xl.w.heap.size := (by omega)); (try have hz2 : w.heap.size + 1 + 1 < xl.w.heap.size := (by omega))) | ((with_reducible refine (CAk.out _ _ _ (hr.out.bel (by (repeat (first | (with_reducible exact Below.refl _ _) | (with_reducible assumption) | (with_reducible refine Later.out _ ?_) | (with_reducible refine bel_alloc ?_ _) | (with_reducible refine bel_drew ?_) | (with_reducible refine bel_drewN ?_ _) | (with_reducible refine bel_set ?_ ?_ _) | (with_reducible refine After.out _ ?_ ?_) | (dsimp only; omega) | omega | (simp only [World.size_alloc, World.size_setCell, World.size_drew]; omega))))) (H6.out.row.bel (by (repeat (first | (with_reducible exact Below.refl _ _) | (with_reducible assumption) | (with_reducible refine Later.out _ ?_) | (with_reducible refine bel_alloc ?_ _) | (with_reducible refine bel_drew ?_) | (with_reducible refine bel_drewN ?_ _) | (with_reducible refine bel_set ?_ ?_ _) | (with_reducible refine After.out _ ?_ ?_) | (dsimp only; omega) | omega | (simp only [World.size_alloc, World.size_setCell, World.size_drew]; omega)))))).mono ?_); rintro e w' ⟨rfl, xl, rfl⟩; have hsz := xl.bel.size; (try simp only [World.size_alloc, World.size_setCell, World.size_drew] at hsz); (try have hz0 : w.heap.size < xl.w.heap.size := (by omega)); (try have hz1 : w.heap.size + 1 < xl.w.heap.size := (by omega)); (try have hz2 : w.heap.size + 1 + 1 < xl.w.heap.size := (by omega))))); refine hKP _ _ (AfterC.mk (by (repeat (first | (with_reducible exact Between.refl _ _ _) | (with_reducible refine Between.drew ?_) | (with_reducible refine Between.drewN ?_ _) | (with_reducible refine Between.set ?_ ?_ ?_ _) | (with_reducible refine btw_later _ ?_) | (with_reducible refine btw_alloc ?_ _) | (with_reducible refine btw_after _ ?_) | (with_reducible assumption) | (dsimp only; omega) | omega)))) ?_; clear hKP KP) | (refine plan_skip nth9 rfl rfl (AfterC.mk (by (repeat (first | (with_reducible exact Between.refl _ _ _) | (with_reducible refine Between.drew ?_) | (with_reducible refine Between.drewN ?_ _) | (with_reducible refine Between.set ?_ ?_ ?_ _) | (with_reducible refine btw_later _ ?_) | (with_reducible refine btw_alloc ?_ _) | (with_reducible refine btw_after _ ?_) | (with_reducible assumption) | (dsimp only; omega) | omega)))) ?_; simp only [Act.put, List.setIfInBounds_toArray, List.set_cons_zero, List.set_cons_succ])
          refine plan_nil ?_
          have hN' := Lib.hid (Nest.mono ((hnest.out.bel (B := z.w.heap.size) (w' := xl.w) (by (repeat (first | (with_reducible exact Below.refl _ _) | (with_reducible assumption) | (with_reducible refine Later.out _ ?_) | (with_reducible refine bel_alloc ?_ _) | (with_reducible refine bel_drew ?_) | (with_reducible refine bel_drewN ?_ _) | (with_reducible refine bel_set ?_ ?_ _) | (with_reducible refine After.out _ ?_ ?_) | (dsimp only; omega) | omega | (simp only [World.size_alloc, World.size_setCell, World.size_drew]; omega)))) (Nat.le_refl _)).btw (lo' := w.heap.size) (hi' := w.heap.size + 1) (w' := xl.w.setCell ⟨w.heap.size, k, none⟩ (.bool false)) (by (repeat (first | (with_reducible exact Between.refl _ _ _) | (with_reducible refine Between.drew ?_) | (with_reducible refine Between.drewN ?_ _) | (with_reducible refine Between.set ?_ ?_ ?_ _) | (with_reducible refine btw_later _ ?_) | (with_reducible refine btw_alloc ?_ _) | (with_reducible refine btw_after _ ?_) | (with_reducible assumption) | (dsimp only; omega) | omega))) (.inr (by omega))) (Nat.le_refl _) (hi' := (xl.w.setCell ⟨w.heap.size, k, none⟩ (.bool false)).heap.size) (by ((try simp only [World.size_alloc, World.size_setCell, World.size_drew]); omega)))
          have hO' := Lib.hid (Owns.set (hown.out.bel (B := z.w.heap.size) (w' := xl.w) (by (repeat (first | (with_reducible exact Below.refl _ _) | (with_reducible assumption) | (with_reducible refine Later.out _ ?_) | (with_reducible refine bel_alloc ?_ _) | (with_reducible refine bel_drew ?_) | (with_reducible refine bel_drewN ?_ _) | (with_reducible refine bel_set ?_ ?_ _) | (with_reducible refine After.out _ ?_ ?_) | (dsimp only; omega) | omega | (simp only [World.size_alloc, World.size_setCell, World.size_drew]; omega)))) (by omega)) (j := k) (.bool false))
          have hC' := (World.cell?_setCell_other xl.w ⟨w.heap.size, k, none⟩ ⟨w.heap.size + 1, 0, none⟩ (.bool false) (by intro e; simp only [Addr.mk.injEq] at e; omega)).trans ((Below.cell (B := z.w.heap.size) (w' := xl.w) (by (repeat (first | (with_reducible exact Below.refl _ _) | (with_reducible assumption) | (with_reducible refine Later.out _ ?_) | (with_reducible refine bel_alloc ?_ _) | (with_reducible refine bel_drew ?_) | (with_reducible refine bel_drewN ?_ _) | (with_reducible refine bel_set ?_ ?_ _) | (with_reducible refine After.out _ ?_ ?_) | (dsimp only; omega) | omega | (simp only [World.size_alloc, World.size_setCell, World.size_drew]; omega)))) lbx).trans hbox)
          replace hC' := Lib.hid hC'
          go_wp2_with fail
          go_roundw
          case rel => exact ⟨k + 1, a5, c5, vs, by omega, by go_num, by rw [X.out]; try rfl, by rw [X.out]; exact hN'.out, by rw [Y.out, boolCells_set]; exact hO'.out, hC'.out, LaterC.mk (by (repeat (first | (with_reducible exact Below.refl _ _) | (with_reducible assumption) | (with_reducible refine Later.out _ ?_) | (with_reducible refine bel_alloc ?_ _) | (with_reducible refine bel_drew ?_) | (with_reducible refine bel_drewN ?_ _) | (with_reducible refine bel_set ?_ ?_ _) | (with_reducible refine After.out _ ?_ ?_) | (dsimp only; omega) | omega | (simp only [World.size_alloc, World.size_setCell, World.size_drew]; omega))))⟩
          case measure => first | (simp [intOf]; done) | (simp [intOf]; omega) | omega
        · rw [hls] at CFk
          have CAk := Lib.hid (fun a' c' w hr hr' => CA.out S _ hSk hg a' c' w hr hr')
          have X := Lib.hid (show bitsTo (repG L) n (k + 1) = bitsTo (repG L) n k ++ [S] by rw [bitsTo_yes (by rw [hSe, minB_small, hg, hls]; rfl), hSe])
          have Y := Lib.hid (show tabG (repG L) n N (k + 1) = (tabG (repG L) n N k).set k true by rw [← tabG_set _ _ _ _ hlt, hSe, hg])
          have hBl := bitsTo_le (repG L) n k
          clear hlb hgo hSe hls hg
          obtain ⟨Bs, hBs⟩ : ∃ Bs, bitsTo (repG L) n k = Bs := ⟨_, rfl⟩
          rw [hBs] at X hnest hBl
          simp only [hBs]
          clear hBs
          go_wp2_with fail
          with_reducible refine (CS.out _).mono ?_
          rintro e w' ⟨a6, c6, rfl, hown, y6, rfl⟩
          have hsy6 := y6.bel.size
          (try simp only [World.size_alloc, World.size_setCell, World.size_drew] at hsy6)
          have H6 := Lib.hid (Owns.of hown)
          clear hown
          have h3 : y6.w.cell? ⟨w.heap.size + 1, 0, none⟩ = some (.slice (some ⟨w.heap.size, 0, none⟩) N N) := (Below.cell (B := z.w.heap.size) (by (repeat (first | (with_reducible exact Below.refl _ _) | (with_reducible assumption) | (with_reducible refine Later.out _ ?_) | (with_reducible refine bel_alloc ?_ _) | (with_reducible refine bel_drew ?_) | (with_reducible refine bel_drewN ?_ _) | (with_reducible refine bel_set ?_ ?_ _) | (with_reducible refine After.out _ ?_ ?_) | (dsimp only; omega) | omega | (simp only [World.size_alloc, World.size_setCell, World.size_drew]; omega)))) lbx).trans hbox
          have h5 : y6.w.cell? ⟨z.w.heap.size, 0, none⟩ = some (.int .i64 k) := (Below.cell y6.bel (by simp only [World.size_alloc]; omega)).trans (by simp [go_sem, ↓IntWalk.iteOmega])
          go_wp2_with fail
          with_reducible refine (CFk.out (w.heap.size + 1) z.w.heap.size w.heap.size _ _ _ H6.out.row h3 h5 (hown.out.row.bel (by (repeat (first | (with_reducible exact Below.refl _ _) | (with_reducible assumption) | (with_reducible refine Later.out _ ?_) | (with_reducible refine bel_alloc ?_ _) | (with_reducible refine bel_drew ?_) | (with_reducible refine bel_drewN ?_ _) | (with_reducible refine bel_set ?_ ?_ _) | (with_reducible refine After.out _ ?_ ?_) | (dsimp only; omega) | omega | (simp only [World.size_alloc, World.size_setCell, World.size_drew]; omega)))))).mono ?_
          rintro e w' ⟨rfl, y7, rfl⟩
          have hsy7 := y7.bel.size
          (try simp only [World.size_alloc, World.size_setCell, World.size_drew] at hsy7)
          have k3 : y7.w.cell? ⟨w.heap.size + 1, 0, none⟩ = some (.slice (some ⟨w.heap.size, 0, none⟩) N N) := (Below.cell (B := z.w.heap.size) (by (repeat (first | (with_reducible exact Below.refl _ _) | (with_reducible assumption) | (with_reducible refine Later.out _ ?_) | (with_reducible refine bel_alloc ?_ _) | (with_reducible refine bel_drew ?_) | (with_reducible refine bel_drewN ?_ _) | (with_reducible refine bel_set ?_ ?_ _) | (with_reducible refine After.out _ ?_ ?_) | (dsimp only; omega) | omega | (simp only [World.size_alloc, World.size_setCell, World.size_drew]; omega)))) lbx).trans hbox
          have k5 : y7.w.cell? ⟨z.w.heap.size, 0, none⟩ = some (.int .i64 k) := (y7.bel.cell (World.block_lt_of_cell? _ _ h5)).trans h5
          have lz3 := World.block_lt_of_cell? _ _ k3
          have lz5 := World.block_lt_of_cell? _ _ k5
          obtain ⟨v0, kc, kf⟩ := tab_cell (hown.out.bel (B := z.w.heap.size) (w' := y7.w) (by (repeat (first | (with_reducible exact Below.refl _ _) | (with_reducible assumption) | (with_reducible refine Later.out _ ?_) | (with_reducible refine bel_alloc ?_ _) | (with_reducible refine bel_drew ?_) | (with_reducible refine bel_drewN ?_ _) | (with_reducible refine bel_set ?_ ?_ _) | (with_reducible refine After.out _ ?_ ?_) | (dsimp only; omega) | omega | (simp only [World.size_alloc, World.size_setCell, World.size_drew]; omega)))) (by omega)) (hTl.out k) hlt
          clear h3 h5
          go_wp2_with fail
          refine wp_region_plan [(0, true), (1, true), (2, true), (3, true), (4, true), (5, true), (6, false), (7, true), (8, true), (9, false)] (C := AfterC w.heap.size (w.heap.size + 1) _) (by kernel_rfl) (by kernel_rfl) (by kernel_rfl) rfl (fun _ _ d _ _ h => by cases d <;> exact h) (AfterC.mk ((Between.refl _ _ _).drew)) ?_
          first | (refine plan_quiet nth0 rfl ?_; intro KP hKP; go_big_quiet_op; go_big_quiet_on) | (refine plan_skip_q nth0 rfl rfl ?_; simp only [Act.put, List.setIfInBounds_toArray, List.set_cons_zero, List.set_cons_succ])
          first | (refine plan_quiet nth1 rfl ?_; intro KP hKP; go_big_quiet_op; go_big_quiet_on) | (refine plan_skip_q nth1 rfl rfl ?_; simp only [Act.put, List.setIfInBounds_toArray, List.set_cons_zero, List.set_cons_succ])
          first | (refine plan_quiet nth2 rfl ?_; intro KP hKP; go_big_quiet_op; go_big_quiet_on) | (refine plan_skip_q nth2 rfl rfl ?_; simp only [Act.put, List.setIfInBounds_toArray, List.set_cons_zero, List.set_cons_succ])
          first | (refine plan_quiet nth3 rfl ?_; intro KP hKP; go_big_quiet_op; go_big_quiet_on) | (refine plan_skip_q nth3 rfl rfl ?_; simp only [Act.put, List.setIfInBounds_toArray, List.set_cons_zero, List.set_cons_succ])
          first | (refine plan_quiet nth4 rfl ?_; intro KP hKP; go_big_quiet_op; go_big_quiet_on) | (refine plan_skip_q nth4 rfl rfl ?_; simp only [Act.put, List.setIfInBounds_toArray, List.set_cons_zero, List.set_cons_succ])
          first | (refine plan_quiet nth5 rfl ?_; intro KP hKP; go_big_quiet_op; go_big_quiet_on) | (refine plan_skip_q nth5 rfl rfl ?_; simp only [Act.put, List.setIfInBounds_toArray, List.set_cons_zero, List.set_cons_succ])
          first | (refine plan_loud nth6 rfl ?_; intro KP hKP; go_wp2_with (first | (go_at_call 108; first | ((with_reducible refine (Calls.later (CAk.out _ _ _ (hr.out.bel (by (repeat (first | (with_reducible exact Below.refl _ _) | (with_reducible assumption) | (with_reducible refine Later.out _ ?_) | (with_reducible refine bel_alloc ?_ _) | (with_reducible refine bel_drew ?_) | (with_reducible refine bel_drewN ?_ _) | (with_reducible refine bel_set ?_ ?_ _) | (with_reducible refine After.out _ ?_ ?_) | (dsimp only; omega) | omega | (simp only [World.size_alloc, World.size_setCell, World.size_drew]; omega))))) (H6.out.row.bel (by (repeat (first | (with_reducible exact Below.refl _ _) | (with_reducible assumption) | (with_reducible refine Later.out _ ?_) | (with_reducible refine bel_alloc ?_ _) | (with_reducible refine bel_drew ?_) | (with_reducible refine bel_drewN ?_ _) | (with_reducible refine bel_set ?_ ?_ _) | (with_reducible refine After.out _ ?_ ?_) | (dsimp only; omega) | omega | (simp only [World.size_alloc, World.size_setCell, World.size_drew]; omega))))))).mono ?_); rintro e w' ⟨rfl, xl, rfl⟩; have hsz := xl.bel.size; (try simp only [World.size_alloc, World.size_setCell, World.size_drew] at hsz); (try have hz0 : w.heap.size < xl.w.heap.size := (by omega)); (try have hz1 : w.heap.size + 1 < xl.w.heap.size := (by omega)); (try have hz2 : w.heap.size + 1 + 1 < xl.w.heap.size := (by omega))) | ((with_reducible refine (CAk.out _ _ _ (hr.out.bel (by (repeat (first | (with_reducible exact Below.refl _ _) | (with_reducible assumption) | (with_reducible refine Later.out _ ?_) | (with_reducible refine bel_alloc ?_ _) | (with_reducible refine bel_drew ?_) | (with_reducible refine bel_drewN ?_ _) | (with_reducible refine bel_set ?_ ?_ _) | (with_reducible refine After.out _ ?_ ?_) | (dsimp only; omega) | omega | (simp only [World.size_alloc, World.size_setCell, World.size_drew]; omega))))) (H6.out.row.bel (by (repeat (first | (with_reducible exact Below.refl _ _) | (with_reducible assumption) | (with_reducible refine Later.out _ ?_) | (with_reducible refine bel_alloc ?_ _) | (with_reducible refine bel_drew ?_) | (with_reducible refine bel_drewN ?_ _) | (with_reducible refine bel_set ?_ ?_ _) | (with_reducible refine After.out _ ?_ ?_) | (dsimp only; omega) | omega | (simp only [World.size_alloc, World.size_setCell, World.size_drew]; omega)))))).mono ?_); rintro e w' ⟨rfl, xl, rfl⟩; have hsz := xl.bel.size; (try simp only [World.size_alloc, World.size_setCell, World.size_drew] at hsz); (try have hz0 : w.heap.size < xl.w.heap.size := (by omega)); (try have hz1 : w.heap.size + 1 < xl.w.heap.size := (by omega)); (try have hz2 : w.heap.size + 1 + 1 < xl.w.heap.size := (by omega))))); refine hKP _ _ (AfterC.mk (by (repeat (first | (with_reducible exact Between.refl _ _ _) | (with_reducible refine Between.drew ?_) | (with_reducible refine Between.drewN ?_ _) | (with_reducible refine Between.set ?_ ?_ ?_ _) | (with_reducible refine btw_later _ ?_) | (with_reducible refine btw_alloc ?_ _) | (with_reducible refine btw_after _ ?_) | (with_reducible assumption) | (dsimp only; omega) | omega)))) ?_; clear hKP KP) | (refine plan_skip nth6 rfl rfl (AfterC.mk (by (repeat (first | (with_reducible exact Between.refl _ _ _) | (with_reducible refine Between.drew ?_) | (with_reducible refine Between.drewN ?_ _) | (with_reducible refine Between.set ?_ ?_ ?_ _) | (with_reducible refine btw_later _ ?_) | (with_reducible refine btw_alloc ?_ _) | (with_reducible refine btw_after _ ?_) | (with_reducible assumption) | (dsimp only; omega) | omega)))) ?_; simp only [Act.put, List.setIfInBounds_toArray, List.set_cons_zero, List.set_cons_succ])
          first | (refine plan_quiet nth7 rfl ?_; intro KP hKP; go_big_quiet_op; go_big_quiet_on) | (refine plan_skip_q nth7 rfl rfl ?_; simp only [Act.put, List.setIfInBounds_toArray, List.set_cons_zero, List.set_cons_succ])
          first | (refine plan_quiet nth8 rfl ?_; intro KP hKP; go_big_quiet_op; go_big_quiet_on) | (refine plan_skip_q nth8 rfl rfl ?_; simp only [Act.put, List.setIfInBounds_toArray, List.set_cons_zero, List.set_cons_succ])
          first | (refine plan_loud nth9 rfl ?_; intro KP hKP; go_wp2_with (first | (go_at_call 108; first | ((with_reducible refine (Calls.later (CAk.out _ _ _ (hr.out.bel (by (repeat (first | (with_reducible exact Below.refl _ _) | (with_reducible assumption) | (with_reducible refine Later.out _ ?_) | (with_reducible refine bel_alloc ?_ _) | (with_reducible refine bel_drew ?_) | (with_reducible refine bel_drewN ?_ _) | (with_reducible refine bel_set ?_ ?_ _) | (with_reducible refine After.out _ ?_ ?_) | (dsimp only; omega) | omega | (simp only [World.size_alloc, World.size_setCell, World.size_drew]; omega))))) (H6.out.row.bel (by (repeat (first | (with_reducible exact Below.refl _ _) | (with_reducible assumption) | (with_reducible refine Later.out _ ?_) | (with_reducible refine bel_alloc ?_ _) | (with_reducible refine bel_drew ?_) | (with_reducible refine bel_drewN ?_ _) | (with_reducible refine bel_set ?_ ?_ _) | (with_reducible refine After.out _ ?_ ?_) | (dsimp only; omega) | omega | (simp only [World.size_alloc, World.size_setCell, World.size_drew]; omega))))))).mono ?_); rintro e w' ⟨rfl, xl, rfl⟩; have hsz := xl.bel.size; (try simp only [World.size_alloc, World.size_setCell, World.size_drew] at hsz); (try have hz0 : w.heap.size < xl.w.heap.size := (by omega)); (try have hz1 : w.heap.size + 1 < xl.w.heap.size := (by omega)); (try have hz2 : w.heap.size + 1 + 1 < xl.w.heap.size := (by omega))) | ((with_reducible refine (CAk.out _ _ _ (hr.out.bel (by (repeat (first | (with_reducible exact Below.refl _ _) | (with_reducible assumption) | (with_reducible refine Later.out _ ?_) | (with_reducible refine bel_alloc ?_ _) | (with_reducible refine bel_drew ?_) | (with_reducible refine bel_drewN ?_ _) | (with_reducible refine bel_set ?_ ?_ _) | (with_reducible refine After.out _ ?_ ?_) | (dsimp only; omega) | omega | (simp only [World.size_alloc, World.size_setCell, World.size_drew]; omega))))) (H6.out.row.bel (by (repeat (first | (with_reducible exact Below.refl _ _) | (with_reducible assumption) | (with_reducible refine Later.out _ ?_) | (with_reducible refine bel_alloc ?_ _) | (with_reducible refine bel_drew ?_) | (with_reducible refine bel_drewN ?_ _) | (with_reducible refine bel_set ?_ ?_ _) | (with_reducible refine After.out _ ?_ ?_) | (dsimp only; omega) | omega | (simp only [World.size_alloc, World.size_setCell, World.size_drew]; omega)))))).mono ?_); rintro e w' ⟨rfl, xl, rfl⟩; have hsz := xl.bel.size; (try simp only [World.size_alloc, World.size_setCell, World.size_drew] at hsz); (try have hz0 : w.heap.size < xl.w.heap.size := (by omega)); (try have hz1 : w.heap.size + 1 < xl.w.heap.size := (by omega)); (try have hz2 : w.heap.size + 1 + 1 < xl.w.heap.size := (by omega))))); refine hKP _ _ (AfterC.mk (by (repeat (first | (with_reducible exact Between.refl _ _ _) | (with_reducible refine Between.drew ?_) | (with_reducible refine Between.drewN ?_ _) | (with_reducible refine Between.set ?_ ?_ ?_ _) | (with_reducible refine btw_later _ ?_) | (with_reducible refine btw_alloc ?_ _) | (with_reducible refine btw_after _ ?_) | (with_reducible assumption) | (dsimp only; omega) | omega)))) ?_; clear hKP KP) | (refine plan_skip nth9 rfl rfl (AfterC.mk (by (repeat (first | (with_reducible exact Between.refl _ _ _) | (with_reducible refine Between.drew ?_) | (with_reducible refine Between.drewN ?_ _) | (with_reducible refine Between.set ?_ ?_ ?_ _) | (with_reducible refine btw_later _ ?_) | (with_reducible refine btw_alloc ?_ _) | (with_reducible refine btw_after _ ?_) | (with_reducible assumption) | (dsimp only; omega) | omega)))) ?_; simp only [Act.put, List.setIfInBounds_toArray, List.set_cons_zero, List.set_cons_succ])
          refine plan_nil ?_
          have hN' := Lib.hid ((hnest.out.bel (B := z.w.heap.size) (w' := xl.w) (by (repeat (first | (with_reducible exact Below.refl _ _) | (with_reducible assumption) | (with_reducible refine Later.out _ ?_) | (with_reducible refine bel_alloc ?_ _) | (with_reducible refine bel_drew ?_) | (with_reducible refine bel_drewN ?_ _) | (with_reducible refine bel_set ?_ ?_ _) | (with_reducible refine After.out _ ?_ ?_) | (dsimp only; omega) | omega | (simp only [World.size_alloc, World.size_setCell, World.size_drew]; omega)))) (Nat.le_refl _)).btw (lo' := w.heap.size) (hi' := w.heap.size + 1) (w' := xl.w.setCell ⟨w.heap.size, k, none⟩ (.bool true)) (by (repeat (first | (with_reducible exact Between.refl _ _ _) | (with_reducible refine Between.drew ?_) | (with_reducible refine Between.drewN ?_ _) | (with_reducible refine Between.set ?_ ?_ ?_ _) | (with_reducible refine btw_later _ ?_) | (with_reducible refine btw_alloc ?_ _) | (with_reducible refine btw_after _ ?_) | (with_reducible assumption) | (dsimp only; omega) | omega))) (.inr (by omega)))
          have hO' := Lib.hid (Owns.set (hown.out.bel (B := z.w.heap.size) (w' := xl.w) (by (repeat (first | (with_reducible exact Below.refl _ _) | (with_reducible assumption) | (with_reducible refine Later.out _ ?_) | (with_reducible refine bel_alloc ?_ _) | (with_reducible refine bel_drew ?_) | (with_reducible refine bel_drewN ?_ _) | (with_reducible refine bel_set ?_ ?_ _) | (with_reducible refine After.out _ ?_ ?_) | (dsimp only; omega) | omega | (simp only [World.size_alloc, World.size_setCell, World.size_drew]; omega)))) (by omega)) (j := k) (.bool true))
          have hC' := (World.cell?_setCell_other xl.w ⟨w.heap.size, k, none⟩ ⟨w.heap.size + 1, 0, none⟩ (.bool true) (by intro e; simp only [Addr.mk.injEq] at e; omega)).trans ((Below.cell (B := z.w.heap.size) (w' := xl.w) (by (repeat (first | (with_reducible exact Below.refl _ _) | (with_reducible assumption) | (with_reducible refine Later.out _ ?_) | (with_reducible refine bel_alloc ?_ _) | (with_reducible refine bel_drew ?_) | (with_reducible refine bel_drewN ?_ _) | (with_reducible refine bel_set ?_ ?_ _) | (with_reducible refine After.out _ ?_ ?_) | (dsimp only; omega) | omega | (simp only [World.size_alloc, World.size_setCell, World.size_drew]; omega)))) lbx).trans hbox)
          have hS' := Lib.hid (((H6.out.bel (B := y6.w.heap.size) (w' := xl.w) (by (repeat (first | (with_reducible exact Below.refl _ _) | (with_reducible assumption) | (with_reducible refine Later.out _ ?_) | (with_reducible refine bel_alloc ?_ _) | (with_reducible refine bel_drew ?_) | (with_reducible refine bel_drewN ?_ _) | (with_reducible refine bel_set ?_ ?_ _) | (with_reducible refine After.out _ ?_ ?_) | (dsimp only; omega) | omega | (simp only [World.size_alloc, World.size_setCell, World.size_drew]; omega)))) (Nat.le_refl _)).btw (lo' := w.heap.size) (hi' := w.heap.size + 1) (w' := xl.w.setCell ⟨w.heap.size, k, none⟩ (.bool true)) (by (repeat (first | (with_reducible exact Between.refl _ _ _) | (with_reducible refine Between.drew ?_) | (with_reducible refine Between.drewN ?_ _) | (with_reducible refine Between.set ?_ ?_ ?_ _) | (with_reducible refine btw_later _ ?_) | (with_reducible refine btw_alloc ?_ _) | (with_reducible refine btw_after _ ?_) | (with_reducible assumption) | (dsimp only; omega) | omega))) (.inr (by simp only [World.size_alloc]; omega))))
          replace hC' := Lib.hid hC'
          obtain ⟨p, p', hp1, hp2, hp3, hpo, hpk, hpb⟩ := hN'.out.own.tight (by omega)
          have hon := Lib.hid hpo
          have hpb' := Lib.hid (fun k h1 h2 => (hpb k h1 h2).1)
          clear hpo hpk hpb
          obtain ⟨W8, hW8⟩ : ∃ W, xl.w.setCell ⟨w.heap.size, k, none⟩ (.bool true) = W := ⟨_, rfl⟩
          have hb8 : Below w.heap.size w W8 := by rw [← hW8]; (repeat (first | (with_reducible exact Below.refl _ _) | (with_reducible assumption) | (with_reducible refine Later.out _ ?_) | (with_reducible refine bel_alloc ?_ _) | (with_reducible refine bel_drew ?_) | (with_reducible refine bel_drewN ?_ _) | (with_reducible refine bel_set ?_ ?_ _) | (with_reducible refine After.out _ ?_ ?_) | (dsimp only; omega) | omega | (simp only [World.size_alloc, World.size_setCell, World.size_drew]; omega)))
          have hs8 : xl.w.heap.size = W8.heap.size := by rw [← hW8]; simp only [World.size_setCell]
          have k3' : W8.cell? ⟨w.heap.size + 1, 0, none⟩ = some (.slice (some ⟨w.heap.size, 0, none⟩) N N) := by rw [← hW8]; exact hC'.out
          have k5' : W8.cell? ⟨z.w.heap.size, 0, none⟩ = some (.int .i64 k) := by rw [← hW8]; exact (World.cell?_setCell_other xl.w ⟨w.heap.size, k, none⟩ ⟨z.w.heap.size, 0, none⟩ (.bool true) (by intro e; simp only [Addr.mk.injEq] at e; omega)).trans ((Below.cell (B := y7.w.heap.size) (w' := xl.w) (by (repeat (first | (with_reducible exact Below.refl _ _) | (with_reducible assumption) | (with_reducible refine Later.out _ ?_) | (with_reducible refine bel_alloc ?_ _) | (with_reducible refine bel_drew ?_) | (with_reducible refine bel_drewN ?_ _) | (with_reducible refine bel_set ?_ ?_ _) | (with_reducible refine After.out _ ?_ ?_) | (dsimp only; omega) | omega | (simp only [World.size_alloc, World.size_setCell, World.size_drew]; omega)))) lz5).trans k5)
          have kc' : W8.cell? ⟨w.heap.size, k, none⟩ = some (.bool true) := by rw [← hW8]; exact World.cell?_setCell_same _ _ _ ((Below.cell (B := y7.w.heap.size) (w' := xl.w) (by (repeat (first | (with_reducible exact Below.refl _ _) | (with_reducible assumption) | (with_reducible refine Later.out _ ?_) | (with_reducible refine bel_alloc ?_ _) | (with_reducible refine bel_drew ?_) | (with_reducible refine bel_drewN ?_ _) | (with_reducible refine bel_set ?_ ?_ _) | (with_reducible refine After.out _ ?_ ?_) | (dsimp only; omega) | omega | (simp only [World.size_alloc, World.size_setCell, World.size_drew]; omega)))) (by dsimp only; omega)).trans kc)
          rw [hW8] at hN' hO' hon hS' ⊢
          clear hC' hW8
          go_wp2_with (at_builtin; (refine wpList_append_after _ rfl _ _ _ rfl 35 i2 _ 1 24 Tryz.underlying46 Ji2.out.1 Ji2.out.2.1 Ji2.out.2.2.1 Ji2.out.2.2.2 rfl (by decide) (p) (p') ?qb1 _ _ _ (vs) rfl ?qb2 ?qb8 _ _ _ ([.slice a6 S.length c6]) rfl ?qb3 ?qb4 ?qb5 ?qb6 ?qb7 ?_); (case qb1 => (first | (dsimp only; omega) | omega | (simp only [World.size_alloc, World.size_setCell, World.size_drew]; omega))); (case qb2 => exact (hon.out.bel (B := W8.heap.size) (by (repeat (first | (with_reducible exact Below.refl _ _) | (with_reducible assumption) | (with_reducible refine Later.out _ ?_) | (with_reducible refine bel_alloc ?_ _) | (with_reducible refine bel_drew ?_) | (with_reducible refine bel_drewN ?_ _) | (with_reducible refine bel_set ?_ ?_ _) | (with_reducible refine After.out _ ?_ ?_) | (dsimp only; omega) | omega | (simp only [World.size_alloc, World.size_setCell, World.size_drew]; omega)))) (by omega)).own); (case qb8 => exact hon.out.lt); (case qb3 => (first | rfl | (simp [boolCells]; done) | (simp [intCells]; done) | (simp; done) | (first | omega | (simp only [List.length_append, List.length_cons, List.length_nil]; omega)))); (case qb4 => exact Row.madeAt (by first | rfl | (simp only [World.size_alloc, World.size_drew])) rfl); (case qb5 => (intro u hu; simp at hu; subst hu; rfl)); (case qb6 => (unfold maxLen; (first | omega | (simp only [List.length_append, List.length_cons, List.length_nil]; omega)))); (case qb7 => (first | omega | (simp only [List.length_append, List.length_cons, List.length_nil]; omega))); intro a9 c9 x9 hown9)
          have hsx := x9.btw.size
          (try simp only [World.size_alloc] at hsx)
          have hNN := Lib.hid (Nest.snoc hN'.out rfl (by omega) (by omega) ⟨own_mono hS'.out.own (by simp only [World.size_alloc]; omega), (hS'.out.wide (by omega)).lt⟩ hp1 hp3 hpb'.out x9.btw hown9)
          have hOO := Lib.hid ((hO'.out.bel (B := W8.heap.size) (w' := W8.alloc (.cells #[.slice a6 S.length c6] 35)) (by (repeat (first | (with_reducible exact Below.refl _ _) | (with_reducible assumption) | (with_reducible refine Later.out _ ?_) | (with_reducible refine bel_alloc ?_ _) | (with_reducible refine bel_drew ?_) | (with_reducible refine bel_drewN ?_ _) | (with_reducible refine bel_set ?_ ?_ _) | (with_reducible refine After.out _ ?_ ?_) | (dsimp only; omega) | omega | (simp only [World.size_alloc, World.size_setCell, World.size_drew]; omega)))) (by omega)).btw x9.btw (.inl (by omega)))
          have hCC := Lib.hid ((x9.btw.cell (p := ⟨w.heap.size + 1, 0, none⟩) (by simp only [World.size_alloc]; omega) (.inl (by dsimp only; omega))).trans ((Below.cell (B := W8.heap.size) (w' := W8.alloc (.cells #[.slice a6 S.length c6] 35)) (by (repeat (first | (with_reducible exact Below.refl _ _) | (with_reducible assumption) | (with_reducible refine Later.out _ ?_) | (with_reducible refine bel_alloc ?_ _) | (with_reducible refine bel_drew ?_) | (with_reducible refine bel_drewN ?_ _) | (with_reducible refine bel_set ?_ ?_ _) | (with_reducible refine After.out _ ?_ ?_) | (dsimp only; omega) | omega | (simp only [World.size_alloc, World.size_setCell, World.size_drew]; omega)))) (by dsimp only; omega)).trans k3'))
          clear hown9
          go_roundw
          case rel => exact ⟨k + 1, a9, c9, _, by omega, by go_num, by rw [X.out]; simp, by rw [X.out, List.length_append]; exact hNN.out, by rw [Y.out, boolCells_set]; exact hOO.out, hCC.out, LaterC.mk (x9.out (by (repeat (first | (with_reducible exact Below.refl _ _) | (with_reducible assumption) | (with_reducible refine Later.out _ ?_) | (with_reducible refine bel_alloc ?_ _) | (with_reducible refine bel_drew ?_) | (with_reducible refine bel_drewN ?_ _) | (with_reducible refine bel_set ?_ ?_ _) | (with_reducible refine After.out _ ?_ ?_) | (dsimp only; omega) | omega | (simp only [World.size_alloc, World.size_setCell, World.size_drew]; omega)))) (by omega))⟩
          case measure => first | (simp [intOf]; done) | (simp [intOf]; omega) | omega
      · have hg : repG L S = true := by rw [← hgo, hls]; rfl
        rw [hls] at CFk
        have X := Lib.hid (bitsTo_no (G := repG L) (n := n) (k := k) (by rw [hSe, minB_small, hls, hg]; rfl))
        have Y := Lib.hid (show tabG (repG L) n N (k + 1) = (tabG (repG L) n N k).set k true by rw [← tabG_set _ _ _ _ hlt, hSe, hg])
        clear hlb hgo hSe hls hg
        go_wp2_with fail
        with_reducible refine (CS.out _).mono ?_
        rintro e w' ⟨a6, c6, rfl, hown, y6, rfl⟩
        have hsy6 := y6.bel.size
        (try simp only [World.size_alloc, World.size_setCell, World.size_drew] at hsy6)
        have H6 := Lib.hid (Owns.of hown)
        clear hown
        have h3 : y6.w.cell? ⟨w.heap.size + 1, 0, none⟩ = some (.slice (some ⟨w.heap.size, 0, none⟩) N N) := (Below.cell (B := z.w.heap.size) (by (repeat (first | (with_reducible exact Below.refl _ _) | (with_reducible assumption) | (with_reducible refine Later.out _ ?_) | (with_reducible refine bel_alloc ?_ _) | (with_reducible refine bel_drew ?_) | (with_reducible refine bel_drewN ?_ _) | (with_reducible refine bel_set ?_ ?_ _) | (with_reducible refine After.out _ ?_ ?_) | (dsimp only; omega) | omega | (simp only [World.size_alloc, World.size_setCell, World.size_drew]; omega)))) lbx).trans hbox
        have h5 : y6.w.cell? ⟨z.w.heap.size, 0, none⟩ = some (.int .i64 k) := (Below.cell y6.bel (by simp only [World.size_alloc]; omega)).trans (by simp [go_sem, ↓IntWalk.iteOmega])
        go_wp2_with fail
        with_reducible refine (CFk.out (w.heap.size + 1) z.w.heap.size w.heap.size _ _ _ H6.out.row h3 h5 (hown.out.row.bel (by (repeat (first | (with_reducible exact Below.refl _ _) | (with_reducible assumption) | (with_reducible refine Later.out _ ?_) | (with_reducible refine bel_alloc ?_ _) | (with_reducible refine bel_drew ?_) | (with_reducible refine bel_drewN ?_ _) | (with_reducible refine bel_set ?_ ?_ _) | (with_reducible refine After.out _ ?_ ?_) | (dsimp only; omega) | omega | (simp only [World.size_alloc, World.size_setCell, World.size_drew]; omega)))))).mono ?_
        rintro e w' ⟨rfl, y7, rfl⟩
        have hsy7 := y7.bel.size
        (try simp only [World.size_alloc, World.size_setCell, World.size_drew] at hsy7)
        have k3 : y7.w.cell? ⟨w.heap.size + 1, 0, none⟩ = some (.slice (some ⟨w.heap.size, 0, none⟩) N N) := (Below.cell (B := z.w.heap.size) (by (repeat (first | (with_reducible exact Below.refl _ _) | (with_reducible assumption) | (with_reducible refine Later.out _ ?_) | (with_reducible refine bel_alloc ?_ _) | (with_reducible refine bel_drew ?_) | (with_reducible refine bel_drewN ?_ _) | (with_reducible refine bel_set ?_ ?_ _) | (with_reducible refine After.out _ ?_ ?_) | (dsimp only; omega) | omega | (simp only [World.size_alloc, World.size_setCell, World.size_drew]; omega)))) lbx).trans hbox
        have k5 : y7.w.cell? ⟨z.w.heap.size, 0, none⟩ = some (.int .i64 k) := (y7.bel.cell (World.block_lt_of_cell? _ _ h5)).trans h5
        have lz3 := World.block_lt_of_cell? _ _ k3
        have lz5 := World.block_lt_of_cell? _ _ k5
        obtain ⟨v0, kc, kf⟩ := tab_cell (hown.out.bel (B := z.w.heap.size) (w' := y7.w) (by (repeat (first | (with_reducible exact Below.refl _ _) | (with_reducible assumption) | (with_reducible refine Later.out _ ?_) | (with_reducible refine bel_alloc ?_ _) | (with_reducible refine bel_drew ?_) | (with_reducible refine bel_drewN ?_ _) | (with_reducible refine bel_set ?_ ?_ _) | (with_reducible refine After.out _ ?_ ?_) | (dsimp only; omega) | omega | (simp only [World.size_alloc, World.size_setCell, World.size_drew]; omega)))) (by omega)) (hTl.out k) hlt
        clear h3 h5
        go_wp2_with fail
        refine wp_region_plan [(0, true), (1, true), (2, true), (3, true), (4, true), (5, true), (6, false), (7, true), (8, true), (9, false)] (C := AfterC w.heap.size (w.heap.size + 1) _) (by kernel_rfl) (by kernel_rfl) (by kernel_rfl) rfl (fun _ _ d _ _ h => by cases d <;> exact h) (AfterC.mk ((Between.refl _ _ _).drew)) ?_
        first | (refine plan_quiet nth0 rfl ?_; intro KP hKP; go_big_quiet_op; go_big_quiet_on) | (refine plan_skip_q nth0 rfl rfl ?_; simp only [Act.put, List.setIfInBounds_toArray, List.set_cons_zero, List.set_cons_succ])
        first | (refine plan_quiet nth1 rfl ?_; intro KP hKP; go_big_quiet_op; go_big_quiet_on) | (refine plan_skip_q nth1 rfl rfl ?_; simp only [Act.put, List.setIfInBounds_toArray, List.set_cons_zero, List.set_cons_succ])
        first | (refine plan_quiet nth2 rfl ?_; intro KP hKP; go_big_quiet_op; go_big_quiet_on) | (refine plan_skip_q nth2 rfl rfl ?_; simp only [Act.put, List.setIfInBounds_toArray, List.set_cons_zero, List.set_cons_succ])
        first | (refine plan_quiet nth3 rfl ?_; intro KP hKP; go_big_quiet_op; go_big_quiet_on) | (refine plan_skip_q nth3 rfl rfl ?_; simp only [Act.put, List.setIfInBounds_toArray, List.set_cons_zero, List.set_cons_succ])
        first | (refine plan_quiet nth4 rfl ?_; intro KP hKP; go_big_quiet_op; go_big_quiet_on) | (refine plan_skip_q nth4 rfl rfl ?_; simp only [Act.put, List.setIfInBounds_toArray, List.set_cons_zero, List.set_cons_succ])
        first | (refine plan_quiet nth5 rfl ?_; intro KP hKP; go_big_quiet_op; go_big_quiet_on) | (refine plan_skip_q nth5 rfl rfl ?_; simp only [Act.put, List.setIfInBounds_toArray, List.set_cons_zero, List.set_cons_succ])
        first | (refine plan_loud nth6 rfl ?_; intro KP hKP; go_wp2_with fail; refine hKP _ _ (AfterC.mk (by (repeat (first | (with_reducible exact Between.refl _ _ _) | (with_reducible refine Between.drew ?_) | (with_reducible refine Between.drewN ?_ _) | (with_reducible refine Between.set ?_ ?_ ?_ _) | (with_reducible refine btw_later _ ?_) | (with_reducible refine btw_alloc ?_ _) | (with_reducible refine btw_after _ ?_) | (with_reducible assumption) | (dsimp only; omega) | omega)))) ?_; clear hKP KP) | (refine plan_skip nth6 rfl rfl (AfterC.mk (by (repeat (first | (with_reducible exact Between.refl _ _ _) | (with_reducible refine Between.drew ?_) | (with_reducible refine Between.drewN ?_ _) | (with_reducible refine Between.set ?_ ?_ ?_ _) | (with_reducible refine btw_later _ ?_) | (with_reducible refine btw_alloc ?_ _) | (with_reducible refine btw_after _ ?_) | (with_reducible assumption) | (dsimp only; omega) | omega)))) ?_; simp only [Act.put, List.setIfInBounds_toArray, List.set_cons_zero, List.set_cons_succ])
        first | (refine plan_quiet nth7 rfl ?_; intro KP hKP; go_big_quiet_op; go_big_quiet_on) | (refine plan_skip_q nth7 rfl rfl ?_; simp only [Act.put, List.setIfInBounds_toArray, List.set_cons_zero, List.set_cons_succ])
        first | (refine plan_quiet nth8 rfl ?_; intro KP hKP; go_big_quiet_op; go_big_quiet_on) | (refine plan_skip_q nth8 rfl rfl ?_; simp only [Act.put, List.setIfInBounds_toArray, List.set_cons_zero, List.set_cons_succ])
        first | (refine plan_loud nth9 rfl ?_; intro KP hKP; go_wp2_with fail; refine hKP _ _ (AfterC.mk (by (repeat (first | (with_reducible exact Between.refl _ _ _) | (with_reducible refine Between.drew ?_) | (with_reducible refine Between.drewN ?_ _) | (with_reducible refine Between.set ?_ ?_ ?_ _) | (with_reducible refine btw_later _ ?_) | (with_reducible refine btw_alloc ?_ _) | (with_reducible refine btw_after _ ?_) | (with_reducible assumption) | (dsimp only; omega) | omega)))) ?_; clear hKP KP) | (refine plan_skip nth9 rfl rfl (AfterC.mk (by (repeat (first | (with_reducible exact Between.refl _ _ _) | (with_reducible refine Between.drew ?_) | (with_reducible refine Between.drewN ?_ _) | (with_reducible refine Between.set ?_ ?_ ?_ _) | (with_reducible refine btw_later _ ?_) | (with_reducible refine btw_alloc ?_ _) | (with_reducible refine btw_after _ ?_) | (with_reducible assumption) | (dsimp only; omega) | omega)))) ?_; simp only [Act.put, List.setIfInBounds_toArray, List.set_cons_zero, List.set_cons_succ])
        refine plan_nil ?_
        have hN' := Lib.hid (Nest.mono ((hnest.out.bel (B := z.w.heap.size) (w' := y7.w.drew) (by (repeat (first | (with_reducible exact Below.refl _ _) | (with_reducible assumption) | (with_reducible refine Later.out _ ?_) | (with_reducible refine bel_alloc ?_ _) | (with_reducible refine bel_drew ?_) | (with_reducible refine bel_drewN ?_ _) | (with_reducible refine bel_set ?_ ?_ _) | (with_reducible refine After.out _ ?_ ?_) | (dsimp only; omega) | omega | (simp only [World.size_alloc, World.size_setCell, World.size_drew]; omega)))) (Nat.le_refl _)).btw (lo' := w.heap.size) (hi' := w.heap.size + 1) (w' := y7.w.drew.setCell ⟨w.heap.size, k, none⟩ (.bool true)) (by (repeat (first | (with_reducible exact Between.refl _ _ _) | (with_reducible refine Between.drew ?_) | (with_reducible refine Between.drewN ?_ _) | (with_reducible refine Between.set ?_ ?_ ?_ _) | (with_reducible refine btw_later _ ?_) | (with_reducible refine btw_alloc ?_ _) | (with_reducible refine btw_after _ ?_) | (with_reducible assumption) | (dsimp only; omega) | omega))) (.inr (by omega))) (Nat.le_refl _) (hi' := (y7.w.drew.setCell ⟨w.heap.size, k, none⟩ (.bool true)).heap.size) (by ((try simp only [World.size_alloc, World.size_setCell, World.size_drew]); omega)))
        have hO' := Lib.hid (Owns.set (hown.out.bel (B := z.w.heap.size) (w' := y7.w.drew) (by (repeat (first | (with_reducible exact Below.refl _ _) | (with_reducible assumption) | (with_reducible refine Later.out _ ?_) | (with_reducible refine bel_alloc ?_ _) | (with_reducible refine bel_drew ?_) | (with_reducible refine bel_drewN ?_ _) | (with_reducible refine bel_set ?_ ?_ _) | (with_reducible refine After.out _ ?_ ?_) | (dsimp only; omega) | omega | (simp only [World.size_alloc, World.size_setCell, World.size_drew]; omega)))) (by omega)) (j := k) (.bool true))
        have hC' := (World.cell?_setCell_other y7.w.drew ⟨w.heap.size, k, none⟩ ⟨w.heap.size + 1, 0, none⟩ (.bool true) (by intro e; simp only [Addr.mk.injEq] at e; omega)).trans ((Below.cell (B := z.w.heap.size) (w' := y7.w.drew) (by (repeat (first | (with_reducible exact Below.refl _ _) | (with_reducible assumption) | (with_reducible refine Later.out _ ?_) | (with_reducible refine bel_alloc ?_ _) | (with_reducible refine bel_drew ?_) | (with_reducible refine bel_drewN ?_ _) | (with_reducible refine bel_set ?_ ?_ _) | (with_reducible refine After.out _ ?_ ?_) | (dsimp only; omega) | omega | (simp only [World.size_alloc, World.size_setCell, World.size_drew]; omega)))) lbx).trans hbox)
        replace hC' := Lib.hid hC'
        go_wp2_with fail
        go_roundw
        case rel => exact ⟨k + 1, a5, c5, vs, by omega, by go_num, by rw [X.out]; try rfl, by rw [X.out]; exact hN'.out, by rw [Y.out, boolCells_set]; exact hO'.out, hC'.out, LaterC.mk (by (repeat (first | (with_reducible exact Below.refl _ _) | (with_reducible assumption) | (with_reducible refine Later.out _ ?_) | (with_reducible refine bel_alloc ?_ _) | (with_reducible refine bel_drew ?_) | (with_reducible refine bel_drewN ?_ _) | (with_reducible refine bel_set ?_ ?_ _) | (with_reducible refine After.out _ ?_ ?_) | (dsimp only; omega) | omega | (simp only [World.size_alloc, World.size_setCell, World.size_drew]; omega))))⟩
        case measure => first | (simp [intOf]; done) | (simp [intOf]; omega) | omega
    · obtain rfl : k = N := by omega
      have hi1 : ¬ (k : Int) < wrap64 ((2 : Int) ^ n) := by rw [hsh]; omega
      clear hsh
      have hBl := bitsTo_le (repG L) n k
      have hBm := Lib.hid (bits_len (repG L) n k)
      have hZ := Lib.hid (fun (l : List (List Int)) (hp : l.Perm (bitsTo (repG L) n k)) (hs : l.Pairwise fun a b => ¬ b < a) => bits_sorted (n := n) (by rw [← hn]; exact repG_mono L) (by rw [← hN.out]; exact hp) hs)
      obtain ⟨Bs, hBs⟩ : ∃ Bs, bitsTo (repG L) n k = Bs := ⟨_, rfl⟩
      rw [hBs] at hnest hBl hBm hZ
      simp only [hBs]
      clear hBs
      go_wp2_with (go_at_call 170; (with_reducible refine (sortRows_any Bs vs a5 Bs.length c5 (w.heap.size + 2) z.w (by omega) hnest.out (by omega) (fun l hl => by have := hBm.out l hl; omega)).mono ?_); rintro e w' ⟨rfl, S', vs', hp, hs, hnn, hbb⟩)
      have hE := hZ.out S' hp hs
      subst hE
      have hl' := hnn.len
      go_ret
      refine RetNest.mk' rfl (hnn.mono (by omega) (Nat.le_refl _)) ?_
      exact z.bel.trans (hbb.mono (by omega))
end Go.Proofs.YtflcfdiochohgaaGreatDoor

/- All minimal repairs that begin with some indices: the reference's side. -/
set_option linter.unusedSimpArgs false
set_option linter.unusedVariables false
namespace Go.Proofs.YtflcfdiochohgaaGreatDoor
open Go.RowKit
set_option maxRecDepth 8000 in
set_option maxHeartbeats 4000000 in
theorem sRepairs_any (L : List Clm) (a : Option Addr) (n c : Nat) (hn : L.length = n) (hm : n ≤ 12) (hv : Named L) : ∀ (f : Nat) (S : List Int), Ixs n S → n - nextN S < f →
    ∀ (lo : Nat) (a' : Option Addr) (n' c' : Nat) (w : World), S.length = n' → Row w a (clmsCells L) → lo ≤ w.heap.size → Owns w lo w.heap.size 2 1 n' a' c' (intCells S) →
    Calls Tryz.prog 106 #[.slice a n c, .slice a' n' c'] w (RetNestAt lo w (minZ (repG L) n S)) := by
  intro f
  induction f with
  | zero => intro S _ hf; omega
  | succ f ih =>
    intro S hS hf lo a' n' c' w hn' hr hlo ho
    have hin : Within L.length S := fun x hx => by rw [hn]; exact hS.bd x hx
    have hsl := ixs_len hS
    have CR := Lib.hid (fun w hr hr' => sMinimal_any L S a a' n c n' c' w hn hn' (by omega) (by omega) ho.cap hr hr' hv)
    have HO := Lib.hid ho
    replace hr := Lib.hid hr
    cases hg : repG L S
    · have CA := Lib.hid (fun w hr hr' => sRepair_b L S a a' n c n' c' w hn hn' (by omega) (by omega) hr hr' hv hg)
      have hnx := nextN_le hS
      have X := Lib.hid (minZ_bad (n := n) hg)
      obtain ⟨ii, j1, j2, j3, j4⟩ := info_i64'
      have Jii := Lib.hid (And.intro j1 (And.intro j2 (And.intro j3 j4)))
      obtain ⟨i2, k1, k2, k3, k4⟩ := info_ints'
      have Ji2 := Lib.hid (And.intro k1 (And.intro k2 (And.intro k3 k4)))
      have COwn := Lib.hid (fun w hr => sOwn_any S a' n' c' w hn' (by omega) hr)
      have IH := Lib.hid (fun (x : Nat) (h1 : nextN S ≤ x) (h2 : x < n) (lo : Nat) a' c' (w : World) hr hlo ho => ih (S ++ [(x : Int)]) (ixs_snoc hS h1 h2) (by rw [nextN_snoc]; omega) lo a' (n' + 1) c' w (by simp [hn']) hr hlo ho)
      have hT := Lib.hid (fun k hk => minTo_small (repG L) hm S (k := k) hk)
      have hZ := Lib.hid (fun S => minZ_small (repG L) hm S)
      have hlast : ∀ m, n' = m + 1 → ∃ b o, a' = some ⟨b, o, none⟩ ∧ b < w.heap.size ∧ w.cell? ⟨b, o + m, none⟩ = some (.int .i64 ((nextN S : Int) - 1)) := fun m hm' => by
        obtain ⟨b, o, h1, h2, h3⟩ := ho.row.int (k := m) (by omega)
        have h4 := next_getLast hS (by omega)
        refine ⟨b, o, h1, h2, ?_⟩
        rw [h3, ← h4]
        congr 3
        omega
      have hzero : n' = 0 → nextN S = 0 := fun h => by rw [List.length_eq_zero_iff.1 (hn'.trans h)]; rfl
      obtain ⟨q, hq⟩ : ∃ q, nextN S = q := ⟨_, rfl⟩
      rw [hq] at hnx IH hlast hzero
      have hcS := Lib.hid (intCells_snoc S)
      have hlS := length_intCells S
      rw [hn'] at hlS
      have hTz := Lib.hid (minTo_zero (repG L) n S)
      have hTs := Lib.hid (fun k => minTo_succ (repG L) n S k)
      rw [hq] at hTs hT X
      clear ho hin hg ih j1 j2 j3 j4 k1 k2 k3 k4 hq
      rw [X.out]
      rcases Nat.eq_zero_or_pos n' with h0 | h0
      · obtain rfl : n' = 0 := h0
        have hq0 := hzero rfl
        clear hlast hzero
        go_enter Tryz.func106, Tryz.ntmps106
        go_wp2_with fail
        with_reducible refine (CA.out _ (hr.out.bel (by (repeat (first | (with_reducible exact Below.refl _ _) | (with_reducible assumption) | (with_reducible refine Later.out _ ?_) | (with_reducible refine bel_alloc ?_ _) | (with_reducible refine bel_drew ?_) | (with_reducible refine bel_drewN ?_ _) | (with_reducible refine bel_set ?_ ?_ _) | (with_reducible refine After.out _ ?_ ?_) | (dsimp only; omega) | omega | (simp only [World.size_alloc, World.size_setCell, World.size_drew]; omega))))) (HO.out.row.bel (by (repeat (first | (with_reducible exact Below.refl _ _) | (with_reducible assumption) | (with_reducible refine Later.out _ ?_) | (with_reducible refine bel_alloc ?_ _) | (with_reducible refine bel_drew ?_) | (with_reducible refine bel_drewN ?_ _) | (with_reducible refine bel_set ?_ ?_ _) | (with_reducible refine After.out _ ?_ ?_) | (dsimp only; omega) | omega | (simp only [World.size_alloc, World.size_setCell, World.size_drew]; omega)))))).mono ?_
        rintro e w' ⟨rfl, y3, rfl⟩
        have hsy3 := y3.bel.size
        (try simp only [World.size_alloc, World.size_setCell, World.size_drew] at hsy3)
        go_wp2_with fail
        go_loopw [5, 7] (fun t5 i wr => ∃ (k : Nat) (a5 : Option Addr) (c5 : Nat) (vs : List Value), k ≤ n - q ∧ i = .int .i64 ((q + k : Nat) : Int) ∧ t5 = .slice a5 (minTo (repG L) n S k).length c5 ∧ Nest wr w.heap.size wr.heap.size a5 (minTo (repG L) n S k).length c5 (minTo (repG L) n S k) vs ∧ ∃ z : Later w, wr = z.w) (fun _ i _ => n - (intOf i).toNat)
        case atStart => exact ⟨0, _, _, [], Nat.zero_le _, by first | rfl | go_num | (congr 1; omega), by rw [hTz.out]; rfl, by rw [hTz.out]; exact (Nest.made0 y3.w w.heap.size (by omega)).bel (B := (y3.w.alloc (.cells #[] 35)).heap.size) (by (repeat (first | (with_reducible exact Below.refl _ _) | (with_reducible assumption) | (with_reducible refine Later.out _ ?_) | (with_reducible refine bel_alloc ?_ _) | (with_reducible refine bel_drew ?_) | (with_reducible refine bel_drewN ?_ _) | (with_reducible refine bel_set ?_ ?_ _) | (with_reducible refine After.out _ ?_ ?_) | (dsimp only; omega) | omega | (simp only [World.size_alloc, World.size_setCell, World.size_drew]; omega)))) (Nat.le_refl _), LaterC.mk (by (repeat (first | (with_reducible exact Below.refl _ _) | (with_reducible assumption) | (with_reducible refine Later.out _ ?_) | (with_reducible refine bel_alloc ?_ _) | (with_reducible refine bel_drew ?_) | (with_reducible refine bel_drewN ?_ _) | (with_reducible refine bel_set ?_ ?_ _) | (with_reducible refine After.out _ ?_ ?_) | (dsimp only; omega) | omega | (simp only [World.size_alloc, World.size_setCell, World.size_drew]; omega))))⟩
        case round =>
          obtain ⟨k, a5, c5, vs, hk, rfl, rfl, hnest, z, rfl⟩ := hrel
          have hzz := z.bel.size
          obtain ⟨x, hx⟩ : ∃ x, q + k = x := ⟨_, rfl⟩
          have hS1 := hTs.out k
          rw [hx] at hS1 ⊢
          by_cases hlt : x < n
          · have hi1 : (x : Int) < (n : Int) := by omega
            have hN1 := hT.out k hk
            have hN2 := hZ.out (S ++ [(x : Int)])
            have IHx := fun lo a' c' w hr hlo ho => IH.out x (by omega) hlt lo a' c' w hr hlo ho
            obtain ⟨Zs, hZs⟩ : ∃ Zs, minZ (repG L) n (S ++ [(x : Int)]) = Zs := ⟨_, rfl⟩
            rw [hZs] at hS1 hN2
            simp only [hZs] at IHx
            obtain ⟨N, hN⟩ : ∃ N, minTo (repG L) n S k = N := ⟨_, rfl⟩
            rw [hN] at hS1 hN1 hnest ⊢
            replace IHx := Lib.hid IHx
            replace hS1 := Lib.hid hS1
            obtain ⟨p, p', hp1, hp2, hp3, hpo, hpk, hpb⟩ := hnest.own.tight hzz
            have hon := Lib.hid hpo
            have hpb' := Lib.hid (fun k h1 h2 => (hpb k h1 h2).1)
            replace hnest := Lib.hid hnest
            clear hZs hN hpo hpk hpb
            go_wp2_with (first | (go_at_call 115; (with_reducible refine (COwn.out _ (HO.out.row.bel (by (repeat (first | (with_reducible exact Below.refl _ _) | (with_reducible assumption) | (with_reducible refine Later.out _ ?_) | (with_reducible refine bel_alloc ?_ _) | (with_reducible refine bel_drew ?_) | (with_reducible refine bel_drewN ?_ _) | (with_reducible refine bel_set ?_ ?_ _) | (with_reducible refine After.out _ ?_ ?_) | (dsimp only; omega) | omega | (simp only [World.size_alloc, World.size_setCell, World.size_drew]; omega)))))).mono ?_); rintro e w' ⟨a4, c4, rfl, hown4, y4, rfl⟩; have hs4 := y4.bel.size; (try simp only [World.size_alloc, World.size_setCell, World.size_drew] at hs4); have H4 := Lib.hid hown4; clear hown4) | (go_at_call 106; (with_reducible refine (IHx.out z.w.heap.size _ _ _ (hr.out.bel (by (repeat (first | (with_reducible exact Below.refl _ _) | (with_reducible assumption) | (with_reducible refine Later.out _ ?_) | (with_reducible refine bel_alloc ?_ _) | (with_reducible refine bel_drew ?_) | (with_reducible refine bel_drewN ?_ _) | (with_reducible refine bel_set ?_ ?_ _) | (with_reducible refine After.out _ ?_ ?_) | (dsimp only; omega) | omega | (simp only [World.size_alloc, World.size_setCell, World.size_drew]; omega))))) (by ((try simp only [World.size_alloc, World.size_setCell, World.size_drew]); omega)) N6.out).mono ?_); rintro e w' ⟨a7, c7, vs7, rfl, hn7, y7, rfl⟩; have hs7 := y7.bel.size; (try simp only [World.size_alloc, World.size_setCell, World.size_drew] at hs7); have hv7 := hn7.vlen; have N7 := Lib.hid hn7; clear hn7) | (at_builtin; (refine wpList_append_later _ rfl _ _ _ rfl 2 ii _ 1 8 Tryz.underlying35 Jii.out.1 Jii.out.2.1 Jii.out.2.2.1 Jii.out.2.2.2 rfl (by decide) (z.w) ?qa1 _ _ _ (intCells S) rfl ?qa2 _ _ _ ([.int .i64 x]) rfl ?qa3 ?qa4 ?qa5 ?qa6 ?qa7 ?_); (case qa1 => (repeat (first | (with_reducible exact Below.refl _ _) | (with_reducible assumption) | (with_reducible refine Later.out _ ?_) | (with_reducible refine bel_alloc ?_ _) | (with_reducible refine bel_drew ?_) | (with_reducible refine bel_drewN ?_ _) | (with_reducible refine bel_set ?_ ?_ _) | (with_reducible refine After.out _ ?_ ?_) | (dsimp only; omega) | omega | (simp only [World.size_alloc, World.size_setCell, World.size_drew]; omega)))); (case qa2 => exact own_mono (own_bel H4.out (by (repeat (first | (with_reducible exact Below.refl _ _) | (with_reducible assumption) | (with_reducible refine Later.out _ ?_) | (with_reducible refine bel_alloc ?_ _) | (with_reducible refine bel_drew ?_) | (with_reducible refine bel_drewN ?_ _) | (with_reducible refine bel_set ?_ ?_ _) | (with_reducible refine After.out _ ?_ ?_) | (dsimp only; omega) | omega | (simp only [World.size_alloc, World.size_setCell, World.size_drew]; omega))))) (by first | omega | (simp only [World.size_drew]; omega) | (simp only [World.size_drew]; done) | exact Nat.le_refl _)); (case qa3 => (first | rfl | (simp [boolCells]; done) | (simp [intCells]; done) | (simp; done) | (first | omega | (simp only [List.length_append, List.length_cons, List.length_nil]; omega)))); (case qa4 => exact Row.madeAt (by simp only [World.size_alloc]; try rfl) rfl); (case qa5 => (intro u hu; simp at hu; subst hu; rfl)); (case qa6 => (unfold maxLen; (first | omega | (simp only [List.length_append, List.length_cons, List.length_nil]; omega)))); (case qa7 => (first | omega | (simp only [List.length_append, List.length_cons, List.length_nil]; omega))); intro a6 c6 x6 hown6; rw [← hcS.out] at hown6; have hs6 := x6.bel.size; have N6 := Lib.hid (Owns.of hown6); clear hown6) | (at_builtin; (refine wpList_append_after _ rfl _ _ _ rfl 35 i2 _ 1 24 Tryz.underlying46 Ji2.out.1 Ji2.out.2.1 Ji2.out.2.2.1 Ji2.out.2.2.2 rfl (by decide) (p) (p') ?qb15 _ _ _ (vs) rfl ?qb16 ?qb22 _ _ _ (vs7) rfl ?qb17 ?qb18 ?qb19 ?qb20 ?qb21 ?_); (case qb15 => (first | (dsimp only; omega) | omega | (simp only [World.size_alloc, World.size_setCell, World.size_drew]; omega))); (case qb16 => exact (hon.out.bel (B := z.w.heap.size) (by (repeat (first | (with_reducible exact Below.refl _ _) | (with_reducible assumption) | (with_reducible refine Later.out _ ?_) | (with_reducible refine bel_alloc ?_ _) | (with_reducible refine bel_drew ?_) | (with_reducible refine bel_drewN ?_ _) | (with_reducible refine bel_set ?_ ?_ _) | (with_reducible refine After.out _ ?_ ?_) | (dsimp only; omega) | omega | (simp only [World.size_alloc, World.size_setCell, World.size_drew]; omega)))) hp3).own); (case qb22 => exact hon.out.lt); (case qb17 => (first | rfl | (simp [boolCells]; done) | (simp [intCells]; done) | (simp; done) | (first | omega | (simp only [List.length_append, List.length_cons, List.length_nil]; omega)))); (case qb18 => exact N7.out.own.row); (case qb19 => exact N7.out.one); (case qb20 => (unfold maxLen; (first | omega | (simp only [List.length_append, List.length_cons, List.length_nil]; omega)))); (case qb21 => (first | omega | (simp only [List.length_append, List.length_cons, List.length_nil]; omega))); intro a9 c9 x9 hown9))
            have N2 := Nest.append hnest.out (show Below z.w.heap.size z.w y7.w by (repeat (first | (with_reducible exact Below.refl _ _) | (with_reducible assumption) | (with_reducible refine Later.out _ ?_) | (with_reducible refine bel_alloc ?_ _) | (with_reducible refine bel_drew ?_) | (with_reducible refine bel_drewN ?_ _) | (with_reducible refine bel_set ?_ ?_ _) | (with_reducible refine After.out _ ?_ ?_) | (dsimp only; omega) | omega | (simp only [World.size_alloc, World.size_setCell, World.size_drew]; omega)))) N7.out hp1 hzz hp3 hpb'.out x9.btw hown9
            replace N2 := Lib.hid N2
            clear hown9
            go_roundw
            case rel => exact ⟨k + 1, a9, c9, _, by omega, by rw [show q + (k + 1) = x + 1 by omega]; go_num, by rw [hS1.out]; simp, by rw [hS1.out, List.length_append]; exact N2.out, LaterC.mk (x9.out (by (repeat (first | (with_reducible exact Below.refl _ _) | (with_reducible assumption) | (with_reducible refine Later.out _ ?_) | (with_reducible refine bel_alloc ?_ _) | (with_reducible refine bel_drew ?_) | (with_reducible refine bel_drewN ?_ _) | (with_reducible refine bel_set ?_ ?_ _) | (with_reducible refine After.out _ ?_ ?_) | (dsimp only; omega) | omega | (simp only [World.size_alloc, World.size_setCell, World.size_drew]; omega)))) hp1)⟩
            case measure => simp [intOf]; omega
          · obtain rfl : k = n - q := by omega
            go_wp2_with fail
            go_ret
            exact RetNestAt.mk' rfl (hnest.mono hlo (Nat.le_refl _)) (by (repeat (first | (with_reducible exact Below.refl _ _) | (with_reducible assumption) | (with_reducible refine Later.out _ ?_) | (with_reducible refine bel_alloc ?_ _) | (with_reducible refine bel_drew ?_) | (with_reducible refine bel_drewN ?_ _) | (with_reducible refine bel_set ?_ ?_ _) | (with_reducible refine After.out _ ?_ ?_) | (dsimp only; omega) | omega | (simp only [World.size_alloc, World.size_setCell, World.size_drew]; omega))))
      · obtain ⟨m, rfl⟩ : ∃ m, n' = m + 1 := ⟨n' - 1, by omega⟩
        obtain ⟨b, o, rfl, hb, hc⟩ := hlast m rfl
        clear hlast hzero
        go_enter Tryz.func106, Tryz.ntmps106
        go_wp2_with fail
        with_reducible refine (CA.out _ (hr.out.bel (by (repeat (first | (with_reducible exact Below.refl _ _) | (with_reducible assumption) | (with_reducible refine Later.out _ ?_) | (with_reducible refine bel_alloc ?_ _) | (with_reducible refine bel_drew ?_) | (with_reducible refine bel_drewN ?_ _) | (with_reducible refine bel_set ?_ ?_ _) | (with_reducible refine After.out _ ?_ ?_) | (dsimp only; omega) | omega | (simp only [World.size_alloc, World.size_setCell, World.size_drew]; omega))))) (HO.out.row.bel (by (repeat (first | (with_reducible exact Below.refl _ _) | (with_reducible assumption) | (with_reducible refine Later.out _ ?_) | (with_reducible refine bel_alloc ?_ _) | (with_reducible refine bel_drew ?_) | (with_reducible refine bel_drewN ?_ _) | (with_reducible refine bel_set ?_ ?_ _) | (with_reducible refine After.out _ ?_ ?_) | (dsimp only; omega) | omega | (simp only [World.size_alloc, World.size_setCell, World.size_drew]; omega)))))).mono ?_
        rintro e w' ⟨rfl, y3, rfl⟩
        have hsy3 := y3.bel.size
        (try simp only [World.size_alloc, World.size_setCell, World.size_drew] at hsy3)
        have lb3 : b < y3.w.heap.size := by omega
        go_wp2_with fail
        go_loopw [5, 7] (fun t5 i wr => ∃ (k : Nat) (a5 : Option Addr) (c5 : Nat) (vs : List Value), k ≤ n - q ∧ i = .int .i64 ((q + k : Nat) : Int) ∧ t5 = .slice a5 (minTo (repG L) n S k).length c5 ∧ Nest wr w.heap.size wr.heap.size a5 (minTo (repG L) n S k).length c5 (minTo (repG L) n S k) vs ∧ ∃ z : Later w, wr = z.w) (fun _ i _ => n - (intOf i).toNat)
        case atStart => exact ⟨0, _, _, [], Nat.zero_le _, by first | rfl | go_num | (congr 1; omega), by rw [hTz.out]; rfl, by rw [hTz.out]; exact (Nest.made0 y3.w w.heap.size (by omega)).bel (B := (y3.w.alloc (.cells #[] 35)).heap.size) (by (repeat (first | (with_reducible exact Below.refl _ _) | (with_reducible assumption) | (with_reducible refine Later.out _ ?_) | (with_reducible refine bel_alloc ?_ _) | (with_reducible refine bel_drew ?_) | (with_reducible refine bel_drewN ?_ _) | (with_reducible refine bel_set ?_ ?_ _) | (with_reducible refine After.out _ ?_ ?_) | (dsimp only; omega) | omega | (simp only [World.size_alloc, World.size_setCell, World.size_drew]; omega)))) (Nat.le_refl _), LaterC.mk (by (repeat (first | (with_reducible exact Below.refl _ _) | (with_reducible assumption) | (with_reducible refine Later.out _ ?_) | (with_reducible refine bel_alloc ?_ _) | (with_reducible refine bel_drew ?_) | (with_reducible refine bel_drewN ?_ _) | (with_reducible refine bel_set ?_ ?_ _) | (with_reducible refine After.out _ ?_ ?_) | (dsimp only; omega) | omega | (simp only [World.size_alloc, World.size_setCell, World.size_drew]; omega))))⟩
        case round =>
          obtain ⟨k, a5, c5, vs, hk, rfl, rfl, hnest, z, rfl⟩ := hrel
          have hzz := z.bel.size
          obtain ⟨x, hx⟩ : ∃ x, q + k = x := ⟨_, rfl⟩
          have hS1 := hTs.out k
          rw [hx] at hS1 ⊢
          by_cases hlt : x < n
          · have hi1 : (x : Int) < (n : Int) := by omega
            have hN1 := hT.out k hk
            have hN2 := hZ.out (S ++ [(x : Int)])
            have IHx := fun lo a' c' w hr hlo ho => IH.out x (by omega) hlt lo a' c' w hr hlo ho
            obtain ⟨Zs, hZs⟩ : ∃ Zs, minZ (repG L) n (S ++ [(x : Int)]) = Zs := ⟨_, rfl⟩
            rw [hZs] at hS1 hN2
            simp only [hZs] at IHx
            obtain ⟨N, hN⟩ : ∃ N, minTo (repG L) n S k = N := ⟨_, rfl⟩
            rw [hN] at hS1 hN1 hnest ⊢
            replace IHx := Lib.hid IHx
            replace hS1 := Lib.hid hS1
            obtain ⟨p, p', hp1, hp2, hp3, hpo, hpk, hpb⟩ := hnest.own.tight hzz
            have hon := Lib.hid hpo
            have hpb' := Lib.hid (fun k h1 h2 => (hpb k h1 h2).1)
            replace hnest := Lib.hid hnest
            clear hZs hN hpo hpk hpb
            go_wp2_with (first | (go_at_call 115; (with_reducible refine (COwn.out _ (HO.out.row.bel (by (repeat (first | (with_reducible exact Below.refl _ _) | (with_reducible assumption) | (with_reducible refine Later.out _ ?_) | (with_reducible refine bel_alloc ?_ _) | (with_reducible refine bel_drew ?_) | (with_reducible refine bel_drewN ?_ _) | (with_reducible refine bel_set ?_ ?_ _) | (with_reducible refine After.out _ ?_ ?_) | (dsimp only; omega) | omega | (simp only [World.size_alloc, World.size_setCell, World.size_drew]; omega)))))).mono ?_); rintro e w' ⟨a4, c4, rfl, hown4, y4, rfl⟩; have hs4 := y4.bel.size; (try simp only [World.size_alloc, World.size_setCell, World.size_drew] at hs4); have H4 := Lib.hid hown4; clear hown4) | (go_at_call 106; (with_reducible refine (IHx.out z.w.heap.size _ _ _ (hr.out.bel (by (repeat (first | (with_reducible exact Below.refl _ _) | (with_reducible assumption) | (with_reducible refine Later.out _ ?_) | (with_reducible refine bel_alloc ?_ _) | (with_reducible refine bel_drew ?_) | (with_reducible refine bel_drewN ?_ _) | (with_reducible refine bel_set ?_ ?_ _) | (with_reducible refine After.out _ ?_ ?_) | (dsimp only; omega) | omega | (simp only [World.size_alloc, World.size_setCell, World.size_drew]; omega))))) (by ((try simp only [World.size_alloc, World.size_setCell, World.size_drew]); omega)) N6.out).mono ?_); rintro e w' ⟨a7, c7, vs7, rfl, hn7, y7, rfl⟩; have hs7 := y7.bel.size; (try simp only [World.size_alloc, World.size_setCell, World.size_drew] at hs7); have hv7 := hn7.vlen; have N7 := Lib.hid hn7; clear hn7) | (at_builtin; (refine wpList_append_later _ rfl _ _ _ rfl 2 ii _ 1 8 Tryz.underlying35 Jii.out.1 Jii.out.2.1 Jii.out.2.2.1 Jii.out.2.2.2 rfl (by decide) (z.w) ?qa8 _ _ _ (intCells S) rfl ?qa9 _ _ _ ([.int .i64 x]) rfl ?qa10 ?qa11 ?qa12 ?qa13 ?qa14 ?_); (case qa8 => (repeat (first | (with_reducible exact Below.refl _ _) | (with_reducible assumption) | (with_reducible refine Later.out _ ?_) | (with_reducible refine bel_alloc ?_ _) | (with_reducible refine bel_drew ?_) | (with_reducible refine bel_drewN ?_ _) | (with_reducible refine bel_set ?_ ?_ _) | (with_reducible refine After.out _ ?_ ?_) | (dsimp only; omega) | omega | (simp only [World.size_alloc, World.size_setCell, World.size_drew]; omega)))); (case qa9 => exact own_mono (own_bel H4.out (by (repeat (first | (with_reducible exact Below.refl _ _) | (with_reducible assumption) | (with_reducible refine Later.out _ ?_) | (with_reducible refine bel_alloc ?_ _) | (with_reducible refine bel_drew ?_) | (with_reducible refine bel_drewN ?_ _) | (with_reducible refine bel_set ?_ ?_ _) | (with_reducible refine After.out _ ?_ ?_) | (dsimp only; omega) | omega | (simp only [World.size_alloc, World.size_setCell, World.size_drew]; omega))))) (by first | omega | (simp only [World.size_drew]; omega) | (simp only [World.size_drew]; done) | exact Nat.le_refl _)); (case qa10 => (first | rfl | (simp [boolCells]; done) | (simp [intCells]; done) | (simp; done) | (first | omega | (simp only [List.length_append, List.length_cons, List.length_nil]; omega)))); (case qa11 => exact Row.madeAt (by simp only [World.size_alloc]; try rfl) rfl); (case qa12 => (intro u hu; simp at hu; subst hu; rfl)); (case qa13 => (unfold maxLen; (first | omega | (simp only [List.length_append, List.length_cons, List.length_nil]; omega)))); (case qa14 => (first | omega | (simp only [List.length_append, List.length_cons, List.length_nil]; omega))); intro a6 c6 x6 hown6; rw [← hcS.out] at hown6; have hs6 := x6.bel.size; have N6 := Lib.hid (Owns.of hown6); clear hown6) | (at_builtin; (refine wpList_append_after _ rfl _ _ _ rfl 35 i2 _ 1 24 Tryz.underlying46 Ji2.out.1 Ji2.out.2.1 Ji2.out.2.2.1 Ji2.out.2.2.2 rfl (by decide) (p) (p') ?qb23 _ _ _ (vs) rfl ?qb24 ?qb30 _ _ _ (vs7) rfl ?qb25 ?qb26 ?qb27 ?qb28 ?qb29 ?_); (case qb23 => (first | (dsimp only; omega) | omega | (simp only [World.size_alloc, World.size_setCell, World.size_drew]; omega))); (case qb24 => exact (hon.out.bel (B := z.w.heap.size) (by (repeat (first | (with_reducible exact Below.refl _ _) | (with_reducible assumption) | (with_reducible refine Later.out _ ?_) | (with_reducible refine bel_alloc ?_ _) | (with_reducible refine bel_drew ?_) | (with_reducible refine bel_drewN ?_ _) | (with_reducible refine bel_set ?_ ?_ _) | (with_reducible refine After.out _ ?_ ?_) | (dsimp only; omega) | omega | (simp only [World.size_alloc, World.size_setCell, World.size_drew]; omega)))) hp3).own); (case qb30 => exact hon.out.lt); (case qb25 => (first | rfl | (simp [boolCells]; done) | (simp [intCells]; done) | (simp; done) | (first | omega | (simp only [List.length_append, List.length_cons, List.length_nil]; omega)))); (case qb26 => exact N7.out.own.row); (case qb27 => exact N7.out.one); (case qb28 => (unfold maxLen; (first | omega | (simp only [List.length_append, List.length_cons, List.length_nil]; omega)))); (case qb29 => (first | omega | (simp only [List.length_append, List.length_cons, List.length_nil]; omega))); intro a9 c9 x9 hown9))
            have N2 := Nest.append hnest.out (show Below z.w.heap.size z.w y7.w by (repeat (first | (with_reducible exact Below.refl _ _) | (with_reducible assumption) | (with_reducible refine Later.out _ ?_) | (with_reducible refine bel_alloc ?_ _) | (with_reducible refine bel_drew ?_) | (with_reducible refine bel_drewN ?_ _) | (with_reducible refine bel_set ?_ ?_ _) | (with_reducible refine After.out _ ?_ ?_) | (dsimp only; omega) | omega | (simp only [World.size_alloc, World.size_setCell, World.size_drew]; omega)))) N7.out hp1 hzz hp3 hpb'.out x9.btw hown9
            replace N2 := Lib.hid N2
            clear hown9
            go_roundw
            case rel => exact ⟨k + 1, a9, c9, _, by omega, by rw [show q + (k + 1) = x + 1 by omega]; go_num, by rw [hS1.out]; simp, by rw [hS1.out, List.length_append]; exact N2.out, LaterC.mk (x9.out (by (repeat (first | (with_reducible exact Below.refl _ _) | (with_reducible assumption) | (with_reducible refine Later.out _ ?_) | (with_reducible refine bel_alloc ?_ _) | (with_reducible refine bel_drew ?_) | (with_reducible refine bel_drewN ?_ _) | (with_reducible refine bel_set ?_ ?_ _) | (with_reducible refine After.out _ ?_ ?_) | (dsimp only; omega) | omega | (simp only [World.size_alloc, World.size_setCell, World.size_drew]; omega)))) hp1)⟩
            case measure => simp [intOf]; omega
          · obtain rfl : k = n - q := by omega
            go_wp2_with fail
            go_ret
            exact RetNestAt.mk' rfl (hnest.mono hlo (Nat.le_refl _)) (by (repeat (first | (with_reducible exact Below.refl _ _) | (with_reducible assumption) | (with_reducible refine Later.out _ ?_) | (with_reducible refine bel_alloc ?_ _) | (with_reducible refine bel_drew ?_) | (with_reducible refine bel_drewN ?_ _) | (with_reducible refine bel_set ?_ ?_ _) | (with_reducible refine After.out _ ?_ ?_) | (dsimp only; omega) | omega | (simp only [World.size_alloc, World.size_setCell, World.size_drew]; omega))))
    · have CA := Lib.hid (fun w hr hr' => sRepair_b L S a a' n c n' c' w hn hn' (by omega) (by omega) hr hr' hv hg)
      cases hmb : minB (repG L) S
      · have X := Lib.hid (show minZ (repG L) n S = [] by rw [minZ_good hg, hmb]; rfl)
        rw [hmb] at CR
        clear ho hin hg hmb ih
        rw [X.out]
        go_enter Tryz.func106, Tryz.ntmps106
        go_wp2_with fail
        with_reducible refine (CA.out _ (hr.out.bel (by (repeat (first | (with_reducible exact Below.refl _ _) | (with_reducible assumption) | (with_reducible refine Later.out _ ?_) | (with_reducible refine bel_alloc ?_ _) | (with_reducible refine bel_drew ?_) | (with_reducible refine bel_drewN ?_ _) | (with_reducible refine bel_set ?_ ?_ _) | (with_reducible refine After.out _ ?_ ?_) | (dsimp only; omega) | omega | (simp only [World.size_alloc, World.size_setCell, World.size_drew]; omega))))) (HO.out.row.bel (by (repeat (first | (with_reducible exact Below.refl _ _) | (with_reducible assumption) | (with_reducible refine Later.out _ ?_) | (with_reducible refine bel_alloc ?_ _) | (with_reducible refine bel_drew ?_) | (with_reducible refine bel_drewN ?_ _) | (with_reducible refine bel_set ?_ ?_ _) | (with_reducible refine After.out _ ?_ ?_) | (dsimp only; omega) | omega | (simp only [World.size_alloc, World.size_setCell, World.size_drew]; omega)))))).mono ?_
        rintro e w' ⟨rfl, y3, rfl⟩
        have hsy3 := y3.bel.size
        (try simp only [World.size_alloc, World.size_setCell, World.size_drew] at hsy3)
        go_wp2_with fail
        with_reducible refine (CR.out _ (hr.out.bel (by (repeat (first | (with_reducible exact Below.refl _ _) | (with_reducible assumption) | (with_reducible refine Later.out _ ?_) | (with_reducible refine bel_alloc ?_ _) | (with_reducible refine bel_drew ?_) | (with_reducible refine bel_drewN ?_ _) | (with_reducible refine bel_set ?_ ?_ _) | (with_reducible refine After.out _ ?_ ?_) | (dsimp only; omega) | omega | (simp only [World.size_alloc, World.size_setCell, World.size_drew]; omega))))) (HO.out.row.bel (by (repeat (first | (with_reducible exact Below.refl _ _) | (with_reducible assumption) | (with_reducible refine Later.out _ ?_) | (with_reducible refine bel_alloc ?_ _) | (with_reducible refine bel_drew ?_) | (with_reducible refine bel_drewN ?_ _) | (with_reducible refine bel_set ?_ ?_ _) | (with_reducible refine After.out _ ?_ ?_) | (dsimp only; omega) | omega | (simp only [World.size_alloc, World.size_setCell, World.size_drew]; omega)))))).mono ?_
        rintro e w' ⟨rfl, y4, rfl⟩
        have hsy4 := y4.bel.size
        (try simp only [World.size_alloc, World.size_setCell, World.size_drew] at hsy4)
        go_wp2_with fail
        go_ret
        exact RetNestAt.mk' rfl ((Nest.made0 y4.w lo (by omega)).bel (B := (y4.w.alloc (.cells #[] 35)).heap.size) (by (repeat (first | (with_reducible exact Below.refl _ _) | (with_reducible assumption) | (with_reducible refine Later.out _ ?_) | (with_reducible refine bel_alloc ?_ _) | (with_reducible refine bel_drew ?_) | (with_reducible refine bel_drewN ?_ _) | (with_reducible refine bel_set ?_ ?_ _) | (with_reducible refine After.out _ ?_ ?_) | (dsimp only; omega) | omega | (simp only [World.size_alloc, World.size_setCell, World.size_drew]; omega)))) (Nat.le_refl _)) (by (repeat (first | (with_reducible exact Below.refl _ _) | (with_reducible assumption) | (with_reducible refine Later.out _ ?_) | (with_reducible refine bel_alloc ?_ _) | (with_reducible refine bel_drew ?_) | (with_reducible refine bel_drewN ?_ _) | (with_reducible refine bel_set ?_ ?_ _) | (with_reducible refine After.out _ ?_ ?_) | (dsimp only; omega) | omega | (simp only [World.size_alloc, World.size_setCell, World.size_drew]; omega))))
      · have X := Lib.hid (show minZ (repG L) n S = [S] by rw [minZ_good hg, hmb]; rfl)
        rw [hmb] at CR
        clear ho hin hg hmb ih
        rw [X.out]
        go_enter Tryz.func106, Tryz.ntmps106
        go_wp2_with fail
        with_reducible refine (CA.out _ (hr.out.bel (by (repeat (first | (with_reducible exact Below.refl _ _) | (with_reducible assumption) | (with_reducible refine Later.out _ ?_) | (with_reducible refine bel_alloc ?_ _) | (with_reducible refine bel_drew ?_) | (with_reducible refine bel_drewN ?_ _) | (with_reducible refine bel_set ?_ ?_ _) | (with_reducible refine After.out _ ?_ ?_) | (dsimp only; omega) | omega | (simp only [World.size_alloc, World.size_setCell, World.size_drew]; omega))))) (HO.out.row.bel (by (repeat (first | (with_reducible exact Below.refl _ _) | (with_reducible assumption) | (with_reducible refine Later.out _ ?_) | (with_reducible refine bel_alloc ?_ _) | (with_reducible refine bel_drew ?_) | (with_reducible refine bel_drewN ?_ _) | (with_reducible refine bel_set ?_ ?_ _) | (with_reducible refine After.out _ ?_ ?_) | (dsimp only; omega) | omega | (simp only [World.size_alloc, World.size_setCell, World.size_drew]; omega)))))).mono ?_
        rintro e w' ⟨rfl, y3, rfl⟩
        have hsy3 := y3.bel.size
        (try simp only [World.size_alloc, World.size_setCell, World.size_drew] at hsy3)
        go_wp2_with fail
        with_reducible refine (CR.out _ (hr.out.bel (by (repeat (first | (with_reducible exact Below.refl _ _) | (with_reducible assumption) | (with_reducible refine Later.out _ ?_) | (with_reducible refine bel_alloc ?_ _) | (with_reducible refine bel_drew ?_) | (with_reducible refine bel_drewN ?_ _) | (with_reducible refine bel_set ?_ ?_ _) | (with_reducible refine After.out _ ?_ ?_) | (dsimp only; omega) | omega | (simp only [World.size_alloc, World.size_setCell, World.size_drew]; omega))))) (HO.out.row.bel (by (repeat (first | (with_reducible exact Below.refl _ _) | (with_reducible assumption) | (with_reducible refine Later.out _ ?_) | (with_reducible refine bel_alloc ?_ _) | (with_reducible refine bel_drew ?_) | (with_reducible refine bel_drewN ?_ _) | (with_reducible refine bel_set ?_ ?_ _) | (with_reducible refine After.out _ ?_ ?_) | (dsimp only; omega) | omega | (simp only [World.size_alloc, World.size_setCell, World.size_drew]; omega)))))).mono ?_
        rintro e w' ⟨rfl, y4, rfl⟩
        have hsy4 := y4.bel.size
        (try simp only [World.size_alloc, World.size_setCell, World.size_drew] at hsy4)
        go_wp2_with fail
        have N := Lib.hid (Nest.wrap y4.w lo (by omega) hn' ((HO.out.bel (B := w.heap.size) (by (repeat (first | (with_reducible exact Below.refl _ _) | (with_reducible assumption) | (with_reducible refine Later.out _ ?_) | (with_reducible refine bel_alloc ?_ _) | (with_reducible refine bel_drew ?_) | (with_reducible refine bel_drewN ?_ _) | (with_reducible refine bel_set ?_ ?_ _) | (with_reducible refine After.out _ ?_ ?_) | (dsimp only; omega) | omega | (simp only [World.size_alloc, World.size_setCell, World.size_drew]; omega)))) (Nat.le_refl _)).wide (by omega)))
        go_ret
        exact RetNestAt.mk' rfl (N.out.bel (B := (y4.w.alloc (.cells #[.slice a' n' c'] 35)).heap.size) (by (repeat (first | (with_reducible exact Below.refl _ _) | (with_reducible assumption) | (with_reducible refine Later.out _ ?_) | (with_reducible refine bel_alloc ?_ _) | (with_reducible refine bel_drew ?_) | (with_reducible refine bel_drewN ?_ _) | (with_reducible refine bel_set ?_ ?_ _) | (with_reducible refine After.out _ ?_ ?_) | (dsimp only; omega) | omega | (simp only [World.size_alloc, World.size_setCell, World.size_drew]; omega)))) (Nat.le_refl _)) (by (repeat (first | (with_reducible exact Below.refl _ _) | (with_reducible assumption) | (with_reducible refine Later.out _ ?_) | (with_reducible refine bel_alloc ?_ _) | (with_reducible refine bel_drew ?_) | (with_reducible refine bel_drewN ?_ _) | (with_reducible refine bel_set ?_ ?_ _) | (with_reducible refine After.out _ ?_ ?_) | (dsimp only; omega) | omega | (simp only [World.size_alloc, World.size_setCell, World.size_drew]; omega))))
end Go.Proofs.YtflcfdiochohgaaGreatDoor
