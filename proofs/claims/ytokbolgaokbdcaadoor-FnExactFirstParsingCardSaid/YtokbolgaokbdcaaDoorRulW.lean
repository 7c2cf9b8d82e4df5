import Derived.Test.YtokbolgaokbdcaaDoorRul
import Derived.Test.YtokbolgaokbdcaaDoorIntK
/- Tables: sizes, copies and comparison for the laws. -/
set_option linter.unusedSimpArgs false
set_option linter.unusedVariables false
namespace Go.Proofs.YtokbolgaokbdcaaDoor
open Go.RowKit
def rulSz (r : Rul) : Int := (r.sg.length : Int) + r.rom.size
def rulsSz (T : List Rul) : Int := (T.map rulSz).sum
theorem rulSz_nonneg (r : Rul) : 0 ≤ rulSz r := by unfold rulSz; omega
theorem rulsSz_succ {L : List Rul} {k : Nat} (h : k < L.length) : rulsSz (L.take (k + 1)) = rulsSz (L.take k) + rulSz L[k] := by
  unfold rulsSz
  rw [List.take_succ_eq_append_getElem h, List.map_append, List.sum_append]
  simp
theorem rulsSz_nonneg : ∀ L : List Rul, 0 ≤ rulsSz L
  | [] => by simp [rulsSz]
  | c :: L => by
    have h1 := rulsSz_nonneg L
    have h2 := rulSz_nonneg c
    unfold rulsSz at h1 ⊢
    simp only [List.map_cons, List.sum_cons]
    omega
theorem rulsSz_take (L : List Rul) (k : Nat) : rulsSz (L.take k) ≤ rulsSz L := by
  have h : rulsSz L = rulsSz (L.take k) + rulsSz (L.drop k) := by
    unfold rulsSz
    rw [← List.sum_append, ← List.map_append, List.take_append_drop]
  have := rulsSz_nonneg (L.drop k)
  omega
theorem rulSz_mem : ∀ {L : List Rul} {c : Rul}, c ∈ L → rulSz c ≤ rulsSz L
  | d :: L, c, h => by
    have h1 := rulsSz_nonneg L
    have h2 := rulSz_nonneg d
    have e : rulsSz (d :: L) = rulSz d + rulsSz L := by simp [rulsSz]
    rcases List.mem_cons.1 h with rfl | h
    · omega
    · have := rulSz_mem h
      omega
/-- What a table weighs for the laws. -/
def tabSz (L : List Rul) : Int := L.length + rulsSz L
/-- Rules whose sizes fit the laws. -/
structure RulOk (r : Rul) : Prop where
  s : r.sg.length ≤ 1048576
  t : r.rom.size ≤ 1048576
theorem tabSz_ok {L : List Rul} {k : Int} (h : ¬ (k - tabSz L < 0)) (hk : k ≤ 1048576) : ∀ c ∈ L, RulOk c := fun c hc => by
  have h1 := rulSz_mem hc
  unfold tabSz at h
  unfold rulSz at h1
  exact ⟨by omega, by omega⟩
theorem tabSz_len {L : List Rul} {k : Int} (h : ¬ (k - tabSz L < 0)) (hk : k ≤ 1048576) : L.length ≤ 1048576 := by
  have := rulsSz_nonneg L
  unfold tabSz at h
  omega
theorem tabSz_nonneg (L : List Rul) : 0 ≤ tabSz L := by have := rulsSz_nonneg L; unfold tabSz; omega
/-- A rule that came in. -/
structure RulIn (r : Rul) : Prop where
  s : r.sg.length ≤ maxLen
  t : r.rom.size ≤ maxLen
  i : ∀ x ∈ r.sg, (Lit.int .i64 x).wf = true
set_option maxHeartbeats 1000000 in
theorem szRule_any (r : Rul) (a : Option Addr) (c : Nat) (left : Int) (w : World) (hi : RulIn r) (h3 : 0 ≤ left) (h4 : left ≤ 1048576) :
    Calls Tryd.prog 32 #[.agg #[.slice a r.sg.length c, .string r.rom], .int .i64 left] w (Ret w (.int .i64 (szR (rulSz r) left))) := by
  obtain ⟨m1, m2, -⟩ := hi
  have C := fun w => szInt64S_any a r.sg.length c left w m1 h3 h4
  unfold maxLen at m2
  by_cases c1 : left - r.sg.length < 0
  · rw [szR_no c1] at C
    have X := Lib.hid (szR_no (S := rulSz r) (left := left) (by unfold rulSz; omega))
    replace C := Lib.hid C
    go_enter Tryd.func32, Tryd.ntmps32
    go_wp2_with fail
    with_reducible refine (C.out _).mono ?_
    rintro e w' ⟨rfl, y1, rfl⟩
    have hsy1 := y1.bel.size
    (try simp only [World.size_alloc, World.size_setCell, World.size_drew] at hsy1)
    go_wp2_with fail
    go_ret
    exact .mk (by rw [X.out]; rfl) (by (repeat (first | (with_reducible exact Below.refl _ _) | (with_reducible assumption) | (with_reducible refine Later.out _ ?_) | (with_reducible refine bel_alloc ?_ _) | (with_reducible refine bel_drew ?_) | (with_reducible refine bel_drewN ?_ _) | (with_reducible refine bel_set ?_ ?_ _) | (with_reducible refine After.out _ ?_ ?_) | (dsimp only; omega) | omega | (simp only [World.size_alloc, World.size_setCell, World.size_drew]; omega))))
  · rw [szR_yes c1] at C
    replace C := Lib.hid C
    by_cases c2 : left - r.sg.length - r.rom.size < 0
    · have X := Lib.hid (szR_no (S := rulSz r) (left := left) (by unfold rulSz; omega))
      go_enter Tryd.func32, Tryd.ntmps32
      go_wp2_with fail
      with_reducible refine (C.out _).mono ?_
      rintro e w' ⟨rfl, y1, rfl⟩
      have hsy1 := y1.bel.size
      (try simp only [World.size_alloc, World.size_setCell, World.size_drew] at hsy1)
      go_wp2_with fail
      go_ret
      exact .mk (by rw [X.out]; rfl) (by (repeat (first | (with_reducible exact Below.refl _ _) | (with_reducible assumption) | (with_reducible refine Later.out _ ?_) | (with_reducible refine bel_alloc ?_ _) | (with_reducible refine bel_drew ?_) | (with_reducible refine bel_drewN ?_ _) | (with_reducible refine bel_set ?_ ?_ _) | (with_reducible refine After.out _ ?_ ?_) | (dsimp only; omega) | omega | (simp only [World.size_alloc, World.size_setCell, World.size_drew]; omega))))
    · have X := Lib.hid (show szR (rulSz r) left = left - r.sg.length - r.rom.size by rw [szR_yes (by unfold rulSz; omega)]; unfold rulSz; omega)
      go_enter Tryd.func32, Tryd.ntmps32
      go_wp2_with fail
      with_reducible refine (C.out _).mono ?_
      rintro e w' ⟨rfl, y1, rfl⟩
      have hsy1 := y1.bel.size
      (try simp only [World.size_alloc, World.size_setCell, World.size_drew] at hsy1)
      go_wp2_with fail
      go_ret
      exact .mk (by rw [X.out]; rfl) (by (repeat (first | (with_reducible exact Below.refl _ _) | (with_reducible assumption) | (with_reducible refine Later.out _ ?_) | (with_reducible refine bel_alloc ?_ _) | (with_reducible refine bel_drew ?_) | (with_reducible refine bel_drewN ?_ _) | (with_reducible refine bel_set ?_ ?_ _) | (with_reducible refine After.out _ ?_ ?_) | (dsimp only; omega) | omega | (simp only [World.size_alloc, World.size_setCell, World.size_drew]; omega))))
set_option maxHeartbeats 1000000 in
theorem szRuleS_any (L : List Rul) (a : Option Addr) (n c : Nat) (left : Int) (w : World) (hn : L.length = n) (hm : n ≤ maxLen) (hr : RulesR w a L) (hmx : ∀ c ∈ L, RulIn c) (h3 : 0 ≤ left) (h4 : left ≤ 1048576) :
    Calls Tryd.prog 8 #[.slice a n c, .int .i64 left] w (Ret w (.int .i64 (szR (tabSz L) left))) := by
  subst hn
  unfold maxLen at hm
  have hnn := rulsSz_nonneg L
  by_cases c1 : left - L.length < 0
  · have X := Lib.hid (szR_no (S := tabSz L) (left := left) (by unfold tabSz; omega))
    clear hr hmx
    go_enter Tryd.func8, Tryd.ntmps8
    go_wp2_with fail
    go_ret
    exact .mk (by rw [X.out]; rfl) (by (repeat (first | (with_reducible exact Below.refl _ _) | (with_reducible assumption) | (with_reducible refine Later.out _ ?_) | (with_reducible refine bel_alloc ?_ _) | (with_reducible refine bel_drew ?_) | (with_reducible refine bel_drewN ?_ _) | (with_reducible refine bel_set ?_ ?_ _) | (with_reducible refine After.out _ ?_ ?_) | (dsimp only; omega) | omega | (simp only [World.size_alloc, World.size_setCell, World.size_drew]; omega))))
  replace hr := Lib.hid hr
  replace hmx := Lib.hid hmx
  go_enter Tryd.func8, Tryd.ntmps8
  go_wp2_with fail
  go_loopw [1, 5] (fun t1 t5 wr => ∃ k : Nat, k ≤ L.length ∧ t5 = .int .i64 k ∧ t1 = .int .i64 (left - L.length - rulsSz (L.take k)) ∧ 0 ≤ left - L.length - rulsSz (L.take k) ∧ ∃ z : Later w, wr = z.w) (fun _ t5 _ => L.length - (intOf t5).toNat)
  case atStart => exact ⟨0, Nat.zero_le _, rfl, by simp [rulsSz], by simp [rulsSz]; omega, ⟨_, Below.refl _ _⟩, rfl⟩
  case round =>
    obtain ⟨k, hk, rfl, rfl, hp, z, rfl⟩ := hrel
    have hk0 := rulsSz_nonneg (L.take k)
    by_cases hlt : k < L.length
    · obtain ⟨b, o, ai, ci, rfl, hb, q0, q1, q2⟩ := hr.out.at_ hlt
      have hC := fun w => szRule_any L[k] ai ci (left - L.length - rulsSz (L.take k)) w (hmx.out _ (List.getElem_mem hlt)) hp (by omega)
      have hsucc := rulsSz_succ hlt
      have hle := rulsSz_take L (k + 1)
      have hnk := rulSz_nonneg L[k]
      replace q2 := Lib.hid q2
      obtain ⟨p, hpe⟩ : ∃ p, left - L.length - rulsSz (L.take k) = p := ⟨_, rfl⟩
      rw [hpe] at hp
      simp only [hpe] at hC ⊢
      by_cases hs : p - rulSz L[k] < 0
      · rw [szR_no hs] at hC
        replace hC := Lib.hid hC
        have X := Lib.hid (szR_no (S := tabSz L) (left := left) (by unfold tabSz; omega))
        clear hpe hsucc
        go_wp2_with fail
        with_reducible refine (hC.out _).mono ?_
        rintro e w' ⟨rfl, y1, rfl⟩
        have hsy1 := y1.bel.size
        (try simp only [World.size_alloc, World.size_setCell, World.size_drew] at hsy1)
        go_wp2_with fail
        go_ret
        exact .mk (by rw [X.out]; rfl) (by (repeat (first | (with_reducible exact Below.refl _ _) | (with_reducible assumption) | (with_reducible refine Later.out _ ?_) | (with_reducible refine bel_alloc ?_ _) | (with_reducible refine bel_drew ?_) | (with_reducible refine bel_drewN ?_ _) | (with_reducible refine bel_set ?_ ?_ _) | (with_reducible refine After.out _ ?_ ?_) | (dsimp only; omega) | omega | (simp only [World.size_alloc, World.size_setCell, World.size_drew]; omega))))
      · rw [szR_yes hs] at hC
        replace hC := Lib.hid hC
        have X := Lib.hid (show left - L.length - rulsSz (L.take (k + 1)) = p - rulSz L[k] by omega)
        have hp2 : 0 ≤ p - rulSz L[k] := by omega
        have hp3 : p - rulSz L[k] ≤ 1048576 := by omega
        clear hpe hsucc
        go_wp2_with fail
        with_reducible refine (hC.out _).mono ?_
        rintro e w' ⟨rfl, y1, rfl⟩
        have hsy1 := y1.bel.size
        (try simp only [World.size_alloc, World.size_setCell, World.size_drew] at hsy1)
        go_wp2_with fail
        go_roundw
        case rel => exact ⟨k + 1, by omega, by go_num, by rw [X.out], by rw [X.out]; exact hp2, ⟨_, by (repeat (first | (with_reducible exact Below.refl _ _) | (with_reducible assumption) | (with_reducible refine Later.out _ ?_) | (with_reducible refine bel_alloc ?_ _) | (with_reducible refine bel_drew ?_) | (with_reducible refine bel_drewN ?_ _) | (with_reducible refine bel_set ?_ ?_ _) | (with_reducible refine After.out _ ?_ ?_) | (dsimp only; omega) | omega | (simp only [World.size_alloc, World.size_setCell, World.size_drew]; omega)))⟩, rfl⟩
        case measure => first | (simp [intOf]; done) | (simp [intOf]; omega) | omega
    · obtain rfl : k = L.length := by omega
      rw [List.take_length] at hp ⊢
      have X := Lib.hid (show szR (tabSz L) left = left - L.length - rulsSz L by rw [szR_yes (by unfold tabSz; omega)]; unfold tabSz; omega)
      go_wp2_with fail
      go_ret
      exact .mk (by rw [X.out]; rfl) (by (repeat (first | (with_reducible exact Below.refl _ _) | (with_reducible assumption) | (with_reducible refine Later.out _ ?_) | (with_reducible refine bel_alloc ?_ _) | (with_reducible refine bel_drew ?_) | (with_reducible refine bel_drewN ?_ _) | (with_reducible refine bel_set ?_ ?_ _) | (with_reducible refine After.out _ ?_ ?_) | (dsimp only; omega) | omega | (simp only [World.size_alloc, World.size_setCell, World.size_drew]; omega))))
theorem info_rule : (Tryd.prog.info? 49).map (fun i => (i.zero, i.size, i.bytes)) = some (some (.agg #[.slice none 0 0, .string ByteArray.empty]), 2, 40) := by kernel_rfl
theorem run_make_k {P : Program} (t e : TypeId) (z : Value) (size bytes : Nat) (ht : P.underlying t = some (.slice e)) (hinfo : (P.info? e).map (fun i => (i.zero, i.size, i.bytes)) = some (some z, size, bytes))
    (kl kc : IntKind) (n : Nat) (hbytes : bytes * n ≤ 281474976710656) (h63 : n ≤ 9223372036854775807) (w : World) :
    (Instr.makeSlice t (.int kl (n : Int)) (.int kc (n : Int))).run P w = .ok (.slice (some ⟨w.heap.size, 0, none⟩) n n) (w.alloc (.cells (madeCells z.cells (n * size)) e)) := by
  obtain ⟨i, hi, hzz⟩ := Option.map_eq_some_iff.1 hinfo
  simp only [Prod.mk.injEq] at hzz
  obtain ⟨hz, hs, hb⟩ := hzz
  have hb' : (i.bytes : Int) * (n : Int) ≤ 281474976710656 := by
    have h : ((i.bytes * n : Nat) : Int) ≤ 281474976710656 := by rw [hb]; omega
    rwa [Int.natCast_mul] at h
  have hr := run_make (P := P) w t e i z ht hi hz kl kc n n (by omega) (Int.le_refl _) hb' (by omega)
  simp only [Int.toNat_natCast, hs] at hr
  exact hr
/-- A rule with signs of its own. -/
def RetRule (w : World) (r : Rul) (e : Ending) (w' : World) : Prop :=
  ∃ (a : Option Addr) (c : Nat), e = .returned (.agg #[.slice a r.sg.length c, .string r.rom]) ∧ w'.ownsRow w.heap.size 2 1 (.slice a r.sg.length c) r.sg.length (intCells r.sg) ∧ ∃ y : Later w, w' = y.w
/-- A table of one's own. -/
def RetTab (w : World) (T : List Rul) (e : Ending) (w' : World) : Prop :=
  ∃ (g c : Nat) (vs : List Value), e = .returned (.slice (some ⟨g, 0, none⟩) T.length c) ∧ w.heap.size ≤ g ∧ OTab w' g w'.heap.size T.length c T vs ∧ ∃ y : Later w, w' = y.w
theorem ownsRow_cap {w : World} {base e s n c : Nat} {a : Option Addr} {xs : List Value} (h : w.ownsRow base e s (.slice a n c) n xs) : n ≤ c ∧ c ≤ maxLen := by
  rcases h.2 with ⟨h1, h2⟩ | ⟨g, cap, cur, hv, _, _, h1, h2, _⟩
  · injection h1 with _ _ h3
    subst h3
    exact ⟨by omega, by unfold maxLen; omega⟩
  · injection hv with _ _ h3
    subst h3
    exact ⟨h1, h2⟩
theorem OTab.zero (w : World) (g n c : Nat) (T : List Rul) (vs : List Value) (h : Owns w g (g + 1) 49 2 n (some ⟨g, 0, none⟩) c vs) (hg : g < w.heap.size) (hn : T.length = n) : OTab w g w.heap.size n c (T.take 0) vs :=
  ⟨h, by simp only [List.take_zero, List.length_nil]; omega, hg, fun i hi => absurd hi (by simp), fun i j gi gj ni nj ci cj _ hj => absurd hj (by simp)⟩
theorem OTab.step {w y : World} {g n c k : Nat} {T : List Rul} {vs : List Value} (h : OTab w g w.heap.size n c (T.take k) vs) (hk : k < T.length) (hkn : k < n) (hb : Below w.heap.size w y) {ai : Option Addr} {ci : Nat}
    (ho : y.ownsRow w.heap.size 2 1 (.slice ai T[k].sg.length ci) T[k].sg.length (intCells T[k].sg)) :
    OTab ((y.setCell ⟨g, k * 2, none⟩ (.slice ai T[k].sg.length ci)).setCell ⟨g, k * 2 + 1, none⟩ (.string T[k].rom)) g y.heap.size n c (T.take (k + 1)) ((vs.set (k * 2) (.slice ai T[k].sg.length ci)).set (k * 2 + 1) (.string T[k].rom)) := by
  have hv := h.own.own.1
  have hg := h.lt
  have hs := hb.size
  have htk : (T.take k).length = k := by rw [List.length_take]; omega
  have htk1 : (T.take (k + 1)).length = k + 1 := by rw [List.length_take]; omega
  have hcap := ownsRow_cap ho
  have hO := Owns.of ho
  have hset : ∀ {lo hi n c : Nat} {a : Option Addr} {xs : List Value}, Owns y lo hi 2 1 n a c xs → g < lo → Owns ((y.setCell ⟨g, k * 2, none⟩ (.slice ai T[k].sg.length ci)).setCell ⟨g, k * 2 + 1, none⟩ (.string T[k].rom)) lo hi 2 1 n a c xs := fun h1 h2 =>
    ⟨own_set (own_set h1.own (p := ⟨g, k * 2, none⟩) h2 _) (p := ⟨g, k * 2 + 1, none⟩) h2 _, h1.lt⟩
  refine ⟨((h.own.bel hb hg).set _).set _, by omega, by simp only [World.size_setCell]; omega, fun i hi => ?_, fun i j gi gj ni nj ci' cj hij hj h1 h2 => ?_⟩
  · rw [htk1] at hi
    by_cases hik : i = k
    · subst hik
      refine ⟨ai, ci, ?_, ?_, ?_, ?_⟩
      · rw [List.getElem?_set_ne (by omega), List.getElem?_set_self (by omega)]
        simp
      · rw [List.getElem?_set_self (by simp; omega)]
        simp
      · simp only [List.getElem_take]
        exact ⟨own_mono (hset hO (by omega)).own (by omega), fun p hp => hO.lt p hp⟩
      · simpa using hcap
    · obtain ⟨aj, cj, e1, e2, e3, e4⟩ := h.at_ i (by omega)
      simp only [List.getElem_take] at e1 e2 e3 e4 ⊢
      refine ⟨aj, cj, ?_, ?_, ?_, e4⟩
      · rw [List.getElem?_set_ne (by omega), List.getElem?_set_ne (by omega)]
        exact e1
      · rw [List.getElem?_set_ne (by omega), List.getElem?_set_ne (by omega)]
        exact e2
      · have := hset (e3.bel hb (Nat.le_refl _)) (by omega)
        exact ⟨this.own, fun p hp => Nat.lt_of_lt_of_le (this.lt p hp) hs⟩
  · rw [htk1] at hj
    rw [List.getElem?_set_ne (by omega), List.getElem?_set_ne (by omega)] at h1
    obtain ⟨a1, c1, e1, _, e3, _⟩ := h.at_ i (by omega)
    have hgi : gi < w.heap.size := by
      rw [e1] at h1
      injection h1 with h1
      injection h1 with h1
      exact e3.lt _ h1
    by_cases hjk : j = k
    · subst hjk
      rw [List.getElem?_set_ne (by omega), List.getElem?_set_self (by omega)] at h2
      injection h2 with h2
      injection h2 with h2
      have := hO.ge _ h2
      simp only at this
      omega
    · rw [List.getElem?_set_ne (by omega), List.getElem?_set_ne (by omega)] at h2
      exact h.sep i j gi gj ni nj ci' cj hij (by omega) h1 h2
set_option maxHeartbeats 1000000 in
theorem toRule_any (r : Rul) (a : Option Addr) (c : Nat) (w : World) (hm : r.sg.length ≤ 1048576) (hr : Row w a (intCells r.sg)) :
    Calls Tryd.prog 35 #[.agg #[.slice a r.sg.length c, .string r.rom]] w (RetRule w r) := by
  have C := Lib.hid (fun (w : World) (hr : Row w a (intCells r.sg)) => toInt64S_any r.sg a r.sg.length c w rfl hm hr)
  replace hr := Lib.hid hr
  go_enter Tryd.func35, Tryd.ntmps35
  go_wp2_with fail
  with_reducible refine (C.out _ (hr.out.bel (by (repeat (first | (with_reducible exact Below.refl _ _) | (with_reducible assumption) | (with_reducible refine Later.out _ ?_) | (with_reducible refine bel_alloc ?_ _) | (with_reducible refine bel_drew ?_) | (with_reducible refine bel_drewN ?_ _) | (with_reducible refine bel_set ?_ ?_ _) | (with_reducible refine After.out _ ?_ ?_) | (dsimp only; omega) | omega | (simp only [World.size_alloc, World.size_setCell, World.size_drew]; omega)))))).mono ?_
  rintro e w' ⟨a1, c1, rfl, hown, y1, rfl⟩
  have hsy1 := y1.bel.size
  (try simp only [World.size_alloc, World.size_setCell, World.size_drew] at hsy1)
  have O1 := Lib.hid (Owns.of hown)
  clear hown
  go_wp2_with fail
  refine bodyPost_ret (by simp [results, Tryd.results35, go_sem, ↓IntWalk.iteOmega, *]; try rfl) rfl ?_
  refine ⟨a1, c1, rfl, ?_, LaterC.mk (by (repeat (first | (with_reducible exact Below.refl _ _) | (with_reducible assumption) | (with_reducible refine Later.out _ ?_) | (with_reducible refine bel_alloc ?_ _) | (with_reducible refine bel_drew ?_) | (with_reducible refine bel_drewN ?_ _) | (with_reducible refine bel_set ?_ ?_ _) | (with_reducible refine After.out _ ?_ ?_) | (dsimp only; omega) | omega | (simp only [World.size_alloc, World.size_setCell, World.size_drew]; omega))))⟩
  (refine own_mono (base := ?ob1) ?oh1 ?os1; (case oh1 => ((repeat (with_reducible refine own_set ?_ ?_ _)); (with_reducible exact O1.out.own); all_goals (first | (dsimp only; omega) | omega | (simp only [World.size_alloc, World.size_setCell, World.size_drew]; omega)))); (case os1 => (first | (dsimp only; omega) | omega | (simp only [World.size_alloc, World.size_setCell, World.size_drew]; omega))))
set_option maxRecDepth 4000 in
set_option maxHeartbeats 1000000 in
theorem toRuleS_any (L : List Rul) (a : Option Addr) (n c : Nat) (w : World) (hn : L.length = n) (hm : n ≤ 1048576) (hok : ∀ r ∈ L, RulOk r) (hr : RulesR w a L) :
    Calls Tryd.prog 10 #[.slice a n c] w (RetTab w L) := by
  subst hn
  have hmk := run_make_k (P := Tryd.prog) 26 49 (.agg #[.slice none 0 0, .string ByteArray.empty]) 2 40 Tryd.underlying26 info_rule .i64 .i64 L.length (by omega) (by omega)
  have hown0 := World.ownsRow_lit (base := w.heap.size) (e := 49) (size := 2) w (madeCells #[.slice none 0 0, .string ByteArray.empty] (L.length * 2)) L.length (Nat.le_refl _) (by unfold maxLen; omega) (by simp [size_madeCells])
  replace hr := Lib.hid hr
  replace hok := Lib.hid hok
  have HO := Lib.hid (OTab.zero _ w.heap.size L.length L.length L _ ⟨hown0, fun p hp => by cases hp; exact Nat.lt_succ_self _⟩ (by simp only [World.size_alloc]; omega) rfl)
  clear hown0
  go_enter Tryd.func10, Tryd.ntmps10
  go_wp2_with fail
  clear hmk
  go_loopw [4] (fun i wr => ∃ k : Nat, k ≤ L.length ∧ i = .int .i64 k ∧ (∃ vs, OTab wr w.heap.size wr.heap.size L.length L.length (L.take k) vs) ∧ ∃ z : Later w, wr = z.w) (fun i _ => L.length - (intOf i).toNat)
  case atStart => exact ⟨0, Nat.zero_le _, rfl, ⟨_, HO.out⟩, ⟨_, bel_alloc (Below.refl _ _) _⟩, rfl⟩
  case round =>
    obtain ⟨k, hk, rfl, ⟨vs, hown⟩, z, rfl⟩ := hrel
    by_cases hlt : k < L.length
    · obtain ⟨b, o, ai, ci, rfl, hb, q0, q1, q2, q3, q4⟩ := hr.out.at_ hlt
      have hok1 := hok.out _ (List.getElem_mem hlt)
      have hzz := z.bel.size
      have hws : w.heap.size < z.w.heap.size := hown.lt
      have hvl := hown.own.own.1
      obtain ⟨u0, r0⟩ : ∃ u, z.w.cell? ⟨w.heap.size, k * 2, none⟩ = some u := ⟨_, (hown.own.own.cellAt (k * 2) (by omega)).trans (List.getElem?_eq_getElem (by omega))⟩
      obtain ⟨u1, r1⟩ : ∃ u, z.w.cell? ⟨w.heap.size, k * 2 + 1, none⟩ = some u := ⟨_, (hown.own.own.cellAt (k * 2 + 1) (by omega)).trans (List.getElem?_eq_getElem (by omega))⟩
      have f0 := hown.own.own.frozenAt (k * 2)
      have f1 := hown.own.own.frozenAt (k * 2 + 1)
      have HOW := Lib.hid hown
      have C := Lib.hid (fun (w : World) (hr : Row w ai (intCells L[k].sg)) => toRule_any L[k] ai ci w hok1.s hr)
      replace q2 := Lib.hid q2
      clear hown q3 q4
      go_wp2_with fail
      with_reducible refine (C.out _ (q2.out.bel (by (repeat (first | (with_reducible exact Below.refl _ _) | (with_reducible assumption) | (with_reducible refine Later.out _ ?_) | (with_reducible refine bel_alloc ?_ _) | (with_reducible refine bel_drew ?_) | (with_reducible refine bel_drewN ?_ _) | (with_reducible refine bel_set ?_ ?_ _) | (with_reducible refine After.out _ ?_ ?_) | (dsimp only; omega) | omega | (simp only [World.size_alloc, World.size_setCell, World.size_drew]; omega)))))).mono ?_
      rintro e w' ⟨a1, c1, rfl, hown, y1, rfl⟩
      have hsy1 := y1.bel.size
      have O1 := Lib.hid hown
      clear hown
      go_wp2_with fail
      have hst := Lib.hid (HOW.out.step hlt hlt y1.bel O1.out)
      go_roundw
      case rel => exact ⟨k + 1, by omega, by go_num, ⟨_, by simp only [World.size_setCell]; exact hst.out⟩, LaterC.mk (by (repeat (first | (with_reducible exact Below.refl _ _) | (with_reducible assumption) | (with_reducible refine Later.out _ ?_) | (with_reducible refine bel_alloc ?_ _) | (with_reducible refine bel_drew ?_) | (with_reducible refine bel_drewN ?_ _) | (with_reducible refine bel_set ?_ ?_ _) | (with_reducible refine After.out _ ?_ ?_) | (dsimp only; omega) | omega | (simp only [World.size_alloc, World.size_setCell, World.size_drew]; omega))))⟩
      case measure => first | (simp [intOf]; done) | (simp [intOf]; omega) | omega
    · obtain rfl : k = L.length := by omega
      rw [List.take_length] at hown
      replace hown := Lib.hid hown
      go_wp2_with fail
      go_ret
      exact ⟨_, _, vs, rfl, Nat.le_refl _, hown.out, z, rfl⟩
set_option maxHeartbeats 1000000 in
theorem eqRule_same (r : Rul) (a a' : Option Addr) (c c' : Nat) (w : World) (hm : r.sg.length ≤ 1048576) (hr : Row w a (intCells r.sg)) (hr' : Row w a' (intCells r.sg)) :
    Calls Tryd.prog 38 #[.agg #[.slice a r.sg.length c, .string r.rom], .agg #[.slice a' r.sg.length c', .string r.rom]] w (Ret w (.bool true)) := by
  have C := Lib.hid (fun (w : World) (hr : Row w a (intCells r.sg)) (hr' : Row w a' (intCells r.sg)) => eqInt64S_same (l := r.sg) (a := a) (c := c) (a' := a') (c' := c') (n := r.sg.length) (n' := r.sg.length) (w := w) rfl rfl hm hm hr hr')
  replace hr := Lib.hid hr
  replace hr' := Lib.hid hr'
  go_enter Tryd.func38, Tryd.ntmps38
  go_wp2_with fail
  with_reducible refine (C.out _ (hr.out.bel (by (repeat (first | (with_reducible exact Below.refl _ _) | (with_reducible assumption) | (with_reducible refine Later.out _ ?_) | (with_reducible refine bel_alloc ?_ _) | (with_reducible refine bel_drew ?_) | (with_reducible refine bel_drewN ?_ _) | (with_reducible refine bel_set ?_ ?_ _) | (with_reducible refine After.out _ ?_ ?_) | (dsimp only; omega) | omega | (simp only [World.size_alloc, World.size_setCell, World.size_drew]; omega))))) (hr'.out.bel (by (repeat (first | (with_reducible exact Below.refl _ _) | (with_reducible assumption) | (with_reducible refine Later.out _ ?_) | (with_reducible refine bel_alloc ?_ _) | (with_reducible refine bel_drew ?_) | (with_reducible refine bel_drewN ?_ _) | (with_reducible refine bel_set ?_ ?_ _) | (with_reducible refine After.out _ ?_ ?_) | (dsimp only; omega) | omega | (simp only [World.size_alloc, World.size_setCell, World.size_drew]; omega)))))).mono ?_
  rintro e w' ⟨rfl, y1, rfl⟩
  have hsy1 := y1.bel.size
  (try simp only [World.size_alloc, World.size_setCell, World.size_drew] at hsy1)
  go_wp2_with fail
  go_ret
  exact .mk rfl (by (repeat (first | (with_reducible exact Below.refl _ _) | (with_reducible assumption) | (with_reducible refine Later.out _ ?_) | (with_reducible refine bel_alloc ?_ _) | (with_reducible refine bel_drew ?_) | (with_reducible refine bel_drewN ?_ _) | (with_reducible refine bel_set ?_ ?_ _) | (with_reducible refine After.out _ ?_ ?_) | (dsimp only; omega) | omega | (simp only [World.size_alloc, World.size_setCell, World.size_drew]; omega))))
set_option maxHeartbeats 1000000 in
theorem eqRuleS_same (L : List Rul) (a a' : Option Addr) (n c n' c' : Nat) (w : World) (hn : L.length = n) (hn' : L.length = n') (hm : n ≤ 1048576) (hok : ∀ r ∈ L, RulOk r) (hr : RulesR w a L) (hr' : RulesR w a' L) :
    Calls Tryd.prog 12 #[.slice a n c, .slice a' n' c'] w (Ret w (.bool true)) := by
  subst hn
  subst hn'
  replace hr := Lib.hid hr
  replace hr' := Lib.hid hr'
  replace hok := Lib.hid hok
  go_enter Tryd.func12, Tryd.ntmps12
  go_wp2_with fail
  go_loopw [5] (fun i wr => ∃ k : Nat, k ≤ L.length ∧ i = .int .i64 k ∧ ∃ z : Later w, wr = z.w) (fun i _ => L.length - (intOf i).toNat)
  case atStart => exact ⟨0, Nat.zero_le _, rfl, ⟨_, Below.refl _ _⟩, rfl⟩
  case round =>
    obtain ⟨k, hk, rfl, z, rfl⟩ := hrel
    by_cases hlt : k < L.length
    · obtain ⟨b, o, ai, ci, rfl, hb, q0, q1, q2, q3, q4⟩ := hr.out.at_ hlt
      obtain ⟨b', o', ai', ci', rfl, hb', s0, s1, s2, s3, s4⟩ := hr'.out.at_ hlt
      have hi1 : (k : Int) < (L.length : Int) := by omega
      have hzz := z.bel.size
      have C := Lib.hid (fun (w : World) (hr : Row w ai (intCells L[k].sg)) (hr' : Row w ai' (intCells L[k].sg)) => eqRule_same L[k] ai ai' ci ci' w (hok.out _ (List.getElem_mem hlt)).s hr hr')
      replace q2 := Lib.hid q2
      replace s2 := Lib.hid s2
      clear q3 q4 s3 s4
      go_wp2_with fail
      refine wp_region_plan [(0, true), (1, true), (2, true), (3, true), (4, true), (5, true), (6, true), (7, true), (8, false), (9, true)] (C := LaterC _) (by kernel_rfl) (by kernel_rfl) (by kernel_rfl) rfl (fun _ _ d _ _ h => by cases d <;> exact h) (LaterC.mk ((Below.refl _ _).drew)) ?_
      first | (refine plan_quiet nth0 rfl ?_; intro KP hKP; go_big_quiet_op; go_big_quiet_on) | (refine plan_skip_q nth0 rfl rfl ?_; simp only [Act.put, List.setIfInBounds_toArray, List.set_cons_zero, List.set_cons_succ])
      first | (refine plan_quiet nth1 rfl ?_; intro KP hKP; go_big_quiet_op; go_big_quiet_on) | (refine plan_skip_q nth1 rfl rfl ?_; simp only [Act.put, List.setIfInBounds_toArray, List.set_cons_zero, List.set_cons_succ])
      first | (refine plan_quiet nth2 rfl ?_; intro KP hKP; go_big_quiet_op; go_big_quiet_on) | (refine plan_skip_q nth2 rfl rfl ?_; simp only [Act.put, List.setIfInBounds_toArray, List.set_cons_zero, List.set_cons_succ])
      first | (refine plan_quiet nth3 rfl ?_; intro KP hKP; go_big_quiet_op; go_big_quiet_on) | (refine plan_skip_q nth3 rfl rfl ?_; simp only [Act.put, List.setIfInBounds_toArray, List.set_cons_zero, List.set_cons_succ])
      first | (refine plan_quiet nth4 rfl ?_; intro KP hKP; go_big_quiet_op; go_big_quiet_on) | (refine plan_skip_q nth4 rfl rfl ?_; simp only [Act.put, List.setIfInBounds_toArray, List.set_cons_zero, List.set_cons_succ])
      first | (refine plan_quiet nth5 rfl ?_; intro KP hKP; go_big_quiet_op; go_big_quiet_on) | (refine plan_skip_q nth5 rfl rfl ?_; simp only [Act.put, List.setIfInBounds_toArray, List.set_cons_zero, List.set_cons_succ])
      first | (refine plan_quiet nth6 rfl ?_; intro KP hKP; go_big_quiet_op; go_big_quiet_on) | (refine plan_skip_q nth6 rfl rfl ?_; simp only [Act.put, List.setIfInBounds_toArray, List.set_cons_zero, List.set_cons_succ])
      first | (refine plan_quiet nth7 rfl ?_; intro KP hKP; go_big_quiet_op; go_big_quiet_on) | (refine plan_skip_q nth7 rfl rfl ?_; simp only [Act.put, List.setIfInBounds_toArray, List.set_cons_zero, List.set_cons_succ])
      first | (refine plan_loud nth8 rfl ?_; intro KP hKP; go_wp2_with (first | (go_at_call 38; first | ((with_reducible refine (Calls.later (C.out _ (q2.out.bel (by (repeat (first | (with_reducible exact Below.refl _ _) | (with_reducible assumption) | (with_reducible refine Later.out _ ?_) | (with_reducible refine bel_alloc ?_ _) | (with_reducible refine bel_drew ?_) | (with_reducible refine bel_drewN ?_ _) | (with_reducible refine bel_set ?_ ?_ _) | (with_reducible refine After.out _ ?_ ?_) | (dsimp only; omega) | omega | (simp only [World.size_alloc, World.size_setCell, World.size_drew]; omega))))) (s2.out.bel (by (repeat (first | (with_reducible exact Below.refl _ _) | (with_reducible assumption) | (with_reducible refine Later.out _ ?_) | (with_reducible refine bel_alloc ?_ _) | (with_reducible refine bel_drew ?_) | (with_reducible refine bel_drewN ?_ _) | (with_reducible refine bel_set ?_ ?_ _) | (with_reducible refine After.out _ ?_ ?_) | (dsimp only; omega) | omega | (simp only [World.size_alloc, World.size_setCell, World.size_drew]; omega))))))).mono ?_); rintro e w' ⟨rfl, xl, rfl⟩; have hsz := xl.bel.size; (try simp only [World.size_alloc, World.size_setCell, World.size_drew] at hsz); (try have hz0 : w.heap.size < xl.w.heap.size := (by omega)); (try have hz1 : w.heap.size + 1 < xl.w.heap.size := (by omega)); (try have hz2 : w.heap.size + 1 + 1 < xl.w.heap.size := (by omega))) | ((with_reducible refine (C.out _ (q2.out.bel (by (repeat (first | (with_reducible exact Below.refl _ _) | (with_reducible assumption) | (with_reducible refine Later.out _ ?_) | (with_reducible refine bel_alloc ?_ _) | (with_reducible refine bel_drew ?_) | (with_reducible refine bel_drewN ?_ _) | (with_reducible refine bel_set ?_ ?_ _) | (with_reducible refine After.out _ ?_ ?_) | (dsimp only; omega) | omega | (simp only [World.size_alloc, World.size_setCell, World.size_drew]; omega))))) (s2.out.bel (by (repeat (first | (with_reducible exact Below.refl _ _) | (with_reducible assumption) | (with_reducible refine Later.out _ ?_) | (with_reducible refine bel_alloc ?_ _) | (with_reducible refine bel_drew ?_) | (with_reducible refine bel_drewN ?_ _) | (with_reducible refine bel_set ?_ ?_ _) | (with_reducible refine After.out _ ?_ ?_) | (dsimp only; omega) | omega | (simp only [World.size_alloc, World.size_setCell, World.size_drew]; omega)))))).mono ?_); rintro e w' ⟨rfl, xl, rfl⟩; have hsz := xl.bel.size; (try simp only [World.size_alloc, World.size_setCell, World.size_drew] at hsz); (try have hz0 : w.heap.size < xl.w.heap.size := (by omega)); (try have hz1 : w.heap.size + 1 < xl.w.heap.size := (by omega)); (try have hz2 : w.heap.size + 1 + 1 < xl.w.heap.size := (by omega))))); refine hKP _ _ (LaterC.mk (by (repeat (first | (with_reducible exact Below.refl _ _) | (with_reducible assumption) | (with_reducible refine Later.out _ ?_) | (with_reducible refine bel_alloc ?_ _) | (with_reducible refine bel_drew ?_) | (with_reducible refine bel_drewN ?_ _) | (with_reducible refine bel_set ?_ ?_ _) | (with_reducible refine After.out _ ?_ ?_) | (dsimp only; omega) | omega | (simp only [World.size_alloc, World.size_setCell, World.size_drew]; omega))))) ?_; clear hKP KP) | (refine plan_skip nth8 rfl rfl (LaterC.mk (by (repeat (first | (with_reducible exact Below.refl _ _) | (with_reducible assumption) | (with_reducible refine Later.out _ ?_) | (with_reducible refine bel_alloc ?_ _) | (with_reducible refine bel_drew ?_) | (with_reducible refine bel_drewN ?_ _) | (with_reducible refine bel_set ?_ ?_ _) | (with_reducible refine After.out _ ?_ ?_) | (dsimp only; omega) | omega | (simp only [World.size_alloc, World.size_setCell, World.size_drew]; omega))))) ?_; simp only [Act.put, List.setIfInBounds_toArray, List.set_cons_zero, List.set_cons_succ])
      first | (refine plan_quiet nth9 rfl ?_; intro KP hKP; go_big_quiet_op; go_big_quiet_on) | (refine plan_skip_q nth9 rfl rfl ?_; simp only [Act.put, List.setIfInBounds_toArray, List.set_cons_zero, List.set_cons_succ])
      refine plan_nil ?_
      go_wp2_with fail
      go_roundw
      case rel => exact ⟨k + 1, by omega, by go_num, ⟨_, by (repeat (first | (with_reducible exact Below.refl _ _) | (with_reducible assumption) | (with_reducible refine Later.out _ ?_) | (with_reducible refine bel_alloc ?_ _) | (with_reducible refine bel_drew ?_) | (with_reducible refine bel_drewN ?_ _) | (with_reducible refine bel_set ?_ ?_ _) | (with_reducible refine After.out _ ?_ ?_) | (dsimp only; omega) | omega | (simp only [World.size_alloc, World.size_setCell, World.size_drew]; omega)))⟩, rfl⟩
      case measure => first | (simp [intOf]; done) | (simp [intOf]; omega) | omega
    · obtain rfl : k = L.length := by omega
      go_wp2_with fail
      go_ret
      exact .mk rfl (by (repeat (first | (with_reducible exact Below.refl _ _) | (with_reducible assumption) | (with_reducible refine Later.out _ ?_) | (with_reducible refine bel_alloc ?_ _) | (with_reducible refine bel_drew ?_) | (with_reducible refine bel_drewN ?_ _) | (with_reducible refine bel_set ?_ ?_ _) | (with_reducible refine After.out _ ?_ ?_) | (dsimp only; omega) | omega | (simp only [World.size_alloc, World.size_setCell, World.size_drew]; omega))))
end Go.Proofs.YtokbolgaokbdcaaDoor
