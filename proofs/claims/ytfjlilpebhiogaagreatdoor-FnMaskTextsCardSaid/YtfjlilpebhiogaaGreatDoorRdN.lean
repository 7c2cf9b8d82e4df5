import Derived.Test.YtfjlilpebhiogaaGreatDoorRdL
import Derived.Test.YtfjlilpebhiogaaGreatDoorShelfR
import Derived.Test.YtfjlilpebhiogaaGreatDoorPackA
import Derived.Lib.AtoiErrMem
/- Reading numbers: both sides. -/
set_option linter.unusedSimpArgs false
set_option linter.unusedVariables false
namespace Go.Proofs.YtfjlilpebhiogaaGreatDoor
open Go.RowKit
theorem var_bel {w w' : World} {n : String} {cs : Array Value} (h : w.var? Tryz.prog n = some cs) (hb : Below w.heap.size w w') : w'.var? Tryz.prog n = some cs := by
  unfold World.var? at *
  cases hg : Tryz.prog.globalNamed n with
  | none => rw [hg] at h; cases h
  | some g =>
    rw [hg] at h
    simp only [Option.bind_some] at h ⊢
    have hlt : g < w.heap.size := by
      rcases Nat.lt_or_ge g w.heap.size with h1 | h1
      · exact h1
      · rw [Array.getElem?_eq_none h1] at h; cases h
    rw [hb.block g hlt]
    exact h
/-- What reading a claim asks of the world: the library's variables. -/
structure Env (w : World) : Prop where
  mx : Max w
  tab : Tab w
  es : ∃ tp p, w.var? Tryz.prog "strconv.ErrSyntax" = some #[.iface tp p]
  er : ∃ tp p, w.var? Tryz.prog "strconv.ErrRange" = some #[.iface tp p]
theorem Env.bel {w w' : World} (h : Env w) (hb : Below w.heap.size w w') : Env w' :=
  ⟨h.mx.bel hb, h.tab.bel hb, let ⟨t, p, e⟩ := h.es; ⟨t, p, var_bel e hb⟩, let ⟨t, p, e⟩ := h.er; ⟨t, p, var_bel e hb⟩⟩
theorem parse_ok {s : ByteArray} {v : Int} (w : World) (hs : s.size ≤ 1048576) (h : Lib.parseIntB 64 s.data.toList = .ok v) :
    Calls Tryz.prog 69 #[.string s, .int .i64 10, .int .i64 64] w (Ret w (.tuple #[.int .i64 v, .nilIface])) :=
  Calls.mono (show Calls Tryz.prog 69 #[.string s, .int .i64 10, .int .i64 64] w _ from Any.strconv_ParseInt_10_at64_ok Tryz.lays174 s (by omega) v h w) fun e w' ⟨he, hw⟩ => .mk he (by
    rcases hw with rfl | ⟨t, rfl⟩
    · exact Below.refl _ _
    · exact Lib.bytesWorld_below _ _ _)
/-- A number and an error. -/
def RetErr (w : World) (v : Int) (e : Ending) (w' : World) : Prop := ∃ n, e = .returned (.tuple #[.int .i64 v, .iface 129 (.pointer (some ⟨n, 0, none⟩))]) ∧ ∃ y : Later w, w' = y.w
theorem parse_bad {s : ByteArray} (w : World) (hs : s.size ≤ 1048576) (hE : Env w) (h : ∀ v, Lib.parseIntB 64 s.data.toList ≠ .ok v) :
    Calls Tryz.prog 69 #[.string s, .int .i64 10, .int .i64 64] w (RetErr w (numV s)) := by
  have hT : Tryz.lays174_ren.t 168 = 129 := by kernel_rfl
  obtain ⟨t1, p1, e1⟩ := hE.es
  obtain ⟨t2, p2, e2⟩ := hE.er
  cases hp : Lib.parseIntB 64 s.data.toList with
  | ok v => exact absurd hp (h v)
  | «syntax» =>
    rw [show numV s = 0 by unfold numV; rw [hp]]
    exact Calls.mono (show Calls Tryz.prog 69 #[.string s, .int .i64 10, .int .i64 64] w _ from Any.strconv_ParseInt_10_at64_syntax_var Tryz.lays174 s (by omega) hp t1 p1 w e1) fun e w' ⟨n, he, _, _, hb⟩ => ⟨n, by rw [he, hT], ⟨w', hb⟩, rfl⟩
  | range =>
    rw [show numV s = Lib.intSat 64 s.data.toList by unfold numV; rw [hp]]
    exact Calls.mono (show Calls Tryz.prog 69 #[.string s, .int .i64 10, .int .i64 64] w _ from Any.strconv_ParseInt_10_at64_range_var Tryz.lays174 s (by omega) hp t2 p2 w e2) fun e w' ⟨n, he, _, _, hb⟩ => ⟨n, by rw [he, hT], ⟨w', hb⟩, rfl⟩
set_option maxHeartbeats 1000000 in
theorem readNumber_any (s : ByteArray) (w : World) (hs : s.size ≤ 1048576) (hE : Env w) : Calls Tryz.prog 30 #[.string s] w (Ret w (.tuple #[.int .i64 (numV s), .bool (numK s)])) := by
  cases hp : Lib.parseIntB 64 s.data.toList with
  | ok v =>
    rw [show numV s = v by unfold numV; rw [hp], show numK s = decide (decB v = s) by unfold numK; rw [hp]]
    have hv := Lib.parseIntB_bounds hp
    have C := Lib.hid (fun w => parse_ok w hs hp)
    have D := Lib.hid (fun w hT => decimal_any v w (by have := hv.1; simpa using this) (by have := hv.2; simp at this; omega) hT)
    replace hE := Lib.hid hE
    obtain ⟨T, hTe⟩ : ∃ T, decB v = T := ⟨_, rfl⟩
    rw [hTe] at D ⊢
    have ht := toList_eq T s
    clear hp hv hTe
    obtain ⟨b, hb⟩ : ∃ b, decide (T = s) = b := ⟨_, rfl⟩
    rw [hb] at ht ⊢
    clear hb
    go_enter Tryz.func30, Tryz.ntmps30
    go_wp2_with fail
    with_reducible refine (C.out _).mono ?_
    rintro e w' ⟨rfl, y1, rfl⟩
    have hsy1 := y1.bel.size
    (try simp only [World.size_alloc, World.size_setCell, World.size_drew] at hsy1)
    go_wp2_with fail
    with_reducible refine (D.out _ (hE.out.tab.bel (by (repeat (first | (with_reducible exact Below.refl _ _) | (with_reducible assumption) | (with_reducible refine Later.out _ ?_) | (with_reducible refine bel_alloc ?_ _) | (with_reducible refine bel_drew ?_) | (with_reducible refine bel_drewN ?_ _) | (with_reducible refine bel_set ?_ ?_ _) | (with_reducible refine After.out _ ?_ ?_) | (dsimp only; omega) | omega | (simp only [World.size_alloc, World.size_setCell, World.size_drew]; omega)))))).mono ?_
    rintro e w' ⟨rfl, y2, rfl⟩
    have hsy2 := y2.bel.size
    (try simp only [World.size_alloc, World.size_setCell, World.size_drew] at hsy2)
    go_wp2_with fail
    go_ret2
    exact .mk rfl (by (repeat (first | (with_reducible exact Below.refl _ _) | (with_reducible assumption) | (with_reducible refine Later.out _ ?_) | (with_reducible refine bel_alloc ?_ _) | (with_reducible refine bel_drew ?_) | (with_reducible refine bel_drewN ?_ _) | (with_reducible refine bel_set ?_ ?_ _) | (with_reducible refine After.out _ ?_ ?_) | (dsimp only; omega) | omega | (simp only [World.size_alloc, World.size_setCell, World.size_drew]; omega))))
  | _ =>
    rw [show numK s = false by unfold numK; rw [hp]]
    have C := Lib.hid (fun w hE => parse_bad (s := s) w hs hE (fun v hv => by rw [hp] at hv; cases hv))
    obtain ⟨v, hv⟩ : ∃ v, numV s = v := ⟨_, rfl⟩
    rw [hv] at C ⊢
    replace hE := Lib.hid hE
    clear hp hv
    go_enter Tryz.func30, Tryz.ntmps30
    go_wp2_with fail
    with_reducible refine (C.out _ (hE.out.bel (by (repeat (first | (with_reducible exact Below.refl _ _) | (with_reducible assumption) | (with_reducible refine Later.out _ ?_) | (with_reducible refine bel_alloc ?_ _) | (with_reducible refine bel_drew ?_) | (with_reducible refine bel_drewN ?_ _) | (with_reducible refine bel_set ?_ ?_ _) | (with_reducible refine After.out _ ?_ ?_) | (dsimp only; omega) | omega | (simp only [World.size_alloc, World.size_setCell, World.size_drew]; omega)))))).mono ?_
    rintro e w' ⟨n, rfl, y1, rfl⟩
    go_wp2_with fail
    go_ret2
    exact .mk rfl (by (repeat (first | (with_reducible exact Below.refl _ _) | (with_reducible assumption) | (with_reducible refine Later.out _ ?_) | (with_reducible refine bel_alloc ?_ _) | (with_reducible refine bel_drew ?_) | (with_reducible refine bel_drewN ?_ _) | (with_reducible refine bel_set ?_ ?_ _) | (with_reducible refine After.out _ ?_ ?_) | (dsimp only; omega) | omega | (simp only [World.size_alloc, World.size_setCell, World.size_drew]; omega))))
theorem valL_lt {l : List UInt8} (h : l.all digL = true) : valL 0 l < 10 ^ l.length := by
  have := Lib.decFrom_lt l 0 _ (decFrom_digs l 0 h)
  simpa using this
theorem allD_take_succ {p : UInt8 → Bool} {l : List UInt8} {i : Nat} (h : i < l.length) : (l.take (i + 1)).all p = ((l.take i).all p && p l[i]) := by
  rw [List.take_succ_eq_append_getElem h, List.all_append]
  simp
theorem valL_take_succ {l : List UInt8} {i : Nat} (h : i < l.length) : valL 0 (l.take (i + 1)) = 10 * valL 0 (l.take i) + (l[i].toNat - 48) := by
  rw [List.take_succ_eq_append_getElem h, valL_snoc]
theorem not_all {l : List UInt8} {i : Nat} (h : i < l.length) (hd : digL l[i] = false) : ¬ l.all digL = true := by
  intro ha
  have := List.all_eq_true.1 ha _ (List.getElem_mem h)
  rw [hd] at this
  cases this
set_option maxRecDepth 4000 in
set_option maxHeartbeats 2000000 in
theorem sValue_any (s : ByteArray) (w : World) (hs : s.size ≤ 1048576) : Calls Tryz.prog 34 #[.string s] w (Ret w (.tuple #[.int .i64 (valV s), .bool (valK s)])) := by
  by_cases h1 : s.size < 1
  · rw [show valV s = 0 from if_neg (by omega), show valK s = false from if_neg (by omega)]
    go_enter Tryz.func34, Tryz.ntmps34
    go_wp2_with fail
    go_ret2
    exact .mk rfl (by (repeat (first | (with_reducible exact Below.refl _ _) | (with_reducible assumption) | (with_reducible refine Later.out _ ?_) | (with_reducible refine bel_alloc ?_ _) | (with_reducible refine bel_drew ?_) | (with_reducible refine bel_drewN ?_ _) | (with_reducible refine bel_set ?_ ?_ _) | (with_reducible refine After.out _ ?_ ?_) | (dsimp only; omega) | omega | (simp only [World.size_alloc, World.size_setCell, World.size_drew]; omega))))
  by_cases h2 : s.size > 13
  · rw [show valV s = 0 from if_neg (by omega), show valK s = false from if_neg (by omega)]
    go_enter Tryz.func34, Tryz.ntmps34
    go_wp2_with fail
    go_ret2
    exact .mk rfl (by (repeat (first | (with_reducible exact Below.refl _ _) | (with_reducible assumption) | (with_reducible refine Later.out _ ?_) | (with_reducible refine bel_alloc ?_ _) | (with_reducible refine bel_drew ?_) | (with_reducible refine bel_drewN ?_ _) | (with_reducible refine bel_set ?_ ?_ _) | (with_reducible refine After.out _ ?_ ?_) | (dsimp only; omega) | omega | (simp only [World.size_alloc, World.size_setCell, World.size_drew]; omega))))
  obtain ⟨l, hlen, hget, hV, hN⟩ : ∃ l : List UInt8, l.length = s.size ∧ (∀ (i : Nat) (h : i < s.size) (h2 : i < l.length), l[i] = s[i])
      ∧ RowKit.Hid (l.all digL = true → valV s = (valL 0 l : Int) ∧ valK s = decide (decB (valL 0 l : Int) = s)) ∧ RowKit.Hid (¬ l.all digL = true → valV s = 0 ∧ valK s = false) :=
    ⟨s.data.toList, by rw [Array.length_toList]; rfl, fun i h h2 => rfl, Lib.hid fun h => ⟨if_pos ⟨by omega, by omega, h⟩, if_pos ⟨by omega, by omega, h⟩⟩, Lib.hid fun h => ⟨if_neg (by simp [h]), if_neg (by simp [h])⟩⟩
  replace hget := Lib.hid hget
  obtain ⟨V, hVe⟩ : ∃ V, valV s = V := ⟨_, rfl⟩
  obtain ⟨K, hKe⟩ : ∃ K, valK s = K := ⟨_, rfl⟩
  rw [hVe, hKe] at hV hN ⊢
  clear hVe hKe
  go_enter Tryz.func34, Tryz.ntmps34
  go_wp2_with fail
  go_loopw [4, 5] (fun t4 t5 wr => ∃ (i : Nat) (x : Int), t4 = .int .i64 x ∧ t5 = .int .i64 i ∧ i ≤ s.size ∧ 0 ≤ x ∧ x ≤ 9999999999999 ∧ RowKit.Hid (x = (valL 0 (l.take i) : Int) ∧ (l.take i).all digL = true) ∧ ∃ z : Later w, wr = z.w) (fun _ t5 _ => s.size - (intOf t5).toNat)
  case atStart => exact ⟨0, 0, rfl, rfl, Nat.zero_le _, by omega, by omega, Lib.hid ⟨rfl, rfl⟩, ⟨_, by (repeat (first | (with_reducible exact Below.refl _ _) | (with_reducible assumption) | (with_reducible refine Later.out _ ?_) | (with_reducible refine bel_alloc ?_ _) | (with_reducible refine bel_drew ?_) | (with_reducible refine bel_drewN ?_ _) | (with_reducible refine bel_set ?_ ?_ _) | (with_reducible refine After.out _ ?_ ?_) | (dsimp only; omega) | omega | (simp only [World.size_alloc, World.size_setCell, World.size_drew]; omega)))⟩, rfl⟩
  case round =>
    obtain ⟨i, x, rfl, rfl, hi, x0, x1, hH, z, rfl⟩ := hrel
    by_cases hlt : i < s.size
    · by_cases hd : digL s[i] = true
      · have hd2 : 48 ≤ s[i].toNat ∧ s[i].toNat ≤ 57 := by simpa [digL] using hd
        obtain ⟨d0, d1⟩ := hd2
        have X := Lib.hid (show 10 * x + ((s[i].toNat : Int) - 48) = (valL 0 (l.take (i + 1)) : Int) ∧ (l.take (i + 1)).all digL = true by
          have e := hget.out i hlt (by omega)
          rw [valL_take_succ (by omega), allD_take_succ (by omega), hH.out.2, e, hd]
          refine ⟨?_, rfl⟩
          rw [hH.out.1]
          omega)
        have hb : 10 * x + ((s[i].toNat : Int) - 48) ≤ 9999999999999 := by
          rw [X.out.1]
          have h3 := valL_lt X.out.2
          have h4 : 10 ^ (l.take (i + 1)).length ≤ 10 ^ 13 := Nat.pow_le_pow_right (by decide) (by rw [List.length_take]; omega)
          have h5 : (10 : Nat) ^ 13 = 10000000000000 := by decide
          omega
        obtain ⟨c, hc⟩ : ∃ c : Int, (s[i].toNat : Int) = c := ⟨_, rfl⟩
        have c0 : 48 ≤ c := by omega
        have c1 : c ≤ 57 := by omega
        rw [hc] at X hb
        clear hd d0 d1
        go_wp2_with fail
        go_roundw
        case rel => exact ⟨i + 1, 10 * x + (c - 48), by go_num, by go_num, by omega, by omega, by omega, Lib.hid X.out, z, rfl⟩
        case measure => first | (simp [intOf]; done) | (simp [intOf]; omega) | omega
      · have hd2 : s[i].toNat < 48 ∨ 57 < s[i].toNat := by
          rcases Nat.lt_or_ge s[i].toNat 48 with h | h
          · exact .inl h
          · right
            apply Nat.lt_of_not_le
            intro h2
            exact hd (by simp [digL]; omega)
        obtain ⟨rfl, rfl⟩ := hN.out (not_all (l := l) (i := i) (by omega) (by rw [hget.out i hlt (by omega)]; simpa using hd))
        clear hd
        rcases hd2 with hd2 | hd2
        · go_wp2_with fail
          go_ret2
          exact .mk rfl (by (repeat (first | (with_reducible exact Below.refl _ _) | (with_reducible assumption) | (with_reducible refine Later.out _ ?_) | (with_reducible refine bel_alloc ?_ _) | (with_reducible refine bel_drew ?_) | (with_reducible refine bel_drewN ?_ _) | (with_reducible refine bel_set ?_ ?_ _) | (with_reducible refine After.out _ ?_ ?_) | (dsimp only; omega) | omega | (simp only [World.size_alloc, World.size_setCell, World.size_drew]; omega))))
        · go_wp2_with fail
          go_ret2
          exact .mk rfl (by (repeat (first | (with_reducible exact Below.refl _ _) | (with_reducible assumption) | (with_reducible refine Later.out _ ?_) | (with_reducible refine bel_alloc ?_ _) | (with_reducible refine bel_drew ?_) | (with_reducible refine bel_drewN ?_ _) | (with_reducible refine bel_set ?_ ?_ _) | (with_reducible refine After.out _ ?_ ?_) | (dsimp only; omega) | omega | (simp only [World.size_alloc, World.size_setCell, World.size_drew]; omega))))
    · obtain rfl : i = s.size := by omega
      have hH2 := hH.out
      rw [← hlen, List.take_length] at hH2
      obtain ⟨rfl, rfl⟩ := hV.out hH2.2
      have C : ∀ w, Calls Tryz.prog 65 #[.int .i64 x] w (Ret w (.string (decB x))) := fun w => by rw [hH2.1]; exact sDec_any (valL 0 l) (by omega) w
      obtain ⟨T, hT⟩ : ∃ T, decB x = T := ⟨_, rfl⟩
      have ht := toList_eq T s
      obtain ⟨b, hb⟩ : ∃ b, decide (T = s) = b := ⟨_, rfl⟩
      have F := Lib.hid (show (valL 0 l : Int) = x ∧ decide (decB x = s) = b by rw [hT, hb]; exact ⟨hH2.1.symm, rfl⟩)
      rw [hT] at C
      rw [hb] at ht
      replace C := Lib.hid C
      clear hb hT hH2 hH hV hN hget
      go_wp2_with fail
      with_reducible refine (C.out _).mono ?_
      rintro e w' ⟨rfl, y1, rfl⟩
      have hsy1 := y1.bel.size
      (try simp only [World.size_alloc, World.size_setCell, World.size_drew] at hsy1)
      go_wp2_with fail
      go_ret2
      exact .mk (by rw [F.out.1, F.out.2]; rfl) (by (repeat (first | (with_reducible exact Below.refl _ _) | (with_reducible assumption) | (with_reducible refine Later.out _ ?_) | (with_reducible refine bel_alloc ?_ _) | (with_reducible refine bel_drew ?_) | (with_reducible refine bel_drewN ?_ _) | (with_reducible refine bel_set ?_ ?_ _) | (with_reducible refine After.out _ ?_ ?_) | (dsimp only; omega) | omega | (simp only [World.size_alloc, World.size_setCell, World.size_drew]; omega))))
theorem valV_bounds (s : ByteArray) : 0 ≤ valV s ∧ valV s ≤ 9999999999999 := by
  unfold valV
  split
  · rename_i h
    have h3 := valL_lt h.2.2
    have hlen : s.data.toList.length = s.size := by rw [Array.length_toList]; rfl
    have h4 : 10 ^ s.data.toList.length ≤ 10 ^ 13 := Nat.pow_le_pow_right (by decide) (by omega)
    have h5 : (10 : Nat) ^ 13 = 10000000000000 := by decide
    omega
  · omega
theorem minusB_at (s : ByteArray) (h : 0 < s.size) : minusB s = decide (s[0].toNat = 45) := by
  unfold minusB
  have hlen : s.data.toList.length = s.size := by rw [Array.length_toList]; rfl
  have e : s.data.toList.head? = some s[0] := by
    rw [List.head?_eq_getElem?, List.getElem?_eq_getElem (by omega)]
    rfl
  rw [e]
  apply decide_eq_decide.2
  constructor
  · intro h; injection h with h; rw [h]; rfl
  · intro h; congr 1; exact UInt8.toNat_inj.1 h
set_option maxRecDepth 4000 in
set_option maxHeartbeats 2000000 in
theorem sSigned_any (s : ByteArray) (w : World) (hs : s.size ≤ 1048576) : Calls Tryz.prog 71 #[.string s] w (Ret w (.tuple #[.int .i64 (sgnV s), .bool (sgnK s)])) := by
  have CV := Lib.hid (fun w => sValue_any s w hs)
  by_cases hz : s.size = 0
  · have hm : minusB s = false := by
      unfold minusB
      have hlen : s.data.toList.length = s.size := by rw [Array.length_toList]; rfl
      rw [List.eq_nil_of_length_eq_zero (by omega : s.data.toList.length = 0)]
      rfl
    rw [show sgnV s = valV s by unfold sgnV; rw [hm]; rfl, show sgnK s = valK s by unfold sgnK; rw [hm]; rfl]
    clear hm
    go_enter Tryz.func71, Tryz.ntmps71
    go_wp2_with fail
    with_reducible refine (CV.out _).mono ?_
    rintro e w' ⟨rfl, y1, rfl⟩
    have hsy1 := y1.bel.size
    (try simp only [World.size_alloc, World.size_setCell, World.size_drew] at hsy1)
    go_wp2_with fail
    go_ret2
    exact .mk rfl (by (repeat (first | (with_reducible exact Below.refl _ _) | (with_reducible assumption) | (with_reducible refine Later.out _ ?_) | (with_reducible refine bel_alloc ?_ _) | (with_reducible refine bel_drew ?_) | (with_reducible refine bel_drewN ?_ _) | (with_reducible refine bel_set ?_ ?_ _) | (with_reducible refine After.out _ ?_ ?_) | (dsimp only; omega) | omega | (simp only [World.size_alloc, World.size_setCell, World.size_drew]; omega))))
  · have hpos : 0 < s.size := by omega
    have hm := minusB_at s hpos
    by_cases h45 : s[0].toNat = 45
    · rw [decide_eq_true h45] at hm
      rw [show sgnV s = -(valV (tailB s)) by unfold sgnV; rw [hm]; rfl, show sgnK s = (valK (tailB s) && decide (0 < valV (tailB s))) by unfold sgnK; rw [hm]; rfl]
      have hb := valV_bounds (tailB s)
      have CT := Lib.hid (fun w => sValue_any (tailB s) w (by unfold tailB; rw [ByteArray.size_extract]; omega))
      unfold tailB at *
      obtain ⟨V, hV⟩ : ∃ V, valV (s.extract 1 s.size) = V := ⟨_, rfl⟩
      obtain ⟨K, hK⟩ : ∃ K, valK (s.extract 1 s.size) = K := ⟨_, rfl⟩
      rw [hV, hK] at CT ⊢
      rw [hV] at hb
      obtain ⟨b0, b1⟩ := hb
      clear hm hV hK CV
      cases K
      · go_enter Tryz.func71, Tryz.ntmps71
        go_wp2_with fail
        with_reducible refine (CT.out _).mono ?_
        rintro e w' ⟨rfl, y1, rfl⟩
        have hsy1 := y1.bel.size
        (try simp only [World.size_alloc, World.size_setCell, World.size_drew] at hsy1)
        go_wp2_with fail
        go_ret2
        exact .mk rfl (by (repeat (first | (with_reducible exact Below.refl _ _) | (with_reducible assumption) | (with_reducible refine Later.out _ ?_) | (with_reducible refine bel_alloc ?_ _) | (with_reducible refine bel_drew ?_) | (with_reducible refine bel_drewN ?_ _) | (with_reducible refine bel_set ?_ ?_ _) | (with_reducible refine After.out _ ?_ ?_) | (dsimp only; omega) | omega | (simp only [World.size_alloc, World.size_setCell, World.size_drew]; omega))))
      · go_enter Tryz.func71, Tryz.ntmps71
        go_wp2_with fail
        with_reducible refine (CT.out _).mono ?_
        rintro e w' ⟨rfl, y1, rfl⟩
        have hsy1 := y1.bel.size
        (try simp only [World.size_alloc, World.size_setCell, World.size_drew] at hsy1)
        go_wp2_with fail
        go_ret2
        exact .mk (by simp) (by (repeat (first | (with_reducible exact Below.refl _ _) | (with_reducible assumption) | (with_reducible refine Later.out _ ?_) | (with_reducible refine bel_alloc ?_ _) | (with_reducible refine bel_drew ?_) | (with_reducible refine bel_drewN ?_ _) | (with_reducible refine bel_set ?_ ?_ _) | (with_reducible refine After.out _ ?_ ?_) | (dsimp only; omega) | omega | (simp only [World.size_alloc, World.size_setCell, World.size_drew]; omega))))
    · rw [decide_eq_false h45] at hm
      rw [show sgnV s = valV s by unfold sgnV; rw [hm]; rfl, show sgnK s = valK s by unfold sgnK; rw [hm]; rfl]
      clear hm
      go_enter Tryz.func71, Tryz.ntmps71
      go_wp2_with fail
      with_reducible refine (CV.out _).mono ?_
      rintro e w' ⟨rfl, y1, rfl⟩
      have hsy1 := y1.bel.size
      (try simp only [World.size_alloc, World.size_setCell, World.size_drew] at hsy1)
      go_wp2_with fail
      go_ret2
      exact .mk rfl (by (repeat (first | (with_reducible exact Below.refl _ _) | (with_reducible assumption) | (with_reducible refine Later.out _ ?_) | (with_reducible refine bel_alloc ?_ _) | (with_reducible refine bel_drew ?_) | (with_reducible refine bel_drewN ?_ _) | (with_reducible refine bel_set ?_ ?_ _) | (with_reducible refine After.out _ ?_ ?_) | (dsimp only; omega) | omega | (simp only [World.size_alloc, World.size_setCell, World.size_drew]; omega))))
end Go.Proofs.YtfjlilpebhiogaaGreatDoor
