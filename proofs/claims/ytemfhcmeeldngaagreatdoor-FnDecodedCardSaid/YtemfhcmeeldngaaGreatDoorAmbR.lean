import Derived.Test.YtemfhcmeeldngaaGreatDoorPackPc
import Derived.Test.YtemfhcmeeldngaaGreatDoorPackPa
/- The first text with two parsings, the reference's way. -/
set_option linter.unusedSimpArgs false
set_option linter.unusedVariables false
namespace Go.Proofs.YtemfhcmeeldngaaGreatDoor
open Go.RowKit
/-- The rows hold what is known. -/
structure AsOk (E : List Tx) (A : List BB) : Prop where
  nd : NdA A
  len : A.length ≤ cntF E (asF A)
theorem AsOk.learn {E : List Tx} {A A' : List BB} {r t : ByteArray} (h : AsOk E A) (hl : LrnA A r t A') (hr : kb r ∈ E) : AsOk E A' := ⟨hl.nd, hl.cnt h.len hr⟩
theorem AsOk.le {E : List Tx} {A : List BB} (h : AsOk E A) : A.length ≤ E.length := Nat.le_trans h.len (cntF_le _ _)
theorem AsOk.txt {T : List Rul} {A : List BB} (h : AsOk (ends (roms T)) A) (g : GoodF (roms T) (asF A)) (hE : (ends (roms T)).length ≤ 150) {p : BB} (hp : p ∈ A) : p.2.size ≤ 600 := by
  obtain ⟨k, hk, rfl⟩ := List.mem_iff_getElem.1 hp
  have := g.len hE (h.nd.at_ hk)
  rwa [length_kb] at this
/-- What the reference takes of a text and a rest and a rule. -/
theorem followS_cases (text rest rom : ByteArray) :
    (prefB rest rom = true ∧ (∀ f, KnowsF f (kb text) (kb (rest.extract rom.size rest.size)) → FollK f (kb text) (kb rest) (kb rom)) ∧ ∀ rs, Der rs (kb text) (kb rest) → kb rest ≠ [] → kb rom ∈ rs → Der rs (kb text) (kb (rest.extract rom.size rest.size))) ∨
    (prefB rest rom = false ∧ rest.size < rom.size ∧ prefB rom rest = true ∧ (∀ f, KnowsF f (kb (text ++ rom.extract rest.size rom.size)) (kb (rom.extract rest.size rom.size)) → FollK f (kb text) (kb rest) (kb rom)) ∧ ∀ rs, Der rs (kb text) (kb rest) → kb rest ≠ [] → kb rom ∈ rs → Der rs (kb (text ++ rom.extract rest.size rom.size)) (kb (rom.extract rest.size rom.size))) ∨
    (prefB rest rom = false ∧ ¬ (rest.size < rom.size ∧ prefB rom rest = true) ∧ ∀ f, FollK f (kb text) (kb rest) (kb rom)) := by
  cases h2 : prefB rest rom
  · cases h1 : prefB rom rest
    · refine .inr (.inr ⟨rfl, (by rintro ⟨_, h⟩; cases h), fun f => ⟨fun u hu => ?_, fun u hu => ?_⟩⟩)
      · rw [prefB_iff.2 ⟨u, hu⟩] at h1; cases h1
      · rw [prefB_iff.2 ⟨u, hu⟩] at h2; cases h2
    · obtain ⟨u, hu⟩ := prefB_iff.1 h1
      have hl := congrArg List.length hu
      rw [List.length_append, length_kb, length_kb] at hl
      have hlt : rest.size < rom.size := by
        rcases Nat.lt_or_ge rest.size rom.size with h | h
        · exact h
        · exfalso
          have hu0 : u = [] := List.eq_nil_of_length_eq_zero (by omega)
          subst hu0
          rw [List.append_nil] at hu
          rw [prefB_iff.2 ⟨[], by rw [List.append_nil, hu]⟩] at h2
          cases h2
      refine .inr (.inl ⟨rfl, hlt, rfl, ?_, ?_⟩)
      · rw [kb_append, prefB_rest hu]
        refine fun f hk => ⟨fun v hv => ?_, fun v hv => ?_⟩
        · rw [hu] at hv
          rw [← List.append_cancel_left hv]
          exact hk
        · have := congrArg List.length hv
          rw [List.length_append, length_kb, length_kb] at this
          omega
      · rw [kb_append, prefB_rest hu]
        exact fun rs d hne hm => .ext d hne hm hu
  · obtain ⟨u, hu⟩ := prefB_iff.1 h2
    refine .inl ⟨rfl, ?_, ?_⟩
    · rw [prefB_rest hu]
      refine fun f hk => ⟨fun v hv => ?_, fun v hv => ?_⟩
      · have hl1 := congrArg List.length hu
        have hl2 := congrArg List.length hv
        rw [List.length_append] at hl1 hl2
        have hv0 : v = [] := List.eq_nil_of_length_eq_zero (by omega)
        have hu0 : u = [] := List.eq_nil_of_length_eq_zero (by omega)
        subst hv0 hu0
        rw [List.append_nil]
        exact hk
      · rw [hu] at hv
        rw [← List.append_cancel_left hv]
        exact hk
    · rw [prefB_rest hu]
      exact fun rs d hne hm => .sub d hne hm hu
theorem prefB_le {s p : ByteArray} (h : prefB s p = true) : p.size ≤ s.size := by unfold prefB at h; simp at h; exact h.1
theorem prefB_val {s p : ByteArray} (h : p.size ≤ s.size) : ((s.extract 0 p.size).toList == p.toList) = prefB s p := by
  unfold prefB
  rw [toList_eq]
  simp [h]
def RetLr2 (w : World) (A : List BB) (r t : ByteArray) (nb : Bool) (e : Ending) (w' : World) : Prop :=
  ∃ (A' : List BB) (a : Option Addr) (c : Nat) (a' : Option Addr) (c' : Nat), e = .returned (.tuple #[.slice a A'.length c, .slice a' A'.length c', .bool nb]) ∧ LrnA A r t A' ∧ TwoR w' w.heap.size A' a c a' c' ∧ ∃ y : Later w, w' = y.w
theorem RetLrn.two {w W : World} {A : List BB} {r t : ByteArray} {nb : Bool} (hn : newF (asF A) (kb r) (kb t) = nb) {e : Ending} {w' : World} (hb : Below w.heap.size w W) (h : RetLrn W w.heap.size A r t e w')   : RetLr2 w A r t nb e w' := by
  subst hn
  obtain ⟨A', a, c, a', c', he, hl, ht, z, rfl⟩ := h
  exact ⟨A', a, c, a', c', he, hl, ht, ⟨z.w, hb.trans z.bel⟩, rfl⟩
set_option maxRecDepth 20000 in
set_option maxHeartbeats 8000000 in
theorem sAmbiguous_any (T : List Rul) (a : Option Addr) (n c : Nat) (w : World) (hn : T.length = n) (hT : tableB T = true) (hr : RulesR w a T) :
    Calls Tryz.prog 49 #[.slice a n c] w (Ret w (lookV (ambO T))) := by
  subst hn
  have hlen := tableB_len hT
  have hE := roms_len hT
  have hsz := Lib.hid (fun i (h : i < T.length) => (ruleB_sizes (tableB_rule hT h)).2.2)
  have hel := Lib.hid (fun r (h : r ∈ roms T) => roms_el hT h)
  have hA := Lib.hid (fun f hs hc => ambO_eq (T := T) (f := f) hs hc)
  have hget := Lib.hid (fun i (h : i < T.length) => roms_get h)
  have hmem := Lib.hid (fun i (h : i < T.length) => roms_mem h)
  have hrsm := Lib.hid (fun r (h : r ∈ roms T) => show ∃ t, ∃ ht : t < T.length, r = kb T[t].rom by
    obtain ⟨t, ht, rfl⟩ := List.mem_iff_getElem.1 h
    exact ⟨t, by simpa [roms] using ht, by simp [roms]⟩)
  have htx := Lib.hid (fun (A : List BB) (h : AsOk (ends (roms T)) A) (g : GoodF (roms T) (asF A)) p (hp : p ∈ A) => h.txt g hE hp)
  have hlr := length_roms T
  obtain ⟨rs, hrs⟩ : ∃ rs, roms T = rs := ⟨_, rfl⟩
  simp only [hrs] at hE hel hA hget hmem hrsm hlr htx
  obtain ⟨O, hO⟩ : ∃ O, ambO T = O := ⟨_, rfl⟩
  simp only [hO] at hA ⊢
  obtain ⟨E, hEe⟩ : ∃ E, ends rs = E := ⟨_, rfl⟩
  have hE' := hE
  rw [hEe] at hE' htx
  have CL := Lib.hid (fun (A : List BB) (r t : ByteArray) (a a' : Option Addr) (c c' : Nat) (w' : World) (hb : Below w.heap.size w w') (h : TwoR w' w.heap.size A a c a' c') (hnd : NdA A) (hA : A.length ≤ 1048576) (ht : t.size ≤ 1048576) (hts : ∀ p ∈ A, p.2.size ≤ 1048576) (nb : Bool) (hnb : newF (asF A) (kb r) (kb t) = nb) => (learn_any A r t w.heap.size a a' c c' w' h hb.size hnd hA ht hts).mono (fun e w2 h2 => RetLrn.two hnb hb h2))
  replace hr := Lib.hid hr
  replace hEe := Lib.hid hEe
  have HR := Lib.hid (World.ownsRow_lit (base := w.heap.size) (e := 9) (size := 1) w #[] 0 (Nat.le_refl _) (by unfold maxLen; omega) rfl)
  clear hrs hO hT
  go_enter Tryz.func49, Tryz.ntmps49
  have HR2 := Lib.hid (World.ownsRow_lit (base := w.heap.size) (e := 9) (size := 1) (w.alloc (.cells #[] 9)) #[] 0 (by simp only [World.size_alloc]; omega) (by unfold maxLen; omega) rfl)
  go_wp2_with fail
  go_loopw [4, 5, 6] (fun r4 r5 iv wr => ∃ (i : Nat) (A : List BB) (a4 : Option Addr) (c4 : Nat) (a5 : Option Addr) (c5 : Nat), i ≤ T.length ∧ r4 = .slice a4 A.length c4 ∧ r5 = .slice a5 A.length c5 ∧ iv = .int .i64 i ∧ TwoR wr w.heap.size A a4 c4 a5 c5 ∧ AsOk E A ∧ GoodF rs (asF A) ∧ InitTo rs (asF A) i 0 ∧ ∃ z : Later w, wr = z.w) (fun _ _ iv _ => T.length - (intOf iv).toNat)
  case atStart =>
    refine ⟨0, [], _, _, _, _, Nat.zero_le _, rfl, rfl, rfl, ⟨own_bel HR.out (by (repeat (first | (with_reducible exact Below.refl _ _) | (with_reducible assumption) | (with_reducible refine Later.out _ ?_) | (with_reducible refine bel_alloc ?_ _) | (with_reducible refine bel_drew ?_) | (with_reducible refine bel_drewN ?_ _) | (with_reducible refine bel_set ?_ ?_ _) | (with_reducible refine After.out _ ?_ ?_) | (dsimp only; omega) | omega | (simp only [World.size_alloc, World.size_setCell, World.size_drew]; omega)))), (by have := HR2.out; simp only [World.size_alloc] at this; exact this), fun p q hp hq => ?_⟩, ⟨(fun j k hj => absurd hj (by simp)), Nat.zero_le _⟩, GoodF.empty rs, InitTo.start rs _, LaterC.mk (by (repeat (first | (with_reducible exact Below.refl _ _) | (with_reducible assumption) | (with_reducible refine Later.out _ ?_) | (with_reducible refine bel_alloc ?_ _) | (with_reducible refine bel_drew ?_) | (with_reducible refine bel_drewN ?_ _) | (with_reducible refine bel_set ?_ ?_ _) | (with_reducible refine After.out _ ?_ ?_) | (dsimp only; omega) | omega | (simp only [World.size_alloc, World.size_setCell, World.size_drew]; omega))))⟩
    cases hp
    cases hq
    simp only [World.size_alloc]
    omega
  case round =>
    obtain ⟨i, A, a4, c4, a5, c5, hi, rfl, rfl, rfl, hTw, hAs, hG, hI, z, rfl⟩ := hrel
    have hzz := z.bel.size
    replace hTw := Lib.hid hTw
    replace hAs := Lib.hid hAs
    replace hG := Lib.hid hG
    by_cases hlt : i < T.length
    · have hi1 : (i : Int) < (T.length : Int) := by omega
      obtain ⟨b, o, ai, ci, rfl, hb, q0, q1, q2, q3, q4⟩ := hr.out.at_ hlt
      have hszi := hsz.out i hlt
      have hgi := Lib.hid (hget.out i hlt)
      replace hI := Lib.hid hI
      clear q0 q2 q3 q4
      go_wp2_with fail
      go_loopw [4, 5, 7] (fun r4 r5 kv wr => ∃ (k : Nat) (A : List BB) (a4 : Option Addr) (c4 : Nat) (a5 : Option Addr) (c5 : Nat), k ≤ T.length ∧ r4 = .slice a4 A.length c4 ∧ r5 = .slice a5 A.length c5 ∧ kv = .int .i64 k ∧ TwoR wr w.heap.size A a4 c4 a5 c5 ∧ AsOk E A ∧ GoodF rs (asF A) ∧ InitTo rs (asF A) i k ∧ ∃ z : Later w, wr = z.w) (fun _ _ kv _ => T.length - (intOf kv).toNat)
      case atStart => exact ⟨0, A, a4, c4, a5, c5, Nat.zero_le _, rfl, rfl, rfl, hTw.out, hAs.out, hG.out, hI.out, z, rfl⟩
      case round =>
        clear hTw hAs hG hI hzz
        obtain ⟨k, A, a4, c4, a5, c5, hk, rfl, rfl, rfl, hTw, hAs, hG, hI, z, rfl⟩ := hrel
        have hzz := z.bel.size
        replace hTw := Lib.hid hTw
        by_cases hlk : k < T.length
        · have hk1 : (k : Int) < (T.length : Int) := by omega
          obtain ⟨b', o', ak, ck, e1, hb', r0, r1, r2, r3, r4⟩ := hr.out.at_ hlk
          cases e1
          have hszk := hsz.out k hlk
          have hgk := Lib.hid (hget.out k hlk)
          clear r0 r2 r3 r4
          have hskip : (∀ a u, rs[i]? = some a → rs[k]? = some (a ++ u) → i ≠ k → KnowsF (asF A) (a ++ u) u) → InitTo rs (asF A) i (k + 1) := fun h => hI.skip h
          have hbz : b < z.w.heap.size := by omega
          by_cases hik : i = k
          · have X := Lib.hid (hskip fun a u _ _ h => absurd hik h)
            have hne : ((i : Int) != (k : Int)) = false := by simp [hik]
            replace hG := Lib.hid hG
            replace hAs := Lib.hid hAs
            replace hik := Lib.hid hik
            clear hskip hI
            go_wp2_with fail
            refine wp_region_later (by kernel_rfl) (by kernel_rfl) ?_
            repeat (go_big_quiet_step (fail))
            refine wpQuiet_nil ?_
            rintro _ ⟨xq, rfl⟩
            go_wp2_with fail
            go_roundw
            case rel => exact ⟨k + 1, A, a4, c4, a5, c5, by omega, rfl, rfl, by go_num, hTw.out.bel (by (repeat (first | (with_reducible exact Below.refl _ _) | (with_reducible assumption) | (with_reducible refine Later.out _ ?_) | (with_reducible refine bel_alloc ?_ _) | (with_reducible refine bel_drew ?_) | (with_reducible refine bel_drewN ?_ _) | (with_reducible refine bel_set ?_ ?_ _) | (with_reducible refine After.out _ ?_ ?_) | (dsimp only; omega) | omega | (simp only [World.size_alloc, World.size_setCell, World.size_drew]; omega)))), hAs.out, hG.out, X.out, LaterC.mk (by (repeat (first | (with_reducible exact Below.refl _ _) | (with_reducible assumption) | (with_reducible refine Later.out _ ?_) | (with_reducible refine bel_alloc ?_ _) | (with_reducible refine bel_drew ?_) | (with_reducible refine bel_drewN ?_ _) | (with_reducible refine bel_set ?_ ?_ _) | (with_reducible refine After.out _ ?_ ?_) | (dsimp only; omega) | omega | (simp only [World.size_alloc, World.size_setCell, World.size_drew]; omega))))⟩
            case measure => first | (simp [intOf]; done) | (simp [intOf]; omega) | omega
          · have hne : ((i : Int) != (k : Int)) = true := by simp; omega
            by_cases hle : T[i].rom.size ≤ T[k].rom.size
            · have hle' : (T[i].rom.size : Int) ≤ (T[k].rom.size : Int) := by omega
              have hv := prefB_val hle
              cases hp : prefB T[k].rom T[i].rom
              · rw [hp] at hv
                have X := Lib.hid (hskip fun a u h1 h2 _ => by
                  rw [hgi.out] at h1
                  rw [hgk.out] at h2
                  cases h1
                  injection h2 with h2
                  rw [prefB_iff.2 ⟨u, h2⟩] at hp
                  cases hp)
                replace hG := Lib.hid hG
                replace hAs := Lib.hid hAs
                replace hik := Lib.hid hik
                clear hskip hI hp
                go_wp2_with fail
                refine wp_region_later (by kernel_rfl) (by kernel_rfl) ?_
                repeat (go_big_quiet_step (fail))
                refine wpQuiet_nil ?_
                rintro _ ⟨xq, rfl⟩
                go_wp2_with fail
                go_roundw
                case rel => exact ⟨k + 1, A, a4, c4, a5, c5, by omega, rfl, rfl, by go_num, hTw.out.bel (by (repeat (first | (with_reducible exact Below.refl _ _) | (with_reducible assumption) | (with_reducible refine Later.out _ ?_) | (with_reducible refine bel_alloc ?_ _) | (with_reducible refine bel_drew ?_) | (with_reducible refine bel_drewN ?_ _) | (with_reducible refine bel_set ?_ ?_ _) | (with_reducible refine After.out _ ?_ ?_) | (dsimp only; omega) | omega | (simp only [World.size_alloc, World.size_setCell, World.size_drew]; omega)))), hAs.out, hG.out, X.out, LaterC.mk (by (repeat (first | (with_reducible exact Below.refl _ _) | (with_reducible assumption) | (with_reducible refine Later.out _ ?_) | (with_reducible refine bel_alloc ?_ _) | (with_reducible refine bel_drew ?_) | (with_reducible refine bel_drewN ?_ _) | (with_reducible refine bel_set ?_ ?_ _) | (with_reducible refine After.out _ ?_ ?_) | (dsimp only; omega) | omega | (simp only [World.size_alloc, World.size_setCell, World.size_drew]; omega))))⟩
                case measure => first | (simp [intOf]; done) | (simp [intOf]; omega) | omega
              · rw [hp] at hv
                obtain ⟨u, hu⟩ := prefB_iff.1 hp
                have hur := prefB_rest hu
                have hd : Der rs (kb T[k].rom) u := .init (hgi.out) (hgk.out) hik hu
                have huE : u ∈ E := hEe.out ▸ der_ends hd
                have hkl : (kb T[k].rom).length ≤ 4 := by rw [length_kb]; omega
                have hle3 := hAs.le
                have hgn : GoodF rs (learnF (asF A) u (kb T[k].rom)) := hG.learn hd (by omega)
                have hin : InitTo rs (learnF (asF A) u (kb T[k].rom)) i (k + 1) := hI.learn.skip fun a v h1 h2 _ => by
                  rw [hgi.out] at h1
                  rw [hgk.out] at h2
                  cases h1
                  injection h2 with h2
                  rw [hu] at h2
                  rw [← h2, ← List.append_cancel_left h2, ← hu]
                  exact knows_learn
                rw [← hur] at hgn hin huE
                have CL1 := Lib.hid (fun w' (h1 : Below w.heap.size w w') (h2 : TwoR w' w.heap.size A a4 c4 a5 c5) => CL.out A (T[k].rom.extract T[i].rom.size T[k].rom.size) T[k].rom a4 a5 c4 c5 w' h1 h2 hAs.nd (by omega) (by omega) (fun p hp => Nat.le_trans (htx.out A hAs hG p hp) (by omega)) _ rfl)
                have X := Lib.hid (fun (A' : List BB) (h : LrnA A (T[k].rom.extract T[i].rom.size T[k].rom.size) T[k].rom A') => show AsOk E A' ∧ GoodF rs (asF A') ∧ InitTo rs (asF A') i (k + 1) from ⟨hAs.learn h huE, by rw [h.f]; exact hgn, by rw [h.f]; exact hin⟩)
                replace hik := Lib.hid hik
                clear hskip hI hp hG hd huE hkl hu hur hgn hin hAs hle3
                go_wp2_with fail
                refine wp_region_later (by kernel_rfl) (by kernel_rfl) ?_
                repeat (go_big_quiet_step (fail))
                refine wpQuiet_nil ?_
                rintro _ ⟨xq, rfl⟩
                go_wp2_with (go_at_call 77; (with_reducible refine (CL1.out _ (by (repeat (first | (with_reducible exact Below.refl _ _) | (with_reducible assumption) | (with_reducible refine Later.out _ ?_) | (with_reducible refine bel_alloc ?_ _) | (with_reducible refine bel_drew ?_) | (with_reducible refine bel_drewN ?_ _) | (with_reducible refine bel_set ?_ ?_ _) | (with_reducible refine After.out _ ?_ ?_) | (dsimp only; omega) | omega | (simp only [World.size_alloc, World.size_setCell, World.size_drew]; omega)))) (hTw.out.bel (by (repeat (first | (with_reducible exact Below.refl _ _) | (with_reducible assumption) | (with_reducible refine Later.out _ ?_) | (with_reducible refine bel_alloc ?_ _) | (with_reducible refine bel_drew ?_) | (with_reducible refine bel_drewN ?_ _) | (with_reducible refine bel_set ?_ ?_ _) | (with_reducible refine After.out _ ?_ ?_) | (dsimp only; omega) | omega | (simp only [World.size_alloc, World.size_setCell, World.size_drew]; omega)))))).mono ?_); rintro e w' ⟨A', a6, c6, a7, c7, rfl, hL', hTw', z', rfl⟩; have hsz' := z'.bel.size; replace hL' := Lib.hid hL'; replace hTw' := Lib.hid hTw')
                go_roundw
                case rel =>
                  obtain ⟨x1, x2, x3⟩ := X.out _ hL'.out
                  exact ⟨k + 1, A', a6, c6, a7, c7, by omega, rfl, rfl, by go_num, hTw'.out, x1, x2, x3, z', rfl⟩
                case measure => first | (simp [intOf]; done) | (simp [intOf]; omega) | omega
            · have hle' : ¬ (T[i].rom.size : Int) ≤ (T[k].rom.size : Int) := by omega
              have X := Lib.hid (hskip fun a u h1 h2 _ => by
                rw [hgi.out] at h1
                rw [hgk.out] at h2
                cases h1
                injection h2 with h2
                have := congrArg List.length h2
                rw [List.length_append, length_kb, length_kb] at this
                omega)
              replace hG := Lib.hid hG
              replace hAs := Lib.hid hAs
              replace hik := Lib.hid hik
              clear hskip hI
              go_wp2_with fail
              refine wp_region_later (by kernel_rfl) (by kernel_rfl) ?_
              repeat (go_big_quiet_step (fail))
              refine wpQuiet_nil ?_
              rintro _ ⟨xq, rfl⟩
              go_wp2_with fail
              go_roundw
              case rel => exact ⟨k + 1, A, a4, c4, a5, c5, by omega, rfl, rfl, by go_num, hTw.out.bel (by (repeat (first | (with_reducible exact Below.refl _ _) | (with_reducible assumption) | (with_reducible refine Later.out _ ?_) | (with_reducible refine bel_alloc ?_ _) | (with_reducible refine bel_drew ?_) | (with_reducible refine bel_drewN ?_ _) | (with_reducible refine bel_set ?_ ?_ _) | (with_reducible refine After.out _ ?_ ?_) | (dsimp only; omega) | omega | (simp only [World.size_alloc, World.size_setCell, World.size_drew]; omega)))), hAs.out, hG.out, X.out, LaterC.mk (by (repeat (first | (with_reducible exact Below.refl _ _) | (with_reducible assumption) | (with_reducible refine Later.out _ ?_) | (with_reducible refine bel_alloc ?_ _) | (with_reducible refine bel_drew ?_) | (with_reducible refine bel_drewN ?_ _) | (with_reducible refine bel_set ?_ ?_ _) | (with_reducible refine After.out _ ?_ ?_) | (dsimp only; omega) | omega | (simp only [World.size_alloc, World.size_setCell, World.size_drew]; omega))))⟩
              case measure => first | (simp [intOf]; done) | (simp [intOf]; omega) | omega
        · obtain rfl : k = T.length := by omega
          rw [← hlr] at hI
          have X := Lib.hid hI.next
          replace hG := Lib.hid hG
          replace hAs := Lib.hid hAs
          clear hI
          go_wp2_with fail
          go_roundw
          case rel => exact ⟨i + 1, A, a4, c4, a5, c5, by omega, rfl, rfl, by go_num, hTw.out, hAs.out, hG.out, X.out, z, rfl⟩
          case measure => first | (simp [intOf]; done) | (simp [intOf]; omega) | omega
    · obtain rfl : i = T.length := by omega
      rw [← hlr] at hI
      have hI2 := hI.all
      replace hI2 := Lib.hid hI2
      clear hI
      go_wp2_with fail
      go_loopg [4, 5, 10] (2 * goF (ends rs) 700 (asF A) + 1) (fun kk r4 r5 ch wr => ∃ (A : List BB) (b : Bool) (a4 : Option Addr) (c4 : Nat) (a5 : Option Addr) (c5 : Nat), r4 = .slice a4 A.length c4 ∧ r5 = .slice a5 A.length c5 ∧ ch = .bool b ∧ 2 * goF (ends rs) 700 (asF A) + (if b then 1 else 0) ≤ kk ∧ TwoR wr w.heap.size A a4 c4 a5 c5 ∧ AsOk E A ∧ GoodF rs (asF A) ∧ InitF rs (asF A) ∧ (b = false → ClosedF rs (asF A)) ∧ ∃ z : Later w, wr = z.w)
      case atStart => exact ⟨A, true, a4, c4, a5, c5, rfl, rfl, rfl, Nat.le_refl _, hTw.out, hAs.out, hG.out, hI2.out, (fun h => by cases h), z, rfl⟩
      case round =>
        clear hTw hAs hG hI2 hzz
        obtain ⟨A0, b, a4, c4, a5, c5, rfl, rfl, rfl, hkk, hTw, hAs, hG, hI, hC, z, rfl⟩ := hrel
        have hzz := z.bel.size
        cases b with
        | false =>
          have X := Lib.hid (hA.out (asF A0) hG.sound (hC rfl))
          have hle3 := hAs.le
          have hrr : Row z.w a4 (strCells (restsL A0)) := Row.of_own hTw.r
          have CF := fun w hr => l03Find_any (⟨#[]⟩ : ByteArray) (restsL A0) a4 A0.length c4 w (by simp) (by omega) hr
          replace hrr := Lib.hid hrr
          rcases find_cases A0 (⟨#[]⟩ : ByteArray) with ⟨e, hn, -⟩ | ⟨k, hk, e, hkr, hf, -⟩
          · rw [e] at CF
            replace CF := Lib.hid CF
            have hn2 : O = none := X.out.trans hn
            clear hC hI hG hkk hn e hAs
            go_wp2_with (go_at_call 78; (with_reducible refine (CF.out _ (hrr.out.bel (by (repeat (first | (with_reducible exact Below.refl _ _) | (with_reducible assumption) | (with_reducible refine Later.out _ ?_) | (with_reducible refine bel_alloc ?_ _) | (with_reducible refine bel_drew ?_) | (with_reducible refine bel_drewN ?_ _) | (with_reducible refine bel_set ?_ ?_ _) | (with_reducible refine After.out _ ?_ ?_) | (dsimp only; omega) | omega | (simp only [World.size_alloc, World.size_setCell, World.size_drew]; omega)))))).mono ?_); rintro e w' ⟨rfl, y1, rfl⟩; have hsy1 := y1.bel.size)
            refine bodyPost_ret (by simp [results, Tryz.results49, go_sem, ↓IntWalk.iteOmega, *]; try rfl) rfl ?_
            exact .mk (by rw [hn2]; rfl) (by (repeat (first | (with_reducible exact Below.refl _ _) | (with_reducible assumption) | (with_reducible refine Later.out _ ?_) | (with_reducible refine bel_alloc ?_ _) | (with_reducible refine bel_drew ?_) | (with_reducible refine bel_drewN ?_ _) | (with_reducible refine bel_set ?_ ?_ _) | (with_reducible refine After.out _ ?_ ?_) | (dsimp only; omega) | omega | (simp only [World.size_alloc, World.size_setCell, World.size_drew]; omega))))
          · rw [e] at CF
            replace CF := Lib.hid CF
            have hn2 : O = some (kb A0[k].2) := X.out.trans hf
            have htt : Row z.w a5 (strCells (textsL A0)) := Row.of_own hTw.t
            obtain ⟨b, o, rfl, hbl, q0⟩ := htt.str (O := textsL A0) (k := k) (by simpa using hk)
            simp only [List.getElem_map] at q0
            have hk1 : (k : Int) < (A0.length : Int) := by omega
            clear hC hI hG hkk hf e hAs htt
            go_wp2_with (go_at_call 78; (with_reducible refine (CF.out _ (hrr.out.bel (by (repeat (first | (with_reducible exact Below.refl _ _) | (with_reducible assumption) | (with_reducible refine Later.out _ ?_) | (with_reducible refine bel_alloc ?_ _) | (with_reducible refine bel_drew ?_) | (with_reducible refine bel_drewN ?_ _) | (with_reducible refine bel_set ?_ ?_ _) | (with_reducible refine After.out _ ?_ ?_) | (dsimp only; omega) | omega | (simp only [World.size_alloc, World.size_setCell, World.size_drew]; omega)))))).mono ?_); rintro e w' ⟨rfl, y1, rfl⟩; have hsy1 := y1.bel.size)
            refine bodyPost_ret (by simp [results, Tryz.results49, go_sem, ↓IntWalk.iteOmega, *]; try rfl) rfl ?_
            exact .mk (by rw [hn2, lookV_some]) (by (repeat (first | (with_reducible exact Below.refl _ _) | (with_reducible assumption) | (with_reducible refine Later.out _ ?_) | (with_reducible refine bel_alloc ?_ _) | (with_reducible refine bel_drew ?_) | (with_reducible refine bel_drewN ?_ _) | (with_reducible refine bel_set ?_ ?_ _) | (with_reducible refine After.out _ ?_ ?_) | (dsimp only; omega) | omega | (simp only [World.size_alloc, World.size_setCell, World.size_drew]; omega))))
        | true =>
          simp only [if_true] at hkk
          obtain ⟨gO, hgO⟩ : ∃ gO, gk = gO := ⟨_, rfl⟩
          rw [hgO] at hkk
          replace hgO := Lib.hid hgO
          have hst0 := Lib.hid (StF.start hG hI)
          replace hTw := Lib.hid hTw
          replace hAs := Lib.hid hAs
          clear hC hG hI
          go_wp2_with fail
          go_loopw [4, 5, 10, 11] (fun r4 r5 ch iv wr => ∃ (i : Nat) (A : List BB) (b : Bool) (a4 : Option Addr) (c4 : Nat) (a5 : Option Addr) (c5 : Nat), i ≤ A.length ∧ r4 = .slice a4 A.length c4 ∧ r5 = .slice a5 A.length c5 ∧ ch = .bool b ∧ iv = .int .i64 i ∧ TwoR wr w.heap.size A a4 c4 a5 c5 ∧ AsOk E A ∧ StF rs (asF A0) (asF A) b ∧ (b = false → A = A0 ∧ ∀ j (hj : j < A0.length), j < i → ∀ r ∈ rs, Fo (asF A0) (A0[j].2, A0[j].1) r) ∧ ∃ z : Later w, wr = z.w) (fun _ _ _ iv _ => E.length - (intOf iv).toNat)
          case atStart => exact ⟨0, A0, false, a4, c4, a5, c5, Nat.zero_le _, rfl, rfl, rfl, rfl, hTw.out, hAs.out, hst0.out, fun _ => ⟨rfl, fun j _ h => absurd h (by omega)⟩, z, rfl⟩
          case round =>
            clear hTw hAs hzz
            obtain ⟨i, Ai, bI, a4, c4, a5, c5, hi, rfl, rfl, rfl, rfl, hTw, hAs, hst, hfo, z, rfl⟩ := hrel
            have hzz := z.bel.size
            have hle3 := hAs.le
            by_cases hlt : i < Ai.length
            · have hi1 : (i : Int) < (Ai.length : Int) := by omega
              have hrr : Row z.w a4 (strCells (restsL Ai)) := Row.of_own hTw.r
              have htt : Row z.w a5 (strCells (textsL Ai)) := Row.of_own hTw.t
              obtain ⟨b1, o1, e4, hb1, q1⟩ := hrr.str (O := restsL Ai) (k := i) (by simpa using hlt)
              obtain ⟨b2, o2, e5, hb2, q2⟩ := htt.str (O := textsL Ai) (k := i) (by simpa using hlt)
              simp only [List.getElem_map] at q1 q2
              subst e4 e5
              have hfi := hAs.nd.at_ hlt
              have hdi := hst.good.sound _ _ hfi
              have htl := hst.good.bound _ _ hfi
              have hrl := ends_el (M := 4) (fun r h => hel.out r h) _ (der_ends hdi)
              have htl2 := cntF_le (ends rs) (asF Ai)
              have hxb := hfo
              obtain ⟨rx, hrx⟩ : ∃ x, Ai[i].1 = x := ⟨_, rfl⟩
              obtain ⟨tx, htx'⟩ : ∃ x, Ai[i].2 = x := ⟨_, rfl⟩
              rw [hrx] at q1 hdi hrl
              rw [htx'] at q2 hdi htl
              rw [length_kb] at htl hrl
              have htx6 : tx.size ≤ 600 := by omega
              have hA0 := Lib.hid (show bI = false → Ai = A0 from fun hb => (hfo hb).1)
              have hxe := Lib.hid (show bI = false → ∀ (h : i < A0.length), (A0[i].2, A0[i].1) = (tx, rx) from fun hb h => by
                have e := (hfo hb).1
                subst e
                rw [hrx, htx'])
              replace hTw := Lib.hid hTw
              replace hAs := Lib.hid hAs
              replace hst := Lib.hid hst
              replace hfo := Lib.hid hfo
              replace hdi := Lib.hid hdi
              replace htl := Lib.hid htl
              rw [hEe.out] at htl
              clear hrr htt hfi hrx htx' htl2 hxb
              go_wp2_with fail
              refine wp_region_later (by kernel_rfl) (by kernel_rfl) ?_
              repeat (go_big_quiet_step (fail))
              refine wpQuiet_nil ?_
              rintro _ ⟨xq, rfl⟩
              go_wp2_with fail
              go_loopw [4, 5, 10, 14] (fun r4 r5 ch jv wr => ∃ (j : Nat) (A : List BB) (b : Bool) (a4 : Option Addr) (c4 : Nat) (a5 : Option Addr) (c5 : Nat), j ≤ T.length ∧ r4 = .slice a4 A.length c4 ∧ r5 = .slice a5 A.length c5 ∧ ch = .bool b ∧ jv = .int .i64 j ∧ TwoR wr w.heap.size A a4 c4 a5 c5 ∧ AsOk E A ∧ StF rs (asF A0) (asF A) b ∧ cntF E (asF Ai) ≤ cntF E (asF A) ∧ Ai.length ≤ A.length ∧ (b = false → (A = A0 ∧ bI = false) ∧ (∀ jj (hj : jj < A0.length), jj < i → ∀ r ∈ rs, Fo (asF A0) (A0[jj].2, A0[jj].1) r) ∧ ∀ t (ht : t < T.length), t < j → Fo (asF A0) (tx, rx) (kb T[t].rom)) ∧ ∃ z : Later w, wr = z.w) (fun _ _ _ jv _ => T.length - (intOf jv).toNat)
              case atStart => exact ⟨0, Ai, bI, _, c4, _, c5, Nat.zero_le _, rfl, rfl, rfl, rfl, hTw.out.bel (by (repeat (first | (with_reducible exact Below.refl _ _) | (with_reducible assumption) | (with_reducible refine Later.out _ ?_) | (with_reducible refine bel_alloc ?_ _) | (with_reducible refine bel_drew ?_) | (with_reducible refine bel_drewN ?_ _) | (with_reducible refine bel_set ?_ ?_ _) | (with_reducible refine After.out _ ?_ ?_) | (dsimp only; omega) | omega | (simp only [World.size_alloc, World.size_setCell, World.size_drew]; omega)))), hAs.out, hst.out, Nat.le_refl _, Nat.le_refl _, fun hb => ⟨⟨(hfo.out hb).1, hb⟩, (hfo.out hb).2, fun t _ h => absurd h (by omega)⟩, LaterC.mk (by (repeat (first | (with_reducible exact Below.refl _ _) | (with_reducible assumption) | (with_reducible refine Later.out _ ?_) | (with_reducible refine bel_alloc ?_ _) | (with_reducible refine bel_drew ?_) | (with_reducible refine bel_drewN ?_ _) | (with_reducible refine bel_set ?_ ?_ _) | (with_reducible refine After.out _ ?_ ?_) | (dsimp only; omega) | omega | (simp only [World.size_alloc, World.size_setCell, World.size_drew]; omega))))⟩
              case round =>
                clear hTw hAs hzz hst hfo q1 q2 hb1 hb2
                obtain ⟨j, A, b2, a4, c4, a5, c5, hj, rfl, rfl, rfl, rfl, hTw, hAs, hst, hmo, hml, hfo, z, rfl⟩ := hrel
                have hzz := z.bel.size
                have hemp := isEmpty_size rx
                replace hTw := Lib.hid hTw
                by_cases hgo : j < T.length ∧ kb rx ≠ []
                · obtain ⟨hltj, hr0⟩ := hgo
                  have hj1 : (j : Int) < (T.length : Int) := by omega
                  have hpos : 0 < rx.size := by
                    rcases Nat.eq_zero_or_pos rx.size with h | h
                    · exact absurd (List.eq_nil_of_length_eq_zero (by rw [length_kb]; exact h)) hr0
                    · exact h
                  rw [show (!decide (0 < rx.size)) = false by simp [hpos]] at hemp
                  obtain ⟨b', o', ak, ck, rfl, hb', s0, s1, s2, s3, s4⟩ := hr.out.at_ hltj
                  have hszj := hsz.out j hltj
                  have hmj := hmem.out j hltj
                  clear s0 s2 s3 s4
                  have hnext : b2 = false → Fo (asF A0) (tx, rx) (kb T[j].rom) → (∀ jj (hj : jj < A0.length), jj < i → ∀ r ∈ rs, Fo (asF A0) (A0[jj].2, A0[jj].1) r) ∧ ∀ t (ht : t < T.length), t < j + 1 → Fo (asF A0) (tx, rx) (kb T[t].rom) := fun hb h => by
                    obtain ⟨_, h1, h2⟩ := hfo hb
                    refine ⟨h1, fun t ht htj => ?_⟩
                    rcases Nat.lt_or_ge t j with h3 | h3
                    · exact h2 t ht h3
                    · obtain rfl : t = j := by omega
                      exact h
                  rcases followS_cases tx rx T[j].rom with ⟨hp, hfk, hdk⟩ | ⟨hp, hlt2, hp2, hfk, hdk⟩ | ⟨hp, hp2, hfk⟩
                  · have hle6 := prefB_le hp
                    have hle7 : (T[j].rom.size : Int) ≤ (rx.size : Int) := by omega
                    have hv := prefB_val hle6
                    rw [hp] at hv
                    have hxs : (rx.extract T[j].rom.size rx.size).size ≤ 4 := by rw [ByteArray.size_extract]; omega
                    clear hp
                    have hd2 := hdk rs hdi.out hr0 hmj
                    have hkn := hfk (asF A0)
                    have hxE : kb (rx.extract T[j].rom.size rx.size) ∈ E := hEe.out ▸ der_ends hd2
                    have hle5 := hAs.le
                    have hs2 := hst.learn' hE hd2 (by rw [hEe.out]; have := htl.out; rw [length_kb]; omega)
                    obtain ⟨nw, hnw⟩ : ∃ nw, newF (asF A) (kb (rx.extract T[j].rom.size rx.size)) (kb (tx)) = nw := ⟨_, rfl⟩
                    have CL1 := fun w' (h1 : Below w.heap.size w w') (h2 : TwoR w' w.heap.size A a4 c4 a5 c5) => CL.out A (rx.extract T[j].rom.size rx.size) (tx) a4 a5 c4 c5 w' h1 h2 hAs.nd (by omega) (by omega) (fun p hp => Nat.le_trans (htx.out A hAs hst.good p hp) (by omega)) nw hnw
                    have X := Lib.hid (fun (A' : List BB) (h : LrnA A (rx.extract T[j].rom.size rx.size) (tx) A') => show AsOk E A' ∧ StF rs (asF A0) (asF A') (b2 || newF (asF A) (kb (rx.extract T[j].rom.size rx.size)) (kb (tx))) ∧ cntF E (asF Ai) ≤ cntF E (asF A') ∧ Ai.length ≤ A'.length ∧ ((b2 || newF (asF A) (kb (rx.extract T[j].rom.size rx.size)) (kb (tx))) = false → (A' = A0 ∧ bI = false) ∧ (∀ jj (hj : jj < A0.length), jj < i → ∀ r ∈ rs, Fo (asF A0) (A0[jj].2, A0[jj].1) r) ∧ ∀ t (ht : t < T.length), t < j + 1 → Fo (asF A0) (tx, rx) (kb T[t].rom)) from ⟨hAs.learn h hxE, by rw [h.f]; exact hs2, by rw [h.f]; exact Nat.le_trans hmo cntF_learn, Nat.le_trans hml h.len, fun hb => by
                      rw [Bool.or_eq_false_iff] at hb
                      have h1 := (hfo hb.1).1.1
                      have h2 := h.no hb.2
                      refine ⟨⟨h2.trans h1, (hfo hb.1).1.2⟩, hnext hb.1 fun _ => hkn ?_⟩
                      have h3 := knows_no hb.2
                      rw [h1] at h3
                      exact h3⟩)
                    rw [hnw] at X
                    replace CL1 := Lib.hid CL1
                    replace hr0 := Lib.hid hr0
                    clear hnext hfo hfk hdk hkn hd2 hxE hs2 hst hAs hmo hml hnw
                    cases b2
                    · go_wp2_with (go_at_call 77; (with_reducible refine (CL1.out _ (by (repeat (first | (with_reducible exact Below.refl _ _) | (with_reducible assumption) | (with_reducible refine Later.out _ ?_) | (with_reducible refine bel_alloc ?_ _) | (with_reducible refine bel_drew ?_) | (with_reducible refine bel_drewN ?_ _) | (with_reducible refine bel_set ?_ ?_ _) | (with_reducible refine After.out _ ?_ ?_) | (dsimp only; omega) | omega | (simp only [World.size_alloc, World.size_setCell, World.size_drew]; omega)))) (hTw.out.bel (by (repeat (first | (with_reducible exact Below.refl _ _) | (with_reducible assumption) | (with_reducible refine Later.out _ ?_) | (with_reducible refine bel_alloc ?_ _) | (with_reducible refine bel_drew ?_) | (with_reducible refine bel_drewN ?_ _) | (with_reducible refine bel_set ?_ ?_ _) | (with_reducible refine After.out _ ?_ ?_) | (dsimp only; omega) | omega | (simp only [World.size_alloc, World.size_setCell, World.size_drew]; omega)))))).mono ?_); rintro e w' ⟨A', a6, c6, a7, c7, rfl, hL', hTw', z', rfl⟩; have hsz' := z'.bel.size; replace hL' := Lib.hid hL'; replace hTw' := Lib.hid hTw')
                      go_roundw
                      case rel =>
                        obtain ⟨x1, x2, x3, x4, x5⟩ := X.out _ hL'.out
                        exact ⟨j + 1, A', false || nw, a6, c6, a7, c7, by omega, rfl, rfl, rfl, by go_num, hTw'.out, x1, x2, x3, x4, x5, z', rfl⟩
                      case measure => first | (simp [intOf]; done) | (simp [intOf]; omega) | omega
                    · go_wp2_with (go_at_call 77; (with_reducible refine (CL1.out _ (by (repeat (first | (with_reducible exact Below.refl _ _) | (with_reducible assumption) | (with_reducible refine Later.out _ ?_) | (with_reducible refine bel_alloc ?_ _) | (with_reducible refine bel_drew ?_) | (with_reducible refine bel_drewN ?_ _) | (with_reducible refine bel_set ?_ ?_ _) | (with_reducible refine After.out _ ?_ ?_) | (dsimp only; omega) | omega | (simp only [World.size_alloc, World.size_setCell, World.size_drew]; omega)))) (hTw.out.bel (by (repeat (first | (with_reducible exact Below.refl _ _) | (with_reducible assumption) | (with_reducible refine Later.out _ ?_) | (with_reducible refine bel_alloc ?_ _) | (with_reducible refine bel_drew ?_) | (with_reducible refine bel_drewN ?_ _) | (with_reducible refine bel_set ?_ ?_ _) | (with_reducible refine After.out _ ?_ ?_) | (dsimp only; omega) | omega | (simp only [World.size_alloc, World.size_setCell, World.size_drew]; omega)))))).mono ?_); rintro e w' ⟨A', a6, c6, a7, c7, rfl, hL', hTw', z', rfl⟩; have hsz' := z'.bel.size; replace hL' := Lib.hid hL'; replace hTw' := Lib.hid hTw')
                      go_roundw
                      case rel =>
                        obtain ⟨x1, x2, x3, x4, x5⟩ := X.out _ hL'.out
                        exact ⟨j + 1, A', true || nw, a6, c6, a7, c7, by omega, rfl, rfl, rfl, by go_num, hTw'.out, x1, x2, x3, x4, x5, z', rfl⟩
                      case measure => first | (simp [intOf]; done) | (simp [intOf]; omega) | omega
                  · have hle7 : (T[j].rom.size : Int) > (rx.size : Int) := by omega
                    have hle8 : ¬ (T[j].rom.size : Int) ≤ (rx.size : Int) := by omega
                    have hle9 : (rx.size : Int) < (T[j].rom.size : Int) := by omega
                    have hv := prefB_val (Nat.le_of_lt hlt2)
                    rw [hp2] at hv
                    have hxs : (T[j].rom.extract rx.size T[j].rom.size).size ≤ 4 := by rw [ByteArray.size_extract]; omega
                    clear hp hp2
                    have hd2 := hdk rs hdi.out hr0 hmj
                    have hkn := hfk (asF A0)
                    have hxE : kb (T[j].rom.extract rx.size T[j].rom.size) ∈ E := hEe.out ▸ der_ends hd2
                    have hle5 := hAs.le
                    have hs2 := hst.learn' hE hd2 (by rw [hEe.out]; have := htl.out; rw [length_kb, ByteArray.size_append]; omega)
                    obtain ⟨nw, hnw⟩ : ∃ nw, newF (asF A) (kb (T[j].rom.extract rx.size T[j].rom.size)) (kb (tx ++ T[j].rom.extract rx.size T[j].rom.size)) = nw := ⟨_, rfl⟩
                    have CL1 := fun w' (h1 : Below w.heap.size w w') (h2 : TwoR w' w.heap.size A a4 c4 a5 c5) => CL.out A (T[j].rom.extract rx.size T[j].rom.size) (tx ++ T[j].rom.extract rx.size T[j].rom.size) a4 a5 c4 c5 w' h1 h2 hAs.nd (by omega) (by rw [ByteArray.size_append, ByteArray.size_extract]; omega) (fun p hp => Nat.le_trans (htx.out A hAs hst.good p hp) (by omega)) nw hnw
                    have X := Lib.hid (fun (A' : List BB) (h : LrnA A (T[j].rom.extract rx.size T[j].rom.size) (tx ++ T[j].rom.extract rx.size T[j].rom.size) A') => show AsOk E A' ∧ StF rs (asF A0) (asF A') (b2 || newF (asF A) (kb (T[j].rom.extract rx.size T[j].rom.size)) (kb (tx ++ T[j].rom.extract rx.size T[j].rom.size))) ∧ cntF E (asF Ai) ≤ cntF E (asF A') ∧ Ai.length ≤ A'.length ∧ ((b2 || newF (asF A) (kb (T[j].rom.extract rx.size T[j].rom.size)) (kb (tx ++ T[j].rom.extract rx.size T[j].rom.size))) = false → (A' = A0 ∧ bI = false) ∧ (∀ jj (hj : jj < A0.length), jj < i → ∀ r ∈ rs, Fo (asF A0) (A0[jj].2, A0[jj].1) r) ∧ ∀ t (ht : t < T.length), t < j + 1 → Fo (asF A0) (tx, rx) (kb T[t].rom)) from ⟨hAs.learn h hxE, by rw [h.f]; exact hs2, by rw [h.f]; exact Nat.le_trans hmo cntF_learn, Nat.le_trans hml h.len, fun hb => by
                      rw [Bool.or_eq_false_iff] at hb
                      have h1 := (hfo hb.1).1.1
                      have h2 := h.no hb.2
                      refine ⟨⟨h2.trans h1, (hfo hb.1).1.2⟩, hnext hb.1 fun _ => hkn ?_⟩
                      have h3 := knows_no hb.2
                      rw [h1] at h3
                      exact h3⟩)
                    rw [hnw] at X
                    replace CL1 := Lib.hid CL1
                    replace hr0 := Lib.hid hr0
                    clear hnext hfo hfk hdk hkn hd2 hxE hs2 hst hAs hmo hml hnw
                    have hov : tx.size + (T[j].rom.extract rx.size T[j].rom.size).size ≤ 9223372036854775807 := by rw [ByteArray.size_extract]; omega
                    have hov2 : tx.size + (T[j].rom.extract rx.size T[j].rom.size).size < 9223372036854775808 := by rw [ByteArray.size_extract]; omega
                    go_wp2_with fail
                    refine wp_region_plan2 [(0, true), (1, true), (2, true), (3, true), (4, true), (5, true), (6, true), (7, true), (8, true), (9, true), (10, true), (11, true), (12, false), (13, true), (14, true), (15, true), (16, true), (17, true), (18, true), (19, true)] (C := LaterC (w)) (by kernel_rfl) (by kernel_rfl) (by kernel_rfl) rfl (fun _ _ d _ _ h => by cases d <;> exact h) (LaterC.mk ((by (repeat (first | (with_reducible exact Below.refl _ _) | (with_reducible assumption) | (with_reducible refine Later.out _ ?_) | (with_reducible refine bel_alloc ?_ _) | (with_reducible refine bel_drew ?_) | (with_reducible refine bel_drewN ?_ _) | (with_reducible refine bel_set ?_ ?_ _) | (with_reducible refine After.out _ ?_ ?_) | (dsimp only; omega) | omega | (simp only [World.size_alloc, World.size_setCell, World.size_drew]; omega)))))) ?_
                    first | (refine plan_quiet nth0 rfl ?_; intro KP hKP; go_big_quiet_op; go_big_quiet_on) | (refine plan_skip_q nth0 rfl rfl ?_; simp only [Act.put, List.setIfInBounds_toArray, List.set_cons_zero, List.set_cons_succ])
                    first | (refine plan_quiet nth1 rfl ?_; intro KP hKP; go_big_quiet_op; go_big_quiet_on) | (refine plan_skip_q nth1 rfl rfl ?_; simp only [Act.put, List.setIfInBounds_toArray, List.set_cons_zero, List.set_cons_succ])
                    first | (refine plan_quiet nth2 rfl ?_; intro KP hKP; go_big_quiet_op; go_big_quiet_on) | (refine plan_skip_q nth2 rfl rfl ?_; simp only [Act.put, List.setIfInBounds_toArray, List.set_cons_zero, List.set_cons_succ])
                    first | (refine plan_quiet nth3 rfl ?_; intro KP hKP; go_big_quiet_op; go_big_quiet_on) | (refine plan_skip_q nth3 rfl rfl ?_; simp only [Act.put, List.setIfInBounds_toArray, List.set_cons_zero, List.set_cons_succ])
                    first | (refine plan_quiet nth4 rfl ?_; intro KP hKP; go_big_quiet_op; go_big_quiet_on) | (refine plan_skip_q nth4 rfl rfl ?_; simp only [Act.put, List.setIfInBounds_toArray, List.set_cons_zero, List.set_cons_succ])
                    first | (refine plan_quiet nth5 rfl ?_; intro KP hKP; go_big_quiet_op; go_big_quiet_on) | (refine plan_skip_q nth5 rfl rfl ?_; simp only [Act.put, List.setIfInBounds_toArray, List.set_cons_zero, List.set_cons_succ])
                    first | (refine plan_quiet nth6 rfl ?_; intro KP hKP; go_big_quiet_op; go_big_quiet_on) | (refine plan_skip_q nth6 rfl rfl ?_; simp only [Act.put, List.setIfInBounds_toArray, List.set_cons_zero, List.set_cons_succ])
                    first | (refine plan_quiet nth7 rfl ?_; intro KP hKP; go_big_quiet_op; go_big_quiet_on) | (refine plan_skip_q nth7 rfl rfl ?_; simp only [Act.put, List.setIfInBounds_toArray, List.set_cons_zero, List.set_cons_succ])
                    first | (refine plan_quiet nth8 rfl ?_; intro KP hKP; go_big_quiet_op; go_big_quiet_on) | (refine plan_skip_q nth8 rfl rfl ?_; simp only [Act.put, List.setIfInBounds_toArray, List.set_cons_zero, List.set_cons_succ])
                    first | (refine plan_quiet nth9 rfl ?_; intro KP hKP; go_big_quiet_op; go_big_quiet_on) | (refine plan_skip_q nth9 rfl rfl ?_; simp only [Act.put, List.setIfInBounds_toArray, List.set_cons_zero, List.set_cons_succ])
                    first | (refine plan_quiet nth10 rfl ?_; intro KP hKP; go_big_quiet_op; go_big_quiet_on) | (refine plan_skip_q nth10 rfl rfl ?_; simp only [Act.put, List.setIfInBounds_toArray, List.set_cons_zero, List.set_cons_succ])
                    first | (refine plan_quiet nth11 rfl ?_; intro KP hKP; go_big_quiet_op; go_big_quiet_on) | (refine plan_skip_q nth11 rfl rfl ?_; simp only [Act.put, List.setIfInBounds_toArray, List.set_cons_zero, List.set_cons_succ])
                    first | (refine plan_loud nth12 rfl ?_; intro KP hKP; go_wp2_with (first | (go_at_call 77; (with_reducible refine (CL1.out _ (by (repeat (first | (with_reducible exact Below.refl _ _) | (with_reducible assumption) | (with_reducible refine Later.out _ ?_) | (with_reducible refine bel_alloc ?_ _) | (with_reducible refine bel_drew ?_) | (with_reducible refine bel_drewN ?_ _) | (with_reducible refine bel_set ?_ ?_ _) | (with_reducible refine After.out _ ?_ ?_) | (dsimp only; omega) | omega | (simp only [World.size_alloc, World.size_setCell, World.size_drew]; omega)))) (hTw.out.bel (by (repeat (first | (with_reducible exact Below.refl _ _) | (with_reducible assumption) | (with_reducible refine Later.out _ ?_) | (with_reducible refine bel_alloc ?_ _) | (with_reducible refine bel_drew ?_) | (with_reducible refine bel_drewN ?_ _) | (with_reducible refine bel_set ?_ ?_ _) | (with_reducible refine After.out _ ?_ ?_) | (dsimp only; omega) | omega | (simp only [World.size_alloc, World.size_setCell, World.size_drew]; omega)))))).mono ?_); rintro e w' ⟨A', a6, c6, a7, c7, rfl, hL', hTw', z', rfl⟩; have hsz' := z'.bel.size; replace hL' := Lib.hid hL'; replace hTw' := Lib.hid hTw'; have hbz' := z'.bel)); refine hKP _ _ (LaterC.mk (by (repeat (first | (with_reducible exact Below.refl _ _) | (with_reducible assumption) | (with_reducible refine Later.out _ ?_) | (with_reducible refine bel_alloc ?_ _) | (with_reducible refine bel_drew ?_) | (with_reducible refine bel_drewN ?_ _) | (with_reducible refine bel_set ?_ ?_ _) | (with_reducible refine After.out _ ?_ ?_) | (dsimp only; omega) | omega | (simp only [World.size_alloc, World.size_setCell, World.size_drew]; omega))))) ?_; clear hKP KP) | (refine plan_skip nth12 rfl rfl (LaterC.mk (by (repeat (first | (with_reducible exact Below.refl _ _) | (with_reducible assumption) | (with_reducible refine Later.out _ ?_) | (with_reducible refine bel_alloc ?_ _) | (with_reducible refine bel_drew ?_) | (with_reducible refine bel_drewN ?_ _) | (with_reducible refine bel_set ?_ ?_ _) | (with_reducible refine After.out _ ?_ ?_) | (dsimp only; omega) | omega | (simp only [World.size_alloc, World.size_setCell, World.size_drew]; omega))))) ?_; simp only [Act.put, List.setIfInBounds_toArray, List.set_cons_zero, List.set_cons_succ])
                    first | (refine plan_quiet nth13 rfl ?_; intro KP hKP; go_big_quiet_op; go_big_quiet_on) | (refine plan_skip_q nth13 rfl rfl ?_; simp only [Act.put, List.setIfInBounds_toArray, List.set_cons_zero, List.set_cons_succ])
                    first | (refine plan_quiet nth14 rfl ?_; intro KP hKP; go_big_quiet_op; go_big_quiet_on) | (refine plan_skip_q nth14 rfl rfl ?_; simp only [Act.put, List.setIfInBounds_toArray, List.set_cons_zero, List.set_cons_succ])
                    first | (refine plan_quiet nth15 rfl ?_; intro KP hKP; go_big_quiet_op; go_big_quiet_on) | (refine plan_skip_q nth15 rfl rfl ?_; simp only [Act.put, List.setIfInBounds_toArray, List.set_cons_zero, List.set_cons_succ])
                    first | (refine plan_quiet nth16 rfl ?_; intro KP hKP; go_big_quiet_op; go_big_quiet_on) | (refine plan_skip_q nth16 rfl rfl ?_; simp only [Act.put, List.setIfInBounds_toArray, List.set_cons_zero, List.set_cons_succ])
                    first | (refine plan_quiet nth17 rfl ?_; intro KP hKP; go_big_quiet_op; go_big_quiet_on) | (refine plan_skip_q nth17 rfl rfl ?_; simp only [Act.put, List.setIfInBounds_toArray, List.set_cons_zero, List.set_cons_succ])
                    first | (refine plan_quiet nth18 rfl ?_; intro KP hKP; go_big_quiet_op; go_big_quiet_on) | (refine plan_skip_q nth18 rfl rfl ?_; simp only [Act.put, List.setIfInBounds_toArray, List.set_cons_zero, List.set_cons_succ])
                    first | (refine plan_quiet nth19 rfl ?_; intro KP hKP; go_big_quiet_op; go_big_quiet_on) | (refine plan_skip_q nth19 rfl rfl ?_; simp only [Act.put, List.setIfInBounds_toArray, List.set_cons_zero, List.set_cons_succ])
                    refine plan_nil ?_
                    cases b2
                    · go_wp2_with fail
                      go_roundw
                      case rel =>
                        obtain ⟨x1, x2, x3, x4, x5⟩ := X.out _ hL'.out
                        exact ⟨j + 1, A', false || nw, a6, c6, a7, c7, by omega, rfl, rfl, rfl, by go_num, hTw'.out, x1, x2, x3, x4, x5, z', rfl⟩
                      case measure => first | (simp [intOf]; done) | (simp [intOf]; omega) | omega
                    · go_wp2_with fail
                      go_roundw
                      case rel =>
                        obtain ⟨x1, x2, x3, x4, x5⟩ := X.out _ hL'.out
                        exact ⟨j + 1, A', true || nw, a6, c6, a7, c7, by omega, rfl, rfl, rfl, by go_num, hTw'.out, x1, x2, x3, x4, x5, z', rfl⟩
                      case measure => first | (simp [intOf]; done) | (simp [intOf]; omega) | omega
                  · by_cases hle6 : T[j].rom.size ≤ rx.size
                    · have hle7 : (T[j].rom.size : Int) ≤ (rx.size : Int) := by omega
                      have hle8 : ¬ (rx.size : Int) < (T[j].rom.size : Int) := by omega
                      have hv := prefB_val hle6
                      rw [hp] at hv
                      clear hp hp2
                      have X := Lib.hid (show b2 = false → (A = A0 ∧ bI = false) ∧ (∀ jj (hj : jj < A0.length), jj < i → ∀ r ∈ rs, Fo (asF A0) (A0[jj].2, A0[jj].1) r) ∧ ∀ t (ht : t < T.length), t < j + 1 → Fo (asF A0) (tx, rx) (kb T[t].rom) from fun hb => ⟨(hfo hb).1, hnext hb fun _ => hfk (asF A0)⟩)
                      replace hst := Lib.hid hst
                      replace hAs := Lib.hid hAs
                      replace hmo := Lib.hid hmo
                      clear hnext hfo hfk
                      cases b2
                      · go_wp2_with fail
                        go_roundw
                        case rel => exact ⟨j + 1, A, false, a4, c4, a5, c5, by omega, rfl, rfl, rfl, by go_num, hTw.out, hAs.out, hst.out, hmo.out, hml, X.out, z, rfl⟩
                        case measure => first | (simp [intOf]; done) | (simp [intOf]; omega) | omega
                      · go_wp2_with fail
                        go_roundw
                        case rel => exact ⟨j + 1, A, true, a4, c4, a5, c5, by omega, rfl, rfl, rfl, by go_num, hTw.out, hAs.out, hst.out, hmo.out, hml, X.out, z, rfl⟩
                        case measure => first | (simp [intOf]; done) | (simp [intOf]; omega) | omega
                    · have hle7 : ¬ (T[j].rom.size : Int) ≤ (rx.size : Int) := by omega
                      have hle8 : (rx.size : Int) < (T[j].rom.size : Int) := by omega
                      have hv := prefB_val (show rx.size ≤ T[j].rom.size by omega)
                      rw [show prefB T[j].rom rx = false by cases h : prefB T[j].rom rx; rfl; exact absurd ⟨by omega, h⟩ hp2] at hv
                      clear hp hp2
                      have X := Lib.hid (show b2 = false → (A = A0 ∧ bI = false) ∧ (∀ jj (hj : jj < A0.length), jj < i → ∀ r ∈ rs, Fo (asF A0) (A0[jj].2, A0[jj].1) r) ∧ ∀ t (ht : t < T.length), t < j + 1 → Fo (asF A0) (tx, rx) (kb T[t].rom) from fun hb => ⟨(hfo hb).1, hnext hb fun _ => hfk (asF A0)⟩)
                      replace hst := Lib.hid hst
                      replace hAs := Lib.hid hAs
                      replace hmo := Lib.hid hmo
                      clear hnext hfo hfk
                      cases b2
                      · go_wp2_with fail
                        go_roundw
                        case rel => exact ⟨j + 1, A, false, a4, c4, a5, c5, by omega, rfl, rfl, rfl, by go_num, hTw.out, hAs.out, hst.out, hmo.out, hml, X.out, z, rfl⟩
                        case measure => first | (simp [intOf]; done) | (simp [intOf]; omega) | omega
                      · go_wp2_with fail
                        go_roundw
                        case rel => exact ⟨j + 1, A, true, a4, c4, a5, c5, by omega, rfl, rfl, rfl, by go_num, hTw.out, hAs.out, hst.out, hmo.out, hml, X.out, z, rfl⟩
                        case measure => first | (simp [intOf]; done) | (simp [intOf]; omega) | omega
                · have X := Lib.hid (show b2 = false → A = A0 ∧ ∀ jj (hj : jj < A0.length), jj < i + 1 → ∀ r ∈ rs, Fo (asF A0) (A0[jj].2, A0[jj].1) r from fun hb => by
                    obtain ⟨⟨h0, hb0⟩, h1, h2⟩ := hfo hb
                    refine ⟨h0, fun jj hj hjj r hr => ?_⟩
                    rcases Nat.lt_or_ge jj i with h3 | h3
                    · exact h1 jj hj h3 r hr
                    · obtain rfl : jj = i := by omega
                      obtain ⟨t, ht, rfl⟩ := hrsm.out r hr
                      rw [hxe.out hb0 hj]
                      intro hne
                      have hne2 : kb rx ≠ [] := hne
                      exact h2 t ht (by
                        have : ¬ j < T.length := fun h => hgo ⟨h, hne2⟩
                        omega) hne)
                  have hle5 := hAs.le
                  have hi2 : i + 1 ≤ A.length := by omega
                  have hmeas : E.length - (i + 1) < E.length - i := by omega
                  replace hst := Lib.hid hst
                  replace hAs := Lib.hid hAs
                  replace hmo := Lib.hid hmo
                  clear hfo
                  by_cases hltj : j < T.length
                  · have hr0 : kb rx = [] := by
                      rcases Decidable.em (kb rx = []) with h | h
                      · exact h
                      · exact absurd ⟨hltj, h⟩ hgo
                    have hj1 : (j : Int) < (T.length : Int) := by omega
                    have hl0 := congrArg List.length hr0
                    rw [length_kb] at hl0
                    simp only [List.length_nil] at hl0
                    rw [show (!decide (0 < rx.size)) = true by simp [hl0]] at hemp
                    replace hr0 := Lib.hid hr0
                    replace hl0 := Lib.hid hl0
                    clear hgo
                    go_wp2_with fail
                    go_roundw
                    case rel => exact ⟨i + 1, A, b2, a4, c4, a5, c5, hi2, rfl, rfl, rfl, by go_num, hTw.out, hAs.out, hst.out, X.out, z, rfl⟩
                    case measure => simpa [intOf] using hmeas
                  · obtain rfl : j = T.length := by omega
                    clear hgo hemp
                    go_wp2_with fail
                    go_roundw
                    case rel => exact ⟨i + 1, A, b2, a4, c4, a5, c5, hi2, rfl, rfl, rfl, by go_num, hTw.out, hAs.out, hst.out, X.out, z, rfl⟩
                    case measure => simpa [intOf] using hmeas
            · obtain rfl : i = Ai.length := by omega
              have hcl : bI = false → ClosedF rs (asF Ai) := fun hb => by
                obtain ⟨h1, h2⟩ := hfo hb
                subst h1
                refine closed_of hst.init fun u t hf hu r hr => ?_
                obtain ⟨p, hp, hp1, hp2⟩ := asF_mem hf
                obtain ⟨jj, hjj, hxe⟩ := List.mem_iff_getElem.1 hp
                have h3 := h2 jj hjj hjj r hr
                unfold Fo at h3
                dsimp only at h3
                rw [hxe, hp1, hp2] at h3
                exact h3 hu
              have hme : 2 * goF (ends rs) 700 (asF Ai) + (if bI then 1 else 0) < gO := by
                cases hb : bI
                · rw [hst.no hb]
                  simp
                  omega
                · have := hst.yes hb
                  simp
                  omega
              replace hcl := Lib.hid hcl
              replace hme := Lib.hid hme
              replace hTw := Lib.hid hTw
              replace hst := Lib.hid hst
              replace hAs := Lib.hid hAs
              clear hfo
              go_wp2_with fail
              go_roundg (2 * goF (ends rs) 700 (asF Ai) + (if bI then 1 else 0))
              case measure => exact hgO.out ▸ hme.out
              case rel => exact ⟨Ai, bI, a4, c4, a5, c5, rfl, rfl, rfl, Nat.le_refl _, hTw.out, hAs.out, hst.out.good, hst.out.init, hcl.out, z, rfl⟩
end Go.Proofs.YtemfhcmeeldngaaGreatDoor
