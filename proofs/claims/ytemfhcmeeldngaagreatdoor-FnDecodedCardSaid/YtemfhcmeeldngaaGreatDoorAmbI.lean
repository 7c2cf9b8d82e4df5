import Derived.Test.YtemfhcmeeldngaaGreatDoorPackPc
import Derived.Test.YtemfhcmeeldngaaGreatDoorPackPa
/- The first text with two parsings: the program's search. -/
set_option linter.unusedSimpArgs false
set_option linter.unusedVariables false
namespace Go.Proofs.YtemfhcmeeldngaaGreatDoor
open Go.RowKit
set_option maxRecDepth 20000 in
set_option maxHeartbeats 8000000 in
theorem ambiguous_any (T : List Rul) (a : Option Addr) (n c : Nat) (w : World) (hn : T.length = n) (hT : tableB T = true) (hr : RulesR w a T) :
    Calls Tryz.prog 44 #[.slice a n c] w (Ret w (lookV (ambO T))) := by
  subst hn
  have hlen := tableB_len hT
  have hE := roms_len hT
  have hsz := Lib.hid (fun i (h : i < T.length) => (ruleB_sizes (tableB_rule hT h)).2.2)
  have hel := Lib.hid (fun r (h : r ∈ roms T) => roms_el hT h)
  have hA := Lib.hid (fun f hs hc => ambO_eq (T := T) (f := f) hs hc)
  have hget := Lib.hid (fun i (h : i < T.length) => roms_get h)
  have hmem := Lib.hid (fun i (h : i < T.length) => roms_mem h)
  have hrsm := Lib.hid (fun r (h : r ∈ roms T) => show ∃ t, ∃ ht : t < T.length, r = kb T[t].rom by
    obtain ⟨t, ht, rfl⟩ := List.mem_iff_getElem.1 h
    exact ⟨t, by simpa [roms] using ht, by simp [roms]⟩)
  have hlr := length_roms T
  obtain ⟨rs, hrs⟩ : ∃ rs, roms T = rs := ⟨_, rfl⟩
  simp only [hrs] at hE hel hA hget hmem hrsm hlr
  obtain ⟨O, hO⟩ : ∃ O, ambO T = O := ⟨_, rfl⟩
  simp only [hO] at hA ⊢
  obtain ⟨E, hEe⟩ : ∃ E, ends rs = E := ⟨_, rfl⟩
  have hE' := hE
  rw [hEe] at hE'
  have CI := Lib.hid (fun (f : Tx → Option Tx) (text rest : ByteArray) (w' : World) (h : SMap w' w.heap.size E f) (hr : kb rest ∈ E) (ht : text.size ≤ 1048576) (hs : rest.size ≤ 1048576) (ho : ∀ t, f (kb rest) = some t → t.length ≤ 1048576) => improve_any w.heap.size E f text rest w' h hr (by omega) ht hs ho)
  have CP := Lib.hid (fun (s p : ByteArray) (w : World) (h : s.size ≤ 4) (h2 : p.size ≤ 4) => hasPrefix_any s p w (by omega) (by omega))
  have HM := Lib.hid (SMap.made w E)
  have hmm := @run_makeMap Tryz.prog
  replace hr := Lib.hid hr
  replace hEe := Lib.hid hEe
  clear hrs hO hT
  go_enter Tryz.func44, Tryz.ntmps44
  go_wp2_with fail
  clear hmm
  go_loopw [24] (fun iv wr => ∃ i : Nat, i ≤ T.length ∧ iv = .int .i64 i ∧ (∃ f, SMap wr w.heap.size E f ∧ GoodF rs f ∧ InitTo rs f i 0) ∧ ∃ z : Later w, wr = z.w) (fun iv _ => T.length - (intOf iv).toNat)
  case atStart => exact ⟨0, Nat.zero_le _, rfl, ⟨_, HM.out, GoodF.empty rs, InitTo.start rs _⟩, LaterC.mk (by (repeat (first | (with_reducible exact Below.refl _ _) | (with_reducible assumption) | (with_reducible refine Later.out _ ?_) | (with_reducible refine bel_alloc ?_ _) | (with_reducible refine bel_drew ?_) | (with_reducible refine bel_drewN ?_ _) | (with_reducible refine bel_set ?_ ?_ _) | (with_reducible refine After.out _ ?_ ?_) | (dsimp only; omega) | omega | (simp only [World.size_alloc, World.size_setCell, World.size_drew]; omega))))⟩
  case round =>
    clear HM
    obtain ⟨i, hi, rfl, ⟨f, hS, hG, hI⟩, z, rfl⟩ := hrel
    have hzz := z.bel.size
    by_cases hlt : i < T.length
    · have hi1 : (i : Int) < (T.length : Int) := by omega
      obtain ⟨b, o, ai, ci, rfl, hb, q0, q1, q2, q3, q4⟩ := hr.out.at_ hlt
      have hszi := hsz.out i hlt
      have hgi := Lib.hid (hget.out i hlt)
      have hSl := hS.lt
      replace hS := Lib.hid hS
      replace hG := Lib.hid hG
      replace hI := Lib.hid hI
      clear q2 q3 q4
      go_wp2_with fail
      go_loopw [31] (fun kv wr => ∃ k : Nat, k ≤ T.length ∧ kv = .int .i64 k ∧ (∃ f, SMap wr w.heap.size E f ∧ GoodF rs f ∧ InitTo rs f i k) ∧ ∃ q : After (z.w.alloc (.cells #[.slice ai T[i].sg.length ci, .string T[i].rom] 57)) w.heap.size (w.heap.size + 1), wr = q.w) (fun kv _ => T.length - (intOf kv).toNat)
      case atStart => exact ⟨0, Nat.zero_le _, rfl, ⟨f, hS.out.bel (by (repeat (first | (with_reducible exact Below.refl _ _) | (with_reducible assumption) | (with_reducible refine Later.out _ ?_) | (with_reducible refine bel_alloc ?_ _) | (with_reducible refine bel_drew ?_) | (with_reducible refine bel_drewN ?_ _) | (with_reducible refine bel_set ?_ ?_ _) | (with_reducible refine After.out _ ?_ ?_) | (dsimp only; omega) | omega | (simp only [World.size_alloc, World.size_setCell, World.size_drew]; omega)))), hG.out, hI.out⟩, ⟨_, Between.refl _ _ _⟩, rfl⟩
      case round =>
        have hBz : w.heap.size + 1 ≤ z.w.heap.size := hSl
        clear hS hG hI
        clear f
        obtain ⟨k, hk, rfl, ⟨f, hS, hG, hI⟩, q, rfl⟩ := hrel
        have hqs := q.btw.size
        (try simp only [World.size_alloc] at hqs)
        have hBq : w.heap.size < q.w.heap.size := hS.lt
        replace hS := Lib.hid hS
        by_cases hlk : k < T.length
        · have hk1 : (k : Int) < (T.length : Int) := by omega
          obtain ⟨b', o', ak, ck, e1, hb', r0, r1, r2, r3, r4⟩ := hr.out.at_ hlk
          cases e1
          have hszk := hsz.out k hlk
          have hgk := Lib.hid (hget.out k hlk)
          clear r2 r3 r4
          have hskip : (∀ a u, rs[i]? = some a → rs[k]? = some (a ++ u) → i ≠ k → KnowsF f (a ++ u) u) → InitTo rs f i (k + 1) := fun h => hI.skip h
          have hbq : b < q.w.heap.size := by omega
          have hbz : b < z.w.heap.size := by omega
          have hzq : z.w.heap.size < q.w.heap.size := by omega
          by_cases hik : i = k
          · have X := Lib.hid (hskip fun a u _ _ h => absurd hik h)
            have hne : ((i : Int) != (k : Int)) = false := by simp [hik]
            replace hG := Lib.hid hG
            replace hik := Lib.hid hik
            clear hskip hI
            go_wp2_with fail
            go_roundw
            case rel => exact ⟨k + 1, by omega, by go_num, ⟨f, hS.out.bel (by (repeat (first | (with_reducible exact Below.refl _ _) | (with_reducible assumption) | (with_reducible refine Later.out _ ?_) | (with_reducible refine bel_alloc ?_ _) | (with_reducible refine bel_drew ?_) | (with_reducible refine bel_drewN ?_ _) | (with_reducible refine bel_set ?_ ?_ _) | (with_reducible refine After.out _ ?_ ?_) | (dsimp only; omega) | omega | (simp only [World.size_alloc, World.size_setCell, World.size_drew]; omega)))), hG.out, X.out⟩, AfterC.mk (by (repeat (first | (with_reducible exact Between.refl _ _ _) | (with_reducible refine Between.drew ?_) | (with_reducible refine Between.drewN ?_ _) | (with_reducible refine Between.set ?_ ?_ ?_ _) | (with_reducible refine btw_later _ ?_) | (with_reducible refine btw_alloc ?_ _) | (with_reducible refine btw_after _ ?_) | (with_reducible assumption) | (dsimp only; omega) | omega)))⟩
            case measure => first | (simp [intOf]; done) | (simp [intOf]; omega) | omega
          · have hne : ((i : Int) != (k : Int)) = true := by simp; omega
            have C := fun w => CP.out T[k].rom T[i].rom w hszk hszi
            cases hp : prefB T[k].rom T[i].rom
            · rw [hp] at C
              replace C := Lib.hid C
              have X := Lib.hid (hskip fun a u h1 h2 _ => by
                rw [hgi.out] at h1
                rw [hgk.out] at h2
                cases h1
                injection h2 with h2
                rw [prefB_iff.2 ⟨u, h2⟩] at hp
                cases hp)
              replace hG := Lib.hid hG
              replace hik := Lib.hid hik
              clear hskip hI hp
              go_wp2_with (first | (go_at_call 69; first | ((with_reducible refine (Calls.later (C.out _)).mono ?_); rintro e w' ⟨rfl, xl, rfl⟩; have hsz := xl.bel.size; (try simp only [World.size_alloc, World.size_setCell, World.size_drew] at hsz); (try have hz0 : w.heap.size < xl.w.heap.size := (by omega)); (try have hz1 : w.heap.size + 1 < xl.w.heap.size := (by omega)); (try have hz2 : w.heap.size + 1 + 1 < xl.w.heap.size := (by omega))) | ((with_reducible refine (C.out _).mono ?_); rintro e w' ⟨rfl, xl, rfl⟩; have hsz := xl.bel.size; (try simp only [World.size_alloc, World.size_setCell, World.size_drew] at hsz); (try have hz0 : w.heap.size < xl.w.heap.size := (by omega)); (try have hz1 : w.heap.size + 1 < xl.w.heap.size := (by omega)); (try have hz2 : w.heap.size + 1 + 1 < xl.w.heap.size := (by omega)))))
              go_roundw
              case rel => exact ⟨k + 1, by omega, by go_num, ⟨f, hS.out.bel (by (repeat (first | (with_reducible exact Below.refl _ _) | (with_reducible assumption) | (with_reducible refine Later.out _ ?_) | (with_reducible refine bel_alloc ?_ _) | (with_reducible refine bel_drew ?_) | (with_reducible refine bel_drewN ?_ _) | (with_reducible refine bel_set ?_ ?_ _) | (with_reducible refine After.out _ ?_ ?_) | (dsimp only; omega) | omega | (simp only [World.size_alloc, World.size_setCell, World.size_drew]; omega)))), hG.out, X.out⟩, AfterC.mk (by (repeat (first | (with_reducible exact Between.refl _ _ _) | (with_reducible refine Between.drew ?_) | (with_reducible refine Between.drewN ?_ _) | (with_reducible refine Between.set ?_ ?_ ?_ _) | (with_reducible refine btw_later _ ?_) | (with_reducible refine btw_alloc ?_ _) | (with_reducible refine btw_after _ ?_) | (with_reducible assumption) | (dsimp only; omega) | omega)))⟩
              case measure => first | (simp [intOf]; done) | (simp [intOf]; omega) | omega
            · rw [hp] at C
              replace C := Lib.hid C
              obtain ⟨u, hu⟩ := prefB_iff.1 hp
              have hur := prefB_rest hu
              have hle : T[i].rom.size ≤ T[k].rom.size := by unfold prefB at hp; simp at hp; exact hp.1
              have hle' : (T[i].rom.size : Int) ≤ (T[k].rom.size : Int) := by omega
              have hd : Der rs (kb T[k].rom) u := .init (hgi.out) (hgk.out) hik hu
              have huE : u ∈ E := hEe.out ▸ der_ends hd
              have hkl : (kb T[k].rom).length ≤ 4 := by rw [length_kb]; omega
              have X := Lib.hid (show GoodF rs (learnF f u (kb T[k].rom)) ∧ InitTo rs (learnF f u (kb T[k].rom)) i (k + 1) from ⟨hG.learn hd (by omega), hI.learn.skip fun a v h1 h2 _ => by
                rw [hgi.out] at h1
                rw [hgk.out] at h2
                cases h1
                injection h2 with h2
                rw [hu] at h2
                rw [← h2, ← List.append_cancel_left h2, ← hu]
                exact knows_learn⟩)
              have hbd : ∀ t, f u = some t → t.length ≤ 1048576 := fun t h => Nat.le_trans (hG.len hE h) (by omega)
              have CI1 := fun w' (h : SMap w' w.heap.size E f) => CI.out f T[k].rom (T[k].rom.extract T[i].rom.size T[k].rom.size) w' h (by rw [hur]; exact huE) (by omega) (by rw [ByteArray.size_extract]; omega) (by rw [hur]; exact hbd)
              rw [hur] at CI1
              replace CI1 := Lib.hid CI1
              replace hik := Lib.hid hik
              clear hskip hI hp hG hd huE hkl hbd hu hur
              go_wp2_with (first | (go_at_call 69; (with_reducible refine (C.out _).mono ?_); rintro e w' ⟨rfl, y1, rfl⟩; have hsy1 := y1.bel.size; (try simp only [World.size_alloc] at hsy1)))
              have hB1 : w.heap.size < y1.w.heap.size := by omega
              have hb1 : b < y1.w.heap.size := by omega
              have hz1 : z.w.heap.size < y1.w.heap.size := by omega
              have hq1 : q.w.heap.size < y1.w.heap.size := by omega
              refine wp_region_plan [(0, true), (1, true), (2, true), (3, true), (4, true), (5, true), (6, true), (7, false), (8, true), (9, true), (10, false)] (C := AfterC w.heap.size (w.heap.size + 1) _) (by kernel_rfl) (by kernel_rfl) (by kernel_rfl) rfl (fun _ _ d _ _ h => by cases d <;> exact h) (AfterC.mk ((Between.refl _ _ _).drew)) ?_
              first | (refine plan_quiet nth0 rfl ?_; intro KP hKP; go_big_quiet_op; go_big_quiet_on) | (refine plan_skip_q nth0 rfl rfl ?_; simp only [Act.put, List.setIfInBounds_toArray, List.set_cons_zero, List.set_cons_succ])
              first | (refine plan_quiet nth1 rfl ?_; intro KP hKP; go_big_quiet_op; go_big_quiet_on) | (refine plan_skip_q nth1 rfl rfl ?_; simp only [Act.put, List.setIfInBounds_toArray, List.set_cons_zero, List.set_cons_succ])
              first | (refine plan_quiet nth2 rfl ?_; intro KP hKP; go_big_quiet_op; go_big_quiet_on) | (refine plan_skip_q nth2 rfl rfl ?_; simp only [Act.put, List.setIfInBounds_toArray, List.set_cons_zero, List.set_cons_succ])
              first | (refine plan_quiet nth3 rfl ?_; intro KP hKP; go_big_quiet_op; go_big_quiet_on) | (refine plan_skip_q nth3 rfl rfl ?_; simp only [Act.put, List.setIfInBounds_toArray, List.set_cons_zero, List.set_cons_succ])
              first | (refine plan_quiet nth4 rfl ?_; intro KP hKP; go_big_quiet_op; go_big_quiet_on) | (refine plan_skip_q nth4 rfl rfl ?_; simp only [Act.put, List.setIfInBounds_toArray, List.set_cons_zero, List.set_cons_succ])
              first | (refine plan_quiet nth5 rfl ?_; intro KP hKP; go_big_quiet_op; go_big_quiet_on) | (refine plan_skip_q nth5 rfl rfl ?_; simp only [Act.put, List.setIfInBounds_toArray, List.set_cons_zero, List.set_cons_succ])
              first | (refine plan_quiet nth6 rfl ?_; intro KP hKP; go_big_quiet_op; go_big_quiet_on) | (refine plan_skip_q nth6 rfl rfl ?_; simp only [Act.put, List.setIfInBounds_toArray, List.set_cons_zero, List.set_cons_succ])
              first | (refine plan_loud nth7 rfl ?_; intro KP hKP; go_wp2_with (first | (go_at_call 70; (with_reducible refine (CI1.out _ (hS.out.bel (by (repeat (first | (with_reducible exact Below.refl _ _) | (with_reducible assumption) | (with_reducible refine Later.out _ ?_) | (with_reducible refine bel_alloc ?_ _) | (with_reducible refine bel_drew ?_) | (with_reducible refine bel_drewN ?_ _) | (with_reducible refine bel_set ?_ ?_ _) | (with_reducible refine After.out _ ?_ ?_) | (dsimp only; omega) | omega | (simp only [World.size_alloc, World.size_setCell, World.size_drew]; omega)))))).mono ?_); rintro e w' ⟨rfl, z2, rfl, hz2⟩; have hs2 := z2.btw.size; (try simp only [World.size_alloc, World.size_drew] at hs2); replace hz2 := Lib.hid hz2)); refine hKP _ _ (AfterC.mk (by (repeat (first | (with_reducible exact Between.refl _ _ _) | (with_reducible refine Between.drew ?_) | (with_reducible refine Between.drewN ?_ _) | (with_reducible refine Between.set ?_ ?_ ?_ _) | (with_reducible refine btw_later _ ?_) | (with_reducible refine btw_alloc ?_ _) | (with_reducible refine btw_after _ ?_) | (with_reducible assumption) | (dsimp only; omega) | omega)))) ?_; clear hKP KP) | (refine plan_skip nth7 rfl rfl (AfterC.mk (by (repeat (first | (with_reducible exact Between.refl _ _ _) | (with_reducible refine Between.drew ?_) | (with_reducible refine Between.drewN ?_ _) | (with_reducible refine Between.set ?_ ?_ ?_ _) | (with_reducible refine btw_later _ ?_) | (with_reducible refine btw_alloc ?_ _) | (with_reducible refine btw_after _ ?_) | (with_reducible assumption) | (dsimp only; omega) | omega)))) ?_; simp only [Act.put, List.setIfInBounds_toArray, List.set_cons_zero, List.set_cons_succ])
              first | (refine plan_quiet nth8 rfl ?_; intro KP hKP; go_big_quiet_op; go_big_quiet_on) | (refine plan_skip_q nth8 rfl rfl ?_; simp only [Act.put, List.setIfInBounds_toArray, List.set_cons_zero, List.set_cons_succ])
              first | (refine plan_quiet nth9 rfl ?_; intro KP hKP; go_big_quiet_op; go_big_quiet_on) | (refine plan_skip_q nth9 rfl rfl ?_; simp only [Act.put, List.setIfInBounds_toArray, List.set_cons_zero, List.set_cons_succ])
              first | (refine plan_loud nth10 rfl ?_; intro KP hKP; go_wp2_with (first | (go_at_call 70; (with_reducible refine (CI1.out _ (hS.out.bel (by (repeat (first | (with_reducible exact Below.refl _ _) | (with_reducible assumption) | (with_reducible refine Later.out _ ?_) | (with_reducible refine bel_alloc ?_ _) | (with_reducible refine bel_drew ?_) | (with_reducible refine bel_drewN ?_ _) | (with_reducible refine bel_set ?_ ?_ _) | (with_reducible refine After.out _ ?_ ?_) | (dsimp only; omega) | omega | (simp only [World.size_alloc, World.size_setCell, World.size_drew]; omega)))))).mono ?_); rintro e w' ⟨rfl, z2, rfl, hz2⟩; have hs2 := z2.btw.size; (try simp only [World.size_alloc, World.size_drew] at hs2); replace hz2 := Lib.hid hz2)); refine hKP _ _ (AfterC.mk (by (repeat (first | (with_reducible exact Between.refl _ _ _) | (with_reducible refine Between.drew ?_) | (with_reducible refine Between.drewN ?_ _) | (with_reducible refine Between.set ?_ ?_ ?_ _) | (with_reducible refine btw_later _ ?_) | (with_reducible refine btw_alloc ?_ _) | (with_reducible refine btw_after _ ?_) | (with_reducible assumption) | (dsimp only; omega) | omega)))) ?_; clear hKP KP) | (refine plan_skip nth10 rfl rfl (AfterC.mk (by (repeat (first | (with_reducible exact Between.refl _ _ _) | (with_reducible refine Between.drew ?_) | (with_reducible refine Between.drewN ?_ _) | (with_reducible refine Between.set ?_ ?_ ?_ _) | (with_reducible refine btw_later _ ?_) | (with_reducible refine btw_alloc ?_ _) | (with_reducible refine btw_after _ ?_) | (with_reducible assumption) | (dsimp only; omega) | omega)))) ?_; simp only [Act.put, List.setIfInBounds_toArray, List.set_cons_zero, List.set_cons_succ])
              refine plan_nil ?_
              go_wp2_with fail
              go_roundw
              case rel => exact ⟨k + 1, by omega, by go_num, ⟨_, hz2.out, X.out.1, X.out.2⟩, AfterC.mk (by (repeat (first | (with_reducible exact Between.refl _ _ _) | (with_reducible refine Between.drew ?_) | (with_reducible refine Between.drewN ?_ _) | (with_reducible refine Between.set ?_ ?_ ?_ _) | (with_reducible refine btw_later _ ?_) | (with_reducible refine btw_alloc ?_ _) | (with_reducible refine btw_after _ ?_) | (with_reducible assumption) | (dsimp only; omega) | omega)))⟩
              case measure => first | (simp [intOf]; done) | (simp [intOf]; omega) | omega
        · obtain rfl : k = T.length := by omega
          rw [← hlr] at hI
          have X := Lib.hid hI.next
          replace hG := Lib.hid hG
          clear hI
          go_wp2_with fail
          go_roundw
          case rel => exact ⟨i + 1, by omega, by go_num, ⟨f, hS.out, hG.out, X.out⟩, LaterC.mk (by (repeat (first | (with_reducible exact Below.refl _ _) | (with_reducible assumption) | (with_reducible refine Later.out _ ?_) | (with_reducible refine bel_alloc ?_ _) | (with_reducible refine bel_drew ?_) | (with_reducible refine bel_drewN ?_ _) | (with_reducible refine bel_set ?_ ?_ _) | (with_reducible refine After.out _ ?_ ?_) | (dsimp only; omega) | omega | (simp only [World.size_alloc, World.size_setCell, World.size_drew]; omega))))⟩
          case measure => first | (simp [intOf]; done) | (simp [intOf]; omega) | omega
    · obtain rfl : i = T.length := by omega
      rw [← hlr] at hI
      have hI2 := hI.all
      have hSl := hS.lt
      replace hI2 := Lib.hid hI2
      replace hG := Lib.hid hG
      replace hS := Lib.hid hS
      clear hI
      go_wp2_with fail
      go_loopg [9] (2 * goF (ends rs) 700 f + 1) (fun kk ch wr => ∃ (f : Tx → Option Tx) (b : Bool), ch = .bool b ∧ 2 * goF (ends rs) 700 f + (if b then 1 else 0) ≤ kk ∧ SMap wr w.heap.size E f ∧ GoodF rs f ∧ InitF rs f ∧ (b = false → ClosedF rs f) ∧ ∃ z : Later w, wr = z.w)
      case atStart => exact ⟨f, true, rfl, Nat.le_refl _, hS.out, hG.out, hI2.out, (fun h => by cases h), z, rfl⟩
      case round =>
        clear hS hG hI2 hSl hzz
        clear z
        clear f
        obtain ⟨f, b, rfl, hkk, hS, hG, hI, hC, z, rfl⟩ := hrel
        have hzz := z.bel.size
        have hSl := hS.lt
        cases b with
        | false =>
          have X := Lib.hid (hA.out f hG.sound (hC rfl))
          replace hS := Lib.hid hS
          clear hC hI hG hkk
          have hs0 : ByteArray.empty.size ≤ maxLen := by decide
          have LV := Lib.hid (show lookV (f (kb ByteArray.empty)) = .tuple #[.string ⟨(O.getD []).toArray⟩, .bool O.isSome] by rw [X.out]; rfl)
          go_wp2_with (at_lookup; refine wpList_lookup_S rfl _ _ rfl w.heap.size E f rfl hS.out ByteArray.empty rfl hs0 ?_; rw [LV.out])
          refine bodyPost_ret (by simp [results, Tryz.results44, go_sem, ↓IntWalk.iteOmega, *]; try rfl) rfl ?_
          exact .mk rfl (by (repeat (first | (with_reducible exact Below.refl _ _) | (with_reducible assumption) | (with_reducible refine Later.out _ ?_) | (with_reducible refine bel_alloc ?_ _) | (with_reducible refine bel_drew ?_) | (with_reducible refine bel_drewN ?_ _) | (with_reducible refine bel_set ?_ ?_ _) | (with_reducible refine After.out _ ?_ ?_) | (dsimp only; omega) | omega | (simp only [World.size_alloc, World.size_setCell, World.size_drew]; omega))))
        | true =>
          obtain ⟨D, hown, hsay⟩ := hS.parts
          have hdz := hsay.1
          have hdE := cntF_le E f
          have hb0 : Go.Maps.size D ≤ 150 := by omega
          obtain ⟨ii, j1, j2, j3, j4⟩ := info_lead'
          have Jii := Lib.hid (And.intro j1 (And.intro j2 (And.intro j3 j4)))
          replace hown := Lib.hid hown
          replace hsay := Lib.hid hsay
          replace hG := Lib.hid hG
          replace hI := Lib.hid hI
          simp only [if_true] at hkk
          obtain ⟨gO, hgO⟩ : ∃ gO, gk = gO := ⟨_, rfl⟩
          rw [hgO] at hkk
          replace hgO := Lib.hid hgO
          clear hS hC j1 j2 j3 j4
          go_wp2_with (at_range; refine wpList_range_own _ rfl _ mapT rfl strT strT keyedS Tryz.underlying74 _ w.heap.size E.length D rfl hown.out ?_; intro w0 hrg0 hg0 hs0)
          simp only [Act.put, List.setIfInBounds_toArray, List.set_cons_zero, List.set_cons_succ]
          have hbel0 := Lib.hid (grown_bel hg0)
          replace hrg0 := Lib.hid hrg0
          clear hown hg0
          go_loopg [10] (Go.Maps.size D) (fun kk o wr => ∃ (L : List (ByteArray × ByteArray)) (al : Option Addr) (cl : Nat) (left : Lit → Bool) (cnt : Nat), o = .slice al L.length cl ∧ cnt ≤ kk ∧ L.length + cnt ≤ Go.Maps.size D ∧ RangeS wr w.heap.size z.w.heap.size E.length D left cnt ∧ (∀ x ∈ L, f (kb x.2) = some (kb x.1)) ∧ (∀ u t, f u = some t → left (.string u) = false → ∃ x ∈ L, kb x.2 = u ∧ kb x.1 = t) ∧ Owns wr (z.w.heap.size + 1) wr.heap.size 78 2 L.length al cl (leadCells L) ∧ (∀ kl, left kl = true → Go.Maps.has D kl = true) ∧ ∃ y : Later w, wr = y.w)
          case atStart =>
            refine ⟨[], none, 0, Go.Maps.has D, Go.Maps.size D, rfl, Nat.le_refl _, by simp, hrg0.out, (fun x hx => by cases hx), fun u t hf hl => ?_, ⟨World.ownsRow_nil _ _ _ _, fun p hp => by cases hp⟩, fun kl h => h, LaterC.mk (z.bel.trans (hbel0.out.mono hzz))⟩
            rw [((hsay.out.2 u).1 t hf).2.1] at hl
            cases hl
          case round =>
            obtain ⟨L, al, cl, left, cnt, rfl, hck, hLc, hrg, hLf, hLl, ho, hlD, y, rfl⟩ := hrel
            have hyy := y.bel.size
            have hry : z.w.heap.size < y.w.heap.size := hrg.lt
            have hBy : w.heap.size < y.w.heap.size := by omega
            replace hrg := Lib.hid hrg
            replace ho := Lib.hid ho
            replace hLf := Lib.hid hLf
            replace hLl := Lib.hid hLl
            replace hlD := Lib.hid hlD
            go_wp2_with (at_next; refine wpList_next_ranges _ rfl _ rfl strT keyedS (plainElem Tryz.prog strT) Value.string Value.string invKS invVS w.heap.size z.w.heap.size E.length D left cnt rfl hrg.out ?_ ?_)
            · intro hc0 hl0
              have hall := Lib.hid (fun u t (h : f u = some t) => hLl.out u t h (hl0 _))
              have hSy := Lib.hid (show SMap y.w w.heap.size E f from ⟨D, World.ranges.owns hrg.out, hsay.out⟩)
              clear hc0 hl0 hrg hlD hLl hrg0 hs0 hbel0
              clear w0
              have hwz : w.heap.size < z.w.heap.size := hSl
              go_wp2_with fail
              go_loopw [9, 75] (fun ch iv wr => ∃ (i : Nat) (f' : Tx → Option Tx) (b : Bool), i ≤ L.length ∧ iv = .int .i64 i ∧ ch = .bool b ∧ SMap wr w.heap.size E f' ∧ StF rs f f' b ∧ (b = false → ∀ j (hj : j < L.length), j < i → ∀ r ∈ rs, Fo f L[j] r) ∧ ∃ q : After y.w w.heap.size (w.heap.size + 1), wr = q.w) (fun _ iv _ => L.length - (intOf iv).toNat)
              case atStart => exact ⟨0, f, false, Nat.zero_le _, rfl, rfl, hSy.out, StF.start hG.out hI.out, fun _ j hj h => absurd h (by omega), ⟨_, Between.refl _ _ _⟩, rfl⟩
              case round =>
                obtain ⟨i, f', b, hi, rfl, rfl, hS, hst, hfo, q, rfl⟩ := hrel
                have hqs := q.btw.size
                have hBq := hS.lt
                by_cases hlt : i < L.length
                · have hi1 : (i : Int) < (L.length : Int) := by omega
                  have hLc' : L.length ≤ 150 := by omega
                  obtain ⟨bl, ol, hal, hbl, l0, l1⟩ := ho.out.row.lead hlt
                  subst hal
                  have hblz : z.w.heap.size + 1 ≤ bl := ho.out.ge _ rfl
                  have hfi := hLf.out _ (List.getElem_mem hlt)
                  have hdi := hG.out.sound _ _ hfi
                  have htl := hG.out.bound _ _ hfi
                  have hrE := der_ends hdi
                  have hrl := ends_el (M := 4) (fun r h => hel.out r h) _ hrE
                  obtain ⟨⟨tx, rx⟩, hx⟩ : ∃ x, L[i] = x := ⟨_, rfl⟩
                  rw [hx] at l0 l1 hfi hdi htl hrE hrl
                  simp only at l0 l1 hfi hdi htl hrE hrl
                  have hx' := Lib.hid hx
                  have htl2 := cntF_le (ends rs) f
                  rw [length_kb] at htl hrl
                  have htx : tx.size ≤ 600 := by omega
                  have hbq : bl < q.w.heap.size := by omega
                  replace hS := Lib.hid hS
                  replace hst := Lib.hid hst
                  replace hfo := Lib.hid hfo
                  replace hdi := Lib.hid hdi
                  replace htl := Lib.hid htl
                  clear hfi hrE hx htl2
                  go_wp2_with fail
                  go_loopw [9, 81] (fun ch iv wr => ∃ (j : Nat) (f' : Tx → Option Tx) (b : Bool), j ≤ T.length ∧ iv = .int .i64 j ∧ ch = .bool b ∧ SMap wr w.heap.size E f' ∧ StF rs f f' b ∧ (b = false → (∀ jj (hj : jj < L.length), jj < i → ∀ r ∈ rs, Fo f L[jj] r) ∧ ∀ t (ht : t < T.length), t < j → Fo f (tx, rx) (kb T[t].rom)) ∧ ∃ q2 : After (q.w.alloc (.cells #[.string tx, .string rx] 78)) w.heap.size (w.heap.size + 1), wr = q2.w) (fun _ iv _ => T.length - (intOf iv).toNat)
                  case atStart => exact ⟨0, f', b, Nat.zero_le _, rfl, rfl, hS.out.bel (by (repeat (first | (with_reducible exact Below.refl _ _) | (with_reducible assumption) | (with_reducible refine Later.out _ ?_) | (with_reducible refine bel_alloc ?_ _) | (with_reducible refine bel_drew ?_) | (with_reducible refine bel_drewN ?_ _) | (with_reducible refine bel_set ?_ ?_ _) | (with_reducible refine After.out _ ?_ ?_) | (dsimp only; omega) | omega | (simp only [World.size_alloc, World.size_setCell, World.size_drew]; omega)))), hst.out, fun hb => ⟨hfo.out hb, fun t ht h => absurd h (by omega)⟩, ⟨_, Between.refl _ _ _⟩, rfl⟩
                  case round =>
                    clear hS hst hfo hBq
                    obtain ⟨j, f2, b2, hj, rfl, rfl, hS, hst, hfo, q2, rfl⟩ := hrel
                    have hq2s := q2.btw.size
                    (try simp only [World.size_alloc] at hq2s)
                    have hBq2 := hS.lt
                    replace hS := Lib.hid hS
                    replace hst := Lib.hid hst
                    by_cases hltj : j < T.length
                    · have hj1 : (j : Int) < (T.length : Int) := by omega
                      obtain ⟨b', o', ak, ck, rfl, hb', r0, r1, r2, r3, r4⟩ := hr.out.at_ hltj
                      have hszj := hsz.out j hltj
                      have hmj := hmem.out j hltj
                      clear r2 r3 r4
                      have hbq2 : b' < q2.w.heap.size := by omega
                      have hbqq : b' < q.w.heap.size := by omega
                      have hbyy : b' < y.w.heap.size := by omega
                      have hqq2 : q.w.heap.size < q2.w.heap.size := by omega
                      have hBq3 : w.heap.size + 1 ≤ q.w.heap.size := by omega
                      have CF := fun w => follow_any tx rx T[j].rom ak T[j].sg.length ck w (by omega) (by omega) (by omega)
                      have hnext : ∀ nb : Bool, (nb = false → b2 = false ∧ Fo f (tx, rx) (kb T[j].rom)) → (nb = false → (∀ jj (hj : jj < L.length), jj < i → ∀ r ∈ rs, Fo f L[jj] r) ∧ ∀ t (ht : t < T.length), t < j + 1 → Fo f (tx, rx) (kb T[t].rom)) := fun nb h hb => by
                        obtain ⟨h1, h2⟩ := hfo (h hb).1
                        refine ⟨h1, fun t ht htj => ?_⟩
                        rcases Nat.lt_or_ge t j with h3 | h3
                        · exact h2 t ht h3
                        · obtain rfl : t = j := by omega
                          exact (h hb).2
                      have hemp := isEmpty_size rx
                      rcases follow_cases tx rx T[j].rom with ⟨hk, hfk⟩ | ⟨hk, hfk, hlk, hdk⟩
                      · have X := Lib.hid (hnext b2 fun h => ⟨h, fun _ => hfk f⟩)
                        obtain ⟨⟨⟨t2, x2⟩, kk⟩, hfb⟩ : ∃ z, followB tx rx T[j].rom = z := ⟨_, rfl⟩
                        simp only [hfb] at hk CF
                        subst hk
                        replace CF := Lib.hid CF
                        clear hnext hfo hfk hfb hemp
                        go_wp2_with (first | (go_at_call 71; (with_reducible refine (CF.out _).mono ?_); rintro e w' ⟨rfl, y3, rfl⟩; have hsy3 := y3.bel.size; (try simp only [World.size_alloc] at hsy3); have hqy3 : q.w.heap.size < y3.w.heap.size := (by omega); have hqy4 : q2.w.heap.size < y3.w.heap.size := (by omega)))
                        go_roundw
                        case rel => exact ⟨j + 1, f2, b2, by omega, by go_num, rfl, hS.out.bel (by (repeat (first | (with_reducible exact Below.refl _ _) | (with_reducible assumption) | (with_reducible refine Later.out _ ?_) | (with_reducible refine bel_alloc ?_ _) | (with_reducible refine bel_drew ?_) | (with_reducible refine bel_drewN ?_ _) | (with_reducible refine bel_set ?_ ?_ _) | (with_reducible refine After.out _ ?_ ?_) | (dsimp only; omega) | omega | (simp only [World.size_alloc, World.size_setCell, World.size_drew]; omega)))), hst.out, X.out, AfterC.mk (by (repeat (first | (with_reducible exact Between.refl _ _ _) | (with_reducible refine Between.drew ?_) | (with_reducible refine Between.drewN ?_ _) | (with_reducible refine Between.set ?_ ?_ ?_ _) | (with_reducible refine btw_later _ ?_) | (with_reducible refine btw_alloc ?_ _) | (with_reducible refine btw_after _ ?_) | (with_reducible assumption) | (dsimp only; omega) | omega)))⟩
                        case measure => first | (simp [intOf]; done) | (simp [intOf]; omega) | omega
                      · by_cases hr0 : kb rx = []
                        · have X := Lib.hid (hnext b2 fun h => ⟨h, fun h2 => absurd hr0 h2⟩)
                          have hl0 := congrArg List.length hr0
                          rw [length_kb] at hl0
                          simp only [List.length_nil] at hl0
                          rw [show (!decide (0 < rx.size)) = true by simp [hl0]] at hemp
                          obtain ⟨⟨⟨t2, x2⟩, kk⟩, hfb⟩ : ∃ z, followB tx rx T[j].rom = z := ⟨_, rfl⟩
                          simp only [hfb] at hk CF
                          subst hk
                          replace CF := Lib.hid CF
                          replace hr0 := Lib.hid hr0
                          replace hl0 := Lib.hid hl0
                          clear hnext hfo hfk hfb hlk hdk
                          go_wp2_with (first | (go_at_call 71; (with_reducible refine (CF.out _).mono ?_); rintro e w' ⟨rfl, y3, rfl⟩; have hsy3 := y3.bel.size; (try simp only [World.size_alloc] at hsy3); have hqy3 : q.w.heap.size < y3.w.heap.size := (by omega); have hqy4 : q2.w.heap.size < y3.w.heap.size := (by omega)))
                          go_roundw
                          case rel => exact ⟨j + 1, f2, b2, by omega, by go_num, rfl, hS.out.bel (by (repeat (first | (with_reducible exact Below.refl _ _) | (with_reducible assumption) | (with_reducible refine Later.out _ ?_) | (with_reducible refine bel_alloc ?_ _) | (with_reducible refine bel_drew ?_) | (with_reducible refine bel_drewN ?_ _) | (with_reducible refine bel_set ?_ ?_ _) | (with_reducible refine After.out _ ?_ ?_) | (dsimp only; omega) | omega | (simp only [World.size_alloc, World.size_setCell, World.size_drew]; omega)))), hst.out, X.out, AfterC.mk (by (repeat (first | (with_reducible exact Between.refl _ _ _) | (with_reducible refine Between.drew ?_) | (with_reducible refine Between.drewN ?_ _) | (with_reducible refine Between.set ?_ ?_ ?_ _) | (with_reducible refine btw_later _ ?_) | (with_reducible refine btw_alloc ?_ _) | (with_reducible refine btw_after _ ?_) | (with_reducible assumption) | (dsimp only; omega) | omega)))⟩
                          case measure => first | (simp [intOf]; done) | (simp [intOf]; omega) | omega
                        · have hd2 := hdk rs hdi.out hr0 hmj
                          have hpos : 0 < rx.size := by
                            rcases Nat.eq_zero_or_pos rx.size with h | h
                            · exact absurd (List.eq_nil_of_length_eq_zero (by rw [length_kb]; exact h)) hr0
                            · exact h
                          rw [show (!decide (0 < rx.size)) = false by simp [hpos]] at hemp
                          have hl4 := length_kb T[j].rom
                          have hl5 := length_kb tx
                          have hkn := fun (h : KnowsF f (kb (followB tx rx T[j].rom).1.1) (kb (followB tx rx T[j].rom).1.2)) => hfk f h
                          obtain ⟨⟨⟨t2, x2⟩, kk⟩, hfb⟩ : ∃ z, followB tx rx T[j].rom = z := ⟨_, rfl⟩
                          simp only [hfb] at hk CF hd2 hlk hkn
                          subst hk
                          have hxE : kb x2 ∈ E := hEe.out ▸ der_ends hd2
                          have hx4 := ends_el (M := 4) (fun r h => hel.out r h) _ (der_ends hd2)
                          rw [length_kb] at hx4
                          have ht2l := length_kb t2
                          have hs2 := hst.out.learn hE hd2 (by have := htl.out; omega)
                          have hbd : ∀ t, f2 (kb x2) = some t → t.length ≤ 1048576 := fun t h => Nat.le_trans (hst.out.good.len hE h) (by omega)
                          have CI1 := fun w' (h : SMap w' w.heap.size E f2) => CI.out f2 t2 x2 w' h hxE (by omega) (by omega) hbd
                          have X := Lib.hid (hnext (b2 || newF f2 (kb x2) (kb t2)) fun h => by
                            rw [Bool.or_eq_false_iff] at h
                            refine ⟨h.1, fun _ => hkn ?_⟩
                            have h3 := hst.out.no h.1
                            rw [← h3]
                            exact knows_no h.2)
                          replace hs2 := Lib.hid hs2
                          replace CF := Lib.hid CF
                          replace hr0 := Lib.hid hr0
                          clear hnext hfo hfk hfb hlk hdk hkn hd2 hxE hx4 ht2l hbd hl4 hl5
                          cases hn : newF f2 (kb x2) (kb t2)
                          · rw [hn] at CI1
                            have hsX := Lib.hid (show StF rs f (learnF f2 (kb x2) (kb t2)) b2 by have := hs2.out; rwa [hn, Bool.or_false] at this)
                            have X2 := Lib.hid (show _ from X.out)
                            rw [hn, Bool.or_false] at X
                            replace CI1 := Lib.hid CI1
                            clear hn hs2
                            go_wp2_with (first | (go_at_call 71; (with_reducible refine (CF.out _).mono ?_); rintro e w' ⟨rfl, y3, rfl⟩; have hsy3 := y3.bel.size; (try simp only [World.size_alloc] at hsy3); have hqy3 : q.w.heap.size < y3.w.heap.size := (by omega); have hqy4 : q2.w.heap.size < y3.w.heap.size := (by omega)) | (go_at_call 70; (with_reducible refine (CI1.out _ (hS.out.bel (by (repeat (first | (with_reducible exact Below.refl _ _) | (with_reducible assumption) | (with_reducible refine Later.out _ ?_) | (with_reducible refine bel_alloc ?_ _) | (with_reducible refine bel_drew ?_) | (with_reducible refine bel_drewN ?_ _) | (with_reducible refine bel_set ?_ ?_ _) | (with_reducible refine After.out _ ?_ ?_) | (dsimp only; omega) | omega | (simp only [World.size_alloc, World.size_setCell, World.size_drew]; omega)))))).mono ?_); rintro e w' ⟨rfl, z4, rfl, hz4⟩; have hs4 := z4.btw.size; (try simp only [World.size_alloc] at hs4); replace hz4 := Lib.hid hz4))
                            go_roundw
                            case rel => exact ⟨j + 1, _, b2, by omega, by go_num, rfl, hz4.out, hsX.out, X.out, AfterC.mk (by (repeat (first | (with_reducible exact Between.refl _ _ _) | (with_reducible refine Between.drew ?_) | (with_reducible refine Between.drewN ?_ _) | (with_reducible refine Between.set ?_ ?_ ?_ _) | (with_reducible refine btw_later _ ?_) | (with_reducible refine btw_alloc ?_ _) | (with_reducible refine btw_after _ ?_) | (with_reducible assumption) | (dsimp only; omega) | omega)))⟩
                            case measure => first | (simp [intOf]; done) | (simp [intOf]; omega) | omega
                          · rw [hn] at CI1
                            have hsX := Lib.hid (show StF rs f (learnF f2 (kb x2) (kb t2)) true by have := hs2.out; rwa [hn, Bool.or_true] at this)
                            rw [hn, Bool.or_true] at X
                            replace CI1 := Lib.hid CI1
                            clear hn hs2
                            go_wp2_with (first | (go_at_call 71; (with_reducible refine (CF.out _).mono ?_); rintro e w' ⟨rfl, y3, rfl⟩; have hsy3 := y3.bel.size; (try simp only [World.size_alloc] at hsy3); have hqy3 : q.w.heap.size < y3.w.heap.size := (by omega); have hqy4 : q2.w.heap.size < y3.w.heap.size := (by omega)) | (go_at_call 70; (with_reducible refine (CI1.out _ (hS.out.bel (by (repeat (first | (with_reducible exact Below.refl _ _) | (with_reducible assumption) | (with_reducible refine Later.out _ ?_) | (with_reducible refine bel_alloc ?_ _) | (with_reducible refine bel_drew ?_) | (with_reducible refine bel_drewN ?_ _) | (with_reducible refine bel_set ?_ ?_ _) | (with_reducible refine After.out _ ?_ ?_) | (dsimp only; omega) | omega | (simp only [World.size_alloc, World.size_setCell, World.size_drew]; omega)))))).mono ?_); rintro e w' ⟨rfl, z4, rfl, hz4⟩; have hs4 := z4.btw.size; (try simp only [World.size_alloc] at hs4); replace hz4 := Lib.hid hz4))
                            go_roundw
                            case rel => exact ⟨j + 1, _, true, by omega, by go_num, rfl, hz4.out, hsX.out, X.out, AfterC.mk (by (repeat (first | (with_reducible exact Between.refl _ _ _) | (with_reducible refine Between.drew ?_) | (with_reducible refine Between.drewN ?_ _) | (with_reducible refine Between.set ?_ ?_ ?_ _) | (with_reducible refine btw_later _ ?_) | (with_reducible refine btw_alloc ?_ _) | (with_reducible refine btw_after _ ?_) | (with_reducible assumption) | (dsimp only; omega) | omega)))⟩
                            case measure => first | (simp [intOf]; done) | (simp [intOf]; omega) | omega
                    · obtain rfl : j = T.length := by omega
                      have X := Lib.hid (show b2 = false → ∀ jj (hj : jj < L.length), jj < i + 1 → ∀ r ∈ rs, Fo f L[jj] r from fun hb jj hj hjj r hr => by
                        obtain ⟨h1, h2⟩ := hfo hb
                        rcases Nat.lt_or_ge jj i with h3 | h3
                        · exact h1 jj hj h3 r hr
                        · obtain rfl : jj = i := by omega
                          obtain ⟨t, ht, rfl⟩ := hrsm.out r hr
                          rw [hx'.out]
                          exact h2 t ht ht)
                      clear hfo
                      go_wp2_with fail
                      go_roundw
                      case rel => exact ⟨i + 1, f2, b2, by omega, by go_num, rfl, hS.out, hst.out, X.out, AfterC.mk (by (repeat (first | (with_reducible exact Between.refl _ _ _) | (with_reducible refine Between.drew ?_) | (with_reducible refine Between.drewN ?_ _) | (with_reducible refine Between.set ?_ ?_ ?_ _) | (with_reducible refine btw_later _ ?_) | (with_reducible refine btw_alloc ?_ _) | (with_reducible refine btw_after _ ?_) | (with_reducible assumption) | (dsimp only; omega) | omega)))⟩
                      case measure => first | (simp [intOf]; done) | (simp [intOf]; omega) | omega
                · obtain rfl : i = L.length := by omega
                  have hcl : b = false → ClosedF rs f' := fun hb => by
                    have h1 := hst.no hb
                    subst h1
                    refine closed_of hst.init fun u t hf hu r hr => ?_
                    obtain ⟨x, hxL, hx1, hx2⟩ := hall.out u t hf
                    obtain ⟨jj, hjj, hxe⟩ := List.mem_iff_getElem.1 hxL
                    have h3 := hfo hb jj hjj hjj r hr
                    rw [hxe] at h3
                    unfold Fo at h3
                    rw [hx1, hx2] at h3
                    exact h3 hu
                  have hme : 2 * goF (ends rs) 700 f' + (if b then 1 else 0) < gO := by
                    cases hb : b
                    · rw [hst.no hb]
                      simp
                      omega
                    · have := hst.yes hb
                      simp
                      omega
                  replace hcl := Lib.hid hcl
                  replace hme := Lib.hid hme
                  replace hS := Lib.hid hS
                  replace hst := Lib.hid hst
                  clear hfo
                  go_wp2_with fail
                  go_roundg (2 * goF (ends rs) 700 f' + (if b then 1 else 0))
                  case measure => exact hgO.out ▸ hme.out
                  case rel => exact ⟨f', b, rfl, Nat.le_refl _, hS.out, hst.out.good, hst.out.init, hcl.out, LaterC.mk (by (repeat (first | (with_reducible exact Below.refl _ _) | (with_reducible assumption) | (with_reducible refine Later.out _ ?_) | (with_reducible refine bel_alloc ?_ _) | (with_reducible refine bel_drew ?_) | (with_reducible refine bel_drewN ?_ _) | (with_reducible refine bel_set ?_ ?_ _) | (with_reducible refine After.out _ ?_ ?_) | (dsimp only; omega) | omega | (simp only [World.size_alloc, World.size_setCell, World.size_drew]; omega))))⟩
            · intro x c1 kl dd pl w1 cnt1 hkey hlk hv hat hrg1 hlt1 hg1 hs1 hen
              obtain ⟨rfl, hxl⟩ := keyS hkey
              have hdd := elemS hv
              simp only at hdd
              subst hdd
              have hfx := hsay.out.entry (hlD.out _ hlk) hat
              have hbt1 := grown_btw hg1
              have ho1 := Lib.hid (ho.out.btw hbt1 (.inr (Nat.le_refl _)))
              have hby1 : Below z.w.heap.size y.w w1 := ⟨hbt1.os, hbt1.tape, hbt1.output, hbt1.size, fun k hk => hbt1.block k (by omega) (.inl hk)⟩
              have hbw1 : Below w.heap.size w w1 := y.bel.trans (hby1.mono hzz)
              have h1 := Lib.hid (show ∀ p ∈ L ++ [(c1, x)], f (kb p.2) = some (kb p.1) from fun p hp => by
                rcases List.mem_append.1 hp with h | h
                · exact hLf.out p h
                · rw [List.mem_singleton.1 h]; exact hfx)
              have h2 := Lib.hid (show ∀ u t, f u = some t → (fun z => left z && !z.sameKey (.string (kb x))) (.string u) = false → ∃ p ∈ L ++ [(c1, x)], kb p.2 = u ∧ kb p.1 = t from fun u t hf hl => by
                simp only [Bool.and_eq_false_iff, Bool.not_eq_false'] at hl
                rcases hl with hl | hl
                · obtain ⟨p, hp, h⟩ := hLl.out u t hf hl
                  exact ⟨p, List.mem_append_left _ hp, h⟩
                · have e := sameKey_string.1 hl
                  subst e
                  rw [hfx] at hf
                  cases hf
                  exact ⟨(c1, x), by simp, rfl, rfl⟩)
              have h3 := Lib.hid (show ∀ kl, (fun z => left z && !z.sameKey (.string (kb x))) kl = true → Go.Maps.has D kl = true from fun kl h => by
                simp only [Bool.and_eq_true] at h
                exact hlD.out kl h.1)
              have hs1a : y.w.heap.size ≤ w1.heap.size := by omega
              have hs1b : w1.heap.size ≤ y.w.heap.size := by omega
              clear hs1
              replace hrg1 := Lib.hid hrg1
              have hen1 := hen
              clear hkey hv hat hfx hlD hLl hLf hg1 hbt1 hen hrg ho
              have hwz : w.heap.size < z.w.heap.size := hSl
              have hzw1 : z.w.heap.size < w1.heap.size := by omega
              have hww1 : w.heap.size < w1.heap.size := by omega
              go_wp2_with (at_builtin; (refine wpList_append_after _ rfl _ _ _ rfl 78 ii _ 2 32 Tryz.underlying79 Jii.out.1 Jii.out.2.1 Jii.out.2.2.1 Jii.out.2.2.2 rfl (by decide) (z.w.heap.size + 1) (w1.heap.size) ?qb1 _ _ _ (leadCells L) rfl ?qb2 ?qb8 _ _ _ ([.string c1, .string x]) rfl ?qb3 ?qb4 ?qb5 ?qb6 ?qb7 ?_); (case qb1 => (first | (dsimp only; omega) | omega | (simp only [World.size_alloc, World.size_setCell, World.size_drew]; omega))); (case qb2 => exact (ho1.out.bel (B := w1.heap.size) (by (repeat (first | (with_reducible exact Below.refl _ _) | (with_reducible assumption) | (with_reducible refine Later.out _ ?_) | (with_reducible refine bel_alloc ?_ _) | (with_reducible refine bel_drew ?_) | (with_reducible refine bel_drewN ?_ _) | (with_reducible refine bel_set ?_ ?_ _) | (with_reducible refine After.out _ ?_ ?_) | (dsimp only; omega) | omega | (simp only [World.size_alloc, World.size_setCell, World.size_drew]; omega)))) (by omega)).own); (case qb8 => exact fun p hp => Nat.lt_of_lt_of_le (ho1.out.lt p hp) (by omega)); (case qb3 => (first | rfl | (simp [boolCells]; done) | (simp [intCells]; done) | (simp; done) | (first | omega | (simp only [List.length_append, List.length_cons, List.length_nil]; omega)))); (case qb4 => exact Row.made _ _ _); (case qb5 => exact one_lead (c1, x)); (case qb6 => (unfold maxLen; (first | omega | (simp only [List.length_append, List.length_cons, List.length_nil]; omega)))); (case qb7 => (first | omega | (simp only [List.length_append, List.length_cons, List.length_nil]; omega))); intro a9 c9 x9 hown9; replace hown9 := Lib.hid hown9; have hs9 := x9.btw.size; (try simp only [World.size_alloc] at hs9))
              have hrg9 := Lib.hid (RangeS.keep (w' := x9.w) hrg1.out ((x9.btw.block w.heap.size (by simp only [World.size_alloc]; omega) (.inl (by omega))).trans (Below.heap_alloc w1 _ _ hww1)) ((x9.btw.block z.w.heap.size (by simp only [World.size_alloc]; omega) (.inl (by omega))).trans (Below.heap_alloc w1 _ _ hzw1)))
              have hlt9 := Lib.hid hlt1
              have hbw9 : Below w.heap.size w x9.w := by (repeat (first | (with_reducible exact Below.refl _ _) | (with_reducible assumption) | (with_reducible refine Later.out _ ?_) | (with_reducible refine bel_alloc ?_ _) | (with_reducible refine bel_drew ?_) | (with_reducible refine bel_drewN ?_ _) | (with_reducible refine bel_set ?_ ?_ _) | (with_reducible refine After.out _ ?_ ?_) | (dsimp only; omega) | omega | (simp only [World.size_alloc, World.size_setCell, World.size_drew]; omega)))
              go_roundg cnt1
              case measure => have := hlt9.out; omega
              case rel =>
                refine ⟨L ++ [(c1, x)], a9, c9, _, cnt1, by simp, Nat.le_refl _, by have := hlt9.out; simp; omega, hrg9.out, h1.out, h2.out, ?_, h3.out, LaterC.mk hbw9⟩
                rw [leadCells_snoc, show (L ++ [(c1, x)]).length = L.length + 1 by simp]
                exact Owns.of hown9.out
end Go.Proofs.YtemfhcmeeldngaaGreatDoor
