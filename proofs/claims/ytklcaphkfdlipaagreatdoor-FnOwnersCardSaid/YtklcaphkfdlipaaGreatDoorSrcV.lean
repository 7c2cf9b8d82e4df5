import Derived.Test.YtklcaphkfdlipaaGreatDoorPackVb
import Derived.Test.YtklcaphkfdlipaaGreatDoorShelf2
import Derived.Test.YtklcaphkfdlipaaGreatDoorPackVa
import Derived.Shelf.Sort.Plain
import Derived.Shelf.Slices.CompactS
import Derived.Shelf.Slices.In.SortNone
import Derived.Sort.OwnSorted
/- Texts in order, each once: the plain law; impl.sorted. -/
set_option linter.unusedSimpArgs false
set_option linter.unusedVariables false
namespace Go.Proofs.YtklcaphkfdlipaaGreatDoor
open Go.RowKit
/-- Two increasing lists of the same elements are the same. -/
theorem sorted_unique {α : Type} {R : α → α → Prop} (irr : ∀ a, ¬ R a a) (asy : ∀ a b, R a b → ¬ R b a) : ∀ {l m : List α}, l.Pairwise R → m.Pairwise R → (∀ x, x ∈ l ↔ x ∈ m) → l = m
  | [], [], _, _, _ => rfl
  | [], y :: m, _, _, h => by have := (h y).2 (by simp); simp at this
  | x :: l, [], _, _, h => by have := (h x).1 (by simp); simp at this
  | x :: l, y :: m, hl, hm, h => by
    have hl' := List.pairwise_cons.1 hl
    have hm' := List.pairwise_cons.1 hm
    have e : x = y := by
      rcases List.mem_cons.1 ((h x).1 (by simp)) with e | h1
      · exact e
      · rcases List.mem_cons.1 ((h y).2 (by simp)) with e | h2
        · exact e.symm
        · exact absurd (hm'.1 x h1) (asy _ _ (hl'.1 y h2))
    subst e
    rw [sorted_unique irr asy hl'.2 hm'.2 fun z => ?_]
    constructor
    · intro hz
      rcases List.mem_cons.1 ((h z).1 (by simp [hz])) with rfl | h1
      · exact absurd (hl'.1 _ hz) (irr _)
      · exact h1
    · intro hz
      rcases List.mem_cons.1 ((h z).2 (by simp [hz])) with rfl | h1
      · exact absurd (hm'.1 _ hz) (irr _)
      · exact h1
def key (s : ByteArray) : List UInt8 := s.data.toList
def mkB (l : List UInt8) : ByteArray := ⟨l.toArray⟩
theorem mkB_key (s : ByteArray) : mkB (key s) = s := by simp [mkB, key]
theorem key_mkB (l : List UInt8) : key (mkB l) = l := by simp [mkB, key]
theorem key_inj {s t : ByteArray} (h : key s = key t) : s = t := by rw [← mkB_key s, h, mkB_key]
theorem kle_total {a b : List UInt8} : (decide (a ≤ b) || decide (b ≤ a)) = true := by
  rcases List.le_total a b with h | h <;> simp [h]
theorem klt_of {a b : List UInt8} (h : a ≤ b) (hne : a ≠ b) : a < b := by
  by_cases h2 : b ≤ a
  · exact absurd (List.le_antisymm h h2) hne
  · exact List.not_le.1 h2
/-- What compact leaves of an ascending list. -/
theorem compact_up {d : Array (List UInt8)} (hs : ∀ i j, i < j → j < d.size → d[i]! ≤ d[j]!) : ∀ m, m ≤ d.size → (Lib.compactUpTo d m).Pairwise (· < ·) ∧ ∀ x, x ∈ Lib.compactUpTo d m ↔ ∃ j, j < m ∧ d[j]! = x
  | 0, _ => ⟨by simp [Lib.compactUpTo], fun x => by simp [Lib.compactUpTo]⟩
  | m + 1, hm => by
    obtain ⟨ih1, ih2⟩ := compact_up hs m (by omega)
    rw [Lib.compactUpTo_succ]
    by_cases hk : Lib.keeps d m = true
    · rw [if_pos hk]
      have hlt : ∀ j, j < m → d[j]! < d[m]! := fun j hj => by
        have hmp : 0 < m := by omega
        have hne : d[m]! ≠ d[m - 1]! := fun e => by rw [Lib.keeps_neg hmp e] at hk; cases hk
        have h1 : d[m - 1]! < d[m]! := klt_of (hs (m - 1) m (by omega) (by omega)) (Ne.symm hne)
        rcases Nat.lt_or_ge j (m - 1) with h2 | h2
        · exact List.lt_of_le_of_lt (hs j (m - 1) h2 (by omega)) h1
        · rw [show j = m - 1 by omega]; exact h1
      constructor
      · rw [List.pairwise_append]
        refine ⟨ih1, by simp, fun a ha b hb => ?_⟩
        obtain ⟨j, hj, rfl⟩ := (ih2 a).1 ha
        simp only [List.mem_cons, List.not_mem_nil, or_false] at hb
        subst hb
        exact hlt j hj
      · intro x
        rw [List.mem_append, ih2]
        simp only [List.mem_cons, List.not_mem_nil, or_false]
        constructor
        · rintro (⟨j, hj, rfl⟩ | rfl)
          · exact ⟨j, by omega, rfl⟩
          · exact ⟨m, by omega, rfl⟩
        · rintro ⟨j, hj, rfl⟩
          rcases Nat.lt_or_ge j m with h | h
          · exact .inl ⟨j, h, rfl⟩
          · exact .inr (by rw [show j = m by omega])
    · rw [if_neg hk, List.append_nil]
      refine ⟨ih1, fun x => ?_⟩
      rw [ih2]
      constructor
      · rintro ⟨j, hj, rfl⟩
        exact ⟨j, by omega, rfl⟩
      · rintro ⟨j, hj, rfl⟩
        rcases Nat.lt_or_ge j m with h | h
        · exact ⟨j, h, rfl⟩
        · obtain rfl : j = m := by omega
          rcases Nat.eq_zero_or_pos j with h0 | h0
          · subst h0
            exact absurd (Lib.keeps_lt_one d 0 (by omega)) hk
          · refine ⟨j - 1, by omega, ?_⟩
            by_cases e : d[j]! = d[j - 1]!
            · exact e.symm
            · exact absurd (Lib.keeps_pos e) hk
def ups (O : List ByteArray) : List (List UInt8) := (O.map key).mergeSort fun x y => decide (x ≤ y)
theorem ups_sorted (O : List ByteArray) : (ups O).Pairwise (· ≤ ·) := by
  have h := List.pairwise_mergeSort (le := fun (x y : List UInt8) => decide (x ≤ y)) (fun a b c h1 h2 => decide_eq_true (List.le_trans (of_decide_eq_true h1) (of_decide_eq_true h2))) (fun a b => kle_total) (O.map key)
  exact h.imp fun h => of_decide_eq_true h
theorem ups_perm (O : List ByteArray) : (ups O).Perm (O.map key) := List.mergeSort_perm _ _
/-- Texts in alphabetical order, each once. -/
def uniq (O : List ByteArray) : List ByteArray := (Lib.compact (ups O)).map mkB
theorem uniq_keys (O : List ByteArray) : (uniq O).map key = Lib.compact (ups O) := by
  unfold uniq
  rw [List.map_map]
  conv => rhs; rw [← List.map_id (Lib.compact (ups O))]
  exact List.map_congr_left fun x _ => key_mkB x
theorem uniq_spec (O : List ByteArray) : ((uniq O).map key).Pairwise (· < ·) ∧ ∀ s, s ∈ uniq O ↔ s ∈ O := by
  have hs : ∀ i j, i < j → j < (ups O).toArray.size → (ups O).toArray[i]! ≤ (ups O).toArray[j]! := fun i j hij hj => by
    have hj' : j < (ups O).length := by simpa using hj
    rw [getElem!_pos _ i (by simpa using (by omega : i < (ups O).length)), getElem!_pos _ j hj]
    simpa using List.pairwise_iff_getElem.1 (ups_sorted O) i j (by omega) hj' hij
  obtain ⟨h1, h2⟩ := compact_up hs (ups O).length (by simp)
  rw [uniq_keys]
  refine ⟨h1, fun s => ?_⟩
  have h3 : s ∈ uniq O ↔ key s ∈ Lib.compact (ups O) := by
    rw [← uniq_keys, List.mem_map]
    exact ⟨fun h => ⟨s, h, rfl⟩, fun ⟨t, ht, e⟩ => key_inj e ▸ ht⟩
  rw [h3, Lib.compact, h2]
  have h4 : key s ∈ ups O ↔ s ∈ O := by
    rw [(ups_perm O).mem_iff, List.mem_map]
    exact ⟨fun ⟨t, ht, e⟩ => key_inj e ▸ ht, fun h => ⟨s, h, rfl⟩⟩
  rw [← h4]
  constructor
  · rintro ⟨j, hj, e⟩
    rw [getElem!_pos _ j (by simpa using hj)] at e
    rw [← e]
    simp
  · intro h
    obtain ⟨j, hj, e⟩ := List.mem_iff_getElem.1 h
    exact ⟨j, hj, by rw [getElem!_pos _ j (by simpa using hj)]; simpa using e⟩
theorem uniq_le (O : List ByteArray) : (uniq O).length ≤ O.length := by
  unfold uniq
  have h1 : ∀ (d : Array (List UInt8)) m, (Lib.compactUpTo d m).length ≤ m := fun d m => by
    induction m with
    | zero => simp [Lib.compactUpTo]
    | succ m ih => rw [Lib.compactUpTo_succ, List.length_append]; split <;> simp <;> omega
  have h2 := (ups_perm O).length_eq
  rw [List.length_map] at h2 ⊢
  have := h1 (ups O).toArray (ups O).length
  unfold Lib.compact
  omega
theorem sorted_keys {A B : List ByteArray} (hA : (A.map key).Pairwise (· < ·)) (hB : (B.map key).Pairwise (· < ·)) (h : ∀ s, s ∈ A ↔ s ∈ B) : A = B := by
  rw [List.pairwise_map] at hA hB
  exact sorted_unique (R := fun a b => key a < key b) (fun a => List.lt_irrefl _) (fun a b h1 h2 => List.lt_irrefl _ (List.lt_trans h1 h2)) hA hB h
theorem enc_mkB (l : List (List UInt8)) : l.map encStr = strCells (l.map mkB) := by
  unfold strCells
  rw [List.map_map]
  rfl
theorem enc_keys (O : List ByteArray) : (O.map key).map encStr = strCells O := by
  rw [enc_mkB, List.map_map]
  congr 1
  conv => rhs; rw [← List.map_id O]
  exact List.map_congr_left fun x _ => mkB_key x
theorem btw_putS (w : World) (g m : Nat) (d : Array (List UInt8)) (os : Array Obj) : Between g (g + 1) w (Go.Sort.grow (Go.Sort.putRow encStr (Go.Sort.ahead w m) g 0 d) os) := by
  refine ⟨rfl, rfl, rfl, by simp, fun k hk hne => ?_⟩
  rw [Go.Sort.heap_grow_old _ _ (by simpa using hk)]
  have : g ≠ k := by omega
  simp [Go.Sort.putRow, Go.Sort.mapBlock, Go.Sort.ahead, Array.getElem?_modify, this]
theorem own_shorter {w : World} {base e g n n' cap : Nat} {xs : List Value} (h : w.ownsRow base e 1 (.slice (some ⟨g, 0, none⟩) n cap) n xs) (hn : n' ≤ n) : w.ownsRow base e 1 (.slice (some ⟨g, 0, none⟩) n' cap) n' (xs.take n') := by
  rcases h.2 with ⟨h0, _⟩ | ⟨g', cap', cur, hv, hg, hb, h1, h2, h3, h4⟩
  · cases h0
  · cases hv
    have h5 := h.1
    refine ⟨by simp; omega, .inr ⟨g, cap, cur, rfl, hg, hb, by omega, h2, h3, ?_⟩⟩
    rw [Nat.mul_one] at h4 ⊢
    rw [← h4, List.take_take, Nat.min_eq_left hn]
/-- The call sorted texts of the caller's own, each once. -/
def RetUniq (w : World) (lo : Nat) (a : Option Addr) (c : Nat) (O : List ByteArray) (e : Ending) (w' : World) : Prop :=
  e = .returned (.slice a (uniq O).length c) ∧ Owns w' lo w'.heap.size 9 1 (uniq O).length a c (strCells (uniq O)) ∧ Below lo w w'
set_option maxHeartbeats 1000000 in
theorem sortedStr_any (O : List ByteArray) (a : Option Addr) (n c lo : Nat) (w : World) (hn : O.length = n) (hm : n ≤ 1048576) (hlo : lo ≤ w.heap.size) (h : Owns w lo w.heap.size 9 1 n a c (strCells O)) :
    Calls Tryz.prog 77 #[.slice a n c] w (RetUniq w lo a c O) := by
  rcases Nat.eq_zero_or_pos n with h0 | h0
  · subst h0
    have hO : O = [] := List.length_eq_zero_iff.1 hn
    subst hO
    have c1 := Any.slices_Sort_string_none (P := Tryz.prog) Tryz.lays190 a c w
    have c2 := Any.slices_Compact_string_empty (P := Tryz.prog) Tryz.lays194 a c w
    have C1 : Calls Tryz.prog 116 #[.slice a 0 c] w (fun e w' => e = .returned (.tuple #[]) ∧ w' = w) := c1
    have C2 : Calls Tryz.prog 117 #[.slice a 0 c] w (fun e w' => e = .returned (.slice a 0 c) ∧ w' = w) := c2
    clear c1 c2
    have hU : uniq [] = [] := List.length_eq_zero_iff.1 (Nat.le_zero.1 (uniq_le []))
    replace C1 := Lib.hid C1
    replace C2 := Lib.hid C2
    replace h := Lib.hid h
    replace hU := Lib.hid hU
    go_enter Tryz.func77, Tryz.ntmps77
    go_wp2_with (first | (go_at_call 116; (with_reducible refine C1.out.mono ?_); rintro e w' ⟨rfl, rfl⟩) | (go_at_call 117; (with_reducible refine C2.out.mono ?_); rintro e w' ⟨rfl, rfl⟩))
    go_ret
    refine ⟨by rw [hU.out]; rfl, ?_, Below.refl _ _⟩
    rw [hU.out]
    exact h.out
  · obtain ⟨g, rfl, hg1, hg2, _, _⟩ := h.at_ (j := 0) (by omega)
    obtain ⟨cap, cur, hv, hge, hb, k1, k2, k3, k4⟩ : ∃ cap cur, (Value.slice (some ⟨g, 0, none⟩) n c : Value) = .slice (some ⟨g, 0, none⟩) n cap ∧ lo ≤ g ∧ w.heap[g]? = some (.cells cur 9 (0, 0)) ∧ n ≤ cap ∧ cap ≤ maxLen ∧ cur.size = cap * 1 ∧ cur.toList.take (n * 1) = strCells O := by
      rcases h.own.2 with ⟨hv, _⟩ | ⟨g', cap, cur, hv, hg, hh, r⟩
      · cases hv
      · cases hv
        exact ⟨c, cur, rfl, hg, hh, r⟩
    cases hv
    have e1 : (ups O).length = n := by rw [(ups_perm O).length_eq, List.length_map, hn]
    have e2 : (O.map key).length = n := by rw [List.length_map, hn]
    have hH := holds_of_block (ss := O.map key) hb (by rw [e2, enc_keys]; simpa using k4)
    have c1 := Any.slices_Sort_string (P := Tryz.prog) Tryz.lays190 g 0 c (O.map key) w hH hg2 (by omega)
    rw [e2] at c1
    have C1 : Calls Tryz.prog 116 #[.slice (some ⟨g, 0, none⟩) n c] w (fun e w' => e = .returned (.tuple #[]) ∧ ∃ m os, w' = Go.Sort.grow (Go.Sort.putRow encStr (Go.Sort.ahead w m) g 0 (ups O).toArray) os) := c1
    have C2 : ∀ m os, Calls Tryz.prog 117 #[.slice (some ⟨g, 0, none⟩) n c] (Go.Sort.grow (Go.Sort.putRow encStr (Go.Sort.ahead w m) g 0 (ups O).toArray) os) (RetUniq w lo (some ⟨g, 0, none⟩) c O) := fun m os => by
      have hb1 := heap_sorted (n := m) (os := os) (ups O).toArray hb
      have ho1 := ownsRow_sorted (n := m) (os := os) (ts := ups O) (ss := ups O) rfl hge hb (by omega) k2 k3
      obtain ⟨W1, hW1⟩ : ∃ W, Go.Sort.grow (Go.Sort.putRow encStr (Go.Sort.ahead w m) g 0 (ups O).toArray) os = W := ⟨_, rfl⟩
      have hbt := btw_putS w g m (ups O).toArray os
      rw [hW1] at hb1 ho1 hbt ⊢
      have hcs : (Go.Sort.putCells encStr 0 (ups O).toArray cur).size = c * 1 := by simpa [Go.Sort.putCells] using k3
      have hH1 := holds_of_block (ss := ups O) hb1 (by exact Go.take_putCells cur (ups O) (by omega))
      have c2 := Any.slices_Compact_string (P := Tryz.prog) Tryz.lays194 g 0 c (ups O) W1 hH1 (by omega) (by omega)
      rw [e1] at c2
      have hle := uniq_le O
      have hul : (uniq O).length = (Lib.compact (ups O)).length := by unfold uniq; rw [List.length_map]
      refine Calls.mono (show Calls Tryz.prog 117 _ _ _ from c2) ?_
      rintro e w' ⟨rfl, q, rfl⟩
      have hl2 : (Lib.compact (ups O) ++ List.replicate (n - (Lib.compact (ups O)).length) []).length = (ups O).length := by
        rw [List.length_append, List.length_replicate]; omega
      have ho2 := ownsRow_sorted (n := q) (os := #[]) (ts := Lib.compact (ups O) ++ List.replicate (n - (Lib.compact (ups O)).length) []) (ss := ups O) hl2 hge hb1 (by omega) k2 hcs
      have hb2 := btw_putS W1 g q (Lib.compact (ups O) ++ List.replicate (n - (Lib.compact (ups O)).length) []).toArray #[]
      rw [Go.Sort.grow_empty] at ho2 hb2
      rw [e1] at ho2
      have ho3 := own_shorter ho2 (n' := (uniq O).length) (by omega)
      rw [List.map_append, List.take_append_of_le_length (by rw [List.length_map]; omega), List.take_of_length_le (by rw [List.length_map]; omega), enc_mkB] at ho3
      have hbb := hbt.trans hb2
      refine ⟨by rw [hul], Owns.of ho3, hbb.os, hbb.tape, hbb.output, hbb.size, fun k hk => hbb.block k (by omega) (.inl (by omega))⟩
    replace C1 := Lib.hid C1
    replace C2 := Lib.hid C2
    clear hH c1 hb h
    go_enter Tryz.func77, Tryz.ntmps77
    go_wp2_with (first | (go_at_call 116; (with_reducible refine C1.out.mono ?_); rintro e w' ⟨rfl, m, os, rfl⟩) | (go_at_call 117; (with_reducible refine (C2.out m os).mono ?_); rintro e w' ⟨rfl, hO, hB⟩))
    go_ret
    exact ⟨rfl, hO, hB⟩
end Go.Proofs.YtklcaphkfdlipaaGreatDoor
