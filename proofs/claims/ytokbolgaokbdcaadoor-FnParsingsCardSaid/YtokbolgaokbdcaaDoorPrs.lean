import Derived.Test.YtokbolgaokbdcaaDoorPackPc
import Derived.Test.YtokbolgaokbdcaaDoorPackPb
import Derived.Test.YtokbolgaokbdcaaDoorFirstI
/- Parsings in plain terms; an ambiguous text has two, and where there are two, there is an ambiguous text. -/
set_option linter.unusedSimpArgs false
set_option linter.unusedVariables false
namespace Go.Proofs.YtokbolgaokbdcaaDoor
open Go.RowKit
/-! ### Sums of numbers that are not negative -/
theorem sum_nonneg : ∀ {L : List Int}, (∀ x ∈ L, 0 ≤ x) → 0 ≤ L.sum
  | [], _ => by simp
  | x :: L, h => by
    have h1 := h x (by simp)
    have h2 := sum_nonneg (L := L) fun y hy => h y (by simp [hy])
    rw [List.sum_cons]; omega
theorem sum_ge_one : ∀ {L : List Int} {k : Nat} (hk : k < L.length), (∀ x ∈ L, 0 ≤ x) → L[k] ≤ L.sum
  | [], k, hk, _ => by simp at hk
  | x :: L, 0, hk, h => by
    have h2 := sum_nonneg (L := L) fun y hy => h y (by simp [hy])
    rw [List.sum_cons, List.getElem_cons_zero]; omega
  | x :: L, k + 1, hk, h => by
    have h1 := h x (by simp)
    have h2 := sum_ge_one (L := L) (k := k) (by simpa using hk) fun y hy => h y (by simp [hy])
    rw [List.sum_cons, List.getElem_cons_succ]; omega
theorem sum_ge_two : ∀ {L : List Int} {k l : Nat} (hkl : k < l) (hl : l < L.length), (∀ x ∈ L, 0 ≤ x) → L[k] + L[l] ≤ L.sum
  | [], k, l, _, hl, _ => by simp at hl
  | x :: L, 0, l + 1, _, hl, h => by
    have h2 := sum_ge_one (L := L) (k := l) (by simpa using hl) fun y hy => h y (by simp [hy])
    rw [List.sum_cons, List.getElem_cons_zero, List.getElem_cons_succ]; omega
  | x :: L, k + 1, 0, hkl, _, _ => by omega
  | x :: L, k + 1, l + 1, hkl, hl, h => by
    have h1 := h x (by simp)
    have h2 := sum_ge_two (L := L) (k := k) (l := l) (by omega) (by simpa using hl) fun y hy => h y (by simp [hy])
    rw [List.sum_cons, List.getElem_cons_succ, List.getElem_cons_succ]; omega
theorem sum_pos : ∀ {L : List Int}, (∀ x ∈ L, 0 ≤ x) → 0 < L.sum → ∃ k, ∃ hk : k < L.length, 0 < L[k]
  | [], _, h => by simp at h
  | x :: L, h0, h => by
    rw [List.sum_cons] at h
    rcases Int.lt_or_le 0 x with h1 | h1
    · exact ⟨0, by simp, by simpa using h1⟩
    · obtain ⟨k, hk, h2⟩ := sum_pos (L := L) (fun y hy => h0 y (by simp [hy])) (by omega)
      exact ⟨k + 1, by simpa using hk, by simpa using h2⟩
theorem sum_gt_one : ∀ {L : List Int}, (∀ x ∈ L, 0 ≤ x) → 1 < L.sum → (∃ k, ∃ hk : k < L.length, 1 < L[k]) ∨ ∃ k l, ∃ hkl : k < l, ∃ hl : l < L.length, 0 < L[k] ∧ 0 < L[l]
  | [], _, h => by simp at h
  | x :: L, h0, h => by
    have h0' : ∀ y ∈ L, 0 ≤ y := fun y hy => h0 y (by simp [hy])
    have hx := h0 x (by simp)
    rw [List.sum_cons] at h
    by_cases h1 : 1 < x
    · exact .inl ⟨0, by simp, by simpa using h1⟩
    by_cases h2 : x = 0
    · rcases sum_gt_one h0' (by omega) with ⟨k, hk, h3⟩ | ⟨k, l, hkl, hl, h3, h4⟩
      · exact .inl ⟨k + 1, by simpa using hk, by simpa using h3⟩
      · exact .inr ⟨k + 1, l + 1, by omega, by simpa using hl, by simpa using h3, by simpa using h4⟩
    · obtain ⟨l, hl, h3⟩ := sum_pos h0' (by omega)
      exact .inr ⟨0, l + 1, by omega, by simpa using hl, by simp; omega, by simpa using h3⟩
theorem sum_le_len : ∀ {L : List Int}, (∀ x ∈ L, x ≤ 1) → L.sum ≤ L.length
  | [], _ => by simp
  | x :: L, h => by
    have h1 := h x (by simp)
    have h2 := sum_le_len (L := L) fun y hy => h y (by simp [hy])
    rw [List.sum_cons, List.length_cons]; omega
/-! ### The number of parsings as a sum -/
def shareW (s : ByteArray) (W : Nat → Int) (i : Nat) (r : Rul) : Int := if fitsAt r s i then W (i + r.rom.size) else 0
theorem shareW_nonneg {s : ByteArray} {W : Nat → Int} {i : Nat} {r : Rul} (hW : ∀ j, 0 ≤ W j) : 0 ≤ shareW s W i r := by
  unfold shareW; split
  · exact hW _
  · omega
theorem wayF_sum {s : ByteArray} {W : Nat → Int} {i : Nat} (hW : ∀ j, 0 ≤ W j) : ∀ (T : List Rul) (acc : Int), 0 ≤ acc → acc ≤ M1 → T.foldl (wayS s W i) acc = min (acc + (T.map (shareW s W i)).sum) M1
  | [], acc, h0, h1 => by simp; omega
  | r :: T, acc, h0, h1 => by
    obtain ⟨h2, h3⟩ := wayS_bd (r := r) (i := i) (s := s) h0 h1 hW
    rw [List.foldl_cons, wayF_sum hW T _ h2 h3, List.map_cons, List.sum_cons]
    have h4 := sum_nonneg (L := T.map (shareW s W i)) fun x hx => by
      obtain ⟨r, _, rfl⟩ := List.mem_map.1 hx
      exact shareW_nonneg hW
    have h5 := hW (i + r.rom.size)
    generalize (T.map (shareW s W i)).sum = q at *
    by_cases hf : fitsAt r s i = true
    · rw [show shareW s W i r = W (i + r.rom.size) by simp [shareW, hf], show wayS s W i acc r = min (acc + W (i + r.rom.size)) M1 by simp [wayS, hf]]
      unfold M1 at *
      omega
    · rw [show shareW s W i r = 0 by simp [shareW, hf], show wayS s W i acc r = acc by simp [wayS, hf]]
      unfold M1 at *
      omega
theorem ways_sum {T : List Rul} {s : ByteArray} {i : Nat} (h : i < s.size) : ways T s i = min ((T.map (shareW s (ways T s) i)).sum) M1 := by
  rw [ways_eq h]
  unfold wayF
  rw [wayF_sum (ways_nonneg T s) T 0 (by omega) (by unfold M1; omega), Int.zero_add]
/-! ### Parsings -/
inductive Prs (T : List Rul) : List Nat → Tx → Prop
  | nil : Prs T [] []
  | cons {i : Nat} {p : List Nat} {u : Tx} (hi : i < T.length) (h0 : kb T[i].rom ≠ []) (h : Prs T p u) : Prs T (i :: p) (kb T[i].rom ++ u)
theorem Prs.inv {T : List Rul} {i : Nat} {p : List Nat} {s : Tx} (h : Prs T (i :: p) s) : ∃ hi : i < T.length, kb T[i].rom ≠ [] ∧ ∃ u, s = kb T[i].rom ++ u ∧ Prs T p u := by
  cases h with
  | cons hi h0 h => exact ⟨hi, h0, _, rfl, h⟩
theorem Prs.inv0 {T : List Rul} {p : List Nat} (h : Prs T p []) : p = [] := by
  cases p with
  | nil => rfl
  | cons i p =>
    obtain ⟨hi, h0, u, e, _⟩ := h.inv
    exact absurd (List.append_eq_nil_iff.1 e.symm).1 h0
theorem Prs.snoc {T : List Rul} {p : List Nat} {s : Tx} (h : Prs T p s) {i : Nat} (hi : i < T.length) (h0 : kb T[i].rom ≠ []) : Prs T (p ++ [i]) (s ++ kb T[i].rom) := by
  induction h with
  | nil => have := Prs.cons hi h0 .nil; simpa using this
  | cons hj h1 _ ih =>
    rw [List.append_assoc]
    exact .cons hj h1 ih
theorem fits_drop {r : Rul} {s : ByteArray} {i : Nat} (hi : i ≤ s.size) : fitsAt r s i = true ↔ kb r.rom ≠ [] ∧ (kb s).drop i = kb r.rom ++ (kb s).drop (i + r.rom.size) := by
  have hz : kb r.rom ≠ [] ↔ 0 < r.rom.size := by
    rw [← length_kb]
    exact List.length_pos_iff.symm
  rw [fitsAt_iff, hz]
  constructor
  · rintro ⟨h1, h2, h3⟩
    refine ⟨h1, ?_⟩
    have e := kb_extract s i (i + r.rom.size) h2
    rw [h3, show i + r.rom.size - i = r.rom.size by omega] at e
    rw [e, ← List.drop_drop, List.take_append_drop]
  · rintro ⟨h1, h2⟩
    have hl := congrArg List.length h2
    rw [List.length_append, List.length_drop, List.length_drop, length_kb, length_kb] at hl
    have h3 : i + r.rom.size ≤ s.size := by omega
    refine ⟨h1, h3, kb_inj ?_⟩
    rw [kb_extract s i _ h3, h2, show i + r.rom.size - i = (kb r.rom).length by rw [length_kb]; omega, List.take_left]
theorem ways_prs {T : List Rul} {s : ByteArray} : ∀ (n i : Nat), i + n = s.size → (0 < ways T s i ↔ ∃ p, Prs T p ((kb s).drop i)) := by
  intro n
  induction n using Nat.strongRecOn with
  | _ n ih =>
    intro i hin
    by_cases h : i < s.size
    · rw [ways_pos h]
      constructor
      · rintro ⟨k, hk, h1, h2⟩
        have h3 := (fitsAt_iff.1 h1)
        obtain ⟨p, hp⟩ := (ih (s.size - (i + T[k].rom.size)) (by omega) (i + T[k].rom.size) (by omega)).1 h2
        obtain ⟨h4, h5⟩ := (fits_drop (by omega)).1 h1
        exact ⟨k :: p, by rw [h5]; exact .cons hk h4 hp⟩
      · rintro ⟨p, hp⟩
        cases p with
        | nil =>
          exfalso
          generalize hd : (kb s).drop i = d at hp
          cases hp
          have := congrArg List.length hd
          rw [List.length_drop, length_kb] at this
          simp at this
          omega
        | cons k p =>
          obtain ⟨hk, h0, u, e, hp2⟩ := hp.inv
          have hu : u = (kb s).drop (i + T[k].rom.size) := by
            rw [← List.drop_drop, e, ← length_kb, List.drop_left]
          subst hu
          have hf := (fits_drop (r := T[k]) (s := s) (i := i) (by omega)).2 ⟨h0, e⟩
          have h3 := fitsAt_iff.1 hf
          exact ⟨k, hk, hf, (ih (s.size - (i + T[k].rom.size)) (by omega) (i + T[k].rom.size) (by omega)).2 ⟨p, hp2⟩⟩
    · obtain rfl : i = s.size := by omega
      rw [ways_end]
      refine ⟨fun _ => ⟨[], ?_⟩, fun _ => by omega⟩
      rw [List.drop_of_length_le (by rw [length_kb]; exact Nat.le_refl _)]
      exact .nil
/-- Two parsings of one text. -/
def Two2 (T : List Rul) (u : Tx) : Prop := ∃ p q, p ≠ q ∧ Prs T p u ∧ Prs T q u
theorem ways_two {T : List Rul} {s : ByteArray} : ∀ (n i : Nat), i + n = s.size → (1 < ways T s i ↔ Two2 T ((kb s).drop i)) := by
  intro n
  induction n using Nat.strongRecOn with
  | _ n ih =>
    intro i hin
    by_cases h : i < s.size
    · have hnn : ∀ x ∈ T.map (shareW s (ways T s) i), (0 : Int) ≤ x := fun x hx => by
        obtain ⟨r, _, rfl⟩ := List.mem_map.1 hx
        exact shareW_nonneg (ways_nonneg T s)
      have hsh : ∀ k (hk : k < T.length), (T.map (shareW s (ways T s) i))[k]'(by simpa using hk) = shareW s (ways T s) i T[k] := fun k hk => by simp
      have hpos : ∀ k (hk : k < T.length), 0 < shareW s (ways T s) i T[k] ↔ ∃ p, Prs T (k :: p) ((kb s).drop i) := fun k hk => by
        unfold shareW
        constructor
        · intro h1
          split at h1
          · rename_i hf
            have h3 := fitsAt_iff.1 hf
            obtain ⟨p, hp⟩ := (ways_prs (s.size - (i + T[k].rom.size)) (i + T[k].rom.size) (by omega)).1 h1
            obtain ⟨h4, h5⟩ := (fits_drop (by omega)).1 hf
            exact ⟨p, by rw [h5]; exact .cons hk h4 hp⟩
          · omega
        · rintro ⟨p, hp⟩
          obtain ⟨_, h0, u, e, hp2⟩ := hp.inv
          have hu : u = (kb s).drop (i + T[k].rom.size) := by
            rw [← List.drop_drop, e, ← length_kb, List.drop_left]
          subst hu
          have hf := (fits_drop (r := T[k]) (s := s) (i := i) (by omega)).2 ⟨h0, e⟩
          have h3 := fitsAt_iff.1 hf
          rw [if_pos hf]
          exact (ways_prs (s.size - (i + T[k].rom.size)) (i + T[k].rom.size) (by omega)).2 ⟨p, hp2⟩
      have hgt : ∀ k (hk : k < T.length), 1 < shareW s (ways T s) i T[k] ↔ ∃ p q, p ≠ q ∧ Prs T (k :: p) ((kb s).drop i) ∧ Prs T (k :: q) ((kb s).drop i) := fun k hk => by
        unfold shareW
        constructor
        · intro h1
          split at h1
          · rename_i hf
            have h3 := fitsAt_iff.1 hf
            obtain ⟨p, q, hne, hp, hq⟩ := (ih (s.size - (i + T[k].rom.size)) (by omega) (i + T[k].rom.size) (by omega)).1 h1
            obtain ⟨h4, h5⟩ := (fits_drop (by omega)).1 hf
            exact ⟨p, q, hne, by rw [h5]; exact .cons hk h4 hp, by rw [h5]; exact .cons hk h4 hq⟩
          · omega
        · rintro ⟨p, q, hne, hp, hq⟩
          obtain ⟨_, h0, u, e, hp2⟩ := hp.inv
          obtain ⟨_, _, u', e', hq2⟩ := hq.inv
          have hu : u = (kb s).drop (i + T[k].rom.size) := by
            rw [← List.drop_drop, e, ← length_kb, List.drop_left]
          have hu' : u' = (kb s).drop (i + T[k].rom.size) := by
            rw [← List.drop_drop, e', ← length_kb, List.drop_left]
          subst hu hu'
          have hf := (fits_drop (r := T[k]) (s := s) (i := i) (by omega)).2 ⟨h0, e⟩
          have h3 := fitsAt_iff.1 hf
          rw [if_pos hf]
          exact (ih (s.size - (i + T[k].rom.size)) (by omega) (i + T[k].rom.size) (by omega)).2 ⟨p, q, hne, hp2, hq2⟩
      rw [ways_sum h]
      constructor
      · intro h1
        rcases sum_gt_one hnn (by omega) with ⟨k, hk, h2⟩ | ⟨k, l, hkl, hl, h2, h3⟩
        · have hk' : k < T.length := by simpa using hk
          rw [hsh k hk'] at h2
          obtain ⟨p, q, hne, hp, hq⟩ := (hgt k hk').1 h2
          exact ⟨_, _, (by intro e; injection e with _ e; exact hne e), hp, hq⟩
        · have hl' : l < T.length := by simpa using hl
          rw [hsh k (by omega)] at h2
          rw [hsh l hl'] at h3
          obtain ⟨p, hp⟩ := (hpos k (by omega)).1 h2
          obtain ⟨q, hq⟩ := (hpos l hl').1 h3
          exact ⟨_, _, (by intro e; injection e with e _; omega), hp, hq⟩
      · rintro ⟨p, q, hne, hp, hq⟩
        have hM : (1 : Int) < M1 := by unfold M1; omega
        have hd : (kb s).drop i ≠ [] := fun e => by
          have := congrArg List.length e
          rw [List.length_drop, length_kb] at this
          simp at this
          omega
        cases p with
        | nil =>
          generalize hdd : (kb s).drop i = d at hp hd
          cases hp
          exact absurd rfl hd
        | cons k p =>
          cases q with
          | nil =>
            generalize hdd : (kb s).drop i = d at hq hd
            cases hq
            exact absurd rfl hd
          | cons l q =>
            have hk := hp.inv.1
            have hl := hq.inv.1
            by_cases hkl : k = l
            · subst hkl
              have h2 := (hgt k hk).2 ⟨p, q, fun e => hne (by rw [e]), hp, hq⟩
              have h3 := sum_ge_one (L := T.map (shareW s (ways T s) i)) (k := k) (by simpa using hk) hnn
              rw [hsh k hk] at h3
              omega
            · have h2 := (hpos k hk).2 ⟨p, hp⟩
              have h3 := (hpos l hl).2 ⟨q, hq⟩
              rcases Nat.lt_or_ge k l with h4 | h4
              · have h5 := sum_ge_two (L := T.map (shareW s (ways T s) i)) h4 (by simpa using hl) hnn
                rw [hsh k hk, hsh l hl] at h5
                omega
              · have h5 := sum_ge_two (L := T.map (shareW s (ways T s) i)) (show l < k by omega) (by simpa using hk) hnn
                rw [hsh k hk, hsh l hl] at h5
                omega
    · obtain rfl : i = s.size := by omega
      rw [ways_end, List.drop_of_length_le (by rw [length_kb]; exact Nat.le_refl _)]
      refine ⟨fun h => by omega, ?_⟩
      rintro ⟨p, q, hne, hp, hq⟩
      exact absurd (hp.inv0.trans hq.inv0.symm) hne
theorem ways_two0 {T : List Rul} {s : ByteArray} : 1 < ways T s 0 ↔ Two2 T (kb s) := by
  have := ways_two (T := T) (s := s) s.size 0 (by omega)
  rwa [List.drop_zero] at this
/-! ### Two parsings and what can be derived -/
theorem roms_at {T : List Rul} {i : Nat} {a : Tx} (h : (roms T)[i]? = some a) : ∃ hi : i < T.length, a = kb T[i].rom := by
  obtain ⟨hi, e⟩ := List.getElem?_eq_some_iff.1 h
  have hi' : i < T.length := by simpa [roms] using hi
  exact ⟨hi', by rw [← e]; simp [roms]⟩
theorem roms_in {T : List Rul} {r : Tx} (h : r ∈ roms T) : ∃ i, ∃ hi : i < T.length, r = kb T[i].rom := by
  obtain ⟨i, hi, rfl⟩ := List.mem_iff_getElem.1 h
  exact ⟨i, by simpa [roms] using hi, by simp [roms]⟩
/-- What is derived is parsed, by one that begins otherwise than the other one. -/
theorem Der.prs {T : List Rul} (hne : ∀ i (hi : i < T.length), kb T[i].rom ≠ []) {t v : Tx} (d : Der (roms T) t v) :
    ∃ i k p q y, i ≠ k ∧ Prs T (k :: q) t ∧ Prs T (i :: p) y ∧ t = y ++ v := by
  induction d with
  | @init i k a b u hi hk hik e =>
    obtain ⟨h1, rfl⟩ := roms_at hi
    obtain ⟨h2, e2⟩ := roms_at hk
    refine ⟨i, k, [], [], kb T[i].rom, hik, ?_, ?_, e⟩
    · have := Prs.cons h2 (hne k h2) .nil
      rw [List.append_nil, ← e2] at this
      exact this
    · have := Prs.cons h1 (hne i h1) .nil
      rwa [List.append_nil] at this
  | @ext t v r u d hv hr e ih =>
    obtain ⟨i, k, p, q, y, hik, h1, h2, h3⟩ := ih
    obtain ⟨m, hm, rfl⟩ := roms_in hr
    refine ⟨k, i, q, p ++ [m], t, fun e => hik e.symm, ?_, h1, rfl⟩
    have := h2.snoc hm (hne m hm)
    rw [e, ← List.append_assoc, ← h3] at this
    exact this
  | @sub t v r u d hv hr e ih =>
    obtain ⟨i, k, p, q, y, hik, h1, h2, h3⟩ := ih
    obtain ⟨m, hm, rfl⟩ := roms_in hr
    refine ⟨i, k, p ++ [m], q, y ++ kb T[m].rom, hik, h1, h2.snoc hm (hne m hm), ?_⟩
    rw [h3, e, List.append_assoc]
theorem Der.two {T : List Rul} (hne : ∀ i (hi : i < T.length), kb T[i].rom ≠ []) {t : Tx} (d : Der (roms T) t []) : Two2 T t := by
  obtain ⟨i, k, p, q, y, hik, h1, h2, h3⟩ := d.prs hne
  rw [List.append_nil] at h3
  subst h3
  exact ⟨_, _, (by intro e; injection e with e _; exact hik e), h2, h1⟩
theorem der_goes {T : List Rul} : ∀ (n : Nat) (t v u : Tx) (p q : List Nat), Der (roms T) t v → Prs T p (v ++ u) → Prs T q u → p.length + q.length ≤ n → ∃ t', Der (roms T) t' [] ∧ t'.length ≤ t.length + u.length
  | n, t, [], u, p, q, d, _, _, _ => ⟨t, d, by omega⟩
  | n, t, x :: v, u, [], q, d, hp, _, _ => by
    generalize he : x :: v ++ u = z at hp
    cases hp
    simp at he
  | 0, t, x :: v, u, i :: p, q, d, hp, hq, hl => by simp at hl
  | n + 1, t, x :: v, u, i :: p, q, d, hp, hq, hl => by
    obtain ⟨hi, h0, z, e, hp2⟩ := hp.inv
    have hm := roms_mem hi
    rcases List.append_eq_append_iff.1 e with ⟨w, h1, h2⟩ | ⟨w, h1, h2⟩
    · have d2 := Der.ext d (by simp) hm h1
      subst h2
      obtain ⟨t', d3, h3⟩ := der_goes n (t ++ w) w z q p d2 hq hp2 (by simp at hl; omega)
      exact ⟨t', d3, by simp at h3 ⊢; omega⟩
    · have d2 := Der.sub d (by simp) hm h1
      subst h2
      obtain ⟨t', d3, h3⟩ := der_goes n t w u p q d2 hp2 hq (by simp at hl; omega)
      exact ⟨t', d3, h3⟩
theorem two_der {T : List Rul} : ∀ (p q : List Nat) (u : Tx), p ≠ q → Prs T p u → Prs T q u → ∃ t', Der (roms T) t' [] ∧ t'.length ≤ u.length
  | [], q, u, hne, hp, hq => by
    cases hp
    exact absurd hq.inv0.symm hne
  | i :: p, [], u, hne, hp, hq => by
    cases hq
    exact absurd hp.inv0 (by simp)
  | i :: p, k :: q, u, hne, hp, hq => by
    obtain ⟨hi, h0, z, e, hp2⟩ := hp.inv
    obtain ⟨hk, h0', z', e', hq2⟩ := hq.inv
    by_cases hik : i = k
    · subst hik
      have hz := e.symm.trans e'
      rw [List.append_cancel_left_eq] at hz
      subst hz
      obtain ⟨t', d, h⟩ := two_der p q z (fun e => hne (by rw [e])) hp2 hq2
      exact ⟨t', d, by rw [e]; simp; omega⟩
    · have e2 := e.symm.trans e'
      rcases List.append_eq_append_iff.1 e2 with ⟨w, h1, h2⟩ | ⟨w, h1, h2⟩
      · have d : Der (roms T) (kb T[k].rom) w := .init (roms_get hi) (roms_get hk) hik h1
        subst h2
        obtain ⟨t', d3, h3⟩ := der_goes _ _ w z' p q d hp2 hq2 (Nat.le_refl _)
        exact ⟨t', d3, by rw [e']; simpa using h3⟩
      · have d : Der (roms T) (kb T[i].rom) w := .init (roms_get hk) (roms_get hi) (fun e => hik e.symm) h1
        subst h2
        obtain ⟨t', d3, h3⟩ := der_goes _ _ w z q p d hq2 hp2 (Nat.le_refl _)
        exact ⟨t', d3, by rw [e]; simpa using h3⟩
/-! ### The best text for each rest -/
theorem least_der (rs : List Tx) (u : Tx) (h : ∃ t, Der rs t u) : ∃ t, Der rs t u ∧ ∀ t', Der rs t' u → ¬ betL t' t := by
  obtain ⟨t, ht⟩ := h
  have key : ∀ (n : Nat) (t : Tx), rk t ≤ n → Der rs t u → ∃ t, Der rs t u ∧ ∀ t', Der rs t' u → ¬ betL t' t := by
    intro n
    induction n with
    | zero => exact fun t hn d => ⟨t, d, fun t' _ hb => by have := rk_bet hb; omega⟩
    | succ n ih =>
      intro t hn d
      by_cases h : ∃ t', Der rs t' u ∧ betL t' t
      · obtain ⟨t', d', hb⟩ := h
        have := rk_bet hb
        exact ih t' (by omega) d'
      · exact ⟨t, d, fun t' d' hb => h ⟨t', d', hb⟩⟩
  exact key _ t (Nat.le_refl _) ht
open Classical in
theorem final_exists (rs : List Tx) : ∃ f, SoundF rs f ∧ ClosedF rs f := by
  refine ⟨fun u => if h : ∃ t, Der rs t u then some (least_der rs u h).choose else none, fun u t hf => ?_, ?_⟩
  · simp only at hf
    split at hf
    · rename_i h
      cases hf
      exact (least_der rs u h).choose_spec.1
    · cases hf
  · have hk : ∀ t u, Der rs t u → KnowsF (fun u => if h : ∃ t, Der rs t u then some (least_der rs u h).choose else none) t u := fun t u d => by
      have h : ∃ t, Der rs t u := ⟨t, d⟩
      refine ⟨(least_der rs u h).choose, by simp only; rw [dif_pos h], (least_der rs u h).choose_spec.2 t d⟩
    have hs : ∀ u t, (if h : ∃ t, Der rs t u then some (least_der rs u h).choose else none) = some t → Der rs t u := fun u t hf => by
      split at hf
      · rename_i h
        cases hf
        exact (least_der rs u h).choose_spec.1
      · cases hf
    exact ⟨fun i k a u h1 h2 h3 => hk _ _ (.init h1 h2 h3 rfl), fun t v u hf hv hr => hk _ _ (.ext (hs _ _ hf) hv hr rfl), fun t r u hf hv hr => hk _ _ (.sub (hs _ _ hf) hv hr rfl)⟩
/-- The first text with two parsings is derived, and none that is derived is better. -/
theorem ambO_some {T : List Rul} {t : Tx} (h : ambO T = some t) : Der (roms T) t [] ∧ ∀ t', Der (roms T) t' [] → ¬ betL t' t := by
  obtain ⟨f, hs, hc⟩ := final_exists (roms T)
  rw [ambO_eq hs hc] at h
  refine ⟨hs _ _ h, fun t' d hb => ?_⟩
  obtain ⟨t2, h1, h2⟩ := hc.knows d
  rw [h] at h1
  cases h1
  exact h2 hb
theorem ambO_none {T : List Rul} (h : ambO T = none) (t : Tx) : ¬ Der (roms T) t [] := fun d => by
  obtain ⟨f, hs, hc⟩ := final_exists (roms T)
  rw [ambO_eq hs hc] at h
  obtain ⟨t2, h1, h2⟩ := hc.knows d
  rw [h] at h1
  cases h1
/-! ### What the laws ask -/
theorem plain_one {T : List Rul} (h : ambO T = none) (s : ByteArray) : ¬ 1 < ways T s 0 := fun h1 => by
  obtain ⟨p, q, hne, hp, hq⟩ := ways_two0.1 h1
  obtain ⟨t, d, _⟩ := two_der p q _ hne hp hq
  exact ambO_none h t d
/-- The first ambiguous text has at least two parsings, and at most one for each rule. -/
theorem amb_ways {T : List Rul} (hne : ∀ i (hi : i < T.length), kb T[i].rom ≠ []) {s : ByteArray} (h : ambO T = some (kb s)) (hT : T.length ≤ 30) : 1 < ways T s 0 ∧ ways T s 0 ≤ 30 := by
  obtain ⟨d, hm⟩ := ambO_some h
  have h2 := ways_two0.2 (d.two hne)
  refine ⟨h2, ?_⟩
  have hs : 0 < s.size := by
    rcases Nat.eq_zero_or_pos s.size with h0 | h0
    · have := ways_end T s
      rw [h0] at this
      omega
    · exact h0
  rw [ways_sum hs]
  have hle : ∀ x ∈ T.map (shareW s (ways T s) 0), x ≤ (1 : Int) := fun x hx => by
    obtain ⟨r, hr, rfl⟩ := List.mem_map.1 hx
    unfold shareW
    split
    · rename_i hf
      have hf2 := fitsAt_iff.1 hf
      rw [Nat.zero_add] at hf2 ⊢
      rcases Int.lt_or_le 1 (ways T s r.rom.size) with h3 | h3
      · exfalso
        obtain ⟨p, q, hpq, hp, hq⟩ := (ways_two (s.size - r.rom.size) r.rom.size (by omega)).1 h3
        obtain ⟨t, d2, hl⟩ := two_der p q _ hpq hp hq
        refine hm t d2 (.inl ?_)
        rw [List.length_drop] at hl
        have := length_kb s
        omega
      · exact h3
    · omega
  have h5 := sum_le_len hle
  rw [List.length_map] at h5
  omega
/-- The letters of what is parsed. -/
theorem Prs.letters {T : List Rul} {P : UInt8 → Bool} (h : ∀ i (hi : i < T.length), (kb T[i].rom).all P = true) {p : List Nat} {u : Tx} (hp : Prs T p u) : u.all P = true := by
  induction hp with
  | nil => rfl
  | cons hi _ _ ih => rw [List.all_append, h _ hi, ih]; rfl
/-- The first parsing is one. -/
theorem firstL_prs {T : List Rul} {s : ByteArray} : ∀ (f i : Nat), i ≤ s.size → s.size - i ≤ f → 0 < ways T s i → ∃ p : List Nat, firstL T s f i = p.map (fun (n : Nat) => (n : Int)) ∧ Prs T p ((kb s).drop i)
  | 0, i, hi, hf, hw => by
    obtain rfl : i = s.size := by omega
    refine ⟨[], by rw [firstL_end (Nat.le_refl _)]; rfl, ?_⟩
    rw [List.drop_of_length_le (by rw [length_kb]; exact Nat.le_refl _)]
    exact .nil
  | f + 1, i, hi, hf, hw => by
    by_cases h : i < s.size
    · obtain ⟨k, hk, _, h1, h2, _, h3⟩ := first_step (f := f + 1) h hw hf
      have h4 := fitsAt_iff.1 h1
      obtain ⟨p, e, hp⟩ := firstL_prs (T := T) (s := s) f (i + T[k].rom.size) (by omega) (by omega) h2
      obtain ⟨h5, h6⟩ := (fits_drop (by omega)).1 h1
      refine ⟨k :: p, ?_, by rw [h6]; exact .cons hk h5 hp⟩
      rw [h3, Nat.add_sub_cancel, e]
      rfl
    · obtain rfl : i = s.size := by omega
      refine ⟨[], by rw [firstL_end (Nat.le_refl _)]; rfl, ?_⟩
      rw [List.drop_of_length_le (by rw [length_kb]; exact Nat.le_refl _)]
      exact .nil
theorem fpL_prs {T : List Rul} {s : ByteArray} (h : fpK T s = true) : ∃ p : List Nat, fpL T s = p.map (fun (n : Nat) => (n : Int)) ∧ Prs T p (kb s) := by
  have hw : 0 < ways T s 0 := by simpa [fpK] using h
  obtain ⟨p, e, hp⟩ := firstL_prs (T := T) (s := s) s.size 0 (by omega) (by omega) hw
  rw [List.drop_zero] at hp
  exact ⟨p, by unfold fpL; rw [h]; exact e, hp⟩
/-- The texts of a parsing, one behind the other, are the text. -/
theorem prs_rom {T : List Rul} : ∀ {p : List Nat} {u : Tx} (acc : ByteArray), Prs T p u → kb ((p.map (fun (n : Nat) => (n : Int))).foldl (fun t i => match T[i.toNat]? with | some r => t ++ r.rom | none => t) acc) = kb acc ++ u
  | [], u, acc, h => by cases h; simp
  | i :: p, u, acc, h => by
    obtain ⟨hi, h0, z, e, hp⟩ := h.inv
    rw [List.map_cons, List.foldl_cons, Int.toNat_natCast, List.getElem?_eq_getElem hi]
    dsimp only
    rw [prs_rom (acc ++ T[i].rom) hp, kb_append, e, List.append_assoc]
theorem fpL_rom {T : List Rul} {s : ByteArray} (h : fpK T s = true) : romL T (fpL T s) = s := by
  obtain ⟨p, e, hp⟩ := fpL_prs h
  refine kb_inj ?_
  rw [e]
  exact prs_rom ByteArray.empty hp
end Go.Proofs.YtokbolgaokbdcaaDoor
