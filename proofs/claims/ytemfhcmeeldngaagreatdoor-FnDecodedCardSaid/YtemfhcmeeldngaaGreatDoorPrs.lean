import Derived.Test.YtemfhcmeeldngaaGreatDoorPackPc
import Derived.Test.YtemfhcmeeldngaaGreatDoorPackPb
import Derived.Test.YtemfhcmeeldngaaGreatDoorFirstI
/- Parsings in plain terms; an ambiguous text has two, and where there are two, there is an ambiguous text. -/
set_option linter.unusedSimpArgs false
set_option linter.unusedVariables false
namespace Go.Proofs.YtemfhcmeeldngaaGreatDoor
open Go.RowKit
/-! ### Parsings -/
inductive Prs (T : List Rul) : List Nat → Tx → Prop
  | nil : Prs T [] []
  | cons {i : Nat} {p : List Nat} {u : Tx} (hi : i < T.length) (h0 : kb T[i].rom ≠ []) (h : Prs T p u) : Prs T (i :: p) (kb T[i].rom ++ u)
theorem Prs.inv {T : List Rul} {i : Nat} {p : List Nat} {s : Tx} (h : Prs T (i :: p) s) : ∃ hi : i < T.length, kb T[i].rom ≠ [] ∧ ∃ u, s = kb T[i].rom ++ u ∧ Prs T p u := by
  cases h with
  | cons hi h0 h => exact ⟨hi, h0, _, rfl, h⟩
theorem Prs.inv0 {T : List Rul} {p : List Nat} (h : Prs T p []) : p = [] := by
  cases p with
  | nil => rfl
  | cons i p =>
    obtain ⟨hi, h0, u, e, _⟩ := h.inv
    exact absurd (List.append_eq_nil_iff.1 e.symm).1 h0
theorem Prs.snoc {T : List Rul} {p : List Nat} {s : Tx} (h : Prs T p s) {i : Nat} (hi : i < T.length) (h0 : kb T[i].rom ≠ []) : Prs T (p ++ [i]) (s ++ kb T[i].rom) := by
  induction h with
  | nil => have := Prs.cons hi h0 .nil; simpa using this
  | cons hj h1 _ ih =>
    rw [List.append_assoc]
    exact .cons hj h1 ih
theorem fits_drop {r : Rul} {s : ByteArray} {i : Nat} (hi : i ≤ s.size) : fitsAt r s i = true ↔ kb r.rom ≠ [] ∧ (kb s).drop i = kb r.rom ++ (kb s).drop (i + r.rom.size) := by
  have hz : kb r.rom ≠ [] ↔ 0 < r.rom.size := by
    rw [← length_kb]
    exact List.length_pos_iff.symm
  rw [fitsAt_iff, hz]
  constructor
  · rintro ⟨h1, h2, h3⟩
    refine ⟨h1, ?_⟩
    have e := kb_extract s i (i + r.rom.size) h2
    rw [h3, show i + r.rom.size - i = r.rom.size by omega] at e
    rw [e, ← List.drop_drop, List.take_append_drop]
  · rintro ⟨h1, h2⟩
    have hl := congrArg List.length h2
    rw [List.length_append, List.length_drop, List.length_drop, length_kb, length_kb] at hl
    have h3 : i + r.rom.size ≤ s.size := by omega
    refine ⟨h1, h3, kb_inj ?_⟩
    rw [kb_extract s i _ h3, h2, show i + r.rom.size - i = (kb r.rom).length by rw [length_kb]; omega, List.take_left]
theorem ways_prs {T : List Rul} {s : ByteArray} : ∀ (n i : Nat), i + n = s.size → (0 < ways T s i ↔ ∃ p, Prs T p ((kb s).drop i)) := by
  intro n
  induction n using Nat.strongRecOn with
  | _ n ih =>
    intro i hin
    by_cases h : i < s.size
    · rw [ways_pos h]
      constructor
      · rintro ⟨k, hk, h1, h2⟩
        have h3 := (fitsAt_iff.1 h1)
        obtain ⟨p, hp⟩ := (ih (s.size - (i + T[k].rom.size)) (by omega) (i + T[k].rom.size) (by omega)).1 h2
        obtain ⟨h4, h5⟩ := (fits_drop (by omega)).1 h1
        exact ⟨k :: p, by rw [h5]; exact .cons hk h4 hp⟩
      · rintro ⟨p, hp⟩
        cases p with
        | nil =>
          exfalso
          generalize hd : (kb s).drop i = d at hp
          cases hp
          have := congrArg List.length hd
          rw [List.length_drop, length_kb] at this
          simp at this
          omega
        | cons k p =>
          obtain ⟨hk, h0, u, e, hp2⟩ := hp.inv
          have hu : u = (kb s).drop (i + T[k].rom.size) := by
            rw [← List.drop_drop, e, ← length_kb, List.drop_left]
          subst hu
          have hf := (fits_drop (r := T[k]) (s := s) (i := i) (by omega)).2 ⟨h0, e⟩
          have h3 := fitsAt_iff.1 hf
          exact ⟨k, hk, hf, (ih (s.size - (i + T[k].rom.size)) (by omega) (i + T[k].rom.size) (by omega)).2 ⟨p, hp2⟩⟩
    · obtain rfl : i = s.size := by omega
      rw [ways_end]
      refine ⟨fun _ => ⟨[], ?_⟩, fun _ => by omega⟩
      rw [List.drop_of_length_le (by rw [length_kb]; exact Nat.le_refl _)]
      exact .nil
theorem ways_prs0 {T : List Rul} {s : ByteArray} : 0 < ways T s 0 ↔ ∃ p, Prs T p (kb s) := by
  have := ways_prs (T := T) (s := s) s.size 0 (by omega)
  rwa [List.drop_zero] at this
/-- Two parsings of one text. -/
def Two2 (T : List Rul) (u : Tx) : Prop := ∃ p q, p ≠ q ∧ Prs T p u ∧ Prs T q u
/-! ### Two parsings and what can be derived -/
theorem roms_at {T : List Rul} {i : Nat} {a : Tx} (h : (roms T)[i]? = some a) : ∃ hi : i < T.length, a = kb T[i].rom := by
  obtain ⟨hi, e⟩ := List.getElem?_eq_some_iff.1 h
  have hi' : i < T.length := by simpa [roms] using hi
  exact ⟨hi', by rw [← e]; simp [roms]⟩
theorem roms_in {T : List Rul} {r : Tx} (h : r ∈ roms T) : ∃ i, ∃ hi : i < T.length, r = kb T[i].rom := by
  obtain ⟨i, hi, rfl⟩ := List.mem_iff_getElem.1 h
  exact ⟨i, by simpa [roms] using hi, by simp [roms]⟩
/-- What is derived is parsed, by one that begins otherwise than the other one. -/
theorem Der.prs {T : List Rul} (hne : ∀ i (hi : i < T.length), kb T[i].rom ≠ []) {t v : Tx} (d : Der (roms T) t v) :
    ∃ i k p q y, i ≠ k ∧ Prs T (k :: q) t ∧ Prs T (i :: p) y ∧ t = y ++ v := by
  induction d with
  | @init i k a b u hi hk hik e =>
    obtain ⟨h1, rfl⟩ := roms_at hi
    obtain ⟨h2, e2⟩ := roms_at hk
    refine ⟨i, k, [], [], kb T[i].rom, hik, ?_, ?_, e⟩
    · have := Prs.cons h2 (hne k h2) .nil
      rw [List.append_nil, ← e2] at this
      exact this
    · have := Prs.cons h1 (hne i h1) .nil
      rwa [List.append_nil] at this
  | @ext t v r u d hv hr e ih =>
    obtain ⟨i, k, p, q, y, hik, h1, h2, h3⟩ := ih
    obtain ⟨m, hm, rfl⟩ := roms_in hr
    refine ⟨k, i, q, p ++ [m], t, fun e => hik e.symm, ?_, h1, rfl⟩
    have := h2.snoc hm (hne m hm)
    rw [e, ← List.append_assoc, ← h3] at this
    exact this
  | @sub t v r u d hv hr e ih =>
    obtain ⟨i, k, p, q, y, hik, h1, h2, h3⟩ := ih
    obtain ⟨m, hm, rfl⟩ := roms_in hr
    refine ⟨i, k, p ++ [m], q, y ++ kb T[m].rom, hik, h1, h2.snoc hm (hne m hm), ?_⟩
    rw [h3, e, List.append_assoc]
theorem Der.two {T : List Rul} (hne : ∀ i (hi : i < T.length), kb T[i].rom ≠ []) {t : Tx} (d : Der (roms T) t []) : Two2 T t := by
  obtain ⟨i, k, p, q, y, hik, h1, h2, h3⟩ := d.prs hne
  rw [List.append_nil] at h3
  subst h3
  exact ⟨_, _, (by intro e; injection e with e _; exact hik e), h2, h1⟩
theorem der_goes {T : List Rul} : ∀ (n : Nat) (t v u : Tx) (p q : List Nat), Der (roms T) t v → Prs T p (v ++ u) → Prs T q u → p.length + q.length ≤ n → ∃ t', Der (roms T) t' [] ∧ t'.length ≤ t.length + u.length
  | n, t, [], u, p, q, d, _, _, _ => ⟨t, d, by omega⟩
  | n, t, x :: v, u, [], q, d, hp, _, _ => by
    generalize he : x :: v ++ u = z at hp
    cases hp
    simp at he
  | 0, t, x :: v, u, i :: p, q, d, hp, hq, hl => by simp at hl
  | n + 1, t, x :: v, u, i :: p, q, d, hp, hq, hl => by
    obtain ⟨hi, h0, z, e, hp2⟩ := hp.inv
    have hm := roms_mem hi
    rcases List.append_eq_append_iff.1 e with ⟨w, h1, h2⟩ | ⟨w, h1, h2⟩
    · have d2 := Der.ext d (by simp) hm h1
      subst h2
      obtain ⟨t', d3, h3⟩ := der_goes n (t ++ w) w z q p d2 hq hp2 (by simp at hl; omega)
      exact ⟨t', d3, by simp at h3 ⊢; omega⟩
    · have d2 := Der.sub d (by simp) hm h1
      subst h2
      obtain ⟨t', d3, h3⟩ := der_goes n t w u p q d2 hp2 hq (by simp at hl; omega)
      exact ⟨t', d3, h3⟩
theorem two_der {T : List Rul} : ∀ (p q : List Nat) (u : Tx), p ≠ q → Prs T p u → Prs T q u → ∃ t', Der (roms T) t' [] ∧ t'.length ≤ u.length
  | [], q, u, hne, hp, hq => by
    cases hp
    exact absurd hq.inv0.symm hne
  | i :: p, [], u, hne, hp, hq => by
    cases hq
    exact absurd hp.inv0 (by simp)
  | i :: p, k :: q, u, hne, hp, hq => by
    obtain ⟨hi, h0, z, e, hp2⟩ := hp.inv
    obtain ⟨hk, h0', z', e', hq2⟩ := hq.inv
    by_cases hik : i = k
    · subst hik
      have hz := e.symm.trans e'
      rw [List.append_cancel_left_eq] at hz
      subst hz
      obtain ⟨t', d, h⟩ := two_der p q z (fun e => hne (by rw [e])) hp2 hq2
      exact ⟨t', d, by rw [e]; simp; omega⟩
    · have e2 := e.symm.trans e'
      rcases List.append_eq_append_iff.1 e2 with ⟨w, h1, h2⟩ | ⟨w, h1, h2⟩
      · have d : Der (roms T) (kb T[k].rom) w := .init (roms_get hi) (roms_get hk) hik h1
        subst h2
        obtain ⟨t', d3, h3⟩ := der_goes _ _ w z' p q d hp2 hq2 (Nat.le_refl _)
        exact ⟨t', d3, by rw [e']; simpa using h3⟩
      · have d : Der (roms T) (kb T[i].rom) w := .init (roms_get hk) (roms_get hi) (fun e => hik e.symm) h1
        subst h2
        obtain ⟨t', d3, h3⟩ := der_goes _ _ w z q p d hq2 hp2 (Nat.le_refl _)
        exact ⟨t', d3, by rw [e]; simpa using h3⟩
/-! ### The best text for each rest -/
theorem least_der (rs : List Tx) (u : Tx) (h : ∃ t, Der rs t u) : ∃ t, Der rs t u ∧ ∀ t', Der rs t' u → ¬ betL t' t := by
  obtain ⟨t, ht⟩ := h
  have key : ∀ (n : Nat) (t : Tx), rk t ≤ n → Der rs t u → ∃ t, Der rs t u ∧ ∀ t', Der rs t' u → ¬ betL t' t := by
    intro n
    induction n with
    | zero => exact fun t hn d => ⟨t, d, fun t' _ hb => by have := rk_bet hb; omega⟩
    | succ n ih =>
      intro t hn d
      by_cases h : ∃ t', Der rs t' u ∧ betL t' t
      · obtain ⟨t', d', hb⟩ := h
        have := rk_bet hb
        exact ih t' (by omega) d'
      · exact ⟨t, d, fun t' d' hb => h ⟨t', d', hb⟩⟩
  exact key _ t (Nat.le_refl _) ht
open Classical in
theorem final_exists (rs : List Tx) : ∃ f, SoundF rs f ∧ ClosedF rs f := by
  refine ⟨fun u => if h : ∃ t, Der rs t u then some (least_der rs u h).choose else none, fun u t hf => ?_, ?_⟩
  · simp only at hf
    split at hf
    · rename_i h
      cases hf
      exact (least_der rs u h).choose_spec.1
    · cases hf
  · have hk : ∀ t u, Der rs t u → KnowsF (fun u => if h : ∃ t, Der rs t u then some (least_der rs u h).choose else none) t u := fun t u d => by
      have h : ∃ t, Der rs t u := ⟨t, d⟩
      refine ⟨(least_der rs u h).choose, by simp only; rw [dif_pos h], (least_der rs u h).choose_spec.2 t d⟩
    have hs : ∀ u t, (if h : ∃ t, Der rs t u then some (least_der rs u h).choose else none) = some t → Der rs t u := fun u t hf => by
      split at hf
      · rename_i h
        cases hf
        exact (least_der rs u h).choose_spec.1
      · cases hf
    exact ⟨fun i k a u h1 h2 h3 => hk _ _ (.init h1 h2 h3 rfl), fun t v u hf hv hr => hk _ _ (.ext (hs _ _ hf) hv hr rfl), fun t r u hf hv hr => hk _ _ (.sub (hs _ _ hf) hv hr rfl)⟩
theorem ambO_none {T : List Rul} (h : ambO T = none) (t : Tx) : ¬ Der (roms T) t [] := fun d => by
  obtain ⟨f, hs, hc⟩ := final_exists (roms T)
  rw [ambO_eq hs hc] at h
  obtain ⟨t2, h1, h2⟩ := hc.knows d
  rw [h] at h1
  cases h1
theorem plain_same {T : List Rul} (h : ambO T = none) {p q : List Nat} {u : Tx} (hp : Prs T p u) (hq : Prs T q u) : p = q := by
  by_cases e : p = q
  · exact e
  · obtain ⟨t, d, _⟩ := two_der p q _ e hp hq
    exact absurd d (ambO_none h t)
/-- The letters of what is parsed. -/
theorem Prs.letters {T : List Rul} {P : UInt8 → Bool} (h : ∀ i (hi : i < T.length), (kb T[i].rom).all P = true) {p : List Nat} {u : Tx} (hp : Prs T p u) : u.all P = true := by
  induction hp with
  | nil => rfl
  | cons hi _ _ ih => rw [List.all_append, h _ hi, ih]; rfl
/-- The first parsing is one. -/
theorem firstL_prs {T : List Rul} {s : ByteArray} : ∀ (f i : Nat), i ≤ s.size → s.size - i ≤ f → 0 < ways T s i → ∃ p : List Nat, firstL T s f i = p.map (fun (n : Nat) => (n : Int)) ∧ Prs T p ((kb s).drop i)
  | 0, i, hi, hf, hw => by
    obtain rfl : i = s.size := by omega
    refine ⟨[], by rw [firstL_end (Nat.le_refl _)]; rfl, ?_⟩
    rw [List.drop_of_length_le (by rw [length_kb]; exact Nat.le_refl _)]
    exact .nil
  | f + 1, i, hi, hf, hw => by
    by_cases h : i < s.size
    · obtain ⟨k, hk, _, h1, h2, _, h3⟩ := first_step (f := f + 1) h hw hf
      have h4 := fitsAt_iff.1 h1
      obtain ⟨p, e, hp⟩ := firstL_prs (T := T) (s := s) f (i + T[k].rom.size) (by omega) (by omega) h2
      obtain ⟨h5, h6⟩ := (fits_drop (by omega)).1 h1
      refine ⟨k :: p, ?_, by rw [h6]; exact .cons hk h5 hp⟩
      rw [h3, Nat.add_sub_cancel, e]
      rfl
    · obtain rfl : i = s.size := by omega
      refine ⟨[], by rw [firstL_end (Nat.le_refl _)]; rfl, ?_⟩
      rw [List.drop_of_length_le (by rw [length_kb]; exact Nat.le_refl _)]
      exact .nil
theorem fpL_prs {T : List Rul} {s : ByteArray} (h : fpK T s = true) : ∃ p : List Nat, fpL T s = p.map (fun (n : Nat) => (n : Int)) ∧ Prs T p (kb s) := by
  have hw : 0 < ways T s 0 := by simpa [fpK] using h
  obtain ⟨p, e, hp⟩ := firstL_prs (T := T) (s := s) s.size 0 (by omega) (by omega) hw
  rw [List.drop_zero] at hp
  exact ⟨p, by unfold fpL; rw [h]; exact e, hp⟩
/-- The texts of a parsing, one behind the other, are the text. -/
theorem prs_rom {T : List Rul} : ∀ {p : List Nat} {u : Tx} (acc : ByteArray), Prs T p u → kb ((p.map (fun (n : Nat) => (n : Int))).foldl (fun t i => match T[i.toNat]? with | some r => t ++ r.rom | none => t) acc) = kb acc ++ u
  | [], u, acc, h => by cases h; simp
  | i :: p, u, acc, h => by
    obtain ⟨hi, h0, z, e, hp⟩ := h.inv
    rw [List.map_cons, List.foldl_cons, Int.toNat_natCast, List.getElem?_eq_getElem hi]
    dsimp only
    rw [prs_rom (acc ++ T[i].rom) hp, kb_append, e, List.append_assoc]
theorem fpL_rom {T : List Rul} {s : ByteArray} (h : fpK T s = true) : romL T (fpL T s) = s := by
  obtain ⟨p, e, hp⟩ := fpL_prs h
  refine kb_inj ?_
  rw [e]
  exact prs_rom ByteArray.empty hp
/-- Rules that have texts are a parsing of what they make. -/
theorem rom_prs {T : List Rul} : ∀ (l : List Int) (acc : ByteArray), (∀ x ∈ l, 0 ≤ x ∧ x < T.length) → (∀ i (hi : i < T.length), kb T[i].rom ≠ []) → ∃ u, Prs T (l.map Int.toNat) u ∧ kb (l.foldl (fun t i => match T[i.toNat]? with | some r => t ++ r.rom | none => t) acc) = kb acc ++ u
  | [], acc, _, _ => ⟨[], .nil, by simp⟩
  | x :: l, acc, h, hne => by
    have hx := h x (by simp)
    have hi : x.toNat < T.length := by omega
    obtain ⟨u, hp, e⟩ := rom_prs l (acc ++ T[x.toNat].rom) (fun y hy => h y (by simp [hy])) hne
    refine ⟨kb T[x.toNat].rom ++ u, by rw [List.map_cons]; exact .cons hi (hne _ hi) hp, ?_⟩
    rw [List.foldl_cons, List.getElem?_eq_getElem hi]
    dsimp only
    rw [e, kb_append, List.append_assoc]
/-- In an unambiguous table the first parsing of what rules make is these rules. -/
theorem fp_rom {T : List Rul} (hne : ∀ i (hi : i < T.length), kb T[i].rom ≠ []) (h : ambO T = none) {l : List Int} (hl : ∀ x ∈ l, 0 ≤ x ∧ x < T.length) : fpK T (romL T l) = true ∧ fpL T (romL T l) = l := by
  obtain ⟨u, hp, e⟩ := rom_prs l ByteArray.empty hl hne
  have e2 : kb (romL T l) = u := e
  have hk : fpK T (romL T l) = true := by
    unfold fpK
    rw [decide_eq_true_eq, ways_prs0, e2]
    exact ⟨_, hp⟩
  refine ⟨hk, ?_⟩
  obtain ⟨q, e3, hq⟩ := fpL_prs hk
  rw [e2] at hq
  have := plain_same h hp hq
  rw [e3, ← this, List.map_map]
  apply List.ext_getElem (by simp)
  intro i h1 h2
  have := hl _ (List.getElem_mem h2)
  simp
  omega
end Go.Proofs.YtemfhcmeeldngaaGreatDoor
