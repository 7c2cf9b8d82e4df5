import Derived.Test.YtcpddgkloeklaaaGreatDoorMark
import Derived.Test.YtcpddgkloeklaaaGreatDoorRises
/- Slices of slices of numbers: rows for reading, rows of one's own; comparison and marks. -/
set_option linter.unusedSimpArgs false
set_option linter.unusedVariables false
namespace Go.Proofs.YtcpddgkloeklaaaGreatDoor
open Go.RowKit
/-- A slice of slices of numbers, for reading. -/
def Rows2 (w : World) (a : Option Addr) (S : List (List Int)) : Prop :=
  ∃ vs : List Value, vs.length = S.length ∧ Row w a vs ∧ ∀ i (h : i < S.length), ∃ ai ci, vs[i]? = some (.slice ai S[i].length ci) ∧ Row w ai (intCells S[i])
theorem Rows2.bel {w w' : World} {a : Option Addr} {S : List (List Int)} (h : Rows2 w a S) (hb : Below w.heap.size w w') : Rows2 w' a S := by
  obtain ⟨vs, h1, h2, h3⟩ := h
  refine ⟨vs, h1, h2.bel hb, fun i hi => ?_⟩
  obtain ⟨ai, ci, h4, h5⟩ := h3 i hi
  exact ⟨ai, ci, h4, h5.bel hb⟩
theorem Rows2.at_ {w : World} {a : Option Addr} {S : List (List Int)} (h : Rows2 w a S) {k : Nat} (hk : k < S.length) :
    ∃ b o ai ci, a = some ⟨b, o, none⟩ ∧ b < w.heap.size ∧ w.cell? ⟨b, o + k, none⟩ = some (.slice ai S[k].length ci) ∧ Row w ai (intCells S[k]) := by
  obtain ⟨vs, h1, h2, h3⟩ := h
  obtain ⟨ai, ci, h4, h5⟩ := h3 k hk
  obtain ⟨b, o, rfl, hc⟩ := h2 k _ h4
  exact ⟨b, o, ai, ci, rfl, World.block_lt_of_cell? w _ hc, hc, h5⟩
theorem Rows2.nil (w : World) (a : Option Addr) : Rows2 w a [] := ⟨[], rfl, Row.nil w a, fun i h => absurd h (by simp)⟩
/-- A slice of slices of one's own: each lies in a block of its own. -/
structure Nest (w : World) (lo hi : Nat) (a : Option Addr) (n c : Nat) (S : List (List Int)) (vs : List Value) : Prop where
  own : Owns w lo hi 23 1 n a c vs
  len : S.length = n
  at_ : ∀ i (h : i < S.length), ∃ ai ci, vs[i]? = some (.slice ai S[i].length ci) ∧ Owns w lo hi 2 1 S[i].length ai ci (intCells S[i])
  sep : vs.Pairwise fun u v => ∀ g, u.ownBlock = some g → v.ownBlock ≠ some g
theorem Nest.vlen {w : World} {lo hi : Nat} {a : Option Addr} {n c : Nat} {S : List (List Int)} {vs : List Value} (h : Nest w lo hi a n c S vs) : vs.length = n := by have := h.own.own.1; omega
theorem Nest.rows {w : World} {lo hi : Nat} {a : Option Addr} {n c : Nat} {S : List (List Int)} {vs : List Value} (h : Nest w lo hi a n c S vs) : Rows2 w a S :=
  ⟨vs, by rw [h.vlen, h.len], h.own.row, fun i hi => by
    obtain ⟨ai, ci, h1, h2⟩ := h.at_ i hi
    exact ⟨ai, ci, h1, h2.row⟩⟩
theorem Nest.bel {w w' : World} {lo hi B : Nat} {a : Option Addr} {n c : Nat} {S : List (List Int)} {vs : List Value} (h : Nest w lo hi a n c S vs) (hb : Below B w w') (hB : hi ≤ B) : Nest w' lo hi a n c S vs :=
  ⟨h.own.bel hb hB, h.len, fun i hi' => by
    obtain ⟨ai, ci, h1, h2⟩ := h.at_ i hi'
    exact ⟨ai, ci, h1, h2.bel hb hB⟩, h.sep⟩
theorem Nest.btw {w w' : World} {lo hi lo' hi' : Nat} {a : Option Addr} {n c : Nat} {S : List (List Int)} {vs : List Value} (h : Nest w lo hi a n c S vs) (hb : Between lo' hi' w w') (ho : hi ≤ lo' ∨ hi' ≤ lo) : Nest w' lo hi a n c S vs :=
  ⟨h.own.btw hb ho, h.len, fun i hi' => by
    obtain ⟨ai, ci, h1, h2⟩ := h.at_ i hi'
    exact ⟨ai, ci, h1, h2.btw hb ho⟩, h.sep⟩
theorem Owns.wide {w : World} {lo hi hi' e s n : Nat} {a : Option Addr} {c : Nat} {xs : List Value} (h : Owns w lo hi e s n a c xs) (hh : hi ≤ hi') : Owns w lo hi' e s n a c xs := ⟨h.own, fun p hp => Nat.lt_of_lt_of_le (h.lt p hp) hh⟩
theorem Owns.keep {w w' : World} {lo hi g g' e s n : Nat} {a : Option Addr} {c : Nat} {xs : List Value} (h : Owns w lo hi e s n a c xs) (hb : Between g g' w w') (ho : ∀ k, (Value.slice a n c).ownBlock = some k → k < g ∨ g' ≤ k) : Owns w' lo hi e s n a c xs := ⟨own_btw h.own hb ho, h.lt⟩
/-- The block in which a slice of one's own lies. -/
theorem Owns.tight {w : World} {lo hi e s n : Nat} {a : Option Addr} {c : Nat} {xs : List Value} (h : Owns w lo hi e s n a c xs) (hlh : lo ≤ hi) :
    ∃ g g', lo ≤ g ∧ g ≤ g' ∧ g' ≤ hi ∧ Owns w g g' e s n a c xs ∧ (∀ k, (Value.slice a n c).ownBlock = some k → k = g ∧ g' = g + 1) ∧ (∀ k, g ≤ k → k < g' → (Value.slice a n c).ownBlock = some k ∧ ∃ cur fr, w.heap[k]? = some (.cells cur e fr)) := by
  rcases h.own.2 with ⟨hv, hn⟩ | ⟨g, cap, cur, hv, hg, hh, r⟩
  · have ha : a = none := by injection hv
    have hc : c = 0 := by injection hv
    subst ha hn hc
    refine ⟨hi, hi, hlh, Nat.le_refl _, Nat.le_refl _, ⟨⟨h.own.1, .inl ⟨rfl, rfl⟩⟩, fun p hp => by cases hp⟩, fun k hk => by simp [Value.ownBlock] at hk, fun k h1 h2 => absurd h2 (by omega)⟩
  · have ha : a = some ⟨g, 0, none⟩ := by injection hv
    subst ha
    have h1 := h.lt _ rfl
    simp only at h1
    refine ⟨g, g + 1, hg, by omega, h1, ⟨⟨h.own.1, .inr ⟨g, cap, cur, hv, Nat.le_refl _, hh, r⟩⟩, fun p hp => by cases hp; exact Nat.lt_succ_self _⟩, fun k hk => ?_, fun k h1 h2 => ?_⟩
    · simp only [Value.ownBlock, Option.some.injEq] at hk
      omega
    · obtain rfl : k = g := by omega
      exact ⟨rfl, cur, _, hh⟩
theorem Owns.elem {w : World} {lo hi e s n k : Nat} {a : Option Addr} {c : Nat} {xs : List Value} (h : Owns w lo hi e s n a c xs) (hk : (Value.slice a n c).ownBlock = some k) : ∃ cur fr, w.heap[k]? = some (.cells cur e fr) := by
  rcases h.own.2 with ⟨hv, hn⟩ | ⟨g, cap, cur, hv, hg, hh, r⟩
  · rw [hv] at hk; simp [Value.ownBlock] at hk
  · rw [hv] at hk
    simp only [Value.ownBlock, Option.some.injEq] at hk
    subst hk
    exact ⟨cur, _, hh⟩
theorem elem_ne {w : World} {k e e' : Nat} {cur cur' : Array Value} {fr fr' : Nat × Nat} (h : w.heap[k]? = some (.cells cur e fr)) (h' : w.heap[k]? = some (.cells cur' e' fr')) : e = e' := by
  rw [h] at h'
  injection h' with h'
  injection h'
theorem Nest.one {w : World} {lo hi : Nat} {a : Option Addr} {n c : Nat} {S : List (List Int)} {vs : List Value} (h : Nest w lo hi a n c S vs) : ∀ u ∈ vs, u.oneCell' = true := fun u hu => by
  obtain ⟨i, hi, rfl⟩ := List.mem_iff_getElem.1 hu
  obtain ⟨ai, ci, h1, _⟩ := h.at_ i (by have := h.vlen; have := h.len; omega)
  rw [List.getElem?_eq_getElem hi] at h1
  rw [Option.some.inj h1]
  rfl
theorem Nest.mono {w : World} {lo hi lo' hi' : Nat} {a : Option Addr} {n c : Nat} {S : List (List Int)} {vs : List Value} (h : Nest w lo hi a n c S vs) (h1 : lo' ≤ lo) (h2 : hi ≤ hi') : Nest w lo' hi' a n c S vs :=
  ⟨⟨own_mono h.own.own h1, fun p hp => Nat.lt_of_lt_of_le (h.own.lt p hp) h2⟩, h.len, fun i hi0 => by
    obtain ⟨ai, ci, h3, h4⟩ := h.at_ i hi0
    exact ⟨ai, ci, h3, ⟨own_mono h4.own h1, fun p hp => Nat.lt_of_lt_of_le (h4.lt p hp) h2⟩⟩, h.sep⟩
theorem Nest.nil (w : World) (lo hi : Nat) : Nest w lo hi none 0 0 [] [] :=
  ⟨⟨World.ownsRow_nil _ _ _ _, fun p hp => by cases hp⟩, rfl, fun i hi => absurd hi (by simp), .nil⟩
theorem Nest.empty {w : World} {lo hi : Nat} {a : Option Addr} {c : Nat} (h : Owns w lo hi 23 1 0 a c []) : Nest w lo hi a 0 c [] [] := ⟨h, rfl, fun i hi => absurd hi (by simp), .nil⟩
theorem Nest.made0 (W : World) (base : Nat) (hb : base ≤ W.heap.size) : Nest (W.alloc (.cells #[] 23)) base (W.alloc (.cells #[] 23)).heap.size (some ⟨W.heap.size, 0, none⟩) 0 0 [] [] :=
  Nest.empty (Owns.of (World.ownsRow_lit (base := base) (e := 23) (size := 1) W #[] 0 hb (by unfold maxLen; omega) rfl))
/-- One slice of one's own in a row of one's own. -/
theorem Nest.lit {w : World} {lo hi : Nat} {a : Option Addr} {c : Nat} {l : List Int} {ai : Option Addr} {ci : Nat} (h : Owns w lo hi 23 1 1 a c [.slice ai l.length ci]) (h2 : Owns w lo hi 2 1 l.length ai ci (intCells l)) :
    Nest w lo hi a 1 c [l] [.slice ai l.length ci] :=
  ⟨h, rfl, fun i hi0 => by
    obtain rfl : i = 0 := by simp at hi0; omega
    exact ⟨ai, ci, rfl, h2⟩, List.pairwise_singleton _ _⟩
theorem Owns.blk_lt {w : World} {lo hi e s n k : Nat} {a : Option Addr} {c : Nat} {xs : List Value} (h : Owns w lo hi e s n a c xs) (hk : (Value.slice a n c).ownBlock = some k) : lo ≤ k ∧ k < hi := by
  cases a with
  | none => simp [Value.ownBlock] at hk
  | some p =>
    simp only [Value.ownBlock, Option.some.injEq] at hk
    subst hk
    exact ⟨h.ge p rfl, h.lt p rfl⟩
/-- append of such slices to such slices. -/
theorem Nest.append {w W x : World} {lo p p' : Nat} {a a2 a' : Option Addr} {n c n2 c2 c' : Nat} {S S2 : List (List Int)} {vs vs2 : List Value} (h : Nest w lo w.heap.size a n c S vs) (hb : Below w.heap.size w W)
    (h2 : Nest W w.heap.size W.heap.size a2 n2 c2 S2 vs2) (hlp : lo ≤ p) (hlw : lo ≤ w.heap.size) (hpp : p' ≤ w.heap.size) (hpb : ∀ k, p ≤ k → k < p' → (Value.slice a n c).ownBlock = some k) (hx : Between p p' W x)
    (hown : x.ownsRow p 23 1 (.slice a' (n + n2) c') (n + n2) (vs ++ vs2)) : Nest x lo x.heap.size a' (n + n2) c' (S ++ S2) (vs ++ vs2) := by
  have l1 := h.len
  have l2 := h2.len
  have v1 := h.vlen
  have v2 := h2.vlen
  have hs1 := hb.size
  have hs2 := hx.size
  refine ⟨⟨own_mono hown hlp, fun q hq => by subst hq; exact (hown.lt q.block rfl).2⟩, by simp [l1, l2], fun i hi => ?_, ?_⟩
  · rw [List.length_append] at hi
    rcases Nat.lt_or_ge i S.length with h3 | h3
    · obtain ⟨ai, ci, h4, h5⟩ := h.at_ i h3
      refine ⟨ai, ci, ?_, ?_⟩
      · rw [List.getElem?_append_left (by omega), h4, List.getElem_append_left h3]
      · rw [List.getElem_append_left h3]
        have h6 := h5.bel hb (Nat.le_refl _)
        refine (h6.keep hx fun k hk => ?_).wide (by omega)
        by_cases h7 : p ≤ k ∧ k < p'
        · obtain ⟨cur, fr, h8⟩ := h5.elem hk
          obtain ⟨cur', fr', h9⟩ := h.own.elem (hpb k h7.1 h7.2)
          exact absurd (elem_ne h8 h9) (by decide)
        · omega
    · obtain ⟨ai, ci, h4, h5⟩ := h2.at_ (i - S.length) (by omega)
      refine ⟨ai, ci, ?_, ?_⟩
      · rw [List.getElem?_append_right (by omega), show vs.length = S.length by omega, h4, List.getElem_append_right h3]
      · rw [List.getElem_append_right h3]
        have h6 := h5.keep hx fun k hk => by have := (h5.blk_lt hk).1; omega
        exact ⟨own_mono h6.own hlw, fun q hq => Nat.lt_of_lt_of_le (h6.lt q hq) hs2⟩
  · rw [List.pairwise_append]
    refine ⟨h.sep, h2.sep, fun u hu v hv g hg hg' => ?_⟩
    obtain ⟨i, hi, rfl⟩ := List.mem_iff_getElem.1 hu
    obtain ⟨j, hj, rfl⟩ := List.mem_iff_getElem.1 hv
    obtain ⟨ai, ci, h4, h5⟩ := h.at_ i (by omega)
    obtain ⟨aj, cj, h6, h7⟩ := h2.at_ j (by omega)
    rw [List.getElem?_eq_getElem hi] at h4
    rw [List.getElem?_eq_getElem hj] at h6
    rw [Option.some.inj h4] at hg
    rw [Option.some.inj h6] at hg'
    have := h5.blk_lt hg
    have := h7.blk_lt hg'
    omega
/-- What a block's cells are of. -/
def Elem (w : World) (g e : Nat) : Prop := ∃ cs fr, w.heap[g]? = some (.cells cs e fr)
theorem Elem.lt {w : World} {g e : Nat} (h : Elem w g e) : g < w.heap.size := by
  obtain ⟨cs, fr, h⟩ := h
  exact (Array.getElem?_eq_some_iff.1 h).1
theorem Elem.bel {w w' : World} {g e : Nat} (h : Elem w g e) (hb : Below w.heap.size w w') : Elem w' g e := by
  have hl := h.lt
  obtain ⟨cs, fr, h⟩ := h
  exact ⟨cs, fr, (hb.block g hl).trans h⟩
theorem Elem.new (w : World) (cs : Array Value) (e : TypeId) : Elem (w.alloc (.cells cs e)) w.heap.size e := ⟨cs, _, heap_alloc_new w _⟩
theorem Elem.btw {w w' : World} {g e lo hi : Nat} (h : Elem w g e) (hb : Between lo hi w w') (ho : g < lo ∨ hi ≤ g) : Elem w' g e := by
  have hl := h.lt
  obtain ⟨cs, fr, h⟩ := h
  exact ⟨cs, fr, (hb.block g hl ho).trans h⟩
theorem Elem.ne {w : World} {g e e' : Nat} (h : Elem w g e) (h' : Elem w g e') : e = e' := by
  obtain ⟨cs, fr, h⟩ := h
  obtain ⟨cs', fr', h'⟩ := h'
  exact elem_ne h h'
/-- A slice of numbers and a slice of it alone, both just made. -/
theorem Nest.made (W : World) (base : Nat) (hb : base ≤ W.heap.size) (l : List Int) (n : Nat) (hl : l.length = n) (hm : n ≤ maxLen) (cs : Array Value) (hcs : cs.toList = intCells l) :
    Nest ((W.alloc (.cells cs 2)).alloc (.cells #[.slice (some ⟨W.heap.size, 0, none⟩) n n] 23)) base ((W.alloc (.cells cs 2)).alloc (.cells #[.slice (some ⟨W.heap.size, 0, none⟩) n n] 23)).heap.size
      (some ⟨W.heap.size + 1, 0, none⟩) 1 1 [l] [.slice (some ⟨W.heap.size, 0, none⟩) n n] := by
  subst hl
  have hsz : cs.size = l.length := by rw [← Array.length_toList, hcs, length_intCells]
  have h1 := Owns.of (World.ownsRow_lit (base := base) (e := 2) (size := 1) W cs l.length hb hm (by omega))
  have h2 := Owns.of (World.ownsRow_lit (base := base) (e := 23) (size := 1) (W.alloc (.cells cs 2)) #[.slice (some ⟨W.heap.size, 0, none⟩) l.length l.length] 1 (by simp only [World.size_alloc]; omega) (by unfold maxLen; omega) rfl)
  rw [hcs] at h1
  rw [show (W.alloc (.cells cs 2)).heap.size = W.heap.size + 1 by simp only [World.size_alloc]] at h2
  refine Nest.lit h2 ?_
  exact (h1.bel (B := (W.alloc (.cells cs 2)).heap.size) ((Below.refl _ _).alloc (Nat.le_refl _) _) (Nat.le_refl _)).wide (by simp only [World.size_alloc]; omega)
/-- How many elements lie ahead of the `j`-th slice. -/
def offS (S : List (List Int)) (j : Nat) : Nat := ((S.take j).map List.length).foldr (· + ·) 0
theorem foldr_snoc (l : List Nat) (x : Nat) : (l ++ [x]).foldr (· + ·) 0 = l.foldr (· + ·) 0 + x := by
  induction l with
  | nil => simp
  | cons a l ih => simp only [List.cons_append, List.foldr_cons, ih]; omega
theorem offS_zero (S : List (List Int)) : offS S 0 = 0 := rfl
theorem offS_succ {S : List (List Int)} {j : Nat} (h : j < S.length) : offS S (j + 1) = offS S j + S[j].length := by
  unfold offS
  rw [List.take_succ_eq_append_getElem h, List.map_append, List.map_cons, List.map_nil, foldr_snoc]
theorem offS_le {S : List (List Int)} {M : Nat} (h : ∀ l ∈ S, l.length ≤ M) : ∀ j, offS S j ≤ j * M
  | 0 => by simp [offS_zero]
  | j + 1 => by
    have ih := offS_le h j
    by_cases hj : j < S.length
    · rw [offS_succ hj, Nat.succ_mul]
      have := h _ (List.getElem_mem hj)
      omega
    · have : offS S (j + 1) = offS S j := by unfold offS; rw [List.take_of_length_le (by omega), List.take_of_length_le (by omega)]
      rw [this, Nat.succ_mul]; omega
set_option maxHeartbeats 1000000 in
theorem eqInt64SS_same (S : List (List Int)) (a a' : Option Addr) (n c n' c' : Nat) (w : World) (hn : S.length = n) (hn' : S.length = n') (hm : n ≤ 1048576) (hl : ∀ l ∈ S, l.length ≤ 1048576) (hr : Rows2 w a S) (hr' : Rows2 w a' S) :
    Calls Tryz.prog 40 #[.slice a n c, .slice a' n' c'] w (Ret w (.bool true)) := by
  subst hn
  subst hn'
  replace hr := Lib.hid hr
  replace hr' := Lib.hid hr'
  replace hl := Lib.hid hl
  go_enter Tryz.func40, Tryz.ntmps40
  go_wp2_with fail
  go_loopw [5] (fun i wr => ∃ k : Nat, k ≤ S.length ∧ i = .int .i64 k ∧ ∃ z : Later w, wr = z.w) (fun i _ => S.length - (intOf i).toNat)
  case atStart => exact ⟨0, Nat.zero_le _, rfl, ⟨_, Below.refl _ _⟩, rfl⟩
  case round =>
    obtain ⟨k, hk, rfl, z, rfl⟩ := hrel
    by_cases hlt : k < S.length
    · obtain ⟨b, o, ai, ci, rfl, hb, hc, hrow⟩ := hr.out.at_ hlt
      obtain ⟨b', o', ai', ci', rfl, hb', hc', hrow'⟩ := hr'.out.at_ hlt
      have hi1 : (k : Int) < (S.length : Int) := by omega
      have hzz := z.bel.size
      have hm1 := hl.out _ (List.getElem_mem hlt)
      have C := Lib.hid (fun (w : World) (hr : Row w ai (intCells S[k])) (hr' : Row w ai' (intCells S[k])) => eqInt64S_same (l := S[k]) (a := ai) (c := ci) (a' := ai') (c' := ci') (n := S[k].length) (n' := S[k].length) (w := w) rfl rfl hm1 hm1 hr hr')
      replace hrow := Lib.hid hrow
      replace hrow' := Lib.hid hrow'
      go_wp2_with fail
      refine wp_region_plan [(0, true), (1, true), (2, true), (3, true), (4, true), (5, true), (6, true), (7, true), (8, false), (9, true)] (C := LaterC _) (by kernel_rfl) (by kernel_rfl) (by kernel_rfl) rfl (fun _ _ d _ _ h => by cases d <;> exact h) (LaterC.mk ((Below.refl _ _).drew)) ?_
      first | (refine plan_quiet nth0 rfl ?_; intro KP hKP; go_big_quiet_op; go_big_quiet_on) | (refine plan_skip_q nth0 rfl rfl ?_; simp only [Act.put, List.setIfInBounds_toArray, List.set_cons_zero, List.set_cons_succ])
      first | (refine plan_quiet nth1 rfl ?_; intro KP hKP; go_big_quiet_op; go_big_quiet_on) | (refine plan_skip_q nth1 rfl rfl ?_; simp only [Act.put, List.setIfInBounds_toArray, List.set_cons_zero, List.set_cons_succ])
      first | (refine plan_quiet nth2 rfl ?_; intro KP hKP; go_big_quiet_op; go_big_quiet_on) | (refine plan_skip_q nth2 rfl rfl ?_; simp only [Act.put, List.setIfInBounds_toArray, List.set_cons_zero, List.set_cons_succ])
      first | (refine plan_quiet nth3 rfl ?_; intro KP hKP; go_big_quiet_op; go_big_quiet_on) | (refine plan_skip_q nth3 rfl rfl ?_; simp only [Act.put, List.setIfInBounds_toArray, List.set_cons_zero, List.set_cons_succ])
      first | (refine plan_quiet nth4 rfl ?_; intro KP hKP; go_big_quiet_op; go_big_quiet_on) | (refine plan_skip_q nth4 rfl rfl ?_; simp only [Act.put, List.setIfInBounds_toArray, List.set_cons_zero, List.set_cons_succ])
      first | (refine plan_quiet nth5 rfl ?_; intro KP hKP; go_big_quiet_op; go_big_quiet_on) | (refine plan_skip_q nth5 rfl rfl ?_; simp only [Act.put, List.setIfInBounds_toArray, List.set_cons_zero, List.set_cons_succ])
      first | (refine plan_quiet nth6 rfl ?_; intro KP hKP; go_big_quiet_op; go_big_quiet_on) | (refine plan_skip_q nth6 rfl rfl ?_; simp only [Act.put, List.setIfInBounds_toArray, List.set_cons_zero, List.set_cons_succ])
      first | (refine plan_quiet nth7 rfl ?_; intro KP hKP; go_big_quiet_op; go_big_quiet_on) | (refine plan_skip_q nth7 rfl rfl ?_; simp only [Act.put, List.setIfInBounds_toArray, List.set_cons_zero, List.set_cons_succ])
      first | (refine plan_loud nth8 rfl ?_; intro KP hKP; go_wp2_with (first | (go_at_call 21; first | ((with_reducible refine (Calls.later (C.out _ (hrow.out.bel (by (repeat (first | (with_reducible exact Below.refl _ _) | (with_reducible assumption) | (with_reducible refine Later.out _ ?_) | (with_reducible refine bel_alloc ?_ _) | (with_reducible refine bel_drew ?_) | (with_reducible refine bel_drewN ?_ _) | (with_reducible refine bel_set ?_ ?_ _) | (with_reducible refine After.out _ ?_ ?_) | (dsimp only; omega) | omega | (simp only [World.size_alloc, World.size_setCell, World.size_drew]; omega))))) (hrow'.out.bel (by (repeat (first | (with_reducible exact Below.refl _ _) | (with_reducible assumption) | (with_reducible refine Later.out _ ?_) | (with_reducible refine bel_alloc ?_ _) | (with_reducible refine bel_drew ?_) | (with_reducible refine bel_drewN ?_ _) | (with_reducible refine bel_set ?_ ?_ _) | (with_reducible refine After.out _ ?_ ?_) | (dsimp only; omega) | omega | (simp only [World.size_alloc, World.size_setCell, World.size_drew]; omega))))))).mono ?_); rintro e w' ⟨rfl, xl, rfl⟩; have hsz := xl.bel.size; (try simp only [World.size_alloc, World.size_setCell, World.size_drew] at hsz); (try have hz0 : w.heap.size < xl.w.heap.size := (by omega)); (try have hz1 : w.heap.size + 1 < xl.w.heap.size := (by omega)); (try have hz2 : w.heap.size + 1 + 1 < xl.w.heap.size := (by omega))) | ((with_reducible refine (C.out _ (hrow.out.bel (by (repeat (first | (with_reducible exact Below.refl _ _) | (with_reducible assumption) | (with_reducible refine Later.out _ ?_) | (with_reducible refine bel_alloc ?_ _) | (with_reducible refine bel_drew ?_) | (with_reducible refine bel_drewN ?_ _) | (with_reducible refine bel_set ?_ ?_ _) | (with_reducible refine After.out _ ?_ ?_) | (dsimp only; omega) | omega | (simp only [World.size_alloc, World.size_setCell, World.size_drew]; omega))))) (hrow'.out.bel (by (repeat (first | (with_reducible exact Below.refl _ _) | (with_reducible assumption) | (with_reducible refine Later.out _ ?_) | (with_reducible refine bel_alloc ?_ _) | (with_reducible refine bel_drew ?_) | (with_reducible refine bel_drewN ?_ _) | (with_reducible refine bel_set ?_ ?_ _) | (with_reducible refine After.out _ ?_ ?_) | (dsimp only; omega) | omega | (simp only [World.size_alloc, World.size_setCell, World.size_drew]; omega)))))).mono ?_); rintro e w' ⟨rfl, xl, rfl⟩; have hsz := xl.bel.size; (try simp only [World.size_alloc, World.size_setCell, World.size_drew] at hsz); (try have hz0 : w.heap.size < xl.w.heap.size := (by omega)); (try have hz1 : w.heap.size + 1 < xl.w.heap.size := (by omega)); (try have hz2 : w.heap.size + 1 + 1 < xl.w.heap.size := (by omega))))); refine hKP _ _ (LaterC.mk (by (repeat (first | (with_reducible exact Below.refl _ _) | (with_reducible assumption) | (with_reducible refine Later.out _ ?_) | (with_reducible refine bel_alloc ?_ _) | (with_reducible refine bel_drew ?_) | (with_reducible refine bel_drewN ?_ _) | (with_reducible refine bel_set ?_ ?_ _) | (with_reducible refine After.out _ ?_ ?_) | (dsimp only; omega) | omega | (simp only [World.size_alloc, World.size_setCell, World.size_drew]; omega))))) ?_; clear hKP KP) | (refine plan_skip nth8 rfl rfl (LaterC.mk (by (repeat (first | (with_reducible exact Below.refl _ _) | (with_reducible assumption) | (with_reducible refine Later.out _ ?_) | (with_reducible refine bel_alloc ?_ _) | (with_reducible refine bel_drew ?_) | (with_reducible refine bel_drewN ?_ _) | (with_reducible refine bel_set ?_ ?_ _) | (with_reducible refine After.out _ ?_ ?_) | (dsimp only; omega) | omega | (simp only [World.size_alloc, World.size_setCell, World.size_drew]; omega))))) ?_; simp only [Act.put, List.setIfInBounds_toArray, List.set_cons_zero, List.set_cons_succ])
      first | (refine plan_quiet nth9 rfl ?_; intro KP hKP; go_big_quiet_op; go_big_quiet_on) | (refine plan_skip_q nth9 rfl rfl ?_; simp only [Act.put, List.setIfInBounds_toArray, List.set_cons_zero, List.set_cons_succ])
      refine plan_nil ?_
      go_wp2_with fail
      go_roundw
      case rel => exact ⟨k + 1, by omega, by go_num, LaterC.mk (by (repeat (first | (with_reducible exact Below.refl _ _) | (with_reducible assumption) | (with_reducible refine Later.out _ ?_) | (with_reducible refine bel_alloc ?_ _) | (with_reducible refine bel_drew ?_) | (with_reducible refine bel_drewN ?_ _) | (with_reducible refine bel_set ?_ ?_ _) | (with_reducible refine After.out _ ?_ ?_) | (dsimp only; omega) | omega | (simp only [World.size_alloc, World.size_setCell, World.size_drew]; omega))))⟩
      case measure => first | (simp [intOf]; done) | (simp [intOf]; omega) | omega
    · obtain rfl : k = S.length := by omega
      go_wp2_with fail
      go_ret
      exact .mk rfl (by (repeat (first | (with_reducible exact Below.refl _ _) | (with_reducible assumption) | (with_reducible refine Later.out _ ?_) | (with_reducible refine bel_alloc ?_ _) | (with_reducible refine bel_drew ?_) | (with_reducible refine bel_drewN ?_ _) | (with_reducible refine bel_set ?_ ?_ _) | (with_reducible refine After.out _ ?_ ?_) | (dsimp only; omega) | omega | (simp only [World.size_alloc, World.size_setCell, World.size_drew]; omega))))
/-- The cells of the `j`-th slice when the first `i` are marked. -/
def markSub (S : List (List Int)) (k : Int) (i j : Nat) : List Value := match S[j]? with
  | some l => if j < i then markInts (k + offS S j) l.length else intCells l
  | none => []
theorem markSub_lt {S : List (List Int)} {k : Int} {i j : Nat} (hj : j < S.length) (h : j < i) : markSub S k i j = markInts (k + offS S j) S[j].length := by simp [markSub, hj, h]
theorem markSub_ge {S : List (List Int)} {k : Int} {i j : Nat} (hj : j < S.length) (h : i ≤ j) : markSub S k i j = intCells S[j] := by simp [markSub, hj, Nat.not_lt.2 h]
/-- Slices of one's own, the first `i` of them marked. -/
structure NestM (w : World) (lo hi : Nat) (a : Option Addr) (n c : Nat) (S : List (List Int)) (vs : List Value) (k : Int) (i : Nat) : Prop where
  own : Owns w lo hi 23 1 n a c vs
  at_ : ∀ j (h : j < S.length), ∃ aj cj, vs[j]? = some (.slice aj S[j].length cj) ∧ Owns w lo hi 2 1 S[j].length aj cj (markSub S k i j)
theorem NestM.start {w : World} {lo hi : Nat} {a : Option Addr} {n c : Nat} {S : List (List Int)} {vs : List Value} (h : Nest w lo hi a n c S vs) (k : Int) : NestM w lo hi a n c S vs k 0 :=
  ⟨h.own, fun j hj => by
    obtain ⟨aj, cj, h1, h2⟩ := h.at_ j hj
    exact ⟨aj, cj, h1, by rw [markSub_ge hj (Nat.zero_le _)]; exact h2⟩⟩
/-- Marked slices, for reading. -/
def RowsM (w : World) (a : Option Addr) (S : List (List Int)) (k : Int) : Prop :=
  ∃ vs : List Value, vs.length = S.length ∧ Row w a vs ∧ ∀ j (h : j < S.length), ∃ aj cj, vs[j]? = some (.slice aj S[j].length cj) ∧ Row w aj (markInts (k + offS S j) S[j].length)
theorem RowsM.bel {w w' : World} {a : Option Addr} {S : List (List Int)} {k : Int} (h : RowsM w a S k) (hb : Below w.heap.size w w') : RowsM w' a S k := by
  obtain ⟨vs, h1, h2, h3⟩ := h
  refine ⟨vs, h1, h2.bel hb, fun i hi => ?_⟩
  obtain ⟨ai, ci, h4, h5⟩ := h3 i hi
  exact ⟨ai, ci, h4, h5.bel hb⟩
theorem RowsM.at_ {w : World} {a : Option Addr} {S : List (List Int)} {m : Int} (h : RowsM w a S m) {k : Nat} (hk : k < S.length) :
    ∃ b o ai ci, a = some ⟨b, o, none⟩ ∧ b < w.heap.size ∧ w.cell? ⟨b, o + k, none⟩ = some (.slice ai S[k].length ci) ∧ Row w ai (markInts (m + offS S k) S[k].length) := by
  obtain ⟨vs, h1, h2, h3⟩ := h
  obtain ⟨ai, ci, h4, h5⟩ := h3 k hk
  obtain ⟨b, o, rfl, hc⟩ := h2 k _ h4
  exact ⟨b, o, ai, ci, rfl, World.block_lt_of_cell? w _ hc, hc, h5⟩
theorem NestM.rows {w : World} {lo hi : Nat} {a : Option Addr} {n c : Nat} {S : List (List Int)} {vs : List Value} {k : Int} (h : NestM w lo hi a n c S vs k n) (hl : S.length = n) : RowsM w a S k :=
  ⟨vs, by have := h.own.own.1; omega, h.own.row, fun j hj => by
    obtain ⟨aj, cj, h1, h2⟩ := h.at_ j hj
    rw [markSub_lt hj (by omega)] at h2
    exact ⟨aj, cj, h1, h2.row⟩⟩
def RetNestM (w : World) (lo hi : Nat) (a : Option Addr) (S : List (List Int)) (k : Int) (v : Value) (e : Ending) (w' : World) : Prop :=
  e = .returned v ∧ ∃ z : After w lo hi, w' = z.w ∧ RowsM z.w a S k
set_option maxRecDepth 8000 in
set_option maxHeartbeats 2000000 in
theorem markInt64SS_any (S : List (List Int)) (vs : List Value) (a : Option Addr) (n c lo hi M : Nat) (k : Int) (w : World) (h : Nest w lo hi a n c S vs) (hlh : lo ≤ hi) (hlo : hi ≤ w.heap.size) (hm : n ≤ 1048576) (hM : ∀ l ∈ S, l.length ≤ M) (hM' : M ≤ 1000) (hk : 0 ≤ k) (hk' : k ≤ 1048576) :
    Calls Tryz.prog 41 #[.slice a n c, .int .i64 k] w (RetNestM w lo hi a S k (.int .i64 (k + offS S n))) := by
  have hl := h.len
  have hv := h.vlen
  have SEP := Lib.hid h.sep
  have HN := Lib.hid (NestM.start h k)
  have hoff := Lib.hid (offS_le hM)
  replace hM := Lib.hid hM
  clear h
  go_enter Tryz.func41, Tryz.ntmps41
  go_wp2_with fail
  go_loopw [1, 5] (fun kk i wr => ∃ j : Nat, j ≤ n ∧ i = .int .i64 j ∧ kk = .int .i64 (k + offS S j) ∧ Between lo hi w wr ∧ NestM wr lo hi a n c S vs k j) (fun _ i _ => n - (intOf i).toNat)
  case atStart => exact ⟨0, Nat.zero_le _, rfl, by simp [offS_zero], Between.refl _ _ _, HN.out⟩
  case round =>
    obtain ⟨j, hj, rfl, rfl, hb, ho⟩ := hrel
    by_cases hlt : j < n
    · have hjS : j < S.length := by omega
      obtain ⟨aj, cj, hvj, hown⟩ := ho.at_ j hjS
      rw [markSub_ge hjS (Nat.le_refl _)] at hown
      obtain ⟨g, rfl, g1, g2, hc, hf⟩ := ho.own.at_ (j := j) (by omega)
      rw [hvj] at hc
      obtain ⟨z, rfl⟩ := AfterC.mk hb
      have hzs := z.btw.size
      have hgz : g < z.w.heap.size := by omega
      obtain ⟨p, p', hp1, hp, hp2, hpo, hpk, hpb⟩ := hown.tight hlh
      have hlj := hM.out _ (List.getElem_mem hjS)
      have hof := hoff.out j
      have hof2 : j * M ≤ 1048576 * 1000 := Nat.mul_le_mul (by omega) (by omega)
      have C := Lib.hid (markInt64S_any aj S[j].length cj p p' (k + offS S j) _ z.w hpo (by omega) (by omega) (by omega))
      have hnew : ∀ z2 : After z.w p p', Owns z2.w p p' 2 1 S[j].length aj cj (markInts (k + offS S j) S[j].length) → Between lo hi w z2.w ∧ NestM z2.w lo hi (some ⟨g, 0, none⟩) n c S vs k (j + 1) := by
        intro z2 ho2
        have hbt : Between lo hi w z2.w := by
          have h0 := z.btw
          refine ⟨z2.btw.os.trans h0.os, z2.btw.tape.trans h0.tape, z2.btw.output.trans h0.output, Nat.le_trans h0.size z2.btw.size, fun q hq hor => (z2.btw.block q (Nat.lt_of_lt_of_le hq h0.size) ?_).trans (h0.block q hq hor)⟩
          omega
        refine ⟨hbt, ?_, fun i hi => ?_⟩
        · refine ho.own.keep z2.btw fun q hq => ?_
          by_cases h1 : p ≤ q ∧ q < p'
          · obtain ⟨_, cur, fr, h2⟩ := hpb q h1.1 h1.2
            obtain ⟨cur', fr', h3⟩ := ho.own.elem hq
            exact absurd (elem_ne h2 h3) (by decide)
          · omega
        · obtain ⟨ai, ci, hvi, howni⟩ := ho.at_ i hi
          by_cases hij : i = j
          · subst hij
            rw [hvj] at hvi
            injection hvi with hvi
            injection hvi with e1 e2 e3
            subst e1 e3
            refine ⟨aj, cj, hvj, ?_⟩
            rw [markSub_lt hi (by omega)]
            refine ⟨?_, hown.lt⟩
            refine ⟨ho2.own.1, ?_⟩
            rcases ho2.own.2 with h2 | ⟨g', cap, cur, hv', hg', hh, r⟩
            · exact .inl h2
            · refine .inr ⟨g', cap, cur, hv', ?_, hh, r⟩
              have : aj = some ⟨g', 0, none⟩ := by injection hv'
              exact hown.ge _ this
          · refine ⟨ai, ci, hvi, ?_⟩
            have e : markSub S k (j + 1) i = markSub S k j i := by
              rcases Nat.lt_or_ge i j with h1 | h1
              · rw [markSub_lt hi h1, markSub_lt hi (by omega)]
              · rw [markSub_ge hi h1, markSub_ge hi (by omega)]
            rw [e]
            refine howni.keep z2.btw fun q hq => ?_
            by_cases h1 : p ≤ q ∧ q < p'
            · exfalso
              obtain ⟨h2, _⟩ := hpb q h1.1 h1.2
              have hs := List.pairwise_iff_getElem.1 SEP.out
              have hil : i < vs.length := by omega
              have hjl : j < vs.length := by omega
              rw [List.getElem?_eq_getElem hil] at hvi
              rw [List.getElem?_eq_getElem hjl] at hvj
              have hvi := Option.some.inj hvi
              have hvj := Option.some.inj hvj
              rcases Nat.lt_or_ge i j with h3 | h3
              · exact hs i j hil hjl h3 q (by rw [hvi]; exact hq) (by rw [hvj]; exact h2)
              · exact hs j i hjl hil (by omega) q (by rw [hvj]; exact h2) (by rw [hvi]; exact hq)
            · omega
      replace hnew := Lib.hid hnew
      have X := Lib.hid (offS_succ hjS)
      have hof3 : (0 : Int) ≤ k + (offS S j : Int) := by omega
      have hof4 : k + (offS S j : Int) ≤ 1099511627776 := by omega
      clear ho hown hpo hpb hpk hb hof hof2
      go_wp2_with fail
      with_reducible refine C.out.mono ?_
      rintro e w' ⟨rfl, z2, rfl, ho2⟩
      have N2 := Lib.hid (hnew.out z2 ho2)
      clear ho2
      go_wp2_with fail
      go_roundw
      case rel => exact ⟨j + 1, by omega, by go_num, by rw [X.out]; go_num, N2.out.1, N2.out.2⟩
      case measure => simp [intOf]; omega
    · obtain rfl : j = n := by omega
      have HB := Lib.hid hb
      have HO := Lib.hid (ho.rows hl)
      clear hb ho
      go_wp2_with fail
      go_ret
      exact ⟨rfl, ⟨_, HB.out⟩, rfl, HO.out⟩
set_option maxRecDepth 8000 in
set_option maxHeartbeats 2000000 in
theorem heldInt64SS_any (S : List (List Int)) (a : Option Addr) (n c M : Nat) (k : Int) (w : World) (h : RowsM w a S k) (hl : S.length = n) (hm : n ≤ 1048576) (hM : ∀ l ∈ S, l.length ≤ M) (hM' : M ≤ 1000) (hk : 0 ≤ k) (hk' : k ≤ 1048576) :
    Calls Tryz.prog 42 #[.slice a n c, .int .i64 k] w (Ret w (.int .i64 (k + offS S n))) := by
  have hoff := Lib.hid (offS_le hM)
  replace hM := Lib.hid hM
  replace h := Lib.hid h
  go_enter Tryz.func42, Tryz.ntmps42
  go_wp2_with fail
  go_loopw [1, 5] (fun kk i wr => ∃ j : Nat, j ≤ n ∧ i = .int .i64 j ∧ kk = .int .i64 (k + offS S j) ∧ ∃ z : Later w, wr = z.w) (fun _ i _ => n - (intOf i).toNat)
  case atStart => exact ⟨0, Nat.zero_le _, rfl, by simp [offS_zero], ⟨_, Below.refl _ _⟩, rfl⟩
  case round =>
    obtain ⟨j, hj, rfl, rfl, z, rfl⟩ := hrel
    have hzz := z.bel.size
    by_cases hlt : j < n
    · have hjS : j < S.length := by omega
      obtain ⟨b, o, aj, cj, rfl, hb, hc, hrow⟩ := h.out.at_ hjS
      have hlj := hM.out _ (List.getElem_mem hjS)
      have hof := hoff.out j
      have hof2 : j * M ≤ 1048576 * 1000 := Nat.mul_le_mul (by omega) (by omega)
      have C := Lib.hid (fun (w : World) (hr : Row w aj (markInts (k + offS S j) S[j].length)) => heldInt64S_any aj S[j].length cj (k + offS S j) w hr (by omega) (by omega) (by omega))
      have X := Lib.hid (offS_succ hjS)
      have hof3 : (0 : Int) ≤ k + (offS S j : Int) := by omega
      have hof4 : k + (offS S j : Int) ≤ 1099511627776 := by omega
      have hof5 : ¬ (k + (offS S j : Int) + (S[j].length : Int) < 0) := by omega
      replace hrow := Lib.hid hrow
      clear hof hof2
      go_wp2_with fail
      with_reducible refine (C.out _ (hrow.out.bel (by (repeat (first | (with_reducible exact Below.refl _ _) | (with_reducible assumption) | (with_reducible refine Later.out _ ?_) | (with_reducible refine bel_alloc ?_ _) | (with_reducible refine bel_drew ?_) | (with_reducible refine bel_drewN ?_ _) | (with_reducible refine bel_set ?_ ?_ _) | (with_reducible refine After.out _ ?_ ?_) | (dsimp only; omega) | omega | (simp only [World.size_alloc, World.size_setCell, World.size_drew]; omega)))))).mono ?_
      rintro e w' ⟨rfl, y1, rfl⟩
      have hsy1 := y1.bel.size
      (try simp only [World.size_alloc, World.size_setCell, World.size_drew] at hsy1)
      go_wp2_with fail
      go_roundw
      case rel => exact ⟨j + 1, by omega, by go_num, by rw [X.out]; go_num, LaterC.mk (by (repeat (first | (with_reducible exact Below.refl _ _) | (with_reducible assumption) | (with_reducible refine Later.out _ ?_) | (with_reducible refine bel_alloc ?_ _) | (with_reducible refine bel_drew ?_) | (with_reducible refine bel_drewN ?_ _) | (with_reducible refine bel_set ?_ ?_ _) | (with_reducible refine After.out _ ?_ ?_) | (dsimp only; omega) | omega | (simp only [World.size_alloc, World.size_setCell, World.size_drew]; omega))))⟩
      case measure => simp [intOf]; omega
    · obtain rfl : j = n := by omega
      go_wp2_with fail
      go_ret
      exact .mk rfl (by (repeat (first | (with_reducible exact Below.refl _ _) | (with_reducible assumption) | (with_reducible refine Later.out _ ?_) | (with_reducible refine bel_alloc ?_ _) | (with_reducible refine bel_drew ?_) | (with_reducible refine bel_drewN ?_ _) | (with_reducible refine bel_set ?_ ?_ _) | (with_reducible refine After.out _ ?_ ?_) | (dsimp only; omega) | omega | (simp only [World.size_alloc, World.size_setCell, World.size_drew]; omega))))
end Go.Proofs.YtcpddgkloeklaaaGreatDoor
