import Derived.Test.YtkkhjbdnpobpnaaPackMa
import Derived.Laws.AppendOwn
/- A queue's row: a slice over own cells from any place in its block; append to it. -/
set_option linter.unusedSimpArgs false
set_option linter.unusedVariables false
namespace Go.Proofs.Ytkkhjbdnpobpnaa
open Go.RowKit
/-- A slice over cells of one block at or above `B`, from any place in it: a queue's row. -/
def Que (w : World) (B : Nat) (e : TypeId) (a : Option Addr) (n c : Nat) (q : List Value) : Prop :=
  q.length = n ∧ ∃ g o cur, a = some ⟨g, o, none⟩ ∧ B ≤ g ∧ w.heap[g]? = some (.cells cur e (0, 0)) ∧ n ≤ c ∧ c ≤ maxLen ∧ o + c ≤ cur.size ∧ (cur.toList.drop o).take n = q
section
variable {w : World} {B : Nat} {e : TypeId} {a : Option Addr} {n c : Nat} {q : List Value}
theorem Que.made (w : World) (B : Nat) (e : TypeId) (x : Value) (hB : B ≤ w.heap.size) : Que (w.alloc (.cells #[x] e)) B e (some ⟨w.heap.size, 0, none⟩) 1 1 [x] :=
  ⟨rfl, w.heap.size, 0, #[x], rfl, hB, heap_alloc_new w _, Nat.le_refl _, by simp [maxLen], by simp, by simp⟩
theorem Que.keep {w' : World} (h : Que w B e a n c q) (hk : ∀ p : Addr, a = some p → w'.heap[p.block]? = w.heap[p.block]?) : Que w' B e a n c q := by
  obtain ⟨h1, g, o, cur, rfl, h2, h3, h4⟩ := h
  exact ⟨h1, g, o, cur, rfl, h2, (hk _ rfl).trans h3, h4⟩
theorem Que.lt (h : Que w B e a n c q) : ∀ p : Addr, a = some p → B ≤ p.block ∧ p.block < w.heap.size := by
  obtain ⟨h1, g, o, cur, rfl, h2, h3, h4⟩ := h
  intro p hp
  cases hp
  exact ⟨h2, (Array.getElem?_eq_some_iff.1 h3).1⟩
theorem Que.get (h : Que w B e a n c q) {j : Nat} (hj : j < n) : ∃ g o, a = some ⟨g, o, none⟩ ∧ w.cell? ⟨g, o + j, none⟩ = q[j]? := by
  obtain ⟨h1, g, o, cur, rfl, h2, h3, h4, h5, h6, h7⟩ := h
  refine ⟨g, o, rfl, ?_⟩
  rw [← h7, List.getElem?_take, if_pos hj, List.getElem?_drop]
  simp [World.cell?, h3]
theorem Que.tail {x : Value} (h : Que w B e a (n + 1) c (x :: q)) : Que w B e (if c = 1 then a else a.map (·.add 1)) n (c - 1) q := by
  obtain ⟨h1, g, o, cur, rfl, h2, h3, h4, h5, h6, h7⟩ := h
  have hl : q.length = n := by simpa using h1
  have ht : (cur.toList.drop (o + 1)).take n = q := by
    have := congrArg List.tail h7
    rw [List.tail_cons, ← List.drop_one, List.drop_take, List.drop_drop] at this
    simpa using this
  by_cases hc : c = 1
  · obtain rfl : n = 0 := by omega
    refine ⟨hl, g, o, cur, by rw [if_pos hc], h2, h3, by omega, by omega, by omega, ?_⟩
    simp at hl ⊢
    exact hl
  · exact ⟨hl, g, o + 1, cur, by rw [if_neg hc]; simp [Addr.add], h2, h3, by omega, by omega, by omega, ht⟩
theorem Que.init {x : Value} (h : Que w B e a (n + 1) c (q ++ [x])) : Que w B e a n c q := by
  obtain ⟨h1, g, o, cur, rfl, h2, h3, h4, h5, h6, h7⟩ := h
  have hl : q.length = n := by simpa using h1
  refine ⟨hl, g, o, cur, rfl, h2, h3, by omega, h5, h6, ?_⟩
  have := congrArg (List.take n) h7
  rw [List.take_take, Nat.min_eq_left (by omega), List.take_left' hl] at this
  exact this
end
section
variable {P : Program} (w : World)
theorem run_append_room_at (t ty e : TypeId) (i : TypeInfo) (ht : P.underlying t = some (.slice e)) (hi : P.info? e = some i)
    (g o sLen sCap : Nat) (cur : Array Value) (hg : w.heap[g]? = some (.cells cur e (0, 0)))
    (a : Addr) (m c : Nat) (news : List Value) (hl : news.length = m * i.size) (hnews : ∀ j u, news[j]? = some u → w.cell? (a.add j) = some u) (h1 : ∀ u ∈ news, u.oneCell' = true)
    (hroom : sLen + m ≤ sCap) (hfit : o + sLen * i.size + news.length ≤ cur.size) :
    (Builtin.append_ #[t, t] ty #[.slice (some ⟨g, o, none⟩) sLen sCap, .slice (some a) m c]).run P w =
      .ok (.slice (some ⟨g, o, none⟩) (sLen + m) sCap) (w.setRow g (cur.toList.take (o + sLen * i.size) ++ news ++ cur.toList.drop (o + sLen * i.size + news.length)).toArray) := by
  have hf := run_firstCells_some (P := P) w i.size m a m c news hl hnews
  have hst := run_storeCells_at P g (o + sLen * i.size) e news 0 cur w hg (by simpa using hfit) h1
  simp only [Nat.add_zero] at hst
  simp [Builtin.append_, run_underlying ht, sizeOf, typeInfo, hi, Builtin.lenOf, hroom, hf, Addr.add_lit, hst]
theorem run_append_que (B : Nat) (t ty e : TypeId) (i : TypeInfo) (z : Value) (ht : P.underlying t = some (.slice e)) (hi : P.info? e = some i) (hz : i.zero = some z)
    (hs1 : i.size = 1) (hb8 : i.bytes = 8) (hzs : z.cells.size = 1) {a : Option Addr} {n cap : Nat} {q : List Value} (hq : Que w B e a n cap q) (x : Value) (ad : Addr) (c : Nat) (hx : w.cell? ad = some x) (h1 : x.oneCell' = true) (hn : n ≤ 1048576) (hB : B ≤ w.heap.size) :
    ∃ a' c' w', (Builtin.append_ #[t, t] ty #[.slice a n cap, .slice (some ad) 1 c]).run P w = .ok (.slice a' (n + 1) c') w' ∧ Que w' B e a' (n + 1) c' (q ++ [x]) ∧ w.grownBy w' (Value.slice a n cap).ownBlock ∧
      (∀ p, a' = some p → some p.block = (Value.slice a n cap).ownBlock ∨ p.block = w.heap.size) := by
  obtain ⟨hl, g, o, cur, rfl, hBg, hg, hnc, hcm, hfit, htake⟩ := hq
  have hnews : ∀ j u, [x][j]? = some u → w.cell? (ad.add j) = some u := by
    intro j u hu
    cases j with
    | zero => simp at hu; subst hu; simpa [Addr.add] using hx
    | succ j => simp at hu
  have h1' : ∀ u ∈ [x], u.oneCell' = true := by simpa using h1
  by_cases hroom : n + 1 ≤ cap
  · have hr := run_append_room_at (P := P) w t ty e i ht hi g o n cap cur hg ad 1 c [x] (by simp [hs1]) hnews h1' hroom (by rw [hs1]; simp; omega)
    refine ⟨_, _, _, hr, ⟨by simp [hl], g, o, _, rfl, hBg, setRow_heap w g cur _ e _ hg, hroom, hcm, ?_, ?_⟩, ⟨rfl, rfl, rfl, by simp, fun k _ hk => setRow_other w g k _ (fun e => hk (by simp [Value.ownBlock, e]))⟩, fun p hp => by cases hp; exact .inl rfl⟩
    · simp only [List.size_toArray, List.length_append, List.length_take, List.length_drop, Array.length_toList, hs1, List.length_cons, List.length_nil]
      omega
    · have hcl : cur.toList.length = cur.size := Array.length_toList
      simp only [hs1, Nat.mul_one, List.length_cons, List.length_nil]
      have e1 : (cur.toList.take (o + n)).drop o = q := by rw [List.drop_take, Nat.add_sub_cancel_left]; exact htake
      rw [List.append_assoc, List.drop_append_of_le_length (by simp; omega), e1, ← List.append_assoc]
      exact List.take_left' (by simp [hl])
  · obtain rfl : n = cap := by omega
    have holds : ∀ j u, q[j]? = some u → w.cell? ((⟨g, o, none⟩ : Addr).add j) = some u := by
      intro j u hu
      have hj : j < n := by rw [← hl]; exact (List.getElem?_eq_some_iff.1 hu).1
      rw [← htake, List.getElem?_take, if_pos hj, List.getElem?_drop] at hu
      simpa [World.cell?, Addr.add_lit, hg] using hu
    have hr := run_append_grow (P := P) w t ty e i z ht hi hz ⟨g, o, none⟩ n n q (by simp [hs1, hl]) holds ad 1 c [x] (by simp [hs1]) hnews (by omega) (by omega) (growslice_fits (by omega) (by rw [hb8]; omega))
    refine ⟨_, _, _, hr, ⟨by simp [hl], w.heap.size, 0, _, rfl, hB, heap_alloc_new w.drew _, grownCap_ge w _ _ _, grownCap_le_maxLen w _ _ _ (by simp only [maxLen]; omega), ?_, ?_⟩, ⟨rfl, rfl, rfl, by simp, fun k hk _ => by first | exact heap_alloc_old w.drew _ k hk | exact heap_alloc_old w.drew _ hk⟩, fun p hp => by cases hp; exact .inr rfl⟩
    · have := grownCap_ge w (n + 1) n e
      simp only [Array.size_append, List.size_toArray, size_zeroCells, hzs, hl, List.length_cons, List.length_nil]
      omega
    · simp only [Array.toList_append, List.append_assoc, List.drop_zero]
      rw [← List.append_assoc]
      exact List.take_left' (by simp [hl])
theorem wpList_append_que {ops : Array Oper} {rest : List Oper} {o : Oper} {ac : Act} {Q : Exit → Act → World → Prop} (hgd : o.guard = none) (s xo : Operand) (t : TypeId)
    (ho : o.op = .call { callee := .builtin .append, args := #[s, xo], argTypes := #[t, t] })
    (B : Nat) (e : TypeId) (i : TypeInfo) (z : Value) (ht : P.underlying t = some (.slice e)) (hi : P.info? e = some i) (hz : i.zero = some z)
    (hs1 : i.size = 1) (hb8 : i.bytes = 8) (hzs : z.cells.size = 1) {a : Option Addr} {n cap : Nat} {q : List Value} (hs : ac.eval s = .slice a n cap) (hq : Que w B e a n cap q)
    (x : Value) (ad : Addr) (c : Nat) (hxo : ac.eval xo = .slice (some ad) 1 c) (hx : w.cell? ad = some x) (h1 : x.oneCell' = true) (hn : n ≤ 1048576) (hB : B ≤ w.heap.size)
    (h : ∀ a' c' w', Que w' B e a' (n + 1) c' (q ++ [x]) → w.grownBy w' (Value.slice a n cap).ownBlock → (∀ p, a' = some p → some p.block = (Value.slice a n cap).ownBlock ∨ p.block = w.heap.size) → wpList P ops Q rest (ac.put o.dst (.slice a' (n + 1) c')) w') :
    wpList P ops Q (o :: rest) ac w :=
  wpList_plain hgd fun _ hK => by
    obtain ⟨a', c', w', hr, h2, h3, h4⟩ := run_append_que (P := P) w B t o.type e i z ht hi hz hs1 hb8 hzs hq x ad c hx h1 hn hB
    unfold Oper.wp execOp
    simp only [ho, resolve, invoke, builtin, Sem.run_bind, Sem.run_pure, Result.andThen_ok, List.map_toArray, List.map_cons, List.map_nil, hs, hxo, hr]
    exact hK _ _ (h a' c' w' h2 h3 h4)
end
theorem Que.alloc {w : World} {B : Nat} {e : TypeId} {a : Option Addr} {n c : Nat} {q : List Value} (h : Que w B e a n c q) (o : Obj) : Que (w.alloc o) B e a n c q :=
  h.keep fun p hp => by first | exact heap_alloc_old w o p.block (h.lt p hp).2 | exact heap_alloc_old w o (h.lt p hp).2
theorem Que.drewN {w : World} {B : Nat} {e : TypeId} {a : Option Addr} {n c : Nat} {q : List Value} (h : Que w B e a n c q) (k : Nat) : Que (w.drewN k) B e a n c q := h.keep fun _ _ => rfl
theorem Que.drew {w : World} {B : Nat} {e : TypeId} {a : Option Addr} {n c : Nat} {q : List Value} (h : Que w B e a n c q) : Que w.drew B e a n c q := h.keep fun _ _ => rfl
theorem Que.set {w : World} {B : Nat} {e : TypeId} {a : Option Addr} {n c : Nat} {q : List Value} (h : Que w B e a n c q) {p : Addr} (hp : p.block < B) (u : Value) : Que (w.setCell p u) B e a n c q :=
  h.keep fun r hr => Below.heap_setCell w p u r.block (by have := (h.lt r hr).1; omega)
theorem Que.bel {w w' : World} {B : Nat} {e : TypeId} {a : Option Addr} {n c : Nat} {q : List Value} (h : Que w B e a n c q) (hb : Below w.heap.size w w') : Que w' B e a n c q :=
  h.keep fun p hp => hb.block _ (h.lt p hp).2
theorem btw_grown {lo hi : Nat} {a w w' : World} {row : Option Nat} (h : Between lo hi a w) (hg : w.grownBy w' row) (hr : ∀ k, row = some k → a.heap.size ≤ k) : Between lo hi a w' :=
  ⟨hg.os.trans h.os, hg.tape.trans h.tape, hg.output.trans h.output, Nat.le_trans h.size hg.size, fun k hk ho => (hg.block k (Nat.lt_of_lt_of_le hk h.size) (fun e => by have := hr k e.symm; omega)).trans (h.block k hk ho)⟩
theorem owns_grown {w w' : World} {lo hi e s n : Nat} {a : Option Addr} {c : Nat} {xs : List Value} {row : Option Nat} (h : Owns w lo hi e s n a c xs) (hg : w.grownBy w' row) (hr : ∀ k, row = some k → hi ≤ k) : Owns w' lo hi e s n a c xs :=
  ⟨h.own.kept hg (by
    cases a with
    | none => exact .inl rfl
    | some p =>
      refine .inr fun e => ?_
      have h1 := h.lt p rfl
      have h2 := hr p.block (by rw [← e]; rfl)
      omega), h.lt⟩
end Go.Proofs.Ytkkhjbdnpobpnaa
