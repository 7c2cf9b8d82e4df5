import Derived.Test.YtokbolgaokbdcaaDoorAfter
import Derived.Laws.AppendOwn
import Derived.Maps.AppendAt
import Derived.OwnWalk
/- append onto a row of the call's own, whatever its source; the world behind it as a later one. -/
set_option linter.unusedSimpArgs false
set_option linter.unusedVariables false
namespace Go.Proofs.YtokbolgaokbdcaaDoor
open Go.RowKit
theorem Row.at_block {w : World} {g o : Nat} {cs : Array Value} {e : TypeId} {fr : Nat × Nat} {xs : List Value} (h : w.heap[g]? = some (.cells cs e fr)) (hx : ∀ j v, xs[j]? = some v → cs[o + j]? = some v) : Row w (some ⟨g, o, none⟩) xs := fun j v hj => by
  refine ⟨_, _, rfl, ?_⟩
  simp [World.cell?, h, hx j v hj]
theorem Row.made (w : World) (cs : Array Value) (e : TypeId) : Row (w.alloc (.cells cs e)) (some ⟨w.heap.size, 0, none⟩) cs.toList :=
  Row.at_block (heap_alloc_new w _) fun j v hj => by simpa using hj
theorem Row.madeAt {w : World} {cs : Array Value} {e : TypeId} {n : Nat} {xs : List Value} (hn : n = w.heap.size) (hx : xs = cs.toList) : Row (w.alloc (.cells cs e)) (some ⟨n, 0, none⟩) xs := by subst hn hx; exact Row.made _ _ _
theorem Row.sub {w : World} {a : Option Addr} {xs ys : List Value} (h : Row w a xs) (hs : ∀ (j : Nat) (v : Value), ys[j]? = some v → xs[j]? = some v) : Row w a ys := fun j v hj => h j v (hs j v hj)
section
variable {P : Program} (w : World)
theorem run_append_from_nil (base : Nat) (t ty e : TypeId) (i : TypeInfo) (size : Nat) (ht : P.underlying t = some (.slice e)) (hi : P.info? e = some i)
    (v : Value) (n : Nat) (xs : List Value) (hown : w.ownsRow base e size v n xs) (c : Nat) : (Builtin.append_ #[t, t] ty #[v, .slice none 0 c]).run P w = .ok v w := by
  rcases hown.2 with ⟨rfl, rfl⟩ | ⟨g, cap, cur, rfl, _, _, hnc, _⟩
  · simp [Builtin.append_, run_underlying ht, sizeOf, typeInfo, hi, Builtin.lenOf, Builtin.firstCells]
  · simp [Builtin.append_, run_underlying ht, sizeOf, typeInfo, hi, Builtin.lenOf, Builtin.firstCells, hnc, storeCells]
theorem run_append_row (base : Nat) (t ty e : TypeId) (i : TypeInfo) (z : Value) (size bytes : Nat) (ht : P.underlying t = some (.slice e)) (hi : P.info? e = some i) (hz : i.zero = some z)
    (hsize : i.size = size) (hby : i.bytes = bytes) (hzs : z.cells.size = size) (hsz : 0 < size)
    (v : Value) (n : Nat) (xs : List Value) (hown : w.ownsRow base e size v n xs)
    (A : Option Addr) (m c : Nat) (news : List Value) (hl : news.length = m * size) (hr : Row w A news) (h1 : ∀ u ∈ news, u.oneCell' = true)
    (h63 : n + m ≤ maxLen) (hbytes : (n + m) * bytes ≤ 140737488355328) (hbase : base ≤ w.heap.size) :
    ∃ v' w', (Builtin.append_ #[t, t] ty #[v, .slice A m c]).run P w = .ok v' w' ∧ w'.ownsRow base e size v' (n + m) (xs ++ news) ∧ w.grownBy w' v.ownBlock ∧ (v'.ownBlock = v.ownBlock ∨ v'.ownBlock = some w.heap.size) := by
  rcases A with _ | ad
  · have hn : news = [] := by
      cases news with
      | nil => rfl
      | cons x r =>
        obtain ⟨b, o, h, _⟩ := hr 0 x rfl
        cases h
    subst hn
    have hm : m = 0 := by
      rcases Nat.eq_zero_or_pos m with h0 | h0
      · exact h0
      · have h2 := Nat.mul_pos h0 hsz
        simp at hl
        omega
    subst hm
    exact ⟨v, w, run_append_from_nil w base t ty e i size ht hi v n xs hown c, by simpa using hown, World.grownBy.refl w _, .inl rfl⟩
  · have hcells : ∀ j u, news[j]? = some u → w.cell? (ad.add j) = some u := by
      intro j u hu
      obtain ⟨b, o, h, hc⟩ := hr j u hu
      injection h with h
      subst h
      by_cases hj : j = 0
      · subst hj; simpa [Addr.add] using hc
      · simpa [Addr.add, hj] using hc
    obtain ⟨v', w', hrun, h2, h3, _, h5⟩ := run_append_own_at (P := P) w base t ty e i z size bytes ht hi hz hsize hby hzs hsz v n xs hown ad m c news hl hcells h1 h63 hbytes hbase
    exact ⟨v', w', hrun, h2, h3, h5⟩
/-- append: the row stays the call's own; the blocks of `W` are as they were. -/
theorem wpList_append_later {ops : Array Oper} {rest : List Oper} {o : Oper} {ac : Act} {Q : Exit → Act → World → Prop} (hgd : o.guard = none) (s x : Operand) (t : TypeId)
    (ho : o.op = .call { callee := .builtin .append, args := #[s, x], argTypes := #[t, t] })
    (e : TypeId) (i : TypeInfo) (z : Value) (size bytes : Nat) (ht : P.underlying t = some (.slice e)) (hi : P.info? e = some i) (hz : i.zero = some z)
    (hsize : i.size = size) (hby : i.bytes = bytes) (hzs : z.cells.size = size) (hsz : 0 < size)
    (W : World) (hb : Below W.heap.size W w)
    (a : Option Addr) (n cap : Nat) (xs : List Value) (hs : ac.eval s = .slice a n cap) (hown : w.ownsRow W.heap.size e size (.slice a n cap) n xs)
    (A : Option Addr) (m c : Nat) (news : List Value) (hx : ac.eval x = .slice A m c) (hl : news.length = m * size) (hr : Row w A news) (h1 : ∀ u ∈ news, u.oneCell' = true)
    (h63 : n + m ≤ maxLen) (hbytes : (n + m) * bytes ≤ 140737488355328)
    (h : ∀ a' c' (x : Later W), x.w.ownsRow W.heap.size e size (.slice a' (n + m) c') (n + m) (xs ++ news) → wpList P ops Q rest (ac.put o.dst (.slice a' (n + m) c')) x.w) :
    wpList P ops Q (o :: rest) ac w :=
  wpList_plain hgd fun _ hK => by
    obtain ⟨v', w', hrun, h2, h3, _⟩ := run_append_row (P := P) w W.heap.size t o.type e i z size bytes ht hi hz hsize hby hzs hsz _ n xs hown A m c news hl hr h1 h63 hbytes hb.size
    obtain ⟨a', c', rfl⟩ := own_form h2
    have hb' : Below W.heap.size W w' := hb.grown h3 hb.size fun k hk => (hown.lt k hk).1
    unfold Oper.wp execOp
    simp only [ho, resolve, invoke, builtin, Sem.run_bind, Sem.run_pure, Result.andThen_ok, List.map_toArray, List.map_cons, List.map_nil, hs, hx, hrun]
    exact hK _ _ (h a' c' ⟨w', hb'⟩ h2)
/-- append with an owner's place kept apart: blocks below `lo` as they were. -/
theorem wpList_append_place {ops : Array Oper} {rest : List Oper} {o : Oper} {ac : Act} {Q : Exit → Act → World → Prop} (hgd : o.guard = none) (s x : Operand) (t : TypeId)
    (ho : o.op = .call { callee := .builtin .append, args := #[s, x], argTypes := #[t, t] })
    (base : Nat) (e : TypeId) (i : TypeInfo) (z : Value) (size bytes : Nat) (ht : P.underlying t = some (.slice e)) (hi : P.info? e = some i) (hz : i.zero = some z)
    (hsize : i.size = size) (hby : i.bytes = bytes) (hzs : z.cells.size = size) (hsz : 0 < size)
    (a : Option Addr) (n cap : Nat) (xs : List Value) (hs : ac.eval s = .slice a n cap) (hown : w.ownsRow base e size (.slice a n cap) n xs)
    (A : Option Addr) (m c : Nat) (news : List Value) (hx : ac.eval x = .slice A m c) (hl : news.length = m * size) (hr : Row w A news) (h1 : ∀ u ∈ news, u.oneCell' = true)
    (h63 : n + m ≤ maxLen) (hbytes : (n + m) * bytes ≤ 140737488355328) (hbase : base ≤ w.heap.size)
    (h : ∀ a' c' w', w'.ownsRow base e size (.slice a' (n + m) c') (n + m) (xs ++ news) → w.grownBy w' (Value.slice a n cap).ownBlock → ((Value.slice a' (n + m) c').ownBlock = (Value.slice a n cap).ownBlock ∨ (Value.slice a' (n + m) c').ownBlock = some w.heap.size) → wpList P ops Q rest (ac.put o.dst (.slice a' (n + m) c')) w') :
    wpList P ops Q (o :: rest) ac w :=
  wpList_plain hgd fun _ hK => by
    obtain ⟨v', w', hrun, h2, h3, h4⟩ := run_append_row (P := P) w base t o.type e i z size bytes ht hi hz hsize hby hzs hsz _ n xs hown A m c news hl hr h1 h63 hbytes hbase
    obtain ⟨a', c', rfl⟩ := own_form h2
    unfold Oper.wp execOp
    simp only [ho, resolve, invoke, builtin, Sem.run_bind, Sem.run_pure, Result.andThen_ok, List.map_toArray, List.map_cons, List.map_nil, hs, hx, hrun]
    exact hK _ _ (h a' c' w' h2 h3 h4)
/-- append to a row that lies from `lo` on and below `hi`: the blocks elsewhere are as they were. -/
theorem wpList_append_after {ops : Array Oper} {rest : List Oper} {o : Oper} {ac : Act} {Q : Exit → Act → World → Prop} (hgd : o.guard = none) (s x : Operand) (t : TypeId)
    (ho : o.op = .call { callee := .builtin .append, args := #[s, x], argTypes := #[t, t] })
    (e : TypeId) (i : TypeInfo) (z : Value) (size bytes : Nat) (ht : P.underlying t = some (.slice e)) (hi : P.info? e = some i) (hz : i.zero = some z)
    (hsize : i.size = size) (hby : i.bytes = bytes) (hzs : z.cells.size = size) (hsz : 0 < size)
    (lo hi' : Nat) (hlw : lo ≤ w.heap.size) (a : Option Addr) (n cap : Nat) (xs : List Value) (hs : ac.eval s = .slice a n cap) (hown : w.ownsRow lo e size (.slice a n cap) n xs) (hlt : ∀ p : Addr, a = some p → p.block < hi')
    (A : Option Addr) (m c : Nat) (news : List Value) (hx : ac.eval x = .slice A m c) (hl : news.length = m * size) (hr : Row w A news) (h1 : ∀ u ∈ news, u.oneCell' = true)
    (h63 : n + m ≤ maxLen) (hbytes : (n + m) * bytes ≤ 140737488355328)
    (h : ∀ a' c' (x : After w lo hi'), x.w.ownsRow lo e size (.slice a' (n + m) c') (n + m) (xs ++ news) → wpList P ops Q rest (ac.put o.dst (.slice a' (n + m) c')) x.w) :
    wpList P ops Q (o :: rest) ac w :=
  wpList_plain hgd fun _ hK => by
    obtain ⟨v', w', hrun, h2, h3, h4⟩ := run_append_row (P := P) w lo t o.type e i z size bytes ht hi hz hsize hby hzs hsz _ n xs hown A m c news hl hr h1 h63 hbytes hlw
    obtain ⟨a', c', rfl⟩ := own_form h2
    have hb' : Between lo hi' w w' := ⟨h3.os, h3.tape, h3.output, h3.size, fun k hk hor => h3.block k hk fun e => by
      cases a with
      | none => simp [Value.ownBlock] at e
      | some q =>
        have e1 : q.block = k := by simpa [Value.ownBlock] using e.symm
        have := hlt q rfl
        have := (hown.lt q.block rfl).1
        omega⟩
    unfold Oper.wp execOp
    simp only [ho, resolve, invoke, builtin, Sem.run_bind, Sem.run_pure, Result.andThen_ok, List.map_toArray, List.map_cons, List.map_nil, hs, hx, hrun]
    exact hK _ _ (h a' c' ⟨w', hb'⟩ h2)
theorem btw_beyond {lo hi lo' hi' : Nat} {a W : World} (x : After W lo' hi') (h : Between lo hi a W) (hl : a.heap.size ≤ lo') : Between lo hi a x.w :=
  ⟨x.btw.os.trans h.os, x.btw.tape.trans h.tape, x.btw.output.trans h.output, Nat.le_trans h.size x.btw.size, fun k hk ho => (x.btw.block k (Nat.lt_of_lt_of_le hk h.size) (.inl (Nat.lt_of_lt_of_le hk hl))).trans (h.block k hk ho)⟩
end
end Go.Proofs.YtokbolgaokbdcaaDoor
