import Derived.Test.YtfjlilpebhiogaaDoorApp
/- append as one operation of a drawn region. -/
set_option linter.unusedSimpArgs false
set_option linter.unusedVariables false
namespace Go.Proofs.YtfjlilpebhiogaaDoor
open Go.RowKit
section
variable {P : Program} (w : World)
theorem oper_append_later {o : Oper} {ac : Act} {K : Act → World → Prop} {Q : Exit → Act → World → Prop} (s x : Operand) (t : TypeId)
    (ho : o.op = .call { callee := .builtin .append, args := #[s, x], argTypes := #[t, t] })
    (e : TypeId) (i : TypeInfo) (z : Value) (size bytes : Nat) (ht : P.underlying t = some (.slice e)) (hi : P.info? e = some i) (hz : i.zero = some z)
    (hsize : i.size = size) (hby : i.bytes = bytes) (hzs : z.cells.size = size) (hsz : 0 < size)
    (W : World) (hb : Below W.heap.size W w)
    (a : Option Addr) (n cap : Nat) (xs : List Value) (hs : ac.eval s = .slice a n cap) (hown : w.ownsRow W.heap.size e size (.slice a n cap) n xs)
    (A : Option Addr) (m c : Nat) (news : List Value) (hx : ac.eval x = .slice A m c) (hl : news.length = m * size) (hr : Row w A news) (h1 : ∀ u ∈ news, u.oneCell' = true)
    (h63 : n + m ≤ maxLen) (hbytes : (n + m) * bytes ≤ 140737488355328)
    (h : ∀ a' c' (x : Later W), x.w.ownsRow W.heap.size e size (.slice a' (n + m) c') (n + m) (xs ++ news) → K (ac.put o.dst (.slice a' (n + m) c')) x.w) : o.wp P ac w K Q := by
  obtain ⟨v', w', hrun, h2, h3, _⟩ := run_append_row (P := P) w W.heap.size t o.type e i z size bytes ht hi hz hsize hby hzs hsz _ n xs hown A m c news hl hr h1 h63 hbytes hb.size
  obtain ⟨a', c', rfl⟩ := own_form h2
  have hb' : Below W.heap.size W w' := hb.grown h3 hb.size fun k hk => (hown.lt k hk).1
  unfold Oper.wp execOp
  simp only [ho, resolve, invoke, builtin, Sem.run_bind, Sem.run_pure, Result.andThen_ok, List.map_toArray, List.map_cons, List.map_nil, hs, hx, hrun]
  exact h a' c' ⟨w', hb'⟩ h2
/-- append to a row that lies from `base` on: the world is grown but for that row. -/
theorem oper_append_grown {o : Oper} {ac : Act} {K : Act → World → Prop} {Q : Exit → Act → World → Prop} (s x : Operand) (t : TypeId)
    (ho : o.op = .call { callee := .builtin .append, args := #[s, x], argTypes := #[t, t] })
    (e : TypeId) (i : TypeInfo) (z : Value) (size bytes : Nat) (ht : P.underlying t = some (.slice e)) (hi : P.info? e = some i) (hz : i.zero = some z)
    (hsize : i.size = size) (hby : i.bytes = bytes) (hzs : z.cells.size = size) (hsz : 0 < size)
    (base : Nat) (hbase : base ≤ w.heap.size)
    (a : Option Addr) (n cap : Nat) (xs : List Value) (hs : ac.eval s = .slice a n cap) (hown : w.ownsRow base e size (.slice a n cap) n xs)
    (A : Option Addr) (m c : Nat) (news : List Value) (hx : ac.eval x = .slice A m c) (hl : news.length = m * size) (hr : Row w A news) (h1 : ∀ u ∈ news, u.oneCell' = true)
    (h63 : n + m ≤ maxLen) (hbytes : (n + m) * bytes ≤ 140737488355328)
    (h : ∀ a' c' w', w'.ownsRow base e size (.slice a' (n + m) c') (n + m) (xs ++ news) → w.grownBy w' (Value.slice a n cap).ownBlock → K (ac.put o.dst (.slice a' (n + m) c')) w') : o.wp P ac w K Q := by
  obtain ⟨v', w', hrun, h2, h3, _⟩ := run_append_row (P := P) w base t o.type e i z size bytes ht hi hz hsize hby hzs hsz _ n xs hown A m c news hl hr h1 h63 hbytes hbase
  obtain ⟨a', c', rfl⟩ := own_form h2
  unfold Oper.wp execOp
  simp only [ho, resolve, invoke, builtin, Sem.run_bind, Sem.run_pure, Result.andThen_ok, List.map_toArray, List.map_cons, List.map_nil, hs, hx, hrun]
  exact h a' c' w' h2 h3
theorem oper_append_after : True := trivial
/-- append to an empty row that begins at a block: only that block turns. -/
theorem oper_append_at {o : Oper} {ac : Act} {K : Act → World → Prop} {Q : Exit → Act → World → Prop} (s x : Operand) (t : TypeId)
    (ho : o.op = .call { callee := .builtin .append, args := #[s, x], argTypes := #[t, t] })
    (e : TypeId) (i : TypeInfo) (z : Value) (size bytes : Nat) (ht : P.underlying t = some (.slice e)) (hi : P.info? e = some i) (hz : i.zero = some z)
    (hsize : i.size = size) (hby : i.bytes = bytes) (hzs : z.cells.size = size) (hsz : 0 < size)
    (g cap : Nat) (hs : ac.eval s = .slice (some ⟨g, 0, none⟩) 0 cap) (hlw : g ≤ w.heap.size) (hown : w.ownsRow g e size (.slice (some ⟨g, 0, none⟩) 0 cap) 0 [])
    (A : Option Addr) (m c : Nat) (news : List Value) (hx : ac.eval x = .slice A m c) (hl : news.length = m * size) (hr : Row w A news) (h1 : ∀ u ∈ news, u.oneCell' = true)
    (h63 : m ≤ maxLen) (hbytes : m * bytes ≤ 140737488355328)
    (h : ∀ a' c' (x : After w g (g + 1)), x.w.ownsRow g e size (.slice a' m c') m news → K (ac.put o.dst (.slice a' m c')) x.w) : o.wp P ac w K Q := by
  obtain ⟨v', w', hrun, h2, h3, h4⟩ := run_append_row (P := P) w g t o.type e i z size bytes ht hi hz hsize hby hzs hsz _ 0 [] hown A m c news hl hr h1 (by omega) (by rw [Nat.zero_add]; exact hbytes) hlw
  rw [Nat.zero_add, List.nil_append] at h2
  obtain ⟨a', c', rfl⟩ := own_form h2
  have hb' : Between g (g + 1) w w' := ⟨h3.os, h3.tape, h3.output, h3.size, fun k hk hor => h3.block k hk fun e => by
    have e1 : g = k := by simpa [Value.ownBlock] using e.symm
    omega⟩
  unfold Oper.wp execOp
  simp only [ho, resolve, invoke, builtin, Sem.run_bind, Sem.run_pure, Result.andThen_ok, List.map_toArray, List.map_cons, List.map_nil, hs, hx, hrun]
  exact h a' c' ⟨w', hb'⟩ h2
end
theorem lit0_at {W W' : World} {g base e size : Nat} (hg : g = W.heap.size) (hb : base ≤ W.heap.size) (h : Below (W.alloc (.cells #[] e)).heap.size (W.alloc (.cells #[] e)) W') : W'.ownsRow base e size (.slice (some ⟨g, 0, none⟩) 0 0) 0 [] := by
  subst hg
  exact own_bel (World.ownsRow_lit W #[] 0 hb (by unfold maxLen; omega) (by simp)) h
end Go.Proofs.YtfjlilpebhiogaaDoor
