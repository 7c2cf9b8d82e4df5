import Derived.Test.YtokbolgaokbdcaaDoorApp
/- append to a row of the call's own: where the new row lies. -/
set_option linter.unusedSimpArgs false
set_option linter.unusedVariables false
namespace Go.Proofs.YtokbolgaokbdcaaDoor
open Go.RowKit
section
variable {P : Program} (w : World)
theorem wpList_append_apart {ops : Array Oper} {rest : List Oper} {o : Oper} {ac : Act} {Q : Exit → Act → World → Prop} (hgd : o.guard = none) (s x : Operand) (t : TypeId)
    (ho : o.op = .call { callee := .builtin .append, args := #[s, x], argTypes := #[t, t] })
    (e : TypeId) (i : TypeInfo) (z : Value) (size bytes : Nat) (ht : P.underlying t = some (.slice e)) (hi : P.info? e = some i) (hz : i.zero = some z)
    (hsize : i.size = size) (hby : i.bytes = bytes) (hzs : z.cells.size = size) (hsz : 0 < size)
    (lo hi' : Nat) (hlw : lo ≤ w.heap.size) (a : Option Addr) (n cap : Nat) (xs : List Value) (hs : ac.eval s = .slice a n cap) (hown : w.ownsRow lo e size (.slice a n cap) n xs) (hlt : ∀ p : Addr, a = some p → p.block < hi')
    (A : Option Addr) (m c : Nat) (news : List Value) (hx : ac.eval x = .slice A m c) (hl : news.length = m * size) (hr : Row w A news) (h1 : ∀ u ∈ news, u.oneCell' = true)
    (h63 : n + m ≤ maxLen) (hbytes : (n + m) * bytes ≤ 140737488355328)
    (h : ∀ a' c' (x : After w lo hi'), x.w.ownsRow lo e size (.slice a' (n + m) c') (n + m) (xs ++ news) → (∀ p : Addr, a' = some p → p.block < hi' ∨ w.heap.size ≤ p.block) → wpList P ops Q rest (ac.put o.dst (.slice a' (n + m) c')) x.w) :
    wpList P ops Q (o :: rest) ac w :=
  wpList_plain hgd fun _ hK => by
    obtain ⟨v', w', hrun, h2, h3, h4⟩ := run_append_row (P := P) w lo t o.type e i z size bytes ht hi hz hsize hby hzs hsz _ n xs hown A m c news hl hr h1 h63 hbytes hlw
    obtain ⟨a', c', rfl⟩ := own_form h2
    have hb' : Between lo hi' w w' := ⟨h3.os, h3.tape, h3.output, h3.size, fun k hk hor => h3.block k hk fun e => by
      cases a with
      | none => simp [Value.ownBlock] at e
      | some q =>
        have e1 : q.block = k := by simpa [Value.ownBlock] using e.symm
        have := hlt q rfl
        have := (hown.lt q.block rfl).1
        omega⟩
    have hp : ∀ p : Addr, a' = some p → p.block < hi' ∨ w.heap.size ≤ p.block := fun p hp => by
      subst hp
      rcases h4 with h4 | h4
      · cases a with
        | none => simp [Value.ownBlock] at h4
        | some q =>
          have e1 : p.block = q.block := by simpa [Value.ownBlock] using h4
          exact .inl (by rw [e1]; exact hlt q rfl)
      · have e1 : p.block = w.heap.size := by simpa [Value.ownBlock] using h4
        exact .inr (by omega)
    unfold Oper.wp execOp
    simp only [ho, resolve, invoke, builtin, Sem.run_bind, Sem.run_pure, Result.andThen_ok, List.map_toArray, List.map_cons, List.map_nil, hs, hx, hrun]
    exact hK _ _ (h a' c' ⟨w', hb'⟩ h2 hp)
end
/-- A row that lies in another block than the one written. -/
theorem own_ne {w : World} {base e s n : Nat} {a : Option Addr} {c : Nat} {xs : List Value} (h : w.ownsRow base e s (.slice a n c) n xs) {p : Addr} (hp : ∀ q : Addr, a = some q → q.block ≠ p.block) (u : Value) : (w.setCell p u).ownsRow base e s (.slice a n c) n xs :=
  own_btw h (lo := p.block) (hi := p.block + 1) ((Between.refl _ _ _).set (Nat.le_refl _) (Nat.lt_succ_self _) u) fun k hk => by
    cases a with
    | none => simp [Value.ownBlock] at hk
    | some q =>
      have e1 : q.block = k := by simpa [Value.ownBlock] using hk
      have := hp q rfl
      omega
end Go.Proofs.YtokbolgaokbdcaaDoor
