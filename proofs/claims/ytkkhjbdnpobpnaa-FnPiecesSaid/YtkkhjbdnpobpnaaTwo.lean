import Derived.Test.YtkkhjbdnpobpnaaMaskW
import Derived.Test.YtkkhjbdnpobpnaaFloat
/- What the laws on two masks speak of. -/
set_option linter.unusedSimpArgs false
set_option linter.unusedVariables false
namespace Go.Proofs.Ytkkhjbdnpobpnaa
open Go.RowKit
/-- Block `b` holds a mask. -/
def MaskAt (w : World) (b : Nat) (x y W H : Int) (v : Value) : Prop :=
  w.cell? ⟨b, 0, none⟩ = some (.int .i64 x) ∧ w.cell? ⟨b, 1, none⟩ = some (.int .i64 y) ∧ w.cell? ⟨b, 2, none⟩ = some (.int .i64 W) ∧ w.cell? ⟨b, 3, none⟩ = some (.int .i64 H) ∧ w.cell? ⟨b, 4, none⟩ = some v
theorem MaskAt.lt {w : World} {b : Nat} {x y W H : Int} {v : Value} (h : MaskAt w b x y W H v) : b < w.heap.size := World.block_lt_of_cell? w _ h.1
theorem MaskAt.bel {w w' : World} {b : Nat} {x y W H : Int} {v : Value} (h : MaskAt w b x y W H v) (hb : Below w.heap.size w w') : MaskAt w' b x y W H v :=
  ⟨(hb.cell h.lt).trans h.1, (hb.cell h.lt).trans h.2.1, (hb.cell h.lt).trans h.2.2.1, (hb.cell h.lt).trans h.2.2.2.1, (hb.cell h.lt).trans h.2.2.2.2⟩
theorem MaskAt.btw {w w' : World} {b lo hi : Nat} {x y W H : Int} {v : Value} (h : MaskAt w b x y W H v) (hb : Between lo hi w w') (ho : b < lo ∨ hi ≤ b) : MaskAt w' b x y W H v :=
  ⟨(hb.cell h.lt ho).trans h.1, (hb.cell h.lt ho).trans h.2.1, (hb.cell h.lt ho).trans h.2.2.1, (hb.cell h.lt ho).trans h.2.2.2.1, (hb.cell h.lt ho).trans h.2.2.2.2⟩
/-- A variable that holds a mask of the call's own, all made since `W`. -/
def VarMask (W wx : World) (X Y X2 Y2 : Int) (n : Nat) (L : List Value) (t : Value) : Prop :=
  ∃ (g : Nat) (a : Option Addr) (c lo hi : Nat), t = .pointer (some ⟨g, 0, none⟩) ∧ W.heap.size ≤ g ∧ W.heap.size ≤ lo ∧ lo ≤ hi ∧ hi ≤ wx.heap.size ∧ (g < lo ∨ hi ≤ g) ∧
    Owns wx lo hi 4 1 n a c L ∧ MaskAt wx g X Y X2 Y2 (.slice a n c)
theorem VarMask.mk {W wx : World} {X Y X2 Y2 : Int} {n : Nat} {L : List Value} {g c lo hi : Nat} {a : Option Addr} (ho : Owns wx lo hi 4 1 n a c L) (hb : MaskAt wx g X Y X2 Y2 (.slice a n c))
    (h1 : W.heap.size ≤ g) (h2 : W.heap.size ≤ lo) (h3 : lo ≤ hi) (h4 : hi ≤ wx.heap.size) (h5 : g < lo ∨ hi ≤ g) : VarMask W wx X Y X2 Y2 n L (.pointer (some ⟨g, 0, none⟩)) := ⟨g, a, c, lo, hi, rfl, h1, h2, h3, h4, h5, ho, hb⟩
theorem owns_alloc {w : World} {lo hi e s n : Nat} {a : Option Addr} {c : Nat} {xs : List Value} (h : Owns w lo hi e s n a c xs) (o : Obj) : Owns (w.alloc o) lo hi e s n a c xs := ⟨h.own.alloc o, h.lt⟩
theorem owns_set {w : World} {lo hi e s n : Nat} {a : Option Addr} {c : Nat} {xs : List Value} (h : Owns w lo hi e s n a c xs) {p : Addr} (hp : p.block < lo ∨ hi ≤ p.block) (u : Value) : Owns (w.setCell p u) lo hi e s n a c xs :=
  ⟨own_btw h.own (lo := p.block) (hi := p.block + 1) ((Between.refl _ _ _).set (Nat.le_refl _) (Nat.lt_succ_self _) u) fun k hk => by
    cases a with
    | none => simp [Value.ownBlock] at hk
    | some q =>
      simp only [Value.ownBlock, Option.some.injEq] at hk
      have h1 := h.lt q rfl
      have h2 := h.ge q rfl
      subst hk
      omega, h.lt⟩
end Go.Proofs.Ytkkhjbdnpobpnaa
