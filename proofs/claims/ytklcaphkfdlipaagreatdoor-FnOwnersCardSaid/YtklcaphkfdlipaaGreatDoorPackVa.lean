import Derived.Lib.SlTrimSet
import Derived.Lib.Split
import Derived.Lib.SplitLaws
import Derived.Test.YtklcaphkfdlipaaGreatDoorRows
import Derived.Handy
import Derived.WalkSpells
import Derived.WalkLawsBesides
import Derived.BigQuiet
import Derived.Deep.QuietTactic
import Derived.Outline
import Derived.Lib.Hide
import Derived.OrdersHeld
import Derived.RegionTactic
import Derived.Deep.OwnRows
import Derived.Laws.AppendOwn
import Derived.Maps.AppendAt
import Derived.OwnWalk
import Derived.Deep.DeepCutAuto
import Derived.Laws.StructEq
import Derived.Laws.BytesArg
/- Several of my texts, one behind the other: Words, Base, In, After, MaskA, App, Float, Cells, Ints, HasI, Sizes, MarkT, Oper, App2, OwnsD, Oper2, PlanL, MaskB. -/
/- Words, phrases and what lies between separators: plain facts on bytes. -/
set_option linter.unusedSimpArgs false
set_option linter.unusedVariables false
namespace Go.Proofs.YtklcaphkfdlipaaGreatDoor
/-- A letter a to z. -/
def letterB (b : UInt8) : Bool := decide (97 ≤ b.toNat) && decide (b.toNat ≤ 122)
def letters : List UInt8 := [97, 98, 99, 100, 101, 102, 103, 104, 105, 106, 107, 108, 109, 110, 111, 112, 113, 114, 115, 116, 117, 118, 119, 120, 121, 122]
theorem letters_contains (b : UInt8) : letters.contains b = letterB b := by
  have h : ∀ n, n < 256 → letters.contains (UInt8.ofNat n) = letterB (UInt8.ofNat n) := by decide +kernel
  have e : UInt8.ofNat b.toNat = b := by simp
  rw [← e]
  exact h _ (by have := b.toNat_lt; omega)
/-- A word: 1 to 16 letters. -/
def wordL (l : List UInt8) : Bool := decide (1 ≤ l.length) && decide (l.length ≤ 16) && l.all letterB
def wordB (s : ByteArray) : Bool := wordL s.data.toList
theorem dropWhile_all {p : UInt8 → Bool} : ∀ {l : List UInt8}, (∀ x ∈ l.dropWhile p, p x = true) → l.dropWhile p = []
  | [], _ => rfl
  | a :: l, h => by
    cases ha : p a
    · rw [List.dropWhile_cons, ha] at h
      have := h a (by simp)
      rw [ha] at this
      cases this
    · rw [List.dropWhile_cons, ha] at h ⊢
      simp only [if_true] at h ⊢
      exact dropWhile_all h
theorem dropWhile_nil_all {p : UInt8 → Bool} : ∀ {l : List UInt8}, l.dropWhile p = [] ↔ ∀ x ∈ l, p x = true
  | [] => by simp
  | a :: l => by
    cases ha : p a
    · simp [List.dropWhile_cons, ha]
    · simp only [List.dropWhile_cons, ha, if_true, dropWhile_nil_all (l := l)]
      simp [ha]
theorem trimS_nil (l cs : List UInt8) : Lib.trimS l cs = [] ↔ ∀ x ∈ l, cs.contains x = true := by
  unfold Lib.trimS Lib.trimLeftS Lib.trimRightS
  constructor
  · intro h
    rw [dropWhile_nil_all] at h
    have h2 : l.reverse.dropWhile (cs.contains ·) = [] := dropWhile_all fun x hx => h x (by simpa using hx)
    rw [dropWhile_nil_all] at h2
    exact fun x hx => h2 x (by simpa using hx)
  · intro h
    have h2 : l.reverse.dropWhile (cs.contains ·) = [] := dropWhile_nil_all.2 fun x hx => h x (by simpa using hx)
    rw [h2]
    rfl
theorem trim_letters (l : List UInt8) : (Lib.trimS l letters).isEmpty = l.all letterB := by
  rw [Bool.eq_iff_iff, List.isEmpty_iff, trimS_nil, List.all_eq_true]
  constructor
  · intro h x hx
    rw [← letters_contains]; exact h x hx
  · intro h x hx
    rw [letters_contains]; exact h x hx
end Go.Proofs.YtklcaphkfdlipaaGreatDoor

namespace Go.Proofs.YtklcaphkfdlipaaGreatDoor
open Go.RowKit

/-- The slice address `a` leads to the cells `xs`. -/
def Row (w : World) (a : Option Addr) (xs : List Value) : Prop :=
  ∀ (j : Nat) (v : Value), xs[j]? = some v → ∃ b o, a = some ⟨b, o, none⟩ ∧ w.cell? ⟨b, o + j, none⟩ = some v

theorem Row.nil (w : World) (a : Option Addr) : Row w a [] := fun j v h => by simp at h
theorem Row.keep {w w' : World} {a : Option Addr} {xs : List Value} (h : Row w a xs) (hk : ∀ p : Addr, p.block < w.heap.size → w'.cell? p = w.cell? p) : Row w' a xs :=
  fun j v hj => by
    obtain ⟨b, o, rfl, hc⟩ := h j v hj
    exact ⟨b, o, rfl, (hk _ (World.block_lt_of_cell? w _ hc)).trans hc⟩
theorem Row.below {w w' : World} {B : Nat} {a : Option Addr} {xs : List Value} (h : Row w a xs) (hb : Below B w w') (hB : w.heap.size ≤ B) : Row w' a xs :=
  h.keep fun _ hp => hb.cell (Nat.lt_of_lt_of_le hp hB)
theorem Row.bel {w w' : World} {a : Option Addr} {xs : List Value} (h : Row w a xs) (hb : Below w.heap.size w w') : Row w' a xs := h.below hb (Nat.le_refl _)
theorem Row.alloc {w : World} {a : Option Addr} {xs : List Value} (h : Row w a xs) (o : Obj) : Row (w.alloc o) a xs := h.bel ((Below.refl _ _).alloc (Nat.le_refl _) o)
theorem Row.of_own {w : World} {base : Nat} {e : TypeId} {a : Option Addr} {s n c : Nat} {xs : List Value} (h : w.ownsRow base e s (.slice a n c) n xs) : Row w a xs := by
  intro j v hj
  have hl : j < xs.length := (List.getElem?_eq_some_iff.1 hj).1
  rcases h.2 with ⟨he, hn⟩ | ⟨g, cap, cur, hv, _⟩
  · rw [h.1, hn] at hl; omega
  · have ha : a = some ⟨g, 0, none⟩ := by injection hv
    subst ha
    refine ⟨g, 0, rfl, ?_⟩
    have := h.cells (g := g) rfl j v hj
    by_cases h0 : j = 0
    · subst h0; simpa [Addr.add] using this
    · simpa [Addr.add, h0] using this
theorem Row.len_le {w : World} {base : Nat} {e : TypeId} {a : Option Addr} {s n c : Nat} {xs : List Value} (h : w.ownsRow base e s (.slice a n c) n xs) : n ≤ maxLen := by
  rcases h.2 with ⟨_, hn⟩ | ⟨g, cap, cur, hv, _, _, hn, hc, _⟩
  · omega
  · omega
theorem own_form {w : World} {base : Nat} {e : TypeId} {v : Value} {s n : Nat} {xs : List Value} (h : w.ownsRow base e s v n xs) : ∃ a c, v = .slice a n c := by
  rcases h.2 with ⟨rfl, rfl⟩ | ⟨g, cap, cur, rfl, _⟩
  · exact ⟨_, _, rfl⟩
  · exact ⟨_, _, rfl⟩
/-- An owned row stays owned where nothing below a bound beyond it turns. -/
theorem own_below {w w' : World} {base B : Nat} {e : TypeId} {v : Value} {s n : Nat} {xs : List Value} (h : w.ownsRow base e s v n xs) (hb : Below B w w') (hB : w.heap.size ≤ B) : w'.ownsRow base e s v n xs := by
  refine ⟨h.1, ?_⟩
  rcases h.2 with h2 | ⟨g, cap, cur, hv, hg, hh, r⟩
  · exact .inl h2
  · exact .inr ⟨g, cap, cur, hv, hg, (hb.block g (by have := (Array.getElem?_eq_some_iff.1 hh).1; omega)).trans hh, r⟩
theorem own_bel {w w' : World} {base : Nat} {e : TypeId} {v : Value} {s n : Nat} {xs : List Value} (h : w.ownsRow base e s v n xs) (hb : Below w.heap.size w w') : w'.ownsRow base e s v n xs := own_below h hb (Nat.le_refl _)
theorem own_mono {w : World} {base base' : Nat} {e : TypeId} {v : Value} {s n : Nat} {xs : List Value} (h : w.ownsRow base e s v n xs) (hb : base' ≤ base) : w.ownsRow base' e s v n xs := by
  refine ⟨h.1, ?_⟩
  rcases h.2 with h2 | ⟨g, cap, cur, hv, hg, r⟩
  · exact .inl h2
  · exact .inr ⟨g, cap, cur, hv, by omega, r⟩
/-- A world that came later: all blocks of `W` are as they were. -/
structure Later (W : World) where
  w : World
  bel : Below W.heap.size W w
instance (W : World) : Nonempty (Later W) := ⟨⟨W, Below.refl _ _⟩⟩
/-- What a later world holds beyond `W`'s blocks. -/
@[irreducible] def Later.far {W : World} (x : Later W) (a : Addr) : Option Value := x.w.cell? a
@[irreducible] def Later.farFrozen {W : World} (x : Later W) (a : Addr) : Bool := x.w.frozen? a
theorem Later.cell {W : World} (x : Later W) (b o : Nat) (s : Option Nat) : x.w.cell? ⟨b, o, s⟩ = if b < W.heap.size then W.cell? ⟨b, o, s⟩ else x.far ⟨b, o, s⟩ := by
  split
  · rename_i h; exact x.bel.cell h
  · unfold Later.far; rfl
theorem Later.frozen {W : World} (x : Later W) (b o : Nat) (s : Option Nat) : x.w.frozen? ⟨b, o, s⟩ = if b < W.heap.size then W.frozen? ⟨b, o, s⟩ else x.farFrozen ⟨b, o, s⟩ := by
  split
  · rename_i h; exact x.bel.frozen h
  · unfold Later.farFrozen; rfl
attribute [go_sem] Later.cell Later.frozen
/-- The call returned `v`; what there was is as it was. -/
def Ret (w : World) (v : Value) (e : Ending) (w' : World) : Prop := e = .returned v ∧ ∃ y : Later w, w' = y.w
theorem Ret.mk {w w' : World} {v : Value} {e : Ending} (h : e = .returned v) (hb : Below w.heap.size w w') : Ret w v e w' := ⟨h, ⟨w', hb⟩, rfl⟩
/-- The call returned `mk v`, `v` a slice of its own making that holds `xs`; what there was is as it was. -/
def RetOwn (w : World) (E size n : Nat) (xs : List Value) (mk : Value → Value) (e : Ending) (w' : World) : Prop :=
  ∃ (a : Option Addr) (c : Nat), e = .returned (mk (.slice a n c)) ∧ w'.ownsRow w.heap.size E size (.slice a n c) n xs ∧ ∃ y : Later w, w' = y.w
theorem RetOwn.mk {w w' : World} {E size n : Nat} {xs : List Value} {mk : Value → Value} {e : Ending} (v : Value) (h : e = .returned (mk v)) (ho : w'.ownsRow w.heap.size E size v n xs) (hb : Below w.heap.size w w') : RetOwn w E size n xs mk e w' := by
  obtain ⟨a, c, rfl⟩ : ∃ a c, v = .slice a n c := by
    rcases ho.2 with ⟨rfl, rfl⟩ | ⟨g, cap, cur, rfl, _⟩
    · exact ⟨_, _, rfl⟩
    · exact ⟨_, _, rfl⟩
  exact ⟨a, c, h, ho, ⟨w', hb⟩, rfl⟩
theorem wp_region_later {P : Program} {id : Nat} {Q : Exit → Act → World → Prop} {a : Act} {W : World} {l : List Oper} (hm : P.follows .mixedOrders = true) (hB : Region.lexB .any l.toArray = true)
    (h : wpQuiet P l.toArray (fun w' => ∃ x : Later W, w' = x.w) (fun a' => ∀ w', (∃ x : Later W, w' = x.w) → Q .normal a' w') l a) : (Code.region id l.toArray true).wp P Q a W :=
  wp_region_quiet (C := fun w' => ∃ x : Later W, w' = x.w) hm hB ⟨⟨W.drew, (Below.refl _ _).drew⟩, rfl⟩ (by simpa using h)
theorem Calls.later {P : Program} {f : FuncId} {args : Array Value} {W : World} {x : Later W} {v : Value} (h : Calls P f args x.w (Ret x.w v)) :
    Calls P f args x.w fun e w'' => e = .returned v ∧ ∃ y : Later W, w'' = y.w :=
  h.mono fun _ _ ⟨he, y, hy⟩ => ⟨he, ⟨y.w, x.bel.trans (y.bel.mono x.bel.size)⟩, hy⟩
theorem bel_trans {B : Nat} {a b c : World} (h : Below a.heap.size a b) (k : Below B b c) (hB : a.heap.size ≤ B) : Below a.heap.size a c := h.trans (k.mono hB)
theorem Later.out {w W : World} (x : Later W) (h : Below w.heap.size w W) : Below w.heap.size w x.w := bel_trans h x.bel h.size
theorem bel_alloc {w W : World} (h : Below w.heap.size w W) (o : Obj) : Below w.heap.size w (W.alloc o) := h.alloc h.size o
theorem bel_set {w W : World} (h : Below w.heap.size w W) {p : Addr} (hp : w.heap.size ≤ p.block) (u : Value) : Below w.heap.size w (W.setCell p u) := h.setCell hp u
theorem bel_drewN {w W : World} (h : Below w.heap.size w W) (n : Nat) : Below w.heap.size w (W.drewN n) := ⟨h.os, h.tape, h.output, h.size, h.block⟩
theorem bel_drew {w W : World} (h : Below w.heap.size w W) : Below w.heap.size w W.drew := h.drew
theorem own_set {w : World} {base e s n : Nat} {v : Value} {xs : List Value} (h : w.ownsRow base e s v n xs) {p : Addr} (hp : p.block < base) (u : Value) : (w.setCell p u).ownsRow base e s v n xs := ownsRow_setCell_below h hp u
/-- Operations that yield a value or end the run, and turn nothing else. -/
def opQuiet : Op → Bool
  | .move _ | .assign _ | .pick .. | .load .. | .fieldAddr .. | .field .. | .indexAddr .. | .index .. | .binOp .. | .unOp .. | .extract .. | .slice .. | .build .. | .makeInterface .. | .makeFunc .. | .convert .. => true
  | _ => false
theorem value_of_bind {P : Program} {α : Type} {s : Sem α} {f : α → Value} {w w' : World} {n : Next} (h : (do pure (Next.value (f (← s))) : Sem Next).run P w = .ok n w') : ∃ v, n = .value v := by
  rw [Sem.run_bind] at h
  cases hs : s.run P w with
  | ok x w1 => rw [hs] at h; simp [Result.andThen, Sem.run_pure] at h; exact ⟨_, h.1.symm⟩
  | halt x w1 => rw [hs] at h; simp [Result.andThen] at h
theorem value_of_quiet {P : Program} {o : Oper} {ρ : Operand → Value} {w w' : World} {n : Next} (hq : opQuiet o.op = true) (h : (execOp ρ o).run P w = .ok n w') : ∃ v, n = .value v := by
  obtain ⟨dst, op, ty, pos, after, guard⟩ := o
  cases op <;> simp only [opQuiet, Bool.false_eq_true] at hq <;> simp only [execOp] at h <;> first
    | exact value_of_bind (f := id) h
    | (simp [Sem.run_pure] at h; exact ⟨_, h.1.symm⟩)
    | exact value_of_bind (f := fun b => if b = true then _ else _) h

section
variable {P : Program} {ops : Array Oper} {C : World → Prop} {Q : Exit → Act → World → Prop} {md : Region.Mode}
/-- A region that draws its order, walked in one order that stands for all: what yields its value in every world of the class is taken as soon as it can come up ('true'); a call comes when nothing else can ('false'). -/
def wpPlan (P : Program) (ops : Array Oper) (C : World → Prop) (Q : Exit → Act → World → Prop) : List (Nat × Bool) → Act → World → Prop
  | [], a, w => Q .normal a w
  | (i, true) :: r, a, w => ∃ o, ops[i]? = some o ∧ if Region.wanted o (yielded ops a.tmps) then o.quiet P a C (fun a' => wpPlan P ops C Q r a' w) else wpPlan P ops C Q r (a.put o.dst undef) w
  | (i, false) :: r, a, w => wpOp P ops Q i (fun a' w' => C w' ∧ wpPlan P ops C Q r a' w') a w
/-- The order can be taken. -/
def planB (ops : Array Oper) : List (Nat × Bool) → Array Bool → Bool
  | [], listed => (Region.ready .any ops listed).isEmpty
  | (i, true) :: r, listed => (Region.ready .any ops listed).contains i && Region.free .any ops listed i && ((ops[i]?).map fun o => opQuiet o.op).getD false && planB ops r (listed.setIfInBounds i true)
  | (i, false) :: r, listed => Region.ready .any ops listed == [i] && planB ops r (listed.setIfInBounds i true)
theorem wpAnyH_of_plan (hs : Region.noSelect ops = true) (hQ : ∀ c a (d : Option Tmp) v w, Q (.panic c) (a.put d v) w → Q (.panic c) a w) :
    ∀ (l : List (Nat × Bool)) (listed : Array Bool) (a : Act) (w : World), planB ops l listed = true → C w → wpPlan P ops C Q l a w → wpAnyH P .any ops Q C l.length listed a w
  | [], listed, a, w, hB, _, h => wpAnyH_done (by simpa [planB] using hB) h _
  | (i, true) :: r, listed, a, w, hB, hC, h => by
    simp only [planB, Bool.and_eq_true] at hB
    obtain ⟨⟨⟨h1, h2⟩, h3⟩, h4⟩ := hB
    obtain ⟨o, ho, hh⟩ := h
    simp only [ho, Option.map_some, Option.getD_some] at h3
    by_cases hw : Region.wanted o (yielded ops a.tmps) = true
    · rw [if_pos hw] at hh
      obtain ⟨v, hv, hn⟩ := hh
      refine wpAnyH_take (v := v) ho hs h2 h1 (fun c a w => hQ c a _ v w) (.inl ⟨hw, fun w' hw' => ?_⟩) hC (wpAnyH_of_plan hs hQ r _ _ _ h4 hC hn)
      have := hv w' hw'
      unfold Oper.quietAt at this
      generalize hr : (execOp a.eval o).run P w' = res at this
      cases res with
      | halt x w1 => simp only [Oper.quietUpon] at this
      | ok n w1 =>
        obtain ⟨u, rfl⟩ := value_of_quiet h3 hr
        simp only [Oper.quietUpon] at this
        rw [this.1, this.2]
    · rw [if_neg hw] at hh
      exact wpAnyH_take (v := undef) ho hs h2 h1 (fun c a w => hQ c a _ undef w) (.inr ⟨by simpa using hw, rfl⟩) hC (wpAnyH_of_plan hs hQ r _ _ _ h4 hC hh)
  | (i, false) :: r, listed, a, w, hB, hC, h => by
    simp only [planB, Bool.and_eq_true, beq_iff_eq] at hB
    refine wpAnyH_all hB.1 (by simp) fun j hj => ?_
    obtain rfl : j = i := by simpa using hj
    exact wpOp_mono (fun a' w' hh => ⟨hh.1, wpAnyH_of_plan hs hQ r _ a' w' hB.2 hh.1 hh.2⟩) h
theorem wp_region_plan {id : Nat} {a : Act} {W : World} {l : List Oper} (pl : List (Nat × Bool)) (hm : P.follows .mixedOrders = true) (hs : Region.noSelect l.toArray = true)
    (hB : planB l.toArray pl (Array.replicate l.toArray.size false) = true) (hl : pl.length = l.toArray.size) (hQ : ∀ c a (d : Option Tmp) v w, Q (.panic c) (a.put d v) w → Q (.panic c) a w)
    (hC : C W.drew) (h : wpPlan P l.toArray C Q pl a W.drew) : (Code.region id l.toArray true).wp P Q a W :=
  wp_region_held hm (hl ▸ wpAnyH_of_plan hs hQ pl _ _ _ hB hC h)
/-- The class of the worlds that came later. -/
def LaterC (W w' : World) : Prop := ∃ x : Later W, w' = x.w
attribute [go_sem] LaterC
theorem LaterC.mk {W w' : World} (h : Below W.heap.size W w') : LaterC W w' := ⟨⟨w', h⟩, rfl⟩
theorem nthS {x o : Oper} {l : List Oper} {i : Nat} (h : l.toArray[i]? = some o) : (x :: l).toArray[i + 1]? = some o := by simpa using h
theorem nth0 {o : Oper} {l : List Oper} : (o :: l).toArray[0]? = some o := rfl
theorem nth1 {a0 o : Oper} {l : List Oper} : (a0 :: o :: l).toArray[1]? = some o := nthS nth0
theorem nth2 {a0 a1 o : Oper} {l : List Oper} : (a0 :: a1 :: o :: l).toArray[2]? = some o := nthS nth1
theorem nth3 {a0 a1 a2 o : Oper} {l : List Oper} : (a0 :: a1 :: a2 :: o :: l).toArray[3]? = some o := nthS nth2
theorem nth4 {a0 a1 a2 a3 o : Oper} {l : List Oper} : (a0 :: a1 :: a2 :: a3 :: o :: l).toArray[4]? = some o := nthS nth3
theorem nth5 {a0 a1 a2 a3 a4 o : Oper} {l : List Oper} : (a0 :: a1 :: a2 :: a3 :: a4 :: o :: l).toArray[5]? = some o := nthS nth4
theorem nth6 {a0 a1 a2 a3 a4 a5 o : Oper} {l : List Oper} : (a0 :: a1 :: a2 :: a3 :: a4 :: a5 :: o :: l).toArray[6]? = some o := nthS nth5
theorem nth7 {a0 a1 a2 a3 a4 a5 a6 o : Oper} {l : List Oper} : (a0 :: a1 :: a2 :: a3 :: a4 :: a5 :: a6 :: o :: l).toArray[7]? = some o := nthS nth6
theorem nth8 {a0 a1 a2 a3 a4 a5 a6 a7 o : Oper} {l : List Oper} : (a0 :: a1 :: a2 :: a3 :: a4 :: a5 :: a6 :: a7 :: o :: l).toArray[8]? = some o := nthS nth7
theorem nth9 {a0 a1 a2 a3 a4 a5 a6 a7 a8 o : Oper} {l : List Oper} : (a0 :: a1 :: a2 :: a3 :: a4 :: a5 :: a6 :: a7 :: a8 :: o :: l).toArray[9]? = some o := nthS nth8
theorem nth10 {a0 a1 a2 a3 a4 a5 a6 a7 a8 a9 o : Oper} {l : List Oper} : (a0 :: a1 :: a2 :: a3 :: a4 :: a5 :: a6 :: a7 :: a8 :: a9 :: o :: l).toArray[10]? = some o := nthS nth9
theorem nth11 {a0 a1 a2 a3 a4 a5 a6 a7 a8 a9 a10 o : Oper} {l : List Oper} : (a0 :: a1 :: a2 :: a3 :: a4 :: a5 :: a6 :: a7 :: a8 :: a9 :: a10 :: o :: l).toArray[11]? = some o := nthS nth10
theorem nth12 {a0 a1 a2 a3 a4 a5 a6 a7 a8 a9 a10 a11 o : Oper} {l : List Oper} : (a0 :: a1 :: a2 :: a3 :: a4 :: a5 :: a6 :: a7 :: a8 :: a9 :: a10 :: a11 :: o :: l).toArray[12]? = some o := nthS nth11
theorem nth13 {a0 a1 a2 a3 a4 a5 a6 a7 a8 a9 a10 a11 a12 o : Oper} {l : List Oper} : (a0 :: a1 :: a2 :: a3 :: a4 :: a5 :: a6 :: a7 :: a8 :: a9 :: a10 :: a11 :: a12 :: o :: l).toArray[13]? = some o := nthS nth12
theorem nth14 {a0 a1 a2 a3 a4 a5 a6 a7 a8 a9 a10 a11 a12 a13 o : Oper} {l : List Oper} : (a0 :: a1 :: a2 :: a3 :: a4 :: a5 :: a6 :: a7 :: a8 :: a9 :: a10 :: a11 :: a12 :: a13 :: o :: l).toArray[14]? = some o := nthS nth13
theorem nth15 {a0 a1 a2 a3 a4 a5 a6 a7 a8 a9 a10 a11 a12 a13 a14 o : Oper} {l : List Oper} : (a0 :: a1 :: a2 :: a3 :: a4 :: a5 :: a6 :: a7 :: a8 :: a9 :: a10 :: a11 :: a12 :: a13 :: a14 :: o :: l).toArray[15]? = some o := nthS nth14
theorem nth16 {a0 a1 a2 a3 a4 a5 a6 a7 a8 a9 a10 a11 a12 a13 a14 a15 o : Oper} {l : List Oper} : (a0 :: a1 :: a2 :: a3 :: a4 :: a5 :: a6 :: a7 :: a8 :: a9 :: a10 :: a11 :: a12 :: a13 :: a14 :: a15 :: o :: l).toArray[16]? = some o := nthS nth15
theorem nth17 {a0 a1 a2 a3 a4 a5 a6 a7 a8 a9 a10 a11 a12 a13 a14 a15 a16 o : Oper} {l : List Oper} : (a0 :: a1 :: a2 :: a3 :: a4 :: a5 :: a6 :: a7 :: a8 :: a9 :: a10 :: a11 :: a12 :: a13 :: a14 :: a15 :: a16 :: o :: l).toArray[17]? = some o := nthS nth16
theorem nth18 {a0 a1 a2 a3 a4 a5 a6 a7 a8 a9 a10 a11 a12 a13 a14 a15 a16 a17 o : Oper} {l : List Oper} : (a0 :: a1 :: a2 :: a3 :: a4 :: a5 :: a6 :: a7 :: a8 :: a9 :: a10 :: a11 :: a12 :: a13 :: a14 :: a15 :: a16 :: a17 :: o :: l).toArray[18]? = some o := nthS nth17
theorem nth19 {a0 a1 a2 a3 a4 a5 a6 a7 a8 a9 a10 a11 a12 a13 a14 a15 a16 a17 a18 o : Oper} {l : List Oper} : (a0 :: a1 :: a2 :: a3 :: a4 :: a5 :: a6 :: a7 :: a8 :: a9 :: a10 :: a11 :: a12 :: a13 :: a14 :: a15 :: a16 :: a17 :: a18 :: o :: l).toArray[19]? = some o := nthS nth18
theorem nth20 {a0 a1 a2 a3 a4 a5 a6 a7 a8 a9 a10 a11 a12 a13 a14 a15 a16 a17 a18 a19 o : Oper} {l : List Oper} : (a0 :: a1 :: a2 :: a3 :: a4 :: a5 :: a6 :: a7 :: a8 :: a9 :: a10 :: a11 :: a12 :: a13 :: a14 :: a15 :: a16 :: a17 :: a18 :: a19 :: o :: l).toArray[20]? = some o := nthS nth19
theorem nth21 {a0 a1 a2 a3 a4 a5 a6 a7 a8 a9 a10 a11 a12 a13 a14 a15 a16 a17 a18 a19 a20 o : Oper} {l : List Oper} : (a0 :: a1 :: a2 :: a3 :: a4 :: a5 :: a6 :: a7 :: a8 :: a9 :: a10 :: a11 :: a12 :: a13 :: a14 :: a15 :: a16 :: a17 :: a18 :: a19 :: a20 :: o :: l).toArray[21]? = some o := nthS nth20
theorem nth22 {a0 a1 a2 a3 a4 a5 a6 a7 a8 a9 a10 a11 a12 a13 a14 a15 a16 a17 a18 a19 a20 a21 o : Oper} {l : List Oper} : (a0 :: a1 :: a2 :: a3 :: a4 :: a5 :: a6 :: a7 :: a8 :: a9 :: a10 :: a11 :: a12 :: a13 :: a14 :: a15 :: a16 :: a17 :: a18 :: a19 :: a20 :: a21 :: o :: l).toArray[22]? = some o := nthS nth21
theorem nth23 {a0 a1 a2 a3 a4 a5 a6 a7 a8 a9 a10 a11 a12 a13 a14 a15 a16 a17 a18 a19 a20 a21 a22 o : Oper} {l : List Oper} : (a0 :: a1 :: a2 :: a3 :: a4 :: a5 :: a6 :: a7 :: a8 :: a9 :: a10 :: a11 :: a12 :: a13 :: a14 :: a15 :: a16 :: a17 :: a18 :: a19 :: a20 :: a21 :: a22 :: o :: l).toArray[23]? = some o := nthS nth22
theorem nth24 {a0 a1 a2 a3 a4 a5 a6 a7 a8 a9 a10 a11 a12 a13 a14 a15 a16 a17 a18 a19 a20 a21 a22 a23 o : Oper} {l : List Oper} : (a0 :: a1 :: a2 :: a3 :: a4 :: a5 :: a6 :: a7 :: a8 :: a9 :: a10 :: a11 :: a12 :: a13 :: a14 :: a15 :: a16 :: a17 :: a18 :: a19 :: a20 :: a21 :: a22 :: a23 :: o :: l).toArray[24]? = some o := nthS nth23
theorem nth25 {a0 a1 a2 a3 a4 a5 a6 a7 a8 a9 a10 a11 a12 a13 a14 a15 a16 a17 a18 a19 a20 a21 a22 a23 a24 o : Oper} {l : List Oper} : (a0 :: a1 :: a2 :: a3 :: a4 :: a5 :: a6 :: a7 :: a8 :: a9 :: a10 :: a11 :: a12 :: a13 :: a14 :: a15 :: a16 :: a17 :: a18 :: a19 :: a20 :: a21 :: a22 :: a23 :: a24 :: o :: l).toArray[25]? = some o := nthS nth24
theorem nth26 {a0 a1 a2 a3 a4 a5 a6 a7 a8 a9 a10 a11 a12 a13 a14 a15 a16 a17 a18 a19 a20 a21 a22 a23 a24 a25 o : Oper} {l : List Oper} : (a0 :: a1 :: a2 :: a3 :: a4 :: a5 :: a6 :: a7 :: a8 :: a9 :: a10 :: a11 :: a12 :: a13 :: a14 :: a15 :: a16 :: a17 :: a18 :: a19 :: a20 :: a21 :: a22 :: a23 :: a24 :: a25 :: o :: l).toArray[26]? = some o := nthS nth25
theorem plan_nil {a : Act} {w : World} (h : Q .normal a w) : wpPlan P ops C Q [] a w := h
theorem plan_quiet {i : Nat} {r : List (Nat × Bool)} {o : Oper} {a : Act} {w : World} (ho : ops[i]? = some o) (hw : Region.wanted o (yielded ops a.tmps) = true)
    (h : ∀ K : Act → Prop, (∀ a, wpPlan P ops C Q r a w → K a) → o.quiet P a C K) : wpPlan P ops C Q ((i, true) :: r) a w :=
  ⟨o, ho, by rw [if_pos hw]; exact h _ fun _ h => h⟩
theorem plan_loud {i : Nat} {r : List (Nat × Bool)} {o : Oper} {a : Act} {w : World} (ho : ops[i]? = some o) (hw : Region.wanted o (yielded ops a.tmps) = true)
    (h : ∀ K : Act → World → Prop, (∀ a w', C w' → wpPlan P ops C Q r a w' → K a w') → o.wp P a w K Q) : wpPlan P ops C Q ((i, false) :: r) a w := by
  show wpOp P ops Q i _ a w
  unfold wpOp
  rw [ho]
  show if Region.wanted o (yielded ops a.tmps) = true then _ else _
  rw [if_pos hw]
  exact .inl (h _ fun _ _ h1 h2 => ⟨h1, h2⟩)
theorem plan_skip_q {i : Nat} {r : List (Nat × Bool)} {o : Oper} {a a' : Act} {w : World} (ho : ops[i]? = some o) (hw : Region.wanted o (yielded ops a.tmps) = false) (ha : a.put o.dst undef = a')
    (h : wpPlan P ops C Q r a' w) : wpPlan P ops C Q ((i, true) :: r) a w := by
  subst ha
  exact ⟨o, ho, by rw [if_neg (by rw [hw]; decide)]; exact h⟩
theorem plan_skip {i : Nat} {b : Bool} {r : List (Nat × Bool)} {o : Oper} {a a' : Act} {w : World} (ho : ops[i]? = some o) (hw : Region.wanted o (yielded ops a.tmps) = false) (ha : a.put o.dst undef = a')
    (hC : C w) (h : wpPlan P ops C Q r a' w) : wpPlan P ops C Q ((i, b) :: r) a w := by
  subst ha
  cases b with
  | true => exact ⟨o, ho, by rw [if_neg (by rw [hw]; decide)]; exact h⟩
  | false =>
    show wpOp P ops Q i _ a w
    unfold wpOp
    rw [ho]
    show if Region.wanted o (yielded ops a.tmps) = true then _ else _
    rw [if_neg (by rw [hw]; decide)]
    exact ⟨hC, h⟩
end
end Go.Proofs.YtklcaphkfdlipaaGreatDoor

/- Bounds. -/
set_option linter.unusedSimpArgs false
set_option linter.unusedVariables false
namespace Go.Proofs.YtklcaphkfdlipaaGreatDoor
open Go.RowKit
def inB (x lo hi : Int) : Bool := decide (lo ≤ x) && decide (x ≤ hi)
theorem inB_iff {x lo hi : Int} : inB x lo hi = true ↔ lo ≤ x ∧ x ≤ hi := by simp [inB]
set_option maxHeartbeats 400000 in
theorem within_any (x lo hi : Int) (w : World) :
    Calls Tryz.prog 75 #[.int .i64 x, .int .i64 lo, .int .i64 hi] w (Ret w (.bool (inB x lo hi))) := by
  by_cases h1 : lo ≤ x
  · have H : inB x lo hi = decide (x ≤ hi) := by simp [inB, h1]
    have H' := Lib.hid H
    clear H
    go_enter Tryz.func75, Tryz.ntmps75
    go_wp2
    all_goals go_ret
    all_goals exact .mk (by simp [H'.out, *]) (Below.refl _ _)
  · have H : inB x lo hi = false := by simp [inB, h1]
    have H' := Lib.hid H
    clear H
    go_enter Tryz.func75, Tryz.ntmps75
    go_wp2
    all_goals go_ret
    all_goals exact .mk (by simp [H'.out]) (Below.refl _ _)
theorem within_b {x lo hi : Int} {b : Bool} (w : World) (h : inB x lo hi = b) : Calls Tryz.prog 75 #[.int .i64 x, .int .i64 lo, .int .i64 hi] w (Ret w (.bool b)) := by
  subst h; exact within_any _ _ _ _
set_option maxHeartbeats 400000 in
theorem l01In_any (x lo hi : Int) (w : World) :
    Calls Tryz.prog 73 #[.int .i64 x, .int .i64 lo, .int .i64 hi] w (Ret w (.bool (inB x lo hi))) := by
  by_cases h1 : lo ≤ x
  · have H : inB x lo hi = decide (x ≤ hi) := by simp [inB, h1]
    have H' := Lib.hid H
    clear H
    go_enter Tryz.func73, Tryz.ntmps73
    go_wp2
    all_goals go_ret
    all_goals exact .mk (by simp [H'.out, *]) (Below.refl _ _)
  · have H : inB x lo hi = false := by simp [inB, h1]
    have H' := Lib.hid H
    clear H
    go_enter Tryz.func73, Tryz.ntmps73
    go_wp2
    all_goals go_ret
    all_goals exact .mk (by simp [H'.out]) (Below.refl _ _)
theorem l01In_b {x lo hi : Int} {b : Bool} (w : World) (h : inB x lo hi = b) : Calls Tryz.prog 73 #[.int .i64 x, .int .i64 lo, .int .i64 hi] w (Ret w (.bool b)) := by
  subst h; exact l01In_any _ _ _ _

end Go.Proofs.YtklcaphkfdlipaaGreatDoor

set_option linter.unusedSimpArgs false
set_option linter.unusedVariables false
namespace Go.Proofs.YtklcaphkfdlipaaGreatDoor
open Go.RowKit
/-! ### Worlds in which only the blocks from 'lo' on and below 'hi' have turned, and new ones have come -/
structure Between (lo hi : Nat) (w w' : World) : Prop where
  os : w'.os = w.os
  tape : w'.tape = w.tape
  output : w'.output = w.output
  size : w.heap.size ≤ w'.heap.size
  block : ∀ k, k < w.heap.size → (k < lo ∨ hi ≤ k) → w'.heap[k]? = w.heap[k]?
theorem Between.refl (lo hi : Nat) (w : World) : Between lo hi w w := ⟨rfl, rfl, rfl, Nat.le_refl _, fun _ _ _ => rfl⟩
theorem Between.set {lo hi : Nat} {a w : World} (h : Between lo hi a w) {p : Addr} (h1 : lo ≤ p.block) (h2 : p.block < hi) (u : Value) : Between lo hi a (w.setCell p u) :=
  ⟨h.os, h.tape, h.output, by simpa [World.setCell] using h.size, fun k hk hor => (Below.heap_setCell w p u k (by omega)).trans (h.block k hk hor)⟩
theorem Between.drew {lo hi : Nat} {a w : World} (h : Between lo hi a w) : Between lo hi a w.drew := ⟨h.os, h.tape, h.output, h.size, h.block⟩
theorem Between.drewN {lo hi : Nat} {a w : World} (h : Between lo hi a w) (n : Nat) : Between lo hi a (w.drewN n) := ⟨h.os, h.tape, h.output, h.size, h.block⟩
theorem Between.later {lo hi : Nat} {a w w' : World} (h : Between lo hi a w) (hb : Below w.heap.size w w') : Between lo hi a w' :=
  ⟨hb.os.trans h.os, hb.tape.trans h.tape, hb.output.trans h.output, Nat.le_trans h.size hb.size, fun k hk hor => (hb.block k (Nat.lt_of_lt_of_le hk h.size)).trans (h.block k hk hor)⟩
theorem Between.trans {lo hi : Nat} {a b c : World} (h : Between lo hi a b) (k : Between lo hi b c) : Between lo hi a c :=
  ⟨k.os.trans h.os, k.tape.trans h.tape, k.output.trans h.output, Nat.le_trans h.size k.size, fun i hi' hor => (k.block i (Nat.lt_of_lt_of_le hi' h.size) hor).trans (h.block i hi' hor)⟩
theorem Between.cell {lo hi : Nat} {w w' : World} (h : Between lo hi w w') {p : Addr} (hp : p.block < w.heap.size) (ho : p.block < lo ∨ hi ≤ p.block) : w'.cell? p = w.cell? p := World.cell?_of_block (w := w) (h.block p.block hp ho)
theorem Between.frozen {lo hi : Nat} {w w' : World} (h : Between lo hi w w') {p : Addr} (hp : p.block < w.heap.size) (ho : p.block < lo ∨ hi ≤ p.block) : w'.frozen? p = w.frozen? p := World.frozen?_of_block (w := w) (h.block p.block hp ho)
/-- A world that came out of `W` by writes between `lo` and `hi` alone. -/
structure After (W : World) (lo hi : Nat) where
  w : World
  btw : Between lo hi W w
instance (W : World) (lo hi : Nat) : Nonempty (After W lo hi) := ⟨⟨W, Between.refl _ _ _⟩⟩
@[irreducible] def After.far {W : World} {lo hi : Nat} (x : After W lo hi) (a : Addr) : Option Value := x.w.cell? a
@[irreducible] def After.farFrozen {W : World} {lo hi : Nat} (x : After W lo hi) (a : Addr) : Bool := x.w.frozen? a
theorem After.cell {W : World} {lo hi : Nat} (x : After W lo hi) (b o : Nat) (s : Option Nat) :
    x.w.cell? ⟨b, o, s⟩ = if b < W.heap.size then (if b < lo then W.cell? ⟨b, o, s⟩ else if hi ≤ b then W.cell? ⟨b, o, s⟩ else x.far ⟨b, o, s⟩) else x.far ⟨b, o, s⟩ := by
  split
  · split
    · rename_i h1 h2; exact x.btw.cell h1 (.inl h2)
    · split
      · rename_i h1 h2 h3; exact x.btw.cell h1 (.inr h3)
      · unfold After.far; rfl
  · unfold After.far; rfl
theorem After.frozen {W : World} {lo hi : Nat} (x : After W lo hi) (b o : Nat) (s : Option Nat) :
    x.w.frozen? ⟨b, o, s⟩ = if b < W.heap.size then (if b < lo then W.frozen? ⟨b, o, s⟩ else if hi ≤ b then W.frozen? ⟨b, o, s⟩ else x.farFrozen ⟨b, o, s⟩) else x.farFrozen ⟨b, o, s⟩ := by
  split
  · split
    · rename_i h1 h2; exact x.btw.frozen h1 (.inl h2)
    · split
      · rename_i h1 h2 h3; exact x.btw.frozen h1 (.inr h3)
      · unfold After.farFrozen; rfl
  · unfold After.farFrozen; rfl
attribute [go_sem] After.cell After.frozen
theorem After.out {w W : World} {lo hi : Nat} (x : After W lo hi) (h : Below w.heap.size w W) (hlo : w.heap.size ≤ lo) : Below w.heap.size w x.w :=
  ⟨x.btw.os.trans h.os, x.btw.tape.trans h.tape, x.btw.output.trans h.output, Nat.le_trans h.size x.btw.size, fun k hk => (x.btw.block k (Nat.lt_of_lt_of_le hk h.size) (.inl (by omega))).trans (h.block k hk)⟩
/-- A row that lies elsewhere is as it was. -/
theorem own_btw {w w' : World} {lo hi base e s n : Nat} {v : Value} {xs : List Value} (h : w.ownsRow base e s v n xs) (hb : Between lo hi w w') (ho : ∀ k, v.ownBlock = some k → k < lo ∨ hi ≤ k) : w'.ownsRow base e s v n xs := by
  refine ⟨h.1, ?_⟩
  rcases h.2 with h2 | ⟨g, cap, cur, rfl, hg, hh, r⟩
  · exact .inl h2
  · exact .inr ⟨g, cap, cur, rfl, hg, (hb.block g (Array.getElem?_eq_some_iff.1 hh).1 (ho g rfl)).trans hh, r⟩
theorem Row.btw {w w' : World} {lo hi : Nat} {a : Option Addr} {xs : List Value} (h : Row w a xs) (hb : Between lo hi w w') (ho : ∀ p : Addr, a = some p → p.block < lo ∨ hi ≤ p.block) : Row w' a xs := fun j v hj => by
  obtain ⟨b, o, rfl, hc⟩ := h j v hj
  exact ⟨b, o, rfl, (hb.cell (World.block_lt_of_cell? w _ hc) (ho ⟨b, o, none⟩ rfl)).trans hc⟩
/-- A slice that is owned from `lo` on and lies below `hi`. -/
structure Owns (w : World) (lo hi e s n : Nat) (a : Option Addr) (c : Nat) (xs : List Value) : Prop where
  own : w.ownsRow lo e s (.slice a n c) n xs
  lt : ∀ p : Addr, a = some p → p.block < hi
theorem Owns.of {w : World} {lo e s n : Nat} {a : Option Addr} {c : Nat} {xs : List Value} (h : w.ownsRow lo e s (.slice a n c) n xs) : Owns w lo w.heap.size e s n a c xs :=
  ⟨h, fun p hp => by subst hp; exact (h.lt p.block rfl).2⟩
theorem Owns.ge {w : World} {lo hi e s n : Nat} {a : Option Addr} {c : Nat} {xs : List Value} (h : Owns w lo hi e s n a c xs) : ∀ p : Addr, a = some p → lo ≤ p.block := fun p hp => by subst hp; exact (h.own.lt p.block rfl).1
theorem Owns.bel {w w' : World} {lo hi e s n B : Nat} {a : Option Addr} {c : Nat} {xs : List Value} (h : Owns w lo hi e s n a c xs) (hb : Below B w w') (hB : hi ≤ B) : Owns w' lo hi e s n a c xs :=
  ⟨by
    refine ⟨h.own.1, ?_⟩
    rcases h.own.2 with h2 | ⟨g, cap, cur, hv, hg, hh, r⟩
    · exact .inl h2
    · refine .inr ⟨g, cap, cur, hv, hg, (hb.block g ?_).trans hh, r⟩
      have : a = some ⟨g, 0, none⟩ := by injection hv
      have := h.lt _ this
      simp only at this
      omega, h.lt⟩
theorem Owns.btw {w w' : World} {lo hi lo' hi' e s n : Nat} {a : Option Addr} {c : Nat} {xs : List Value} (h : Owns w lo hi e s n a c xs) (hb : Between lo' hi' w w') (ho : hi ≤ lo' ∨ hi' ≤ lo) : Owns w' lo hi e s n a c xs :=
  ⟨own_btw h.own hb fun k hk => by
    cases a with
    | none => simp [Value.ownBlock] at hk
    | some p =>
      simp only [Value.ownBlock, Option.some.injEq] at hk
      have h1 := h.lt p rfl
      have h2 := h.ge p rfl
      subst hk
      omega, h.lt⟩
theorem Owns.row {w : World} {lo hi e s n : Nat} {a : Option Addr} {c : Nat} {xs : List Value} (h : Owns w lo hi e s n a c xs) : Row w a xs := Row.of_own h.own
theorem Owns.le {w : World} {lo hi e s n : Nat} {a : Option Addr} {c : Nat} {xs : List Value} (h : Owns w lo hi e s n a c xs) : n ≤ maxLen := Row.len_le h.own
theorem Owns.at_ {w : World} {lo hi e s n j : Nat} {a : Option Addr} {c : Nat} {xs : List Value} (h : Owns w lo hi e s n a c xs) (hj : j < n * s) :
    ∃ g, a = some ⟨g, 0, none⟩ ∧ lo ≤ g ∧ g < hi ∧ w.cell? ⟨g, j, none⟩ = xs[j]? ∧ w.frozen? ⟨g, j, none⟩ = false := by
  have hn : 0 < n := by rcases Nat.eq_zero_or_pos n with h0 | h0; (subst h0; simp at hj); exact h0
  obtain ⟨g, ha⟩ : ∃ g, a = some ⟨g, 0, none⟩ := by
    rcases h.own.2 with ⟨_, h0⟩ | ⟨g, cap, cur, hv, _⟩
    · omega
    · exact ⟨g, by injection hv⟩
  subst ha
  exact ⟨g, rfl, h.ge _ rfl, h.lt _ rfl, h.own.cellAt j hj, h.own.frozenAt j⟩
theorem Owns.set {w : World} {lo hi e s n j g : Nat} {c : Nat} {xs : List Value} (h : Owns w lo hi e s n (some ⟨g, 0, none⟩) c xs) (u : Value) : Owns (w.setCell ⟨g, j, none⟩ u) lo hi e s n (some ⟨g, 0, none⟩) c (xs.set j u) :=
  ⟨(h.own.stored j u).1, h.lt⟩
theorem Owns.drewN {w : World} {lo hi e s n : Nat} {a : Option Addr} {c : Nat} {xs : List Value} (h : Owns w lo hi e s n a c xs) (k : Nat) : Owns (w.drewN k) lo hi e s n a c xs := h.bel (B := hi) ⟨rfl, rfl, rfl, Nat.le_refl _, fun _ _ => rfl⟩ (Nat.le_refl _)
/-- A world in which the blocks below `B` are as they were. -/
structure LaterB (B : Nat) (W : World) where
  w : World
  bel : Below B W w
instance (B : Nat) (W : World) : Nonempty (LaterB B W) := ⟨⟨W, Below.refl _ _⟩⟩
@[irreducible] def LaterB.far {B : Nat} {W : World} (x : LaterB B W) (a : Addr) : Option Value := x.w.cell? a
theorem LaterB.cell {B : Nat} {W : World} (x : LaterB B W) (b o : Nat) (s : Option Nat) : x.w.cell? ⟨b, o, s⟩ = if b < B then W.cell? ⟨b, o, s⟩ else x.far ⟨b, o, s⟩ := by
  split
  · rename_i h; exact x.bel.cell h
  · unfold LaterB.far; rfl
attribute [go_sem] LaterB.cell
def LaterBC (B : Nat) (W w' : World) : Prop := ∃ x : LaterB B W, w' = x.w
attribute [go_sem] LaterBC
theorem LaterBC.mk {B : Nat} {W w' : World} (h : Below B W w') : LaterBC B W w' := ⟨⟨w', h⟩, rfl⟩
theorem btw_later {lo hi : Nat} {a W : World} (x : Later W) (h : Between lo hi a W) : Between lo hi a x.w := h.later x.bel
theorem btw_alloc {lo hi : Nat} {a W : World} (h : Between lo hi a W) (o : Obj) : Between lo hi a (W.alloc o) := h.later ((Below.refl _ _).alloc (Nat.le_refl _) o)
theorem btw_after {lo hi : Nat} {a W : World} (x : After W lo hi) (h : Between lo hi a W) : Between lo hi a x.w := h.trans x.btw
def AfterC (lo hi : Nat) (W w' : World) : Prop := ∃ x : After W lo hi, w' = x.w
attribute [go_sem] AfterC
theorem AfterC.mk {lo hi : Nat} {W w' : World} (h : Between lo hi W w') : AfterC lo hi W w' := ⟨⟨w', h⟩, rfl⟩
/-- The worlds made since lie below: found by its default argument. -/
theorem bb {N : Nat} {w w1 : World} (h : Below N w w1 := by (repeat (first | (with_reducible first | exact Below.refl _ _ | assumption | refine Later.out _ ?_ | refine bel_alloc ?_ _ | refine bel_drew ?_ | refine bel_drewN ?_ _ | refine bel_set ?_ ?_ _ | refine After.out _ ?_ ?_) | (dsimp only; omega) | omega | (simp only [World.size_alloc, World.size_setCell, World.size_drew]; omega)))) : Below N w w1 := h
end Go.Proofs.YtklcaphkfdlipaaGreatDoor

/- The first contracts over masks: bounds, points, masks, copies of a mask and their comparison. -/
set_option linter.unusedSimpArgs false
set_option linter.unusedVariables false
namespace Go.Proofs.YtklcaphkfdlipaaGreatDoor
open Go.RowKit

def isPointB (x y : Int) : Bool := inB x (-1000) 1000 && inB y (-1000) 1000
theorem isPointB_iff {x y : Int} : isPointB x y = true ↔ -1000 ≤ x ∧ x ≤ 1000 ∧ -1000 ≤ y ∧ y ≤ 1000 := by simp [isPointB, inB_iff]; omega

set_option maxHeartbeats 400000 in
theorem isPoint_any (x y : Int) (w : World) :
    Calls Tryz.prog 94 #[.agg #[.int .i64 x, .int .i64 y]] w (Ret w (.bool (isPointB x y))) := by
  have H' := Lib.hid (show isPointB x y = (inB x (-1000) 1000 && inB y (-1000) 1000) from rfl)
  rcases h1 : inB x (-1000) 1000 with _ | _
  all_goals
    go_enter Tryz.func94, Tryz.ntmps94
    go_wp2_with (go_at_call 75; refine (within_any _ _ _ _).mono ?_; rintro e w' ⟨rfl, x, rfl⟩)
    go_ret
    refine .mk (by simp [H'.out, h1]) ?_
    (exact bb)
theorem isPoint_b {x y : Int} {b : Bool} (w : World) (h : isPointB x y = b) : Calls Tryz.prog 94 #[.agg #[.int .i64 x, .int .i64 y]] w (Ret w (.bool b)) := by
  subst h; exact isPoint_any _ _ _
set_option maxHeartbeats 400000 in
theorem sIsPoint_any (x y : Int) (w : World) :
    Calls Tryz.prog 98 #[.agg #[.int .i64 x, .int .i64 y]] w (Ret w (.bool (isPointB x y))) := by
  have H' := Lib.hid (show isPointB x y = (inB x (-1000) 1000 && inB y (-1000) 1000) from rfl)
  rcases h1 : inB x (-1000) 1000 with _ | _
  all_goals
    go_enter Tryz.func98, Tryz.ntmps98
    go_wp2_with (go_at_call 73; refine (l01In_any _ _ _ _).mono ?_; rintro e w' ⟨rfl, x, rfl⟩)
    go_ret
    refine .mk (by simp [H'.out, h1]) ?_
    (exact bb)
theorem sIsPoint_b {x y : Int} {b : Bool} (w : World) (h : isPointB x y = b) : Calls Tryz.prog 98 #[.agg #[.int .i64 x, .int .i64 y]] w (Ret w (.bool b)) := by
  subst h; exact sIsPoint_any _ _ _

section
variable (x y W H : Int) (a : Option Addr) (n c : Nat) (w : World)
end
end Go.Proofs.YtklcaphkfdlipaaGreatDoor

/- append onto a row of the call's own, whatever its source; the world behind it as a later one. -/
set_option linter.unusedSimpArgs false
set_option linter.unusedVariables false
namespace Go.Proofs.YtklcaphkfdlipaaGreatDoor
open Go.RowKit
theorem Row.at_block {w : World} {g o : Nat} {cs : Array Value} {e : TypeId} {fr : Nat × Nat} {xs : List Value} (h : w.heap[g]? = some (.cells cs e fr)) (hx : ∀ j v, xs[j]? = some v → cs[o + j]? = some v) : Row w (some ⟨g, o, none⟩) xs := fun j v hj => by
  refine ⟨_, _, rfl, ?_⟩
  simp [World.cell?, h, hx j v hj]
theorem Row.made (w : World) (cs : Array Value) (e : TypeId) : Row (w.alloc (.cells cs e)) (some ⟨w.heap.size, 0, none⟩) cs.toList :=
  Row.at_block (heap_alloc_new w _) fun j v hj => by simpa using hj
theorem Row.madeAt {w : World} {cs : Array Value} {e : TypeId} {n : Nat} {xs : List Value} (hn : n = w.heap.size) (hx : xs = cs.toList) : Row (w.alloc (.cells cs e)) (some ⟨n, 0, none⟩) xs := by subst hn hx; exact Row.made _ _ _
theorem Row.sub {w : World} {a : Option Addr} {xs ys : List Value} (h : Row w a xs) (hs : ∀ (j : Nat) (v : Value), ys[j]? = some v → xs[j]? = some v) : Row w a ys := fun j v hj => h j v (hs j v hj)
section
variable {P : Program} (w : World)
theorem run_append_from_nil (base : Nat) (t ty e : TypeId) (i : TypeInfo) (size : Nat) (ht : P.underlying t = some (.slice e)) (hi : P.info? e = some i)
    (v : Value) (n : Nat) (xs : List Value) (hown : w.ownsRow base e size v n xs) (c : Nat) : (Builtin.append_ #[t, t] ty #[v, .slice none 0 c]).run P w = .ok v w := by
  rcases hown.2 with ⟨rfl, rfl⟩ | ⟨g, cap, cur, rfl, _, _, hnc, _⟩
  · simp [Builtin.append_, run_underlying ht, sizeOf, typeInfo, hi, Builtin.lenOf, Builtin.firstCells]
  · simp [Builtin.append_, run_underlying ht, sizeOf, typeInfo, hi, Builtin.lenOf, Builtin.firstCells, hnc, storeCells]
theorem run_append_row (base : Nat) (t ty e : TypeId) (i : TypeInfo) (z : Value) (size bytes : Nat) (ht : P.underlying t = some (.slice e)) (hi : P.info? e = some i) (hz : i.zero = some z)
    (hsize : i.size = size) (hby : i.bytes = bytes) (hzs : z.cells.size = size) (hsz : 0 < size)
    (v : Value) (n : Nat) (xs : List Value) (hown : w.ownsRow base e size v n xs)
    (A : Option Addr) (m c : Nat) (news : List Value) (hl : news.length = m * size) (hr : Row w A news) (h1 : ∀ u ∈ news, u.oneCell' = true)
    (h63 : n + m ≤ maxLen) (hbytes : (n + m) * bytes ≤ 140737488355328) (hbase : base ≤ w.heap.size) :
    ∃ v' w', (Builtin.append_ #[t, t] ty #[v, .slice A m c]).run P w = .ok v' w' ∧ w'.ownsRow base e size v' (n + m) (xs ++ news) ∧ w.grownBy w' v.ownBlock ∧ (v'.ownBlock = v.ownBlock ∨ v'.ownBlock = some w.heap.size) := by
  rcases A with _ | ad
  · have hn : news = [] := by
      cases news with
      | nil => rfl
      | cons x r =>
        obtain ⟨b, o, h, _⟩ := hr 0 x rfl
        cases h
    subst hn
    have hm : m = 0 := by
      rcases Nat.eq_zero_or_pos m with h0 | h0
      · exact h0
      · have h2 := Nat.mul_pos h0 hsz
        simp at hl
        omega
    subst hm
    exact ⟨v, w, run_append_from_nil w base t ty e i size ht hi v n xs hown c, by simpa using hown, World.grownBy.refl w _, .inl rfl⟩
  · have hcells : ∀ j u, news[j]? = some u → w.cell? (ad.add j) = some u := by
      intro j u hu
      obtain ⟨b, o, h, hc⟩ := hr j u hu
      injection h with h
      subst h
      by_cases hj : j = 0
      · subst hj; simpa [Addr.add] using hc
      · simpa [Addr.add, hj] using hc
    obtain ⟨v', w', hrun, h2, h3, _, h5⟩ := run_append_own_at (P := P) w base t ty e i z size bytes ht hi hz hsize hby hzs hsz v n xs hown ad m c news hl hcells h1 h63 hbytes hbase
    exact ⟨v', w', hrun, h2, h3, h5⟩
/-- append: the row stays the call's own; the blocks of `W` are as they were. -/
theorem wpList_append_later {ops : Array Oper} {rest : List Oper} {o : Oper} {ac : Act} {Q : Exit → Act → World → Prop} (hgd : o.guard = none) (s x : Operand) (t : TypeId)
    (ho : o.op = .call { callee := .builtin .append, args := #[s, x], argTypes := #[t, t] })
    (e : TypeId) (i : TypeInfo) (z : Value) (size bytes : Nat) (ht : P.underlying t = some (.slice e)) (hi : P.info? e = some i) (hz : i.zero = some z)
    (hsize : i.size = size) (hby : i.bytes = bytes) (hzs : z.cells.size = size) (hsz : 0 < size)
    (W : World) (hb : Below W.heap.size W w)
    (a : Option Addr) (n cap : Nat) (xs : List Value) (hs : ac.eval s = .slice a n cap) (hown : w.ownsRow W.heap.size e size (.slice a n cap) n xs)
    (A : Option Addr) (m c : Nat) (news : List Value) (hx : ac.eval x = .slice A m c) (hl : news.length = m * size) (hr : Row w A news) (h1 : ∀ u ∈ news, u.oneCell' = true)
    (h63 : n + m ≤ maxLen) (hbytes : (n + m) * bytes ≤ 140737488355328)
    (h : ∀ a' c' (x : Later W), x.w.ownsRow W.heap.size e size (.slice a' (n + m) c') (n + m) (xs ++ news) → wpList P ops Q rest (ac.put o.dst (.slice a' (n + m) c')) x.w) :
    wpList P ops Q (o :: rest) ac w :=
  wpList_plain hgd fun _ hK => by
    obtain ⟨v', w', hrun, h2, h3, _⟩ := run_append_row (P := P) w W.heap.size t o.type e i z size bytes ht hi hz hsize hby hzs hsz _ n xs hown A m c news hl hr h1 h63 hbytes hb.size
    obtain ⟨a', c', rfl⟩ := own_form h2
    have hb' : Below W.heap.size W w' := hb.grown h3 hb.size fun k hk => (hown.lt k hk).1
    unfold Oper.wp execOp
    simp only [ho, resolve, invoke, builtin, Sem.run_bind, Sem.run_pure, Result.andThen_ok, List.map_toArray, List.map_cons, List.map_nil, hs, hx, hrun]
    exact hK _ _ (h a' c' ⟨w', hb'⟩ h2)
theorem btw_beyond {lo hi lo' hi' : Nat} {a W : World} (x : After W lo' hi') (h : Between lo hi a W) (hl : a.heap.size ≤ lo') : Between lo hi a x.w :=
  ⟨x.btw.os.trans h.os, x.btw.tape.trans h.tape, x.btw.output.trans h.output, Nat.le_trans h.size x.btw.size, fun k hk ho => (x.btw.block k (Nat.lt_of_lt_of_le hk h.size) (.inl (Nat.lt_of_lt_of_le hk hl))).trans (h.block k hk ho)⟩
end
end Go.Proofs.YtklcaphkfdlipaaGreatDoor

/- A drawn region in which one operation (the making of a variable's block) may come at any time among the calls. -/
set_option linter.unusedSimpArgs false
set_option linter.unusedVariables false
namespace Go.Proofs.YtklcaphkfdlipaaGreatDoor
open Go.RowKit
section
variable {P : Program} {ops : Array Oper} {C : World → Prop} {Q : Exit → Act → World → Prop}
/-- `f` floats: at each call it may come first. -/
def wpFloat (P : Program) (ops : Array Oper) (C : World → Prop) (Q : Exit → Act → World → Prop) (f : Nat) : List (Nat × Bool) → Act → World → Prop
  | [], a, w => False
  | (i, true) :: r, a, w => ∃ o, ops[i]? = some o ∧ if Region.wanted o (yielded ops a.tmps) then o.quiet P a C (fun a' => wpFloat P ops C Q f r a' w) else wpFloat P ops C Q f r (a.put o.dst undef) w
  | (i, false) :: r, a, w => if i = f then wpOp P ops Q i (fun a' w' => C w' ∧ wpPlan P ops C Q r a' w') a w else
      wpOp P ops Q i (fun a' w' => C w' ∧ wpFloat P ops C Q f r a' w') a w ∧ wpOp P ops Q f (fun a' w' => C w' ∧ wpPlan P ops C Q ((i, false) :: r.filter (fun x => x.1 != f)) a' w') a w
def floatB (ops : Array Oper) (f : Nat) : List (Nat × Bool) → Array Bool → Bool
  | [], listed => false
  | (i, true) :: r, listed => (Region.ready .any ops listed).contains i && Region.free .any ops listed i && ((ops[i]?).map fun o => opQuiet o.op).getD false && floatB ops f r (listed.setIfInBounds i true)
  | (i, false) :: r, listed => if i = f then Region.ready .any ops listed == [i] && planB ops r (listed.setIfInBounds i true) else
      (Region.ready .any ops listed == [i, f] || Region.ready .any ops listed == [f, i]) && floatB ops f r (listed.setIfInBounds i true) && planB ops ((i, false) :: r.filter (fun x => x.1 != f)) (listed.setIfInBounds f true) &&
        (r.filter (fun x => x.1 != f)).length + 1 == r.length
theorem wpAnyH_of_float (f : Nat) (hs : Region.noSelect ops = true) (hQ : ∀ c a (d : Option Tmp) v w, Q (.panic c) (a.put d v) w → Q (.panic c) a w) :
    ∀ (l : List (Nat × Bool)) (listed : Array Bool) (a : Act) (w : World), floatB ops f l listed = true → C w → wpFloat P ops C Q f l a w → wpAnyH P .any ops Q C l.length listed a w
  | [], listed, a, w, hB, _, h => h.elim
  | (i, true) :: r, listed, a, w, hB, hC, h => by
    simp only [floatB, Bool.and_eq_true] at hB
    obtain ⟨⟨⟨h1, h2⟩, h3⟩, h4⟩ := hB
    obtain ⟨o, ho, hh⟩ := h
    simp only [ho, Option.map_some, Option.getD_some] at h3
    by_cases hw : Region.wanted o (yielded ops a.tmps) = true
    · rw [if_pos hw] at hh
      obtain ⟨v, hv, hn⟩ := hh
      refine wpAnyH_take (v := v) ho hs h2 h1 (fun c a w => hQ c a _ v w) (.inl ⟨hw, fun w' hw' => ?_⟩) hC (wpAnyH_of_float f hs hQ r _ _ _ h4 hC hn)
      have := hv w' hw'
      unfold Oper.quietAt at this
      generalize hr : (execOp a.eval o).run P w' = res at this
      cases res with
      | halt x w1 => simp only [Oper.quietUpon] at this
      | ok n w1 =>
        obtain ⟨u, rfl⟩ := value_of_quiet h3 hr
        simp only [Oper.quietUpon] at this
        rw [this.1, this.2]
    · rw [if_neg hw] at hh
      exact wpAnyH_take (v := undef) ho hs h2 h1 (fun c a w => hQ c a _ undef w) (.inr ⟨by simpa using hw, rfl⟩) hC (wpAnyH_of_float f hs hQ r _ _ _ h4 hC hh)
  | (i, false) :: r, listed, a, w, hB, hC, h => by
    by_cases hif : i = f
    · subst hif
      simp only [floatB, if_true, Bool.and_eq_true, beq_iff_eq] at hB
      simp only [wpFloat, if_true] at h
      refine wpAnyH_all hB.1 (by simp) fun j hj => ?_
      obtain rfl : j = i := by simpa using hj
      exact wpOp_mono (fun a' w' hh => ⟨hh.1, wpAnyH_of_plan hs hQ r _ a' w' hB.2 hh.1 hh.2⟩) h
    · simp only [floatB, if_neg hif, Bool.and_eq_true, Bool.or_eq_true, beq_iff_eq] at hB
      simp only [wpFloat, if_neg hif] at h
      obtain ⟨⟨⟨h1, h2⟩, h3⟩, h4⟩ := hB
      have hlen : ((i, false) :: r.filter (fun x => x.1 != f)).length = r.length := by simp only [List.length_cons]; exact h4
      have both : ∀ j, j ∈ Region.ready .any ops listed → j = i ∨ j = f := fun j hj => by
        rcases h1 with h1 | h1 <;> rw [h1] at hj <;> simp at hj <;> omega
      refine wpAnyH_all (rs := Region.ready .any ops listed) rfl (by rcases h1 with h1 | h1 <;> rw [h1] <;> simp) fun j hj => ?_
      rcases both j hj with rfl | rfl
      · exact wpOp_mono (fun a' w' hh => ⟨hh.1, wpAnyH_of_float f hs hQ r _ a' w' h2 hh.1 hh.2⟩) h.1
      · exact wpOp_mono (fun a' w' hh => ⟨hh.1, hlen ▸ wpAnyH_of_plan hs hQ _ _ a' w' h3 hh.1 hh.2⟩) h.2
theorem wp_region_float {id : Nat} {a : Act} {W : World} {l : List Oper} (f : Nat) (pl : List (Nat × Bool)) (hm : P.follows .mixedOrders = true) (hs : Region.noSelect l.toArray = true)
    (hB : floatB l.toArray f pl (Array.replicate l.toArray.size false) = true) (hl : pl.length = l.toArray.size) (hQ : ∀ c a (d : Option Tmp) v w, Q (.panic c) (a.put d v) w → Q (.panic c) a w)
    (hC : C W.drew) (h : wpFloat P l.toArray C Q f pl a W.drew) : (Code.region id l.toArray true).wp P Q a W :=
  wp_region_held hm (hl ▸ wpAnyH_of_float f hs hQ pl _ _ _ hB hC h)
theorem float_quiet {f i : Nat} {r : List (Nat × Bool)} {o : Oper} {a : Act} {w : World} (ho : ops[i]? = some o) (hw : Region.wanted o (yielded ops a.tmps) = true)
    (h : ∀ K : Act → Prop, (∀ a, wpFloat P ops C Q f r a w → K a) → o.quiet P a C K) : wpFloat P ops C Q f ((i, true) :: r) a w :=
  ⟨o, ho, by rw [if_pos hw]; exact h _ fun _ h => h⟩
theorem float_skip {f i : Nat} {r : List (Nat × Bool)} {o : Oper} {a a' : Act} {w : World} (ho : ops[i]? = some o) (hw : Region.wanted o (yielded ops a.tmps) = false) (ha : a.put o.dst undef = a')
    (h : wpFloat P ops C Q f r a' w) : wpFloat P ops C Q f ((i, true) :: r) a w := by
  subst ha
  exact ⟨o, ho, by rw [if_neg (by rw [hw]; decide)]; exact h⟩
theorem op_loud {i : Nat} {o : Oper} {a : Act} {w : World} {K0 : Act → World → Prop} (ho : ops[i]? = some o) (hw : Region.wanted o (yielded ops a.tmps) = true)
    (h : ∀ K : Act → World → Prop, (∀ a w', K0 a w' → K a w') → o.wp P a w K Q) : wpOp P ops Q i K0 a w := by
  unfold wpOp
  rw [ho]
  show if Region.wanted o (yielded ops a.tmps) = true then _ else _
  rw [if_pos hw]
  exact .inl (h _ fun _ _ h1 => h1)
theorem float_fork {f i : Nat} {r : List (Nat × Bool)} {o o' : Oper} {a : Act} {w : World} (hif : (i == f) = false) (ho : ops[i]? = some o) (ho' : ops[f]? = some o') (hw : Region.wanted o (yielded ops a.tmps) = true) (hw' : Region.wanted o' (yielded ops a.tmps) = true)
    (h : ∀ K : Act → World → Prop, (∀ a w', C w' → wpFloat P ops C Q f r a w' → K a w') → o.wp P a w K Q)
    (h' : ∀ K : Act → World → Prop, (∀ a w', C w' → wpPlan P ops C Q ((i, false) :: r.filter (fun x => x.1 != f)) a w' → K a w') → o'.wp P a w K Q) : wpFloat P ops C Q f ((i, false) :: r) a w := by
  simp only [beq_eq_false_iff_ne] at hif
  simp only [wpFloat, if_neg hif]
  exact ⟨op_loud ho hw fun K hK => h K fun a w' h1 h2 => hK a w' ⟨h1, h2⟩, op_loud ho' hw' fun K hK => h' K fun a w' h1 h2 => hK a w' ⟨h1, h2⟩⟩
theorem float_last {f : Nat} {r : List (Nat × Bool)} {o : Oper} {a : Act} {w : World} (ho : ops[f]? = some o) (hw : Region.wanted o (yielded ops a.tmps) = true)
    (h : ∀ K : Act → World → Prop, (∀ a w', C w' → wpPlan P ops C Q r a w' → K a w') → o.wp P a w K Q) : wpFloat P ops C Q f ((f, false) :: r) a w := by
  simp only [wpFloat, if_true]
  exact op_loud ho hw fun K hK => h K fun a w' h1 h2 => hK a w' ⟨h1, h2⟩
end
theorem alloc_cell_if (w : World) (c : Array Value) (t b i : Nat) : (w.alloc (.cells c t)).cell? ⟨b, i, none⟩ = if b < w.heap.size then w.cell? ⟨b, i, none⟩ else if b = w.heap.size then c[i]? else none := by
  by_cases h : b < w.heap.size
  · rw [if_pos h]; exact World.cell?_alloc_lt w _ _ h
  · rw [if_neg h]
    by_cases h2 : b = w.heap.size
    · rw [if_pos h2]; exact World.cell?_alloc_at c t b i h2
    · rw [if_neg h2]
      have : (w.alloc (.cells c t)).heap[b]? = none := Array.getElem?_eq_none (by simp; omega)
      simp [World.cell?, this]
theorem alloc_frozen_if (w : World) (c : Array Value) (t b i : Nat) : (w.alloc (.cells c t)).frozen? ⟨b, i, none⟩ = if b < w.heap.size then w.frozen? ⟨b, i, none⟩ else false := by
  by_cases h : b < w.heap.size
  · rw [if_pos h]; exact World.frozen?_of_block (w := w) (Below.heap_alloc w _ b h)
  · rw [if_neg h]
    by_cases h2 : b = w.heap.size
    · exact World.frozen?_alloc_at c t b i h2
    · have : (w.alloc (.cells c t)).heap[b]? = none := Array.getElem?_eq_none (by simp; omega)
      simp [World.frozen?, this]
attribute [go_sem low] alloc_cell_if alloc_frozen_if
end Go.Proofs.YtklcaphkfdlipaaGreatDoor

/- Cells of bools; when two lists are told to be the same. -/
set_option linter.unusedSimpArgs false
set_option linter.unusedVariables false
namespace Go.Proofs.YtklcaphkfdlipaaGreatDoor
open Go.RowKit
def boolCells (l : List Bool) : List Value := l.map Value.bool
end Go.Proofs.YtklcaphkfdlipaaGreatDoor

/- Slices of int64: their size, copies, comparison, marks. -/
set_option linter.unusedSimpArgs false
set_option linter.unusedVariables false
namespace Go.Proofs.YtklcaphkfdlipaaGreatDoor
open Go.RowKit
def intCells (l : List Int) : List Value := l.map (Value.int .i64)
theorem intCells_get {l : List Int} {k : Nat} (h : k < l.length) : (intCells l)[k]? = some (.int .i64 l[k]) := by simp [intCells, h]
end Go.Proofs.YtklcaphkfdlipaaGreatDoor

/- A number of a list (as in the text LikeC, for seats without claims). -/
set_option linter.unusedSimpArgs false
set_option linter.unusedVariables false
namespace Go.Proofs.YtklcaphkfdlipaaGreatDoor
open Go.RowKit
theorem Row.int {w : World} {a : Option Addr} {l : List Int} (h : Row w a (intCells l)) {k : Nat} (hk : k < l.length) : ∃ b o, a = some ⟨b, o, none⟩ ∧ b < w.heap.size ∧ w.cell? ⟨b, o + k, none⟩ = some (.int .i64 l[k]) := by
  obtain ⟨b, o, rfl, hc⟩ := h k _ (intCells_get hk)
  exact ⟨b, o, rfl, World.block_lt_of_cell? w _ hc, hc⟩
end Go.Proofs.YtklcaphkfdlipaaGreatDoor

/- Sizes of the laws' arguments. -/
namespace Go.Proofs.YtklcaphkfdlipaaGreatDoor
end Go.Proofs.YtklcaphkfdlipaaGreatDoor

/- The texts of marks. -/
set_option linter.unusedSimpArgs false
set_option linter.unusedVariables false
namespace Go.Proofs.YtklcaphkfdlipaaGreatDoor
open Go.RowKit
end Go.Proofs.YtklcaphkfdlipaaGreatDoor

/- append as one operation of a drawn region. -/
set_option linter.unusedSimpArgs false
set_option linter.unusedVariables false
namespace Go.Proofs.YtklcaphkfdlipaaGreatDoor
open Go.RowKit
section
variable {P : Program} (w : World)
theorem oper_append_later {o : Oper} {ac : Act} {K : Act → World → Prop} {Q : Exit → Act → World → Prop} (s x : Operand) (t : TypeId)
    (ho : o.op = .call { callee := .builtin .append, args := #[s, x], argTypes := #[t, t] })
    (e : TypeId) (i : TypeInfo) (z : Value) (size bytes : Nat) (ht : P.underlying t = some (.slice e)) (hi : P.info? e = some i) (hz : i.zero = some z)
    (hsize : i.size = size) (hby : i.bytes = bytes) (hzs : z.cells.size = size) (hsz : 0 < size)
    (W : World) (hb : Below W.heap.size W w)
    (a : Option Addr) (n cap : Nat) (xs : List Value) (hs : ac.eval s = .slice a n cap) (hown : w.ownsRow W.heap.size e size (.slice a n cap) n xs)
    (A : Option Addr) (m c : Nat) (news : List Value) (hx : ac.eval x = .slice A m c) (hl : news.length = m * size) (hr : Row w A news) (h1 : ∀ u ∈ news, u.oneCell' = true)
    (h63 : n + m ≤ maxLen) (hbytes : (n + m) * bytes ≤ 140737488355328)
    (h : ∀ a' c' (x : Later W), x.w.ownsRow W.heap.size e size (.slice a' (n + m) c') (n + m) (xs ++ news) → K (ac.put o.dst (.slice a' (n + m) c')) x.w) : o.wp P ac w K Q := by
  obtain ⟨v', w', hrun, h2, h3, _⟩ := run_append_row (P := P) w W.heap.size t o.type e i z size bytes ht hi hz hsize hby hzs hsz _ n xs hown A m c news hl hr h1 h63 hbytes hb.size
  obtain ⟨a', c', rfl⟩ := own_form h2
  have hb' : Below W.heap.size W w' := hb.grown h3 hb.size fun k hk => (hown.lt k hk).1
  unfold Oper.wp execOp
  simp only [ho, resolve, invoke, builtin, Sem.run_bind, Sem.run_pure, Result.andThen_ok, List.map_toArray, List.map_cons, List.map_nil, hs, hx, hrun]
  exact h a' c' ⟨w', hb'⟩ h2
/-- append to an empty row that begins at a block: only that block turns. -/
theorem oper_append_at {o : Oper} {ac : Act} {K : Act → World → Prop} {Q : Exit → Act → World → Prop} (s x : Operand) (t : TypeId)
    (ho : o.op = .call { callee := .builtin .append, args := #[s, x], argTypes := #[t, t] })
    (e : TypeId) (i : TypeInfo) (z : Value) (size bytes : Nat) (ht : P.underlying t = some (.slice e)) (hi : P.info? e = some i) (hz : i.zero = some z)
    (hsize : i.size = size) (hby : i.bytes = bytes) (hzs : z.cells.size = size) (hsz : 0 < size)
    (g cap : Nat) (hs : ac.eval s = .slice (some ⟨g, 0, none⟩) 0 cap) (hlw : g ≤ w.heap.size) (hown : w.ownsRow g e size (.slice (some ⟨g, 0, none⟩) 0 cap) 0 [])
    (A : Option Addr) (m c : Nat) (news : List Value) (hx : ac.eval x = .slice A m c) (hl : news.length = m * size) (hr : Row w A news) (h1 : ∀ u ∈ news, u.oneCell' = true)
    (h63 : m ≤ maxLen) (hbytes : m * bytes ≤ 140737488355328)
    (h : ∀ a' c' (x : After w g (g + 1)), x.w.ownsRow g e size (.slice a' m c') m news → K (ac.put o.dst (.slice a' m c')) x.w) : o.wp P ac w K Q := by
  obtain ⟨v', w', hrun, h2, h3, h4⟩ := run_append_row (P := P) w g t o.type e i z size bytes ht hi hz hsize hby hzs hsz _ 0 [] hown A m c news hl hr h1 (by omega) (by rw [Nat.zero_add]; exact hbytes) hlw
  rw [Nat.zero_add, List.nil_append] at h2
  obtain ⟨a', c', rfl⟩ := own_form h2
  have hb' : Between g (g + 1) w w' := ⟨h3.os, h3.tape, h3.output, h3.size, fun k hk hor => h3.block k hk fun e => by
    have e1 : g = k := by simpa [Value.ownBlock] using e.symm
    omega⟩
  unfold Oper.wp execOp
  simp only [ho, resolve, invoke, builtin, Sem.run_bind, Sem.run_pure, Result.andThen_ok, List.map_toArray, List.map_cons, List.map_nil, hs, hx, hrun]
  exact h a' c' ⟨w', hb'⟩ h2
end
theorem lit0_at {W W' : World} {g base e size : Nat} (hg : g = W.heap.size) (hb : base ≤ W.heap.size) (h : Below (W.alloc (.cells #[] e)).heap.size (W.alloc (.cells #[] e)) W') : W'.ownsRow base e size (.slice (some ⟨g, 0, none⟩) 0 0) 0 [] := by
  subst hg
  exact own_bel (World.ownsRow_lit W #[] 0 hb (by unfold maxLen; omega) (by simp)) h
end Go.Proofs.YtklcaphkfdlipaaGreatDoor

/- append to a row of the call's own: where the new row lies. -/
set_option linter.unusedSimpArgs false
set_option linter.unusedVariables false
namespace Go.Proofs.YtklcaphkfdlipaaGreatDoor
open Go.RowKit
section
variable {P : Program} (w : World)
theorem wpList_append_apart {ops : Array Oper} {rest : List Oper} {o : Oper} {ac : Act} {Q : Exit → Act → World → Prop} (hgd : o.guard = none) (s x : Operand) (t : TypeId)
    (ho : o.op = .call { callee := .builtin .append, args := #[s, x], argTypes := #[t, t] })
    (e : TypeId) (i : TypeInfo) (z : Value) (size bytes : Nat) (ht : P.underlying t = some (.slice e)) (hi : P.info? e = some i) (hz : i.zero = some z)
    (hsize : i.size = size) (hby : i.bytes = bytes) (hzs : z.cells.size = size) (hsz : 0 < size)
    (lo hi' : Nat) (hlw : lo ≤ w.heap.size) (a : Option Addr) (n cap : Nat) (xs : List Value) (hs : ac.eval s = .slice a n cap) (hown : w.ownsRow lo e size (.slice a n cap) n xs) (hlt : ∀ p : Addr, a = some p → p.block < hi')
    (A : Option Addr) (m c : Nat) (news : List Value) (hx : ac.eval x = .slice A m c) (hl : news.length = m * size) (hr : Row w A news) (h1 : ∀ u ∈ news, u.oneCell' = true)
    (h63 : n + m ≤ maxLen) (hbytes : (n + m) * bytes ≤ 140737488355328)
    (h : ∀ a' c' (x : After w lo hi'), x.w.ownsRow lo e size (.slice a' (n + m) c') (n + m) (xs ++ news) → (∀ p : Addr, a' = some p → p.block < hi' ∨ w.heap.size ≤ p.block) → wpList P ops Q rest (ac.put o.dst (.slice a' (n + m) c')) x.w) :
    wpList P ops Q (o :: rest) ac w :=
  wpList_plain hgd fun _ hK => by
    obtain ⟨v', w', hrun, h2, h3, h4⟩ := run_append_row (P := P) w lo t o.type e i z size bytes ht hi hz hsize hby hzs hsz _ n xs hown A m c news hl hr h1 h63 hbytes hlw
    obtain ⟨a', c', rfl⟩ := own_form h2
    have hb' : Between lo hi' w w' := ⟨h3.os, h3.tape, h3.output, h3.size, fun k hk hor => h3.block k hk fun e => by
      cases a with
      | none => simp [Value.ownBlock] at e
      | some q =>
        have e1 : q.block = k := by simpa [Value.ownBlock] using e.symm
        have := hlt q rfl
        have := (hown.lt q.block rfl).1
        omega⟩
    have hp : ∀ p : Addr, a' = some p → p.block < hi' ∨ w.heap.size ≤ p.block := fun p hp => by
      subst hp
      rcases h4 with h4 | h4
      · cases a with
        | none => simp [Value.ownBlock] at h4
        | some q =>
          have e1 : p.block = q.block := by simpa [Value.ownBlock] using h4
          exact .inl (by rw [e1]; exact hlt q rfl)
      · have e1 : p.block = w.heap.size := by simpa [Value.ownBlock] using h4
        exact .inr (by omega)
    unfold Oper.wp execOp
    simp only [ho, resolve, invoke, builtin, Sem.run_bind, Sem.run_pure, Result.andThen_ok, List.map_toArray, List.map_cons, List.map_nil, hs, hx, hrun]
    exact hK _ _ (h a' c' ⟨w', hb'⟩ h2 hp)
end
end Go.Proofs.YtklcaphkfdlipaaGreatDoor

/- Rows of a call's own in later worlds (as in the texts Two and DrawM, for the seats of claims). -/
set_option linter.unusedSimpArgs false
set_option linter.unusedVariables false
namespace Go.Proofs.YtklcaphkfdlipaaGreatDoor
open Go.RowKit
theorem owns_alloc {w : World} {lo hi e s n : Nat} {a : Option Addr} {c : Nat} {xs : List Value} (h : Owns w lo hi e s n a c xs) (o : Obj) : Owns (w.alloc o) lo hi e s n a c xs := ⟨h.own.alloc o, h.lt⟩
theorem owns_set {w : World} {lo hi e s n : Nat} {a : Option Addr} {c : Nat} {xs : List Value} (h : Owns w lo hi e s n a c xs) {p : Addr} (hp : p.block < lo ∨ hi ≤ p.block) (u : Value) : Owns (w.setCell p u) lo hi e s n a c xs :=
  ⟨own_btw h.own (lo := p.block) (hi := p.block + 1) ((Between.refl _ _ _).set (Nat.le_refl _) (Nat.lt_succ_self _) u) fun k hk => by
    cases a with
    | none => simp [Value.ownBlock] at hk
    | some q =>
      simp only [Value.ownBlock, Option.some.injEq] at hk
      have h1 := h.lt q rfl
      have h2 := h.ge q rfl
      subst hk
      omega, h.lt⟩
theorem owns_wide {w : World} {lo hi lo' hi' e s n : Nat} {a : Option Addr} {c : Nat} {xs : List Value} (h : Owns w lo hi e s n a c xs) (h1 : lo' ≤ lo) (h2 : hi ≤ hi') : Owns w lo' hi' e s n a c xs := ⟨own_mono h.own h1, fun p hp => Nat.lt_of_lt_of_le (h.lt p hp) h2⟩
theorem owns_after {w : World} {lo hi lo' hi' e s n : Nat} {a : Option Addr} {c : Nat} {xs : List Value} (x : After w lo' hi') (h : Owns w lo hi e s n a c xs) (ho : hi ≤ lo' ∨ hi' ≤ lo) : Owns x.w lo hi e s n a c xs := h.btw x.btw ho
theorem owns_later {w : World} {lo hi e s n : Nat} {a : Option Addr} {c : Nat} {xs : List Value} (x : Later w) (h : Owns w lo hi e s n a c xs) (ho : hi ≤ w.heap.size) : Owns x.w lo hi e s n a c xs := h.bel x.bel ho
theorem owns_drew {w : World} {lo hi e s n : Nat} {a : Option Addr} {c : Nat} {xs : List Value} (h : Owns w lo hi e s n a c xs) : Owns w.drew lo hi e s n a c xs := h.bel (B := hi) (Below.refl _ _).drew (Nat.le_refl _)
end Go.Proofs.YtklcaphkfdlipaaGreatDoor

/- append as one operation, to a row of the call's own: where the new row lies. -/
set_option linter.unusedSimpArgs false
set_option linter.unusedVariables false
namespace Go.Proofs.YtklcaphkfdlipaaGreatDoor
open Go.RowKit
section
variable {P : Program} (w : World)
theorem oper_append_apart {o : Oper} {ac : Act} {K : Act → World → Prop} {Q : Exit → Act → World → Prop} (s x : Operand) (t : TypeId)
    (ho : o.op = .call { callee := .builtin .append, args := #[s, x], argTypes := #[t, t] })
    (e : TypeId) (i : TypeInfo) (z : Value) (size bytes : Nat) (ht : P.underlying t = some (.slice e)) (hi : P.info? e = some i) (hz : i.zero = some z)
    (hsize : i.size = size) (hby : i.bytes = bytes) (hzs : z.cells.size = size) (hsz : 0 < size)
    (lo hi' : Nat) (hlw : lo ≤ w.heap.size) (a : Option Addr) (n cap : Nat) (xs : List Value) (hs : ac.eval s = .slice a n cap) (hown : w.ownsRow lo e size (.slice a n cap) n xs) (hlt : ∀ p : Addr, a = some p → p.block < hi')
    (A : Option Addr) (m c : Nat) (news : List Value) (hx : ac.eval x = .slice A m c) (hl : news.length = m * size) (hr : Row w A news) (h1 : ∀ u ∈ news, u.oneCell' = true)
    (h63 : n + m ≤ maxLen) (hbytes : (n + m) * bytes ≤ 140737488355328)
    (h : ∀ a' c' (x : After w lo hi'), x.w.ownsRow lo e size (.slice a' (n + m) c') (n + m) (xs ++ news) → (∀ p : Addr, a' = some p → p.block < hi' ∨ w.heap.size ≤ p.block) → K (ac.put o.dst (.slice a' (n + m) c')) x.w) :
    o.wp P ac w K Q := by
    obtain ⟨v', w', hrun, h2, h3, h4⟩ := run_append_row (P := P) w lo t o.type e i z size bytes ht hi hz hsize hby hzs hsz _ n xs hown A m c news hl hr h1 h63 hbytes hlw
    obtain ⟨a', c', rfl⟩ := own_form h2
    have hb' : Between lo hi' w w' := ⟨h3.os, h3.tape, h3.output, h3.size, fun k hk hor => h3.block k hk fun e => by
      cases a with
      | none => simp [Value.ownBlock] at e
      | some q =>
        have e1 : q.block = k := by simpa [Value.ownBlock] using e.symm
        have := hlt q rfl
        have := (hown.lt q.block rfl).1
        omega⟩
    have hp : ∀ p : Addr, a' = some p → p.block < hi' ∨ w.heap.size ≤ p.block := fun p hp => by
      subst hp
      rcases h4 with h4 | h4
      · cases a with
        | none => simp [Value.ownBlock] at h4
        | some q =>
          have e1 : p.block = q.block := by simpa [Value.ownBlock] using h4
          exact .inl (by rw [e1]; exact hlt q rfl)
      · have e1 : p.block = w.heap.size := by simpa [Value.ownBlock] using h4
        exact .inr (by omega)
    unfold Oper.wp execOp
    simp only [ho, resolve, invoke, builtin, Sem.run_bind, Sem.run_pure, Result.andThen_ok, List.map_toArray, List.map_cons, List.map_nil, hs, hx, hrun]
    exact h a' c' ⟨w', hb'⟩ h2 hp
end
end Go.Proofs.YtklcaphkfdlipaaGreatDoor

/- A drawn region walked in one order, where lengths are quiet too. -/
set_option linter.unusedSimpArgs false
set_option linter.unusedVariables false
namespace Go.Proofs.YtklcaphkfdlipaaGreatDoor
open Go.RowKit
def opQuiet2 : Op → Bool
  | .call c => match c.callee with
    | .builtin .len => true
    | _ => false
  | o => opQuiet o
theorem value_of_quiet2 {P : Program} {o : Oper} {ρ : Operand → Value} {w w' : World} {n : Next} (hq : opQuiet2 o.op = true) (h : (execOp ρ o).run P w = .ok n w') : ∃ v, n = .value v := by
  cases hop : o.op with
  | call c =>
    rw [hop] at hq
    have hc : c.callee = .builtin .len := by
      simp only [opQuiet2] at hq
      split at hq
      · assumption
      · cases hq
    unfold execOp at h
    simp only [hop, hc, resolve, invoke, Sem.run_bind, Sem.run_pure, Result.andThen_ok] at h
    exact value_of_bind (f := id) h
  | _ => exact value_of_quiet (by rw [hop] at hq ⊢; exact hq) h
section
variable {P : Program} {ops : Array Oper} {C : World → Prop} {Q : Exit → Act → World → Prop} {md : Region.Mode}
def planB2 (ops : Array Oper) : List (Nat × Bool) → Array Bool → Bool
  | [], listed => (Region.ready .any ops listed).isEmpty
  | (i, true) :: r, listed => (Region.ready .any ops listed).contains i && Region.free .any ops listed i && ((ops[i]?).map fun o => opQuiet2 o.op).getD false && planB2 ops r (listed.setIfInBounds i true)
  | (i, false) :: r, listed => Region.ready .any ops listed == [i] && planB2 ops r (listed.setIfInBounds i true)
theorem wpAnyH_of_plan2 (hs : Region.noSelect ops = true) (hQ : ∀ c a (d : Option Tmp) v w, Q (.panic c) (a.put d v) w → Q (.panic c) a w) :
    ∀ (l : List (Nat × Bool)) (listed : Array Bool) (a : Act) (w : World), planB2 ops l listed = true → C w → wpPlan P ops C Q l a w → wpAnyH P .any ops Q C l.length listed a w
  | [], listed, a, w, hB, _, h => wpAnyH_done (by simpa [planB2] using hB) h _
  | (i, true) :: r, listed, a, w, hB, hC, h => by
    simp only [planB2, Bool.and_eq_true] at hB
    obtain ⟨⟨⟨h1, h2⟩, h3⟩, h4⟩ := hB
    obtain ⟨o, ho, hh⟩ := h
    simp only [ho, Option.map_some, Option.getD_some] at h3
    by_cases hw : Region.wanted o (yielded ops a.tmps) = true
    · rw [if_pos hw] at hh
      obtain ⟨v, hv, hn⟩ := hh
      refine wpAnyH_take (v := v) ho hs h2 h1 (fun c a w => hQ c a _ v w) (.inl ⟨hw, fun w' hw' => ?_⟩) hC (wpAnyH_of_plan2 hs hQ r _ _ _ h4 hC hn)
      have := hv w' hw'
      unfold Oper.quietAt at this
      generalize hr : (execOp a.eval o).run P w' = res at this
      cases res with
      | halt x w1 => simp only [Oper.quietUpon] at this
      | ok n w1 =>
        obtain ⟨u, rfl⟩ := value_of_quiet2 h3 hr
        simp only [Oper.quietUpon] at this
        rw [this.1, this.2]
    · rw [if_neg hw] at hh
      exact wpAnyH_take (v := undef) ho hs h2 h1 (fun c a w => hQ c a _ undef w) (.inr ⟨by simpa using hw, rfl⟩) hC (wpAnyH_of_plan2 hs hQ r _ _ _ h4 hC hh)
  | (i, false) :: r, listed, a, w, hB, hC, h => by
    simp only [planB2, Bool.and_eq_true, beq_iff_eq] at hB
    refine wpAnyH_all hB.1 (by simp) fun j hj => ?_
    obtain rfl : j = i := by simpa using hj
    exact wpOp_mono (fun a' w' hh => ⟨hh.1, wpAnyH_of_plan2 hs hQ r _ a' w' hB.2 hh.1 hh.2⟩) h
theorem wp_region_plan2 {id : Nat} {a : Act} {W : World} {l : List Oper} (pl : List (Nat × Bool)) (hm : P.follows .mixedOrders = true) (hs : Region.noSelect l.toArray = true)
    (hB : planB2 l.toArray pl (Array.replicate l.toArray.size false) = true) (hl : pl.length = l.toArray.size) (hQ : ∀ c a (d : Option Tmp) v w, Q (.panic c) (a.put d v) w → Q (.panic c) a w)
    (hC : C W.drew) (h : wpPlan P l.toArray C Q pl a W.drew) : (Code.region id l.toArray true).wp P Q a W :=
  wp_region_held hm (hl ▸ wpAnyH_of_plan2 hs hQ pl _ _ _ hB hC h)
end
end Go.Proofs.YtklcaphkfdlipaaGreatDoor

/- Copies of points and masks, their comparison, their size. -/
set_option linter.unusedSimpArgs false
set_option linter.unusedVariables false
namespace Go.Proofs.YtklcaphkfdlipaaGreatDoor
open Go.RowKit

section
variable (x y W H x' y' W' H' : Int) (l l' : List Bool) (a a' : Option Addr) (n c n' c' : Nat) (w : World)
end
end Go.Proofs.YtklcaphkfdlipaaGreatDoor
