import Derived.Lib.SlTrimSet
import Derived.Lib.Split
import Derived.Lib.SplitLaws
import Derived.Test.YtcpddgkloeklaaaGreatDoorRows
import Derived.Handy
import Derived.WalkSpells
import Derived.WalkLawsBesides
import Derived.BigQuiet
import Derived.Deep.QuietTactic
import Derived.Outline
import Derived.Lib.Hide
import Derived.OrdersHeld
import Derived.RegionTactic
import Derived.Deep.OwnRows
import Derived.Deep.DeepCutAuto
import Derived.Test.YtcpddgkloeklaaaGreatDoorShelf
import Derived.Lib.SliceRun
import Derived.Laws.AppendOwn
import Derived.Maps.AppendAt
import Derived.OwnWalk
import Derived.Laws.StructEq
/- Several of my texts, one behind the other: Words, Base, In, After, Float, Text, App, TextS, Clm, ClaimA, ClaimB, Sizes, ClaimL. -/
/- Words, phrases and what lies between separators: plain facts on bytes. -/
set_option linter.unusedSimpArgs false
set_option linter.unusedVariables false
namespace Go.Proofs.YtcpddgkloeklaaaGreatDoor
/-- A letter a to z. -/
def letterB (b : UInt8) : Bool := decide (97 ≤ b.toNat) && decide (b.toNat ≤ 122)
def letters : List UInt8 := [97, 98, 99, 100, 101, 102, 103, 104, 105, 106, 107, 108, 109, 110, 111, 112, 113, 114, 115, 116, 117, 118, 119, 120, 121, 122]
theorem letters_contains (b : UInt8) : letters.contains b = letterB b := by
  have h : ∀ n, n < 256 → letters.contains (UInt8.ofNat n) = letterB (UInt8.ofNat n) := by decide +kernel
  have e : UInt8.ofNat b.toNat = b := by simp
  rw [← e]
  exact h _ (by have := b.toNat_lt; omega)
/-- A word: 1 to 16 letters. -/
def wordL (l : List UInt8) : Bool := decide (1 ≤ l.length) && decide (l.length ≤ 16) && l.all letterB
def wordB (s : ByteArray) : Bool := wordL s.data.toList
theorem dropWhile_all {p : UInt8 → Bool} : ∀ {l : List UInt8}, (∀ x ∈ l.dropWhile p, p x = true) → l.dropWhile p = []
  | [], _ => rfl
  | a :: l, h => by
    cases ha : p a
    · rw [List.dropWhile_cons, ha] at h
      have := h a (by simp)
      rw [ha] at this
      cases this
    · rw [List.dropWhile_cons, ha] at h ⊢
      simp only [if_true] at h ⊢
      exact dropWhile_all h
theorem dropWhile_nil_all {p : UInt8 → Bool} : ∀ {l : List UInt8}, l.dropWhile p = [] ↔ ∀ x ∈ l, p x = true
  | [] => by simp
  | a :: l => by
    cases ha : p a
    · simp [List.dropWhile_cons, ha]
    · simp only [List.dropWhile_cons, ha, if_true, dropWhile_nil_all (l := l)]
      simp [ha]
theorem trimS_nil (l cs : List UInt8) : Lib.trimS l cs = [] ↔ ∀ x ∈ l, cs.contains x = true := by
  unfold Lib.trimS Lib.trimLeftS Lib.trimRightS
  constructor
  · intro h
    rw [dropWhile_nil_all] at h
    have h2 : l.reverse.dropWhile (cs.contains ·) = [] := dropWhile_all fun x hx => h x (by simpa using hx)
    rw [dropWhile_nil_all] at h2
    exact fun x hx => h2 x (by simpa using hx)
  · intro h
    have h2 : l.reverse.dropWhile (cs.contains ·) = [] := dropWhile_nil_all.2 fun x hx => h x (by simpa using hx)
    rw [h2]
    rfl
theorem trim_letters (l : List UInt8) : (Lib.trimS l letters).isEmpty = l.all letterB := by
  rw [Bool.eq_iff_iff, List.isEmpty_iff, trimS_nil, List.all_eq_true]
  constructor
  · intro h x hx
    rw [← letters_contains]; exact h x hx
  · intro h x hx
    rw [letters_contains]; exact h x hx
/-! ### Cut at every occurrence of a byte -/
def splitL (c : UInt8) : List UInt8 → List (List UInt8)
  | [] => [[]]
  | b :: l => if b == c then [] :: splitL c l else match splitL c l with
    | [] => [[b]]
    | x :: r => (b :: x) :: r
theorem splitL_ne (c : UInt8) : ∀ l, splitL c l ≠ []
  | [] => by simp [splitL]
  | b :: l => by
    unfold splitL
    split
    · simp
    · split <;> simp
theorem splitL_miss {c : UInt8} : ∀ {l : List UInt8}, c ∉ l → splitL c l = [l]
  | [], _ => rfl
  | b :: l, h => by
    have hb : (b == c) = false := by rw [beq_eq_false_iff_ne]; rintro rfl; exact h (by simp)
    have ih := splitL_miss (c := c) (l := l) (fun hc => h (by simp [hc]))
    simp [splitL, hb, ih]
theorem splitL_hit {c : UInt8} : ∀ {x r : List UInt8}, c ∉ x → splitL c (x ++ c :: r) = x :: splitL c r
  | [], r, _ => by simp [splitL]
  | b :: x, r, h => by
    have hb : (b == c) = false := by rw [beq_eq_false_iff_ne]; rintro rfl; exact h (by simp)
    have ih := splitL_hit (c := c) (x := x) (r := r) (fun hc => h (by simp [hc]))
    simp [splitL, hb, ih]
theorem index_one (c : UInt8) : ∀ l : List UInt8, (Lib.index l [c] = -1 ∧ c ∉ l) ∨ ∃ i : Nat, Lib.index l [c] = i ∧ ∃ r, l = l.take i ++ c :: r ∧ r = l.drop (i + 1) ∧ c ∉ l.take i
  | [] => .inl ⟨by simp [Lib.index], by simp⟩
  | b :: l => by
    by_cases hb : c = b
    · subst hb
      refine .inr ⟨0, by simp [Lib.index, List.isPrefixOf], l, by simp, by simp, by simp⟩
    · have hp : ([c] : List UInt8).isPrefixOf (b :: l) = false := by simp [List.isPrefixOf, hb]
      rcases index_one c l with ⟨h1, h2⟩ | ⟨i, h1, r, h2, h3, h4⟩
      · refine .inl ⟨?_, ?_⟩
        · unfold Lib.index
          rw [hp, h1]
          simp
        · simp [hb, h2]
      · refine .inr ⟨i + 1, ?_, r, ?_, ?_, ?_⟩
        · unfold Lib.index
          rw [hp, h1]
          have : ((i : Int) == -1) = false := by rw [beq_eq_false_iff_ne]; omega
          simp [this]
        · rw [List.take_succ_cons, List.cons_append, ← h2]
        · simpa using h3
        · rw [List.take_succ_cons]
          simp [hb, h4]
theorem splitK_one (c : UInt8) : ∀ (k : Nat) (l : List UInt8), Lib.count l [c] = k → Lib.splitK [c] 0 k l = splitL c l
  | 0, l, h => by
    rcases index_one c l with ⟨h1, h2⟩ | ⟨i, h1, r, h2, h3, h4⟩
    · rw [splitL_miss h2]; rfl
    · have := Lib.count_hit (s := l) (sub := [c]) (i := i) (by simp) h1
      omega
  | k + 1, l, h => by
    rcases index_one c l with ⟨h1, h2⟩ | ⟨i, h1, r, h2, h3, h4⟩
    · have := Lib.count_miss (s := l) (sub := [c]) h1
      omega
    · have hc := Lib.count_hit (s := l) (sub := [c]) (i := i) (by simp) h1
      have e : Lib.splitK [c] 0 (k + 1) l = l.take i :: Lib.splitK [c] 0 k (l.drop (i + 1)) := by
        rw [Lib.splitK]
        have hm : (Lib.index l [c] == -1) = false := by rw [h1, beq_eq_false_iff_ne]; omega
        rw [hm, h1]
        simp
      have hck : Lib.count (l.drop (i + 1)) [c] = k := by simp only [List.length_cons, List.length_nil, Nat.zero_add] at hc; omega
      rw [e, splitK_one c k _ hck]
      conv => rhs; rw [h2]
      rw [splitL_hit h4, h3]
/-- A phrase: 1 to 8 words, a blank between them. -/
def phraseL (l : List UInt8) : Bool := decide ((splitL 32 l).length ≤ 8) && (splitL 32 l).all wordL
def phraseB (s : ByteArray) : Bool := phraseL s.data.toList
end Go.Proofs.YtcpddgkloeklaaaGreatDoor

namespace Go.Proofs.YtcpddgkloeklaaaGreatDoor
open Go.RowKit

/-- The slice address `a` leads to the cells `xs`. -/
def Row (w : World) (a : Option Addr) (xs : List Value) : Prop :=
  ∀ (j : Nat) (v : Value), xs[j]? = some v → ∃ b o, a = some ⟨b, o, none⟩ ∧ w.cell? ⟨b, o + j, none⟩ = some v

theorem Row.nil (w : World) (a : Option Addr) : Row w a [] := fun j v h => by simp at h
theorem Row.keep {w w' : World} {a : Option Addr} {xs : List Value} (h : Row w a xs) (hk : ∀ p : Addr, p.block < w.heap.size → w'.cell? p = w.cell? p) : Row w' a xs :=
  fun j v hj => by
    obtain ⟨b, o, rfl, hc⟩ := h j v hj
    exact ⟨b, o, rfl, (hk _ (World.block_lt_of_cell? w _ hc)).trans hc⟩
theorem Row.below {w w' : World} {B : Nat} {a : Option Addr} {xs : List Value} (h : Row w a xs) (hb : Below B w w') (hB : w.heap.size ≤ B) : Row w' a xs :=
  h.keep fun _ hp => hb.cell (Nat.lt_of_lt_of_le hp hB)
theorem Row.bel {w w' : World} {a : Option Addr} {xs : List Value} (h : Row w a xs) (hb : Below w.heap.size w w') : Row w' a xs := h.below hb (Nat.le_refl _)
theorem Row.alloc {w : World} {a : Option Addr} {xs : List Value} (h : Row w a xs) (o : Obj) : Row (w.alloc o) a xs := h.bel ((Below.refl _ _).alloc (Nat.le_refl _) o)
theorem Row.of_own {w : World} {base : Nat} {e : TypeId} {a : Option Addr} {s n c : Nat} {xs : List Value} (h : w.ownsRow base e s (.slice a n c) n xs) : Row w a xs := by
  intro j v hj
  have hl : j < xs.length := (List.getElem?_eq_some_iff.1 hj).1
  rcases h.2 with ⟨he, hn⟩ | ⟨g, cap, cur, hv, _⟩
  · rw [h.1, hn] at hl; omega
  · have ha : a = some ⟨g, 0, none⟩ := by injection hv
    subst ha
    refine ⟨g, 0, rfl, ?_⟩
    have := h.cells (g := g) rfl j v hj
    by_cases h0 : j = 0
    · subst h0; simpa [Addr.add] using this
    · simpa [Addr.add, h0] using this
theorem Row.len_le {w : World} {base : Nat} {e : TypeId} {a : Option Addr} {s n c : Nat} {xs : List Value} (h : w.ownsRow base e s (.slice a n c) n xs) : n ≤ maxLen := by
  rcases h.2 with ⟨_, hn⟩ | ⟨g, cap, cur, hv, _, _, hn, hc, _⟩
  · omega
  · omega
theorem own_form {w : World} {base : Nat} {e : TypeId} {v : Value} {s n : Nat} {xs : List Value} (h : w.ownsRow base e s v n xs) : ∃ a c, v = .slice a n c := by
  rcases h.2 with ⟨rfl, rfl⟩ | ⟨g, cap, cur, rfl, _⟩
  · exact ⟨_, _, rfl⟩
  · exact ⟨_, _, rfl⟩
/-- An owned row stays owned where nothing below a bound beyond it turns. -/
theorem own_below {w w' : World} {base B : Nat} {e : TypeId} {v : Value} {s n : Nat} {xs : List Value} (h : w.ownsRow base e s v n xs) (hb : Below B w w') (hB : w.heap.size ≤ B) : w'.ownsRow base e s v n xs := by
  refine ⟨h.1, ?_⟩
  rcases h.2 with h2 | ⟨g, cap, cur, hv, hg, hh, r⟩
  · exact .inl h2
  · exact .inr ⟨g, cap, cur, hv, hg, (hb.block g (by have := (Array.getElem?_eq_some_iff.1 hh).1; omega)).trans hh, r⟩
theorem own_bel {w w' : World} {base : Nat} {e : TypeId} {v : Value} {s n : Nat} {xs : List Value} (h : w.ownsRow base e s v n xs) (hb : Below w.heap.size w w') : w'.ownsRow base e s v n xs := own_below h hb (Nat.le_refl _)
theorem own_mono {w : World} {base base' : Nat} {e : TypeId} {v : Value} {s n : Nat} {xs : List Value} (h : w.ownsRow base e s v n xs) (hb : base' ≤ base) : w.ownsRow base' e s v n xs := by
  refine ⟨h.1, ?_⟩
  rcases h.2 with h2 | ⟨g, cap, cur, hv, hg, r⟩
  · exact .inl h2
  · exact .inr ⟨g, cap, cur, hv, by omega, r⟩
/-- A world that came later: all blocks of `W` are as they were. -/
structure Later (W : World) where
  w : World
  bel : Below W.heap.size W w
instance (W : World) : Nonempty (Later W) := ⟨⟨W, Below.refl _ _⟩⟩
/-- What a later world holds beyond `W`'s blocks. -/
@[irreducible] def Later.far {W : World} (x : Later W) (a : Addr) : Option Value := x.w.cell? a
@[irreducible] def Later.farFrozen {W : World} (x : Later W) (a : Addr) : Bool := x.w.frozen? a
theorem Later.cell {W : World} (x : Later W) (b o : Nat) (s : Option Nat) : x.w.cell? ⟨b, o, s⟩ = if b < W.heap.size then W.cell? ⟨b, o, s⟩ else x.far ⟨b, o, s⟩ := by
  split
  · rename_i h; exact x.bel.cell h
  · unfold Later.far; rfl
theorem Later.frozen {W : World} (x : Later W) (b o : Nat) (s : Option Nat) : x.w.frozen? ⟨b, o, s⟩ = if b < W.heap.size then W.frozen? ⟨b, o, s⟩ else x.farFrozen ⟨b, o, s⟩ := by
  split
  · rename_i h; exact x.bel.frozen h
  · unfold Later.farFrozen; rfl
attribute [go_sem] Later.cell Later.frozen
/-- The call returned `v`; what there was is as it was. -/
def Ret (w : World) (v : Value) (e : Ending) (w' : World) : Prop := e = .returned v ∧ ∃ y : Later w, w' = y.w
theorem Ret.mk {w w' : World} {v : Value} {e : Ending} (h : e = .returned v) (hb : Below w.heap.size w w') : Ret w v e w' := ⟨h, ⟨w', hb⟩, rfl⟩
/-- The call returned `mk v`, `v` a slice of its own making that holds `xs`; what there was is as it was. -/
def RetOwn (w : World) (E size n : Nat) (xs : List Value) (mk : Value → Value) (e : Ending) (w' : World) : Prop :=
  ∃ (a : Option Addr) (c : Nat), e = .returned (mk (.slice a n c)) ∧ w'.ownsRow w.heap.size E size (.slice a n c) n xs ∧ ∃ y : Later w, w' = y.w
theorem RetOwn.mk {w w' : World} {E size n : Nat} {xs : List Value} {mk : Value → Value} {e : Ending} (v : Value) (h : e = .returned (mk v)) (ho : w'.ownsRow w.heap.size E size v n xs) (hb : Below w.heap.size w w') : RetOwn w E size n xs mk e w' := by
  obtain ⟨a, c, rfl⟩ : ∃ a c, v = .slice a n c := by
    rcases ho.2 with ⟨rfl, rfl⟩ | ⟨g, cap, cur, rfl, _⟩
    · exact ⟨_, _, rfl⟩
    · exact ⟨_, _, rfl⟩
  exact ⟨a, c, h, ho, ⟨w', hb⟩, rfl⟩
theorem wp_region_later {P : Program} {id : Nat} {Q : Exit → Act → World → Prop} {a : Act} {W : World} {l : List Oper} (hm : P.follows .mixedOrders = true) (hB : Region.lexB .any l.toArray = true)
    (h : wpQuiet P l.toArray (fun w' => ∃ x : Later W, w' = x.w) (fun a' => ∀ w', (∃ x : Later W, w' = x.w) → Q .normal a' w') l a) : (Code.region id l.toArray true).wp P Q a W :=
  wp_region_quiet (C := fun w' => ∃ x : Later W, w' = x.w) hm hB ⟨⟨W.drew, (Below.refl _ _).drew⟩, rfl⟩ (by simpa using h)
theorem Calls.later {P : Program} {f : FuncId} {args : Array Value} {W : World} {x : Later W} {v : Value} (h : Calls P f args x.w (Ret x.w v)) :
    Calls P f args x.w fun e w'' => e = .returned v ∧ ∃ y : Later W, w'' = y.w :=
  h.mono fun _ _ ⟨he, y, hy⟩ => ⟨he, ⟨y.w, x.bel.trans (y.bel.mono x.bel.size)⟩, hy⟩
theorem bel_trans {B : Nat} {a b c : World} (h : Below a.heap.size a b) (k : Below B b c) (hB : a.heap.size ≤ B) : Below a.heap.size a c := h.trans (k.mono hB)
theorem wpQuiet_may {P : Program} {ops : Array Oper} {C : World → Prop} {Q : Act → Prop} {a : Act} {o : Oper} {rest : List Oper} (B : Bool) (v : Value) (d : Nat) (hd : o.dst = some d) (hlt : (d < a.tmps.size) = True) (hw : Region.wanted o (yielded ops a.tmps) = B)
    (h : B = true → o.quiet P a C (fun a' => a' = a.put o.dst v))
    (hr : wpQuiet P ops C Q rest (a.put o.dst (bif B then v else undef))) : wpQuiet P ops C Q (o :: rest) a := by
  refine wpQuiet_step fun K hK => ?_
  rw [hw]
  cases B with
  | true =>
    rw [if_pos rfl]
    obtain ⟨u, h1, h2⟩ := h rfl
    have hu : u = v := by
      have := congrArg (fun a' : Act => a'.tmps[d]?) h2
      simp only [Act.put, hd] at this
      rw [Array.getElem?_setIfInBounds_self_of_lt (of_eq_true hlt), Array.getElem?_setIfInBounds_self_of_lt (of_eq_true hlt)] at this
      exact Option.some.inj this
    subst hu
    exact ⟨u, h1, hK _ hr⟩
  | false => rw [if_neg (by decide)]; exact hK _ hr
theorem Later.out {w W : World} (x : Later W) (h : Below w.heap.size w W) : Below w.heap.size w x.w := bel_trans h x.bel h.size
theorem bel_alloc {w W : World} (h : Below w.heap.size w W) (o : Obj) : Below w.heap.size w (W.alloc o) := h.alloc h.size o
theorem bel_set {w W : World} (h : Below w.heap.size w W) {p : Addr} (hp : w.heap.size ≤ p.block) (u : Value) : Below w.heap.size w (W.setCell p u) := h.setCell hp u
theorem bel_drewN {w W : World} (h : Below w.heap.size w W) (n : Nat) : Below w.heap.size w (W.drewN n) := ⟨h.os, h.tape, h.output, h.size, h.block⟩
theorem bel_drew {w W : World} (h : Below w.heap.size w W) : Below w.heap.size w W.drew := h.drew
/-- What a callee owns in a later world is the caller's own. -/
theorem own_base {w E w' : World} {e s n : Nat} {v : Value} {xs : List Value} (h : w'.ownsRow E.heap.size e s v n xs) (hb : Below w.heap.size w E) : w'.ownsRow w.heap.size e s v n xs := own_mono h hb.size
theorem own_set {w : World} {base e s n : Nat} {v : Value} {xs : List Value} (h : w.ownsRow base e s v n xs) {p : Addr} (hp : p.block < base) (u : Value) : (w.setCell p u).ownsRow base e s v n xs := ownsRow_setCell_below h hp u
/-- Operations that yield a value or end the run, and turn nothing else. -/
def opQuiet : Op → Bool
  | .move _ | .assign _ | .pick .. | .load .. | .fieldAddr .. | .field .. | .indexAddr .. | .index .. | .binOp .. | .unOp .. | .extract .. | .slice .. | .build .. | .makeInterface .. | .makeFunc .. | .convert .. => true
  | _ => false
theorem value_of_bind {P : Program} {α : Type} {s : Sem α} {f : α → Value} {w w' : World} {n : Next} (h : (do pure (Next.value (f (← s))) : Sem Next).run P w = .ok n w') : ∃ v, n = .value v := by
  rw [Sem.run_bind] at h
  cases hs : s.run P w with
  | ok x w1 => rw [hs] at h; simp [Result.andThen, Sem.run_pure] at h; exact ⟨_, h.1.symm⟩
  | halt x w1 => rw [hs] at h; simp [Result.andThen] at h
theorem value_of_quiet {P : Program} {o : Oper} {ρ : Operand → Value} {w w' : World} {n : Next} (hq : opQuiet o.op = true) (h : (execOp ρ o).run P w = .ok n w') : ∃ v, n = .value v := by
  obtain ⟨dst, op, ty, pos, after, guard⟩ := o
  cases op <;> simp only [opQuiet, Bool.false_eq_true] at hq <;> simp only [execOp] at h <;> first
    | exact value_of_bind (f := id) h
    | (simp [Sem.run_pure] at h; exact ⟨_, h.1.symm⟩)
    | exact value_of_bind (f := fun b => if b = true then _ else _) h

section
variable {P : Program} {ops : Array Oper} {C : World → Prop} {Q : Exit → Act → World → Prop} {md : Region.Mode}
/-- A region that draws its order, walked in one order that stands for all: what yields its value in every world of the class is taken as soon as it can come up ('true'); a call comes when nothing else can ('false'). -/
def wpPlan (P : Program) (ops : Array Oper) (C : World → Prop) (Q : Exit → Act → World → Prop) : List (Nat × Bool) → Act → World → Prop
  | [], a, w => Q .normal a w
  | (i, true) :: r, a, w => ∃ o, ops[i]? = some o ∧ if Region.wanted o (yielded ops a.tmps) then o.quiet P a C (fun a' => wpPlan P ops C Q r a' w) else wpPlan P ops C Q r (a.put o.dst undef) w
  | (i, false) :: r, a, w => wpOp P ops Q i (fun a' w' => C w' ∧ wpPlan P ops C Q r a' w') a w
/-- The order can be taken. -/
def planB (ops : Array Oper) : List (Nat × Bool) → Array Bool → Bool
  | [], listed => (Region.ready .any ops listed).isEmpty
  | (i, true) :: r, listed => (Region.ready .any ops listed).contains i && Region.free .any ops listed i && ((ops[i]?).map fun o => opQuiet o.op).getD false && planB ops r (listed.setIfInBounds i true)
  | (i, false) :: r, listed => Region.ready .any ops listed == [i] && planB ops r (listed.setIfInBounds i true)
theorem wpAnyH_of_plan (hs : Region.noSelect ops = true) (hQ : ∀ c a (d : Option Tmp) v w, Q (.panic c) (a.put d v) w → Q (.panic c) a w) :
    ∀ (l : List (Nat × Bool)) (listed : Array Bool) (a : Act) (w : World), planB ops l listed = true → C w → wpPlan P ops C Q l a w → wpAnyH P .any ops Q C l.length listed a w
  | [], listed, a, w, hB, _, h => wpAnyH_done (by simpa [planB] using hB) h _
  | (i, true) :: r, listed, a, w, hB, hC, h => by
    simp only [planB, Bool.and_eq_true] at hB
    obtain ⟨⟨⟨h1, h2⟩, h3⟩, h4⟩ := hB
    obtain ⟨o, ho, hh⟩ := h
    simp only [ho, Option.map_some, Option.getD_some] at h3
    by_cases hw : Region.wanted o (yielded ops a.tmps) = true
    · rw [if_pos hw] at hh
      obtain ⟨v, hv, hn⟩ := hh
      refine wpAnyH_take (v := v) ho hs h2 h1 (fun c a w => hQ c a _ v w) (.inl ⟨hw, fun w' hw' => ?_⟩) hC (wpAnyH_of_plan hs hQ r _ _ _ h4 hC hn)
      have := hv w' hw'
      unfold Oper.quietAt at this
      generalize hr : (execOp a.eval o).run P w' = res at this
      cases res with
      | halt x w1 => simp only [Oper.quietUpon] at this
      | ok n w1 =>
        obtain ⟨u, rfl⟩ := value_of_quiet h3 hr
        simp only [Oper.quietUpon] at this
        rw [this.1, this.2]
    · rw [if_neg hw] at hh
      exact wpAnyH_take (v := undef) ho hs h2 h1 (fun c a w => hQ c a _ undef w) (.inr ⟨by simpa using hw, rfl⟩) hC (wpAnyH_of_plan hs hQ r _ _ _ h4 hC hh)
  | (i, false) :: r, listed, a, w, hB, hC, h => by
    simp only [planB, Bool.and_eq_true, beq_iff_eq] at hB
    refine wpAnyH_all hB.1 (by simp) fun j hj => ?_
    obtain rfl : j = i := by simpa using hj
    exact wpOp_mono (fun a' w' hh => ⟨hh.1, wpAnyH_of_plan hs hQ r _ a' w' hB.2 hh.1 hh.2⟩) h
theorem wp_region_plan {id : Nat} {a : Act} {W : World} {l : List Oper} (pl : List (Nat × Bool)) (hm : P.follows .mixedOrders = true) (hs : Region.noSelect l.toArray = true)
    (hB : planB l.toArray pl (Array.replicate l.toArray.size false) = true) (hl : pl.length = l.toArray.size) (hQ : ∀ c a (d : Option Tmp) v w, Q (.panic c) (a.put d v) w → Q (.panic c) a w)
    (hC : C W.drew) (h : wpPlan P l.toArray C Q pl a W.drew) : (Code.region id l.toArray true).wp P Q a W :=
  wp_region_held hm (hl ▸ wpAnyH_of_plan hs hQ pl _ _ _ hB hC h)
/-- The class of the worlds that came later. -/
def LaterC (W w' : World) : Prop := ∃ x : Later W, w' = x.w
attribute [go_sem] LaterC
theorem LaterC.mk {W w' : World} (h : Below W.heap.size W w') : LaterC W w' := ⟨⟨w', h⟩, rfl⟩
theorem nthS {x o : Oper} {l : List Oper} {i : Nat} (h : l.toArray[i]? = some o) : (x :: l).toArray[i + 1]? = some o := by simpa using h
theorem nth0 {o : Oper} {l : List Oper} : (o :: l).toArray[0]? = some o := rfl
theorem nth1 {a0 o : Oper} {l : List Oper} : (a0 :: o :: l).toArray[1]? = some o := nthS nth0
theorem nth2 {a0 a1 o : Oper} {l : List Oper} : (a0 :: a1 :: o :: l).toArray[2]? = some o := nthS nth1
theorem nth3 {a0 a1 a2 o : Oper} {l : List Oper} : (a0 :: a1 :: a2 :: o :: l).toArray[3]? = some o := nthS nth2
theorem nth4 {a0 a1 a2 a3 o : Oper} {l : List Oper} : (a0 :: a1 :: a2 :: a3 :: o :: l).toArray[4]? = some o := nthS nth3
theorem nth5 {a0 a1 a2 a3 a4 o : Oper} {l : List Oper} : (a0 :: a1 :: a2 :: a3 :: a4 :: o :: l).toArray[5]? = some o := nthS nth4
theorem nth6 {a0 a1 a2 a3 a4 a5 o : Oper} {l : List Oper} : (a0 :: a1 :: a2 :: a3 :: a4 :: a5 :: o :: l).toArray[6]? = some o := nthS nth5
theorem nth7 {a0 a1 a2 a3 a4 a5 a6 o : Oper} {l : List Oper} : (a0 :: a1 :: a2 :: a3 :: a4 :: a5 :: a6 :: o :: l).toArray[7]? = some o := nthS nth6
theorem nth8 {a0 a1 a2 a3 a4 a5 a6 a7 o : Oper} {l : List Oper} : (a0 :: a1 :: a2 :: a3 :: a4 :: a5 :: a6 :: a7 :: o :: l).toArray[8]? = some o := nthS nth7
theorem nth9 {a0 a1 a2 a3 a4 a5 a6 a7 a8 o : Oper} {l : List Oper} : (a0 :: a1 :: a2 :: a3 :: a4 :: a5 :: a6 :: a7 :: a8 :: o :: l).toArray[9]? = some o := nthS nth8
theorem nth10 {a0 a1 a2 a3 a4 a5 a6 a7 a8 a9 o : Oper} {l : List Oper} : (a0 :: a1 :: a2 :: a3 :: a4 :: a5 :: a6 :: a7 :: a8 :: a9 :: o :: l).toArray[10]? = some o := nthS nth9
theorem nth11 {a0 a1 a2 a3 a4 a5 a6 a7 a8 a9 a10 o : Oper} {l : List Oper} : (a0 :: a1 :: a2 :: a3 :: a4 :: a5 :: a6 :: a7 :: a8 :: a9 :: a10 :: o :: l).toArray[11]? = some o := nthS nth10
theorem nth12 {a0 a1 a2 a3 a4 a5 a6 a7 a8 a9 a10 a11 o : Oper} {l : List Oper} : (a0 :: a1 :: a2 :: a3 :: a4 :: a5 :: a6 :: a7 :: a8 :: a9 :: a10 :: a11 :: o :: l).toArray[12]? = some o := nthS nth11
theorem nth13 {a0 a1 a2 a3 a4 a5 a6 a7 a8 a9 a10 a11 a12 o : Oper} {l : List Oper} : (a0 :: a1 :: a2 :: a3 :: a4 :: a5 :: a6 :: a7 :: a8 :: a9 :: a10 :: a11 :: a12 :: o :: l).toArray[13]? = some o := nthS nth12
theorem nth14 {a0 a1 a2 a3 a4 a5 a6 a7 a8 a9 a10 a11 a12 a13 o : Oper} {l : List Oper} : (a0 :: a1 :: a2 :: a3 :: a4 :: a5 :: a6 :: a7 :: a8 :: a9 :: a10 :: a11 :: a12 :: a13 :: o :: l).toArray[14]? = some o := nthS nth13
theorem nth15 {a0 a1 a2 a3 a4 a5 a6 a7 a8 a9 a10 a11 a12 a13 a14 o : Oper} {l : List Oper} : (a0 :: a1 :: a2 :: a3 :: a4 :: a5 :: a6 :: a7 :: a8 :: a9 :: a10 :: a11 :: a12 :: a13 :: a14 :: o :: l).toArray[15]? = some o := nthS nth14
theorem nth16 {a0 a1 a2 a3 a4 a5 a6 a7 a8 a9 a10 a11 a12 a13 a14 a15 o : Oper} {l : List Oper} : (a0 :: a1 :: a2 :: a3 :: a4 :: a5 :: a6 :: a7 :: a8 :: a9 :: a10 :: a11 :: a12 :: a13 :: a14 :: a15 :: o :: l).toArray[16]? = some o := nthS nth15
theorem nth17 {a0 a1 a2 a3 a4 a5 a6 a7 a8 a9 a10 a11 a12 a13 a14 a15 a16 o : Oper} {l : List Oper} : (a0 :: a1 :: a2 :: a3 :: a4 :: a5 :: a6 :: a7 :: a8 :: a9 :: a10 :: a11 :: a12 :: a13 :: a14 :: a15 :: a16 :: o :: l).toArray[17]? = some o := nthS nth16
theorem nth18 {a0 a1 a2 a3 a4 a5 a6 a7 a8 a9 a10 a11 a12 a13 a14 a15 a16 a17 o : Oper} {l : List Oper} : (a0 :: a1 :: a2 :: a3 :: a4 :: a5 :: a6 :: a7 :: a8 :: a9 :: a10 :: a11 :: a12 :: a13 :: a14 :: a15 :: a16 :: a17 :: o :: l).toArray[18]? = some o := nthS nth17
theorem nth19 {a0 a1 a2 a3 a4 a5 a6 a7 a8 a9 a10 a11 a12 a13 a14 a15 a16 a17 a18 o : Oper} {l : List Oper} : (a0 :: a1 :: a2 :: a3 :: a4 :: a5 :: a6 :: a7 :: a8 :: a9 :: a10 :: a11 :: a12 :: a13 :: a14 :: a15 :: a16 :: a17 :: a18 :: o :: l).toArray[19]? = some o := nthS nth18
theorem nth20 {a0 a1 a2 a3 a4 a5 a6 a7 a8 a9 a10 a11 a12 a13 a14 a15 a16 a17 a18 a19 o : Oper} {l : List Oper} : (a0 :: a1 :: a2 :: a3 :: a4 :: a5 :: a6 :: a7 :: a8 :: a9 :: a10 :: a11 :: a12 :: a13 :: a14 :: a15 :: a16 :: a17 :: a18 :: a19 :: o :: l).toArray[20]? = some o := nthS nth19
theorem nth21 {a0 a1 a2 a3 a4 a5 a6 a7 a8 a9 a10 a11 a12 a13 a14 a15 a16 a17 a18 a19 a20 o : Oper} {l : List Oper} : (a0 :: a1 :: a2 :: a3 :: a4 :: a5 :: a6 :: a7 :: a8 :: a9 :: a10 :: a11 :: a12 :: a13 :: a14 :: a15 :: a16 :: a17 :: a18 :: a19 :: a20 :: o :: l).toArray[21]? = some o := nthS nth20
theorem nth22 {a0 a1 a2 a3 a4 a5 a6 a7 a8 a9 a10 a11 a12 a13 a14 a15 a16 a17 a18 a19 a20 a21 o : Oper} {l : List Oper} : (a0 :: a1 :: a2 :: a3 :: a4 :: a5 :: a6 :: a7 :: a8 :: a9 :: a10 :: a11 :: a12 :: a13 :: a14 :: a15 :: a16 :: a17 :: a18 :: a19 :: a20 :: a21 :: o :: l).toArray[22]? = some o := nthS nth21
theorem nth23 {a0 a1 a2 a3 a4 a5 a6 a7 a8 a9 a10 a11 a12 a13 a14 a15 a16 a17 a18 a19 a20 a21 a22 o : Oper} {l : List Oper} : (a0 :: a1 :: a2 :: a3 :: a4 :: a5 :: a6 :: a7 :: a8 :: a9 :: a10 :: a11 :: a12 :: a13 :: a14 :: a15 :: a16 :: a17 :: a18 :: a19 :: a20 :: a21 :: a22 :: o :: l).toArray[23]? = some o := nthS nth22
theorem nth24 {a0 a1 a2 a3 a4 a5 a6 a7 a8 a9 a10 a11 a12 a13 a14 a15 a16 a17 a18 a19 a20 a21 a22 a23 o : Oper} {l : List Oper} : (a0 :: a1 :: a2 :: a3 :: a4 :: a5 :: a6 :: a7 :: a8 :: a9 :: a10 :: a11 :: a12 :: a13 :: a14 :: a15 :: a16 :: a17 :: a18 :: a19 :: a20 :: a21 :: a22 :: a23 :: o :: l).toArray[24]? = some o := nthS nth23
theorem nth25 {a0 a1 a2 a3 a4 a5 a6 a7 a8 a9 a10 a11 a12 a13 a14 a15 a16 a17 a18 a19 a20 a21 a22 a23 a24 o : Oper} {l : List Oper} : (a0 :: a1 :: a2 :: a3 :: a4 :: a5 :: a6 :: a7 :: a8 :: a9 :: a10 :: a11 :: a12 :: a13 :: a14 :: a15 :: a16 :: a17 :: a18 :: a19 :: a20 :: a21 :: a22 :: a23 :: a24 :: o :: l).toArray[25]? = some o := nthS nth24
theorem nth26 {a0 a1 a2 a3 a4 a5 a6 a7 a8 a9 a10 a11 a12 a13 a14 a15 a16 a17 a18 a19 a20 a21 a22 a23 a24 a25 o : Oper} {l : List Oper} : (a0 :: a1 :: a2 :: a3 :: a4 :: a5 :: a6 :: a7 :: a8 :: a9 :: a10 :: a11 :: a12 :: a13 :: a14 :: a15 :: a16 :: a17 :: a18 :: a19 :: a20 :: a21 :: a22 :: a23 :: a24 :: a25 :: o :: l).toArray[26]? = some o := nthS nth25
theorem nth27 {a0 a1 a2 a3 a4 a5 a6 a7 a8 a9 a10 a11 a12 a13 a14 a15 a16 a17 a18 a19 a20 a21 a22 a23 a24 a25 a26 o : Oper} {l : List Oper} : (a0 :: a1 :: a2 :: a3 :: a4 :: a5 :: a6 :: a7 :: a8 :: a9 :: a10 :: a11 :: a12 :: a13 :: a14 :: a15 :: a16 :: a17 :: a18 :: a19 :: a20 :: a21 :: a22 :: a23 :: a24 :: a25 :: a26 :: o :: l).toArray[27]? = some o := nthS nth26
theorem nth28 {a0 a1 a2 a3 a4 a5 a6 a7 a8 a9 a10 a11 a12 a13 a14 a15 a16 a17 a18 a19 a20 a21 a22 a23 a24 a25 a26 a27 o : Oper} {l : List Oper} : (a0 :: a1 :: a2 :: a3 :: a4 :: a5 :: a6 :: a7 :: a8 :: a9 :: a10 :: a11 :: a12 :: a13 :: a14 :: a15 :: a16 :: a17 :: a18 :: a19 :: a20 :: a21 :: a22 :: a23 :: a24 :: a25 :: a26 :: a27 :: o :: l).toArray[28]? = some o := nthS nth27
theorem nth29 {a0 a1 a2 a3 a4 a5 a6 a7 a8 a9 a10 a11 a12 a13 a14 a15 a16 a17 a18 a19 a20 a21 a22 a23 a24 a25 a26 a27 a28 o : Oper} {l : List Oper} : (a0 :: a1 :: a2 :: a3 :: a4 :: a5 :: a6 :: a7 :: a8 :: a9 :: a10 :: a11 :: a12 :: a13 :: a14 :: a15 :: a16 :: a17 :: a18 :: a19 :: a20 :: a21 :: a22 :: a23 :: a24 :: a25 :: a26 :: a27 :: a28 :: o :: l).toArray[29]? = some o := nthS nth28
theorem nth30 {a0 a1 a2 a3 a4 a5 a6 a7 a8 a9 a10 a11 a12 a13 a14 a15 a16 a17 a18 a19 a20 a21 a22 a23 a24 a25 a26 a27 a28 a29 o : Oper} {l : List Oper} : (a0 :: a1 :: a2 :: a3 :: a4 :: a5 :: a6 :: a7 :: a8 :: a9 :: a10 :: a11 :: a12 :: a13 :: a14 :: a15 :: a16 :: a17 :: a18 :: a19 :: a20 :: a21 :: a22 :: a23 :: a24 :: a25 :: a26 :: a27 :: a28 :: a29 :: o :: l).toArray[30]? = some o := nthS nth29
theorem nth31 {a0 a1 a2 a3 a4 a5 a6 a7 a8 a9 a10 a11 a12 a13 a14 a15 a16 a17 a18 a19 a20 a21 a22 a23 a24 a25 a26 a27 a28 a29 a30 o : Oper} {l : List Oper} : (a0 :: a1 :: a2 :: a3 :: a4 :: a5 :: a6 :: a7 :: a8 :: a9 :: a10 :: a11 :: a12 :: a13 :: a14 :: a15 :: a16 :: a17 :: a18 :: a19 :: a20 :: a21 :: a22 :: a23 :: a24 :: a25 :: a26 :: a27 :: a28 :: a29 :: a30 :: o :: l).toArray[31]? = some o := nthS nth30
theorem nth32 {a0 a1 a2 a3 a4 a5 a6 a7 a8 a9 a10 a11 a12 a13 a14 a15 a16 a17 a18 a19 a20 a21 a22 a23 a24 a25 a26 a27 a28 a29 a30 a31 o : Oper} {l : List Oper} : (a0 :: a1 :: a2 :: a3 :: a4 :: a5 :: a6 :: a7 :: a8 :: a9 :: a10 :: a11 :: a12 :: a13 :: a14 :: a15 :: a16 :: a17 :: a18 :: a19 :: a20 :: a21 :: a22 :: a23 :: a24 :: a25 :: a26 :: a27 :: a28 :: a29 :: a30 :: a31 :: o :: l).toArray[32]? = some o := nthS nth31
theorem nth33 {a0 a1 a2 a3 a4 a5 a6 a7 a8 a9 a10 a11 a12 a13 a14 a15 a16 a17 a18 a19 a20 a21 a22 a23 a24 a25 a26 a27 a28 a29 a30 a31 a32 o : Oper} {l : List Oper} : (a0 :: a1 :: a2 :: a3 :: a4 :: a5 :: a6 :: a7 :: a8 :: a9 :: a10 :: a11 :: a12 :: a13 :: a14 :: a15 :: a16 :: a17 :: a18 :: a19 :: a20 :: a21 :: a22 :: a23 :: a24 :: a25 :: a26 :: a27 :: a28 :: a29 :: a30 :: a31 :: a32 :: o :: l).toArray[33]? = some o := nthS nth32
theorem nth34 {a0 a1 a2 a3 a4 a5 a6 a7 a8 a9 a10 a11 a12 a13 a14 a15 a16 a17 a18 a19 a20 a21 a22 a23 a24 a25 a26 a27 a28 a29 a30 a31 a32 a33 o : Oper} {l : List Oper} : (a0 :: a1 :: a2 :: a3 :: a4 :: a5 :: a6 :: a7 :: a8 :: a9 :: a10 :: a11 :: a12 :: a13 :: a14 :: a15 :: a16 :: a17 :: a18 :: a19 :: a20 :: a21 :: a22 :: a23 :: a24 :: a25 :: a26 :: a27 :: a28 :: a29 :: a30 :: a31 :: a32 :: a33 :: o :: l).toArray[34]? = some o := nthS nth33
theorem nth35 {a0 a1 a2 a3 a4 a5 a6 a7 a8 a9 a10 a11 a12 a13 a14 a15 a16 a17 a18 a19 a20 a21 a22 a23 a24 a25 a26 a27 a28 a29 a30 a31 a32 a33 a34 o : Oper} {l : List Oper} : (a0 :: a1 :: a2 :: a3 :: a4 :: a5 :: a6 :: a7 :: a8 :: a9 :: a10 :: a11 :: a12 :: a13 :: a14 :: a15 :: a16 :: a17 :: a18 :: a19 :: a20 :: a21 :: a22 :: a23 :: a24 :: a25 :: a26 :: a27 :: a28 :: a29 :: a30 :: a31 :: a32 :: a33 :: a34 :: o :: l).toArray[35]? = some o := nthS nth34
theorem nth36 {a0 a1 a2 a3 a4 a5 a6 a7 a8 a9 a10 a11 a12 a13 a14 a15 a16 a17 a18 a19 a20 a21 a22 a23 a24 a25 a26 a27 a28 a29 a30 a31 a32 a33 a34 a35 o : Oper} {l : List Oper} : (a0 :: a1 :: a2 :: a3 :: a4 :: a5 :: a6 :: a7 :: a8 :: a9 :: a10 :: a11 :: a12 :: a13 :: a14 :: a15 :: a16 :: a17 :: a18 :: a19 :: a20 :: a21 :: a22 :: a23 :: a24 :: a25 :: a26 :: a27 :: a28 :: a29 :: a30 :: a31 :: a32 :: a33 :: a34 :: a35 :: o :: l).toArray[36]? = some o := nthS nth35
theorem nth37 {a0 a1 a2 a3 a4 a5 a6 a7 a8 a9 a10 a11 a12 a13 a14 a15 a16 a17 a18 a19 a20 a21 a22 a23 a24 a25 a26 a27 a28 a29 a30 a31 a32 a33 a34 a35 a36 o : Oper} {l : List Oper} : (a0 :: a1 :: a2 :: a3 :: a4 :: a5 :: a6 :: a7 :: a8 :: a9 :: a10 :: a11 :: a12 :: a13 :: a14 :: a15 :: a16 :: a17 :: a18 :: a19 :: a20 :: a21 :: a22 :: a23 :: a24 :: a25 :: a26 :: a27 :: a28 :: a29 :: a30 :: a31 :: a32 :: a33 :: a34 :: a35 :: a36 :: o :: l).toArray[37]? = some o := nthS nth36
theorem nth38 {a0 a1 a2 a3 a4 a5 a6 a7 a8 a9 a10 a11 a12 a13 a14 a15 a16 a17 a18 a19 a20 a21 a22 a23 a24 a25 a26 a27 a28 a29 a30 a31 a32 a33 a34 a35 a36 a37 o : Oper} {l : List Oper} : (a0 :: a1 :: a2 :: a3 :: a4 :: a5 :: a6 :: a7 :: a8 :: a9 :: a10 :: a11 :: a12 :: a13 :: a14 :: a15 :: a16 :: a17 :: a18 :: a19 :: a20 :: a21 :: a22 :: a23 :: a24 :: a25 :: a26 :: a27 :: a28 :: a29 :: a30 :: a31 :: a32 :: a33 :: a34 :: a35 :: a36 :: a37 :: o :: l).toArray[38]? = some o := nthS nth37
theorem nth39 {a0 a1 a2 a3 a4 a5 a6 a7 a8 a9 a10 a11 a12 a13 a14 a15 a16 a17 a18 a19 a20 a21 a22 a23 a24 a25 a26 a27 a28 a29 a30 a31 a32 a33 a34 a35 a36 a37 a38 o : Oper} {l : List Oper} : (a0 :: a1 :: a2 :: a3 :: a4 :: a5 :: a6 :: a7 :: a8 :: a9 :: a10 :: a11 :: a12 :: a13 :: a14 :: a15 :: a16 :: a17 :: a18 :: a19 :: a20 :: a21 :: a22 :: a23 :: a24 :: a25 :: a26 :: a27 :: a28 :: a29 :: a30 :: a31 :: a32 :: a33 :: a34 :: a35 :: a36 :: a37 :: a38 :: o :: l).toArray[39]? = some o := nthS nth38
theorem nth40 {a0 a1 a2 a3 a4 a5 a6 a7 a8 a9 a10 a11 a12 a13 a14 a15 a16 a17 a18 a19 a20 a21 a22 a23 a24 a25 a26 a27 a28 a29 a30 a31 a32 a33 a34 a35 a36 a37 a38 a39 o : Oper} {l : List Oper} : (a0 :: a1 :: a2 :: a3 :: a4 :: a5 :: a6 :: a7 :: a8 :: a9 :: a10 :: a11 :: a12 :: a13 :: a14 :: a15 :: a16 :: a17 :: a18 :: a19 :: a20 :: a21 :: a22 :: a23 :: a24 :: a25 :: a26 :: a27 :: a28 :: a29 :: a30 :: a31 :: a32 :: a33 :: a34 :: a35 :: a36 :: a37 :: a38 :: a39 :: o :: l).toArray[40]? = some o := nthS nth39
theorem nth41 {a0 a1 a2 a3 a4 a5 a6 a7 a8 a9 a10 a11 a12 a13 a14 a15 a16 a17 a18 a19 a20 a21 a22 a23 a24 a25 a26 a27 a28 a29 a30 a31 a32 a33 a34 a35 a36 a37 a38 a39 a40 o : Oper} {l : List Oper} : (a0 :: a1 :: a2 :: a3 :: a4 :: a5 :: a6 :: a7 :: a8 :: a9 :: a10 :: a11 :: a12 :: a13 :: a14 :: a15 :: a16 :: a17 :: a18 :: a19 :: a20 :: a21 :: a22 :: a23 :: a24 :: a25 :: a26 :: a27 :: a28 :: a29 :: a30 :: a31 :: a32 :: a33 :: a34 :: a35 :: a36 :: a37 :: a38 :: a39 :: a40 :: o :: l).toArray[41]? = some o := nthS nth40
theorem nth42 {a0 a1 a2 a3 a4 a5 a6 a7 a8 a9 a10 a11 a12 a13 a14 a15 a16 a17 a18 a19 a20 a21 a22 a23 a24 a25 a26 a27 a28 a29 a30 a31 a32 a33 a34 a35 a36 a37 a38 a39 a40 a41 o : Oper} {l : List Oper} : (a0 :: a1 :: a2 :: a3 :: a4 :: a5 :: a6 :: a7 :: a8 :: a9 :: a10 :: a11 :: a12 :: a13 :: a14 :: a15 :: a16 :: a17 :: a18 :: a19 :: a20 :: a21 :: a22 :: a23 :: a24 :: a25 :: a26 :: a27 :: a28 :: a29 :: a30 :: a31 :: a32 :: a33 :: a34 :: a35 :: a36 :: a37 :: a38 :: a39 :: a40 :: a41 :: o :: l).toArray[42]? = some o := nthS nth41
theorem nth43 {a0 a1 a2 a3 a4 a5 a6 a7 a8 a9 a10 a11 a12 a13 a14 a15 a16 a17 a18 a19 a20 a21 a22 a23 a24 a25 a26 a27 a28 a29 a30 a31 a32 a33 a34 a35 a36 a37 a38 a39 a40 a41 a42 o : Oper} {l : List Oper} : (a0 :: a1 :: a2 :: a3 :: a4 :: a5 :: a6 :: a7 :: a8 :: a9 :: a10 :: a11 :: a12 :: a13 :: a14 :: a15 :: a16 :: a17 :: a18 :: a19 :: a20 :: a21 :: a22 :: a23 :: a24 :: a25 :: a26 :: a27 :: a28 :: a29 :: a30 :: a31 :: a32 :: a33 :: a34 :: a35 :: a36 :: a37 :: a38 :: a39 :: a40 :: a41 :: a42 :: o :: l).toArray[43]? = some o := nthS nth42
theorem nth44 {a0 a1 a2 a3 a4 a5 a6 a7 a8 a9 a10 a11 a12 a13 a14 a15 a16 a17 a18 a19 a20 a21 a22 a23 a24 a25 a26 a27 a28 a29 a30 a31 a32 a33 a34 a35 a36 a37 a38 a39 a40 a41 a42 a43 o : Oper} {l : List Oper} : (a0 :: a1 :: a2 :: a3 :: a4 :: a5 :: a6 :: a7 :: a8 :: a9 :: a10 :: a11 :: a12 :: a13 :: a14 :: a15 :: a16 :: a17 :: a18 :: a19 :: a20 :: a21 :: a22 :: a23 :: a24 :: a25 :: a26 :: a27 :: a28 :: a29 :: a30 :: a31 :: a32 :: a33 :: a34 :: a35 :: a36 :: a37 :: a38 :: a39 :: a40 :: a41 :: a42 :: a43 :: o :: l).toArray[44]? = some o := nthS nth43
theorem nth45 {a0 a1 a2 a3 a4 a5 a6 a7 a8 a9 a10 a11 a12 a13 a14 a15 a16 a17 a18 a19 a20 a21 a22 a23 a24 a25 a26 a27 a28 a29 a30 a31 a32 a33 a34 a35 a36 a37 a38 a39 a40 a41 a42 a43 a44 o : Oper} {l : List Oper} : (a0 :: a1 :: a2 :: a3 :: a4 :: a5 :: a6 :: a7 :: a8 :: a9 :: a10 :: a11 :: a12 :: a13 :: a14 :: a15 :: a16 :: a17 :: a18 :: a19 :: a20 :: a21 :: a22 :: a23 :: a24 :: a25 :: a26 :: a27 :: a28 :: a29 :: a30 :: a31 :: a32 :: a33 :: a34 :: a35 :: a36 :: a37 :: a38 :: a39 :: a40 :: a41 :: a42 :: a43 :: a44 :: o :: l).toArray[45]? = some o := nthS nth44
theorem nth46 {a0 a1 a2 a3 a4 a5 a6 a7 a8 a9 a10 a11 a12 a13 a14 a15 a16 a17 a18 a19 a20 a21 a22 a23 a24 a25 a26 a27 a28 a29 a30 a31 a32 a33 a34 a35 a36 a37 a38 a39 a40 a41 a42 a43 a44 a45 o : Oper} {l : List Oper} : (a0 :: a1 :: a2 :: a3 :: a4 :: a5 :: a6 :: a7 :: a8 :: a9 :: a10 :: a11 :: a12 :: a13 :: a14 :: a15 :: a16 :: a17 :: a18 :: a19 :: a20 :: a21 :: a22 :: a23 :: a24 :: a25 :: a26 :: a27 :: a28 :: a29 :: a30 :: a31 :: a32 :: a33 :: a34 :: a35 :: a36 :: a37 :: a38 :: a39 :: a40 :: a41 :: a42 :: a43 :: a44 :: a45 :: o :: l).toArray[46]? = some o := nthS nth45
theorem nth47 {a0 a1 a2 a3 a4 a5 a6 a7 a8 a9 a10 a11 a12 a13 a14 a15 a16 a17 a18 a19 a20 a21 a22 a23 a24 a25 a26 a27 a28 a29 a30 a31 a32 a33 a34 a35 a36 a37 a38 a39 a40 a41 a42 a43 a44 a45 a46 o : Oper} {l : List Oper} : (a0 :: a1 :: a2 :: a3 :: a4 :: a5 :: a6 :: a7 :: a8 :: a9 :: a10 :: a11 :: a12 :: a13 :: a14 :: a15 :: a16 :: a17 :: a18 :: a19 :: a20 :: a21 :: a22 :: a23 :: a24 :: a25 :: a26 :: a27 :: a28 :: a29 :: a30 :: a31 :: a32 :: a33 :: a34 :: a35 :: a36 :: a37 :: a38 :: a39 :: a40 :: a41 :: a42 :: a43 :: a44 :: a45 :: a46 :: o :: l).toArray[47]? = some o := nthS nth46
theorem nth48 {a0 a1 a2 a3 a4 a5 a6 a7 a8 a9 a10 a11 a12 a13 a14 a15 a16 a17 a18 a19 a20 a21 a22 a23 a24 a25 a26 a27 a28 a29 a30 a31 a32 a33 a34 a35 a36 a37 a38 a39 a40 a41 a42 a43 a44 a45 a46 a47 o : Oper} {l : List Oper} : (a0 :: a1 :: a2 :: a3 :: a4 :: a5 :: a6 :: a7 :: a8 :: a9 :: a10 :: a11 :: a12 :: a13 :: a14 :: a15 :: a16 :: a17 :: a18 :: a19 :: a20 :: a21 :: a22 :: a23 :: a24 :: a25 :: a26 :: a27 :: a28 :: a29 :: a30 :: a31 :: a32 :: a33 :: a34 :: a35 :: a36 :: a37 :: a38 :: a39 :: a40 :: a41 :: a42 :: a43 :: a44 :: a45 :: a46 :: a47 :: o :: l).toArray[48]? = some o := nthS nth47
theorem nth49 {a0 a1 a2 a3 a4 a5 a6 a7 a8 a9 a10 a11 a12 a13 a14 a15 a16 a17 a18 a19 a20 a21 a22 a23 a24 a25 a26 a27 a28 a29 a30 a31 a32 a33 a34 a35 a36 a37 a38 a39 a40 a41 a42 a43 a44 a45 a46 a47 a48 o : Oper} {l : List Oper} : (a0 :: a1 :: a2 :: a3 :: a4 :: a5 :: a6 :: a7 :: a8 :: a9 :: a10 :: a11 :: a12 :: a13 :: a14 :: a15 :: a16 :: a17 :: a18 :: a19 :: a20 :: a21 :: a22 :: a23 :: a24 :: a25 :: a26 :: a27 :: a28 :: a29 :: a30 :: a31 :: a32 :: a33 :: a34 :: a35 :: a36 :: a37 :: a38 :: a39 :: a40 :: a41 :: a42 :: a43 :: a44 :: a45 :: a46 :: a47 :: a48 :: o :: l).toArray[49]? = some o := nthS nth48
theorem nth50 {a0 a1 a2 a3 a4 a5 a6 a7 a8 a9 a10 a11 a12 a13 a14 a15 a16 a17 a18 a19 a20 a21 a22 a23 a24 a25 a26 a27 a28 a29 a30 a31 a32 a33 a34 a35 a36 a37 a38 a39 a40 a41 a42 a43 a44 a45 a46 a47 a48 a49 o : Oper} {l : List Oper} : (a0 :: a1 :: a2 :: a3 :: a4 :: a5 :: a6 :: a7 :: a8 :: a9 :: a10 :: a11 :: a12 :: a13 :: a14 :: a15 :: a16 :: a17 :: a18 :: a19 :: a20 :: a21 :: a22 :: a23 :: a24 :: a25 :: a26 :: a27 :: a28 :: a29 :: a30 :: a31 :: a32 :: a33 :: a34 :: a35 :: a36 :: a37 :: a38 :: a39 :: a40 :: a41 :: a42 :: a43 :: a44 :: a45 :: a46 :: a47 :: a48 :: a49 :: o :: l).toArray[50]? = some o := nthS nth49
theorem nth51 {a0 a1 a2 a3 a4 a5 a6 a7 a8 a9 a10 a11 a12 a13 a14 a15 a16 a17 a18 a19 a20 a21 a22 a23 a24 a25 a26 a27 a28 a29 a30 a31 a32 a33 a34 a35 a36 a37 a38 a39 a40 a41 a42 a43 a44 a45 a46 a47 a48 a49 a50 o : Oper} {l : List Oper} : (a0 :: a1 :: a2 :: a3 :: a4 :: a5 :: a6 :: a7 :: a8 :: a9 :: a10 :: a11 :: a12 :: a13 :: a14 :: a15 :: a16 :: a17 :: a18 :: a19 :: a20 :: a21 :: a22 :: a23 :: a24 :: a25 :: a26 :: a27 :: a28 :: a29 :: a30 :: a31 :: a32 :: a33 :: a34 :: a35 :: a36 :: a37 :: a38 :: a39 :: a40 :: a41 :: a42 :: a43 :: a44 :: a45 :: a46 :: a47 :: a48 :: a49 :: a50 :: o :: l).toArray[51]? = some o := nthS nth50
theorem nth52 {a0 a1 a2 a3 a4 a5 a6 a7 a8 a9 a10 a11 a12 a13 a14 a15 a16 a17 a18 a19 a20 a21 a22 a23 a24 a25 a26 a27 a28 a29 a30 a31 a32 a33 a34 a35 a36 a37 a38 a39 a40 a41 a42 a43 a44 a45 a46 a47 a48 a49 a50 a51 o : Oper} {l : List Oper} : (a0 :: a1 :: a2 :: a3 :: a4 :: a5 :: a6 :: a7 :: a8 :: a9 :: a10 :: a11 :: a12 :: a13 :: a14 :: a15 :: a16 :: a17 :: a18 :: a19 :: a20 :: a21 :: a22 :: a23 :: a24 :: a25 :: a26 :: a27 :: a28 :: a29 :: a30 :: a31 :: a32 :: a33 :: a34 :: a35 :: a36 :: a37 :: a38 :: a39 :: a40 :: a41 :: a42 :: a43 :: a44 :: a45 :: a46 :: a47 :: a48 :: a49 :: a50 :: a51 :: o :: l).toArray[52]? = some o := nthS nth51
theorem nth53 {a0 a1 a2 a3 a4 a5 a6 a7 a8 a9 a10 a11 a12 a13 a14 a15 a16 a17 a18 a19 a20 a21 a22 a23 a24 a25 a26 a27 a28 a29 a30 a31 a32 a33 a34 a35 a36 a37 a38 a39 a40 a41 a42 a43 a44 a45 a46 a47 a48 a49 a50 a51 a52 o : Oper} {l : List Oper} : (a0 :: a1 :: a2 :: a3 :: a4 :: a5 :: a6 :: a7 :: a8 :: a9 :: a10 :: a11 :: a12 :: a13 :: a14 :: a15 :: a16 :: a17 :: a18 :: a19 :: a20 :: a21 :: a22 :: a23 :: a24 :: a25 :: a26 :: a27 :: a28 :: a29 :: a30 :: a31 :: a32 :: a33 :: a34 :: a35 :: a36 :: a37 :: a38 :: a39 :: a40 :: a41 :: a42 :: a43 :: a44 :: a45 :: a46 :: a47 :: a48 :: a49 :: a50 :: a51 :: a52 :: o :: l).toArray[53]? = some o := nthS nth52
theorem nth54 {a0 a1 a2 a3 a4 a5 a6 a7 a8 a9 a10 a11 a12 a13 a14 a15 a16 a17 a18 a19 a20 a21 a22 a23 a24 a25 a26 a27 a28 a29 a30 a31 a32 a33 a34 a35 a36 a37 a38 a39 a40 a41 a42 a43 a44 a45 a46 a47 a48 a49 a50 a51 a52 a53 o : Oper} {l : List Oper} : (a0 :: a1 :: a2 :: a3 :: a4 :: a5 :: a6 :: a7 :: a8 :: a9 :: a10 :: a11 :: a12 :: a13 :: a14 :: a15 :: a16 :: a17 :: a18 :: a19 :: a20 :: a21 :: a22 :: a23 :: a24 :: a25 :: a26 :: a27 :: a28 :: a29 :: a30 :: a31 :: a32 :: a33 :: a34 :: a35 :: a36 :: a37 :: a38 :: a39 :: a40 :: a41 :: a42 :: a43 :: a44 :: a45 :: a46 :: a47 :: a48 :: a49 :: a50 :: a51 :: a52 :: a53 :: o :: l).toArray[54]? = some o := nthS nth53
theorem nth55 {a0 a1 a2 a3 a4 a5 a6 a7 a8 a9 a10 a11 a12 a13 a14 a15 a16 a17 a18 a19 a20 a21 a22 a23 a24 a25 a26 a27 a28 a29 a30 a31 a32 a33 a34 a35 a36 a37 a38 a39 a40 a41 a42 a43 a44 a45 a46 a47 a48 a49 a50 a51 a52 a53 a54 o : Oper} {l : List Oper} : (a0 :: a1 :: a2 :: a3 :: a4 :: a5 :: a6 :: a7 :: a8 :: a9 :: a10 :: a11 :: a12 :: a13 :: a14 :: a15 :: a16 :: a17 :: a18 :: a19 :: a20 :: a21 :: a22 :: a23 :: a24 :: a25 :: a26 :: a27 :: a28 :: a29 :: a30 :: a31 :: a32 :: a33 :: a34 :: a35 :: a36 :: a37 :: a38 :: a39 :: a40 :: a41 :: a42 :: a43 :: a44 :: a45 :: a46 :: a47 :: a48 :: a49 :: a50 :: a51 :: a52 :: a53 :: a54 :: o :: l).toArray[55]? = some o := nthS nth54
theorem nth56 {a0 a1 a2 a3 a4 a5 a6 a7 a8 a9 a10 a11 a12 a13 a14 a15 a16 a17 a18 a19 a20 a21 a22 a23 a24 a25 a26 a27 a28 a29 a30 a31 a32 a33 a34 a35 a36 a37 a38 a39 a40 a41 a42 a43 a44 a45 a46 a47 a48 a49 a50 a51 a52 a53 a54 a55 o : Oper} {l : List Oper} : (a0 :: a1 :: a2 :: a3 :: a4 :: a5 :: a6 :: a7 :: a8 :: a9 :: a10 :: a11 :: a12 :: a13 :: a14 :: a15 :: a16 :: a17 :: a18 :: a19 :: a20 :: a21 :: a22 :: a23 :: a24 :: a25 :: a26 :: a27 :: a28 :: a29 :: a30 :: a31 :: a32 :: a33 :: a34 :: a35 :: a36 :: a37 :: a38 :: a39 :: a40 :: a41 :: a42 :: a43 :: a44 :: a45 :: a46 :: a47 :: a48 :: a49 :: a50 :: a51 :: a52 :: a53 :: a54 :: a55 :: o :: l).toArray[56]? = some o := nthS nth55
theorem nth57 {a0 a1 a2 a3 a4 a5 a6 a7 a8 a9 a10 a11 a12 a13 a14 a15 a16 a17 a18 a19 a20 a21 a22 a23 a24 a25 a26 a27 a28 a29 a30 a31 a32 a33 a34 a35 a36 a37 a38 a39 a40 a41 a42 a43 a44 a45 a46 a47 a48 a49 a50 a51 a52 a53 a54 a55 a56 o : Oper} {l : List Oper} : (a0 :: a1 :: a2 :: a3 :: a4 :: a5 :: a6 :: a7 :: a8 :: a9 :: a10 :: a11 :: a12 :: a13 :: a14 :: a15 :: a16 :: a17 :: a18 :: a19 :: a20 :: a21 :: a22 :: a23 :: a24 :: a25 :: a26 :: a27 :: a28 :: a29 :: a30 :: a31 :: a32 :: a33 :: a34 :: a35 :: a36 :: a37 :: a38 :: a39 :: a40 :: a41 :: a42 :: a43 :: a44 :: a45 :: a46 :: a47 :: a48 :: a49 :: a50 :: a51 :: a52 :: a53 :: a54 :: a55 :: a56 :: o :: l).toArray[57]? = some o := nthS nth56
theorem nth58 {a0 a1 a2 a3 a4 a5 a6 a7 a8 a9 a10 a11 a12 a13 a14 a15 a16 a17 a18 a19 a20 a21 a22 a23 a24 a25 a26 a27 a28 a29 a30 a31 a32 a33 a34 a35 a36 a37 a38 a39 a40 a41 a42 a43 a44 a45 a46 a47 a48 a49 a50 a51 a52 a53 a54 a55 a56 a57 o : Oper} {l : List Oper} : (a0 :: a1 :: a2 :: a3 :: a4 :: a5 :: a6 :: a7 :: a8 :: a9 :: a10 :: a11 :: a12 :: a13 :: a14 :: a15 :: a16 :: a17 :: a18 :: a19 :: a20 :: a21 :: a22 :: a23 :: a24 :: a25 :: a26 :: a27 :: a28 :: a29 :: a30 :: a31 :: a32 :: a33 :: a34 :: a35 :: a36 :: a37 :: a38 :: a39 :: a40 :: a41 :: a42 :: a43 :: a44 :: a45 :: a46 :: a47 :: a48 :: a49 :: a50 :: a51 :: a52 :: a53 :: a54 :: a55 :: a56 :: a57 :: o :: l).toArray[58]? = some o := nthS nth57
theorem nth59 {a0 a1 a2 a3 a4 a5 a6 a7 a8 a9 a10 a11 a12 a13 a14 a15 a16 a17 a18 a19 a20 a21 a22 a23 a24 a25 a26 a27 a28 a29 a30 a31 a32 a33 a34 a35 a36 a37 a38 a39 a40 a41 a42 a43 a44 a45 a46 a47 a48 a49 a50 a51 a52 a53 a54 a55 a56 a57 a58 o : Oper} {l : List Oper} : (a0 :: a1 :: a2 :: a3 :: a4 :: a5 :: a6 :: a7 :: a8 :: a9 :: a10 :: a11 :: a12 :: a13 :: a14 :: a15 :: a16 :: a17 :: a18 :: a19 :: a20 :: a21 :: a22 :: a23 :: a24 :: a25 :: a26 :: a27 :: a28 :: a29 :: a30 :: a31 :: a32 :: a33 :: a34 :: a35 :: a36 :: a37 :: a38 :: a39 :: a40 :: a41 :: a42 :: a43 :: a44 :: a45 :: a46 :: a47 :: a48 :: a49 :: a50 :: a51 :: a52 :: a53 :: a54 :: a55 :: a56 :: a57 :: a58 :: o :: l).toArray[59]? = some o := nthS nth58
theorem nth60 {a0 a1 a2 a3 a4 a5 a6 a7 a8 a9 a10 a11 a12 a13 a14 a15 a16 a17 a18 a19 a20 a21 a22 a23 a24 a25 a26 a27 a28 a29 a30 a31 a32 a33 a34 a35 a36 a37 a38 a39 a40 a41 a42 a43 a44 a45 a46 a47 a48 a49 a50 a51 a52 a53 a54 a55 a56 a57 a58 a59 o : Oper} {l : List Oper} : (a0 :: a1 :: a2 :: a3 :: a4 :: a5 :: a6 :: a7 :: a8 :: a9 :: a10 :: a11 :: a12 :: a13 :: a14 :: a15 :: a16 :: a17 :: a18 :: a19 :: a20 :: a21 :: a22 :: a23 :: a24 :: a25 :: a26 :: a27 :: a28 :: a29 :: a30 :: a31 :: a32 :: a33 :: a34 :: a35 :: a36 :: a37 :: a38 :: a39 :: a40 :: a41 :: a42 :: a43 :: a44 :: a45 :: a46 :: a47 :: a48 :: a49 :: a50 :: a51 :: a52 :: a53 :: a54 :: a55 :: a56 :: a57 :: a58 :: a59 :: o :: l).toArray[60]? = some o := nthS nth59
theorem nth61 {a0 a1 a2 a3 a4 a5 a6 a7 a8 a9 a10 a11 a12 a13 a14 a15 a16 a17 a18 a19 a20 a21 a22 a23 a24 a25 a26 a27 a28 a29 a30 a31 a32 a33 a34 a35 a36 a37 a38 a39 a40 a41 a42 a43 a44 a45 a46 a47 a48 a49 a50 a51 a52 a53 a54 a55 a56 a57 a58 a59 a60 o : Oper} {l : List Oper} : (a0 :: a1 :: a2 :: a3 :: a4 :: a5 :: a6 :: a7 :: a8 :: a9 :: a10 :: a11 :: a12 :: a13 :: a14 :: a15 :: a16 :: a17 :: a18 :: a19 :: a20 :: a21 :: a22 :: a23 :: a24 :: a25 :: a26 :: a27 :: a28 :: a29 :: a30 :: a31 :: a32 :: a33 :: a34 :: a35 :: a36 :: a37 :: a38 :: a39 :: a40 :: a41 :: a42 :: a43 :: a44 :: a45 :: a46 :: a47 :: a48 :: a49 :: a50 :: a51 :: a52 :: a53 :: a54 :: a55 :: a56 :: a57 :: a58 :: a59 :: a60 :: o :: l).toArray[61]? = some o := nthS nth60
theorem nth62 {a0 a1 a2 a3 a4 a5 a6 a7 a8 a9 a10 a11 a12 a13 a14 a15 a16 a17 a18 a19 a20 a21 a22 a23 a24 a25 a26 a27 a28 a29 a30 a31 a32 a33 a34 a35 a36 a37 a38 a39 a40 a41 a42 a43 a44 a45 a46 a47 a48 a49 a50 a51 a52 a53 a54 a55 a56 a57 a58 a59 a60 a61 o : Oper} {l : List Oper} : (a0 :: a1 :: a2 :: a3 :: a4 :: a5 :: a6 :: a7 :: a8 :: a9 :: a10 :: a11 :: a12 :: a13 :: a14 :: a15 :: a16 :: a17 :: a18 :: a19 :: a20 :: a21 :: a22 :: a23 :: a24 :: a25 :: a26 :: a27 :: a28 :: a29 :: a30 :: a31 :: a32 :: a33 :: a34 :: a35 :: a36 :: a37 :: a38 :: a39 :: a40 :: a41 :: a42 :: a43 :: a44 :: a45 :: a46 :: a47 :: a48 :: a49 :: a50 :: a51 :: a52 :: a53 :: a54 :: a55 :: a56 :: a57 :: a58 :: a59 :: a60 :: a61 :: o :: l).toArray[62]? = some o := nthS nth61
theorem nth63 {a0 a1 a2 a3 a4 a5 a6 a7 a8 a9 a10 a11 a12 a13 a14 a15 a16 a17 a18 a19 a20 a21 a22 a23 a24 a25 a26 a27 a28 a29 a30 a31 a32 a33 a34 a35 a36 a37 a38 a39 a40 a41 a42 a43 a44 a45 a46 a47 a48 a49 a50 a51 a52 a53 a54 a55 a56 a57 a58 a59 a60 a61 a62 o : Oper} {l : List Oper} : (a0 :: a1 :: a2 :: a3 :: a4 :: a5 :: a6 :: a7 :: a8 :: a9 :: a10 :: a11 :: a12 :: a13 :: a14 :: a15 :: a16 :: a17 :: a18 :: a19 :: a20 :: a21 :: a22 :: a23 :: a24 :: a25 :: a26 :: a27 :: a28 :: a29 :: a30 :: a31 :: a32 :: a33 :: a34 :: a35 :: a36 :: a37 :: a38 :: a39 :: a40 :: a41 :: a42 :: a43 :: a44 :: a45 :: a46 :: a47 :: a48 :: a49 :: a50 :: a51 :: a52 :: a53 :: a54 :: a55 :: a56 :: a57 :: a58 :: a59 :: a60 :: a61 :: a62 :: o :: l).toArray[63]? = some o := nthS nth62
theorem plan_nil {a : Act} {w : World} (h : Q .normal a w) : wpPlan P ops C Q [] a w := h
theorem plan_quiet {i : Nat} {r : List (Nat × Bool)} {o : Oper} {a : Act} {w : World} (ho : ops[i]? = some o) (hw : Region.wanted o (yielded ops a.tmps) = true)
    (h : ∀ K : Act → Prop, (∀ a, wpPlan P ops C Q r a w → K a) → o.quiet P a C K) : wpPlan P ops C Q ((i, true) :: r) a w :=
  ⟨o, ho, by rw [if_pos hw]; exact h _ fun _ h => h⟩
theorem plan_loud {i : Nat} {r : List (Nat × Bool)} {o : Oper} {a : Act} {w : World} (ho : ops[i]? = some o) (hw : Region.wanted o (yielded ops a.tmps) = true)
    (h : ∀ K : Act → World → Prop, (∀ a w', C w' → wpPlan P ops C Q r a w' → K a w') → o.wp P a w K Q) : wpPlan P ops C Q ((i, false) :: r) a w := by
  show wpOp P ops Q i _ a w
  unfold wpOp
  rw [ho]
  show if Region.wanted o (yielded ops a.tmps) = true then _ else _
  rw [if_pos hw]
  exact .inl (h _ fun _ _ h1 h2 => ⟨h1, h2⟩)
theorem plan_skip_q {i : Nat} {r : List (Nat × Bool)} {o : Oper} {a a' : Act} {w : World} (ho : ops[i]? = some o) (hw : Region.wanted o (yielded ops a.tmps) = false) (ha : a.put o.dst undef = a')
    (h : wpPlan P ops C Q r a' w) : wpPlan P ops C Q ((i, true) :: r) a w := by
  subst ha
  exact ⟨o, ho, by rw [if_neg (by rw [hw]; decide)]; exact h⟩
theorem plan_skip {i : Nat} {b : Bool} {r : List (Nat × Bool)} {o : Oper} {a a' : Act} {w : World} (ho : ops[i]? = some o) (hw : Region.wanted o (yielded ops a.tmps) = false) (ha : a.put o.dst undef = a')
    (hC : C w) (h : wpPlan P ops C Q r a' w) : wpPlan P ops C Q ((i, b) :: r) a w := by
  subst ha
  cases b with
  | true => exact ⟨o, ho, by rw [if_neg (by rw [hw]; decide)]; exact h⟩
  | false =>
    show wpOp P ops Q i _ a w
    unfold wpOp
    rw [ho]
    show if Region.wanted o (yielded ops a.tmps) = true then _ else _
    rw [if_neg (by rw [hw]; decide)]
    exact ⟨hC, h⟩
/-- The plan of a region: quiet operations as soon as they can come, others when alone. -/
def planOf (ops : Array Oper) : Nat → Array Bool → List (Nat × Bool)
  | 0, _ => []
  | f + 1, listed =>
    let rs := Region.ready .any ops listed
    match rs.find? fun i => Region.free .any ops listed i && ((ops[i]?).map fun o => opQuiet o.op).getD false with
    | some i => (i, true) :: planOf ops f (listed.setIfInBounds i true)
    | none => match rs with
      | [] => []
      | i :: _ => (i, false) :: planOf ops f (listed.setIfInBounds i true)
end
end Go.Proofs.YtcpddgkloeklaaaGreatDoor

/- Bounds. -/
set_option linter.unusedSimpArgs false
set_option linter.unusedVariables false
namespace Go.Proofs.YtcpddgkloeklaaaGreatDoor
open Go.RowKit
def inB (x lo hi : Int) : Bool := decide (lo ≤ x) && decide (x ≤ hi)
theorem inB_iff {x lo hi : Int} : inB x lo hi = true ↔ lo ≤ x ∧ x ≤ hi := by simp [inB]
set_option maxHeartbeats 400000 in
theorem within_any (x lo hi : Int) (w : World) :
    Calls Tryz.prog 131 #[.int .i64 x, .int .i64 lo, .int .i64 hi] w (Ret w (.bool (inB x lo hi))) := by
  by_cases h1 : lo ≤ x
  · have H : inB x lo hi = decide (x ≤ hi) := by simp [inB, h1]
    have H' := Lib.hid H
    clear H
    go_enter Tryz.func131, Tryz.ntmps131
    go_wp2
    all_goals go_ret
    all_goals exact .mk (by simp [H'.out, *]) (Below.refl _ _)
  · have H : inB x lo hi = false := by simp [inB, h1]
    have H' := Lib.hid H
    clear H
    go_enter Tryz.func131, Tryz.ntmps131
    go_wp2
    all_goals go_ret
    all_goals exact .mk (by simp [H'.out]) (Below.refl _ _)
theorem within_b {x lo hi : Int} {b : Bool} (w : World) (h : inB x lo hi = b) : Calls Tryz.prog 131 #[.int .i64 x, .int .i64 lo, .int .i64 hi] w (Ret w (.bool b)) := by
  subst h; exact within_any _ _ _ _
set_option maxHeartbeats 400000 in
theorem l01In_any (x lo hi : Int) (w : World) :
    Calls Tryz.prog 130 #[.int .i64 x, .int .i64 lo, .int .i64 hi] w (Ret w (.bool (inB x lo hi))) := by
  by_cases h1 : lo ≤ x
  · have H : inB x lo hi = decide (x ≤ hi) := by simp [inB, h1]
    have H' := Lib.hid H
    clear H
    go_enter Tryz.func130, Tryz.ntmps130
    go_wp2
    all_goals go_ret
    all_goals exact .mk (by simp [H'.out, *]) (Below.refl _ _)
  · have H : inB x lo hi = false := by simp [inB, h1]
    have H' := Lib.hid H
    clear H
    go_enter Tryz.func130, Tryz.ntmps130
    go_wp2
    all_goals go_ret
    all_goals exact .mk (by simp [H'.out]) (Below.refl _ _)
theorem l01In_b {x lo hi : Int} {b : Bool} (w : World) (h : inB x lo hi = b) : Calls Tryz.prog 130 #[.int .i64 x, .int .i64 lo, .int .i64 hi] w (Ret w (.bool b)) := by
  subst h; exact l01In_any _ _ _ _

end Go.Proofs.YtcpddgkloeklaaaGreatDoor

set_option linter.unusedSimpArgs false
set_option linter.unusedVariables false
namespace Go.Proofs.YtcpddgkloeklaaaGreatDoor
open Go.RowKit
/-! ### Worlds in which only the blocks from 'lo' on and below 'hi' have turned, and new ones have come -/
structure Between (lo hi : Nat) (w w' : World) : Prop where
  os : w'.os = w.os
  tape : w'.tape = w.tape
  output : w'.output = w.output
  size : w.heap.size ≤ w'.heap.size
  block : ∀ k, k < w.heap.size → (k < lo ∨ hi ≤ k) → w'.heap[k]? = w.heap[k]?
theorem Between.refl (lo hi : Nat) (w : World) : Between lo hi w w := ⟨rfl, rfl, rfl, Nat.le_refl _, fun _ _ _ => rfl⟩
theorem Between.set {lo hi : Nat} {a w : World} (h : Between lo hi a w) {p : Addr} (h1 : lo ≤ p.block) (h2 : p.block < hi) (u : Value) : Between lo hi a (w.setCell p u) :=
  ⟨h.os, h.tape, h.output, by simpa [World.setCell] using h.size, fun k hk hor => (Below.heap_setCell w p u k (by omega)).trans (h.block k hk hor)⟩
theorem Between.drew {lo hi : Nat} {a w : World} (h : Between lo hi a w) : Between lo hi a w.drew := ⟨h.os, h.tape, h.output, h.size, h.block⟩
theorem Between.drewN {lo hi : Nat} {a w : World} (h : Between lo hi a w) (n : Nat) : Between lo hi a (w.drewN n) := ⟨h.os, h.tape, h.output, h.size, h.block⟩
theorem Between.later {lo hi : Nat} {a w w' : World} (h : Between lo hi a w) (hb : Below w.heap.size w w') : Between lo hi a w' :=
  ⟨hb.os.trans h.os, hb.tape.trans h.tape, hb.output.trans h.output, Nat.le_trans h.size hb.size, fun k hk hor => (hb.block k (Nat.lt_of_lt_of_le hk h.size)).trans (h.block k hk hor)⟩
theorem Between.trans {lo hi : Nat} {a b c : World} (h : Between lo hi a b) (k : Between lo hi b c) : Between lo hi a c :=
  ⟨k.os.trans h.os, k.tape.trans h.tape, k.output.trans h.output, Nat.le_trans h.size k.size, fun i hi' hor => (k.block i (Nat.lt_of_lt_of_le hi' h.size) hor).trans (h.block i hi' hor)⟩
theorem Between.cell {lo hi : Nat} {w w' : World} (h : Between lo hi w w') {p : Addr} (hp : p.block < w.heap.size) (ho : p.block < lo ∨ hi ≤ p.block) : w'.cell? p = w.cell? p := World.cell?_of_block (w := w) (h.block p.block hp ho)
theorem Between.frozen {lo hi : Nat} {w w' : World} (h : Between lo hi w w') {p : Addr} (hp : p.block < w.heap.size) (ho : p.block < lo ∨ hi ≤ p.block) : w'.frozen? p = w.frozen? p := World.frozen?_of_block (w := w) (h.block p.block hp ho)
/-- A world that came out of `W` by writes between `lo` and `hi` alone. -/
structure After (W : World) (lo hi : Nat) where
  w : World
  btw : Between lo hi W w
instance (W : World) (lo hi : Nat) : Nonempty (After W lo hi) := ⟨⟨W, Between.refl _ _ _⟩⟩
@[irreducible] def After.far {W : World} {lo hi : Nat} (x : After W lo hi) (a : Addr) : Option Value := x.w.cell? a
@[irreducible] def After.farFrozen {W : World} {lo hi : Nat} (x : After W lo hi) (a : Addr) : Bool := x.w.frozen? a
theorem After.cell {W : World} {lo hi : Nat} (x : After W lo hi) (b o : Nat) (s : Option Nat) :
    x.w.cell? ⟨b, o, s⟩ = if b < W.heap.size then (if b < lo then W.cell? ⟨b, o, s⟩ else if hi ≤ b then W.cell? ⟨b, o, s⟩ else x.far ⟨b, o, s⟩) else x.far ⟨b, o, s⟩ := by
  split
  · split
    · rename_i h1 h2; exact x.btw.cell h1 (.inl h2)
    · split
      · rename_i h1 h2 h3; exact x.btw.cell h1 (.inr h3)
      · unfold After.far; rfl
  · unfold After.far; rfl
theorem After.frozen {W : World} {lo hi : Nat} (x : After W lo hi) (b o : Nat) (s : Option Nat) :
    x.w.frozen? ⟨b, o, s⟩ = if b < W.heap.size then (if b < lo then W.frozen? ⟨b, o, s⟩ else if hi ≤ b then W.frozen? ⟨b, o, s⟩ else x.farFrozen ⟨b, o, s⟩) else x.farFrozen ⟨b, o, s⟩ := by
  split
  · split
    · rename_i h1 h2; exact x.btw.frozen h1 (.inl h2)
    · split
      · rename_i h1 h2 h3; exact x.btw.frozen h1 (.inr h3)
      · unfold After.farFrozen; rfl
  · unfold After.farFrozen; rfl
attribute [go_sem] After.cell After.frozen
theorem After.out {w W : World} {lo hi : Nat} (x : After W lo hi) (h : Below w.heap.size w W) (hlo : w.heap.size ≤ lo) : Below w.heap.size w x.w :=
  ⟨x.btw.os.trans h.os, x.btw.tape.trans h.tape, x.btw.output.trans h.output, Nat.le_trans h.size x.btw.size, fun k hk => (x.btw.block k (Nat.lt_of_lt_of_le hk h.size) (.inl (by omega))).trans (h.block k hk)⟩
/-- A row that lies elsewhere is as it was. -/
theorem own_btw {w w' : World} {lo hi base e s n : Nat} {v : Value} {xs : List Value} (h : w.ownsRow base e s v n xs) (hb : Between lo hi w w') (ho : ∀ k, v.ownBlock = some k → k < lo ∨ hi ≤ k) : w'.ownsRow base e s v n xs := by
  refine ⟨h.1, ?_⟩
  rcases h.2 with h2 | ⟨g, cap, cur, rfl, hg, hh, r⟩
  · exact .inl h2
  · exact .inr ⟨g, cap, cur, rfl, hg, (hb.block g (Array.getElem?_eq_some_iff.1 hh).1 (ho g rfl)).trans hh, r⟩
theorem Row.btw {w w' : World} {lo hi : Nat} {a : Option Addr} {xs : List Value} (h : Row w a xs) (hb : Between lo hi w w') (ho : ∀ p : Addr, a = some p → p.block < lo ∨ hi ≤ p.block) : Row w' a xs := fun j v hj => by
  obtain ⟨b, o, rfl, hc⟩ := h j v hj
  exact ⟨b, o, rfl, (hb.cell (World.block_lt_of_cell? w _ hc) (ho ⟨b, o, none⟩ rfl)).trans hc⟩
/-- A slice that is owned from `lo` on and lies below `hi`. -/
structure Owns (w : World) (lo hi e s n : Nat) (a : Option Addr) (c : Nat) (xs : List Value) : Prop where
  own : w.ownsRow lo e s (.slice a n c) n xs
  lt : ∀ p : Addr, a = some p → p.block < hi
theorem Owns.of {w : World} {lo e s n : Nat} {a : Option Addr} {c : Nat} {xs : List Value} (h : w.ownsRow lo e s (.slice a n c) n xs) : Owns w lo w.heap.size e s n a c xs :=
  ⟨h, fun p hp => by subst hp; exact (h.lt p.block rfl).2⟩
theorem Owns.ge {w : World} {lo hi e s n : Nat} {a : Option Addr} {c : Nat} {xs : List Value} (h : Owns w lo hi e s n a c xs) : ∀ p : Addr, a = some p → lo ≤ p.block := fun p hp => by subst hp; exact (h.own.lt p.block rfl).1
theorem Owns.bel {w w' : World} {lo hi e s n B : Nat} {a : Option Addr} {c : Nat} {xs : List Value} (h : Owns w lo hi e s n a c xs) (hb : Below B w w') (hB : hi ≤ B) : Owns w' lo hi e s n a c xs :=
  ⟨by
    refine ⟨h.own.1, ?_⟩
    rcases h.own.2 with h2 | ⟨g, cap, cur, hv, hg, hh, r⟩
    · exact .inl h2
    · refine .inr ⟨g, cap, cur, hv, hg, (hb.block g ?_).trans hh, r⟩
      have : a = some ⟨g, 0, none⟩ := by injection hv
      have := h.lt _ this
      simp only at this
      omega, h.lt⟩
theorem Owns.btw {w w' : World} {lo hi lo' hi' e s n : Nat} {a : Option Addr} {c : Nat} {xs : List Value} (h : Owns w lo hi e s n a c xs) (hb : Between lo' hi' w w') (ho : hi ≤ lo' ∨ hi' ≤ lo) : Owns w' lo hi e s n a c xs :=
  ⟨own_btw h.own hb fun k hk => by
    cases a with
    | none => simp [Value.ownBlock] at hk
    | some p =>
      simp only [Value.ownBlock, Option.some.injEq] at hk
      have h1 := h.lt p rfl
      have h2 := h.ge p rfl
      subst hk
      omega, h.lt⟩
theorem Owns.row {w : World} {lo hi e s n : Nat} {a : Option Addr} {c : Nat} {xs : List Value} (h : Owns w lo hi e s n a c xs) : Row w a xs := Row.of_own h.own
theorem Owns.le {w : World} {lo hi e s n : Nat} {a : Option Addr} {c : Nat} {xs : List Value} (h : Owns w lo hi e s n a c xs) : n ≤ maxLen := Row.len_le h.own
theorem Owns.at_ {w : World} {lo hi e s n j : Nat} {a : Option Addr} {c : Nat} {xs : List Value} (h : Owns w lo hi e s n a c xs) (hj : j < n * s) :
    ∃ g, a = some ⟨g, 0, none⟩ ∧ lo ≤ g ∧ g < hi ∧ w.cell? ⟨g, j, none⟩ = xs[j]? ∧ w.frozen? ⟨g, j, none⟩ = false := by
  have hn : 0 < n := by rcases Nat.eq_zero_or_pos n with h0 | h0; (subst h0; simp at hj); exact h0
  obtain ⟨g, ha⟩ : ∃ g, a = some ⟨g, 0, none⟩ := by
    rcases h.own.2 with ⟨_, h0⟩ | ⟨g, cap, cur, hv, _⟩
    · omega
    · exact ⟨g, by injection hv⟩
  subst ha
  exact ⟨g, rfl, h.ge _ rfl, h.lt _ rfl, h.own.cellAt j hj, h.own.frozenAt j⟩
theorem Owns.set {w : World} {lo hi e s n j g : Nat} {c : Nat} {xs : List Value} (h : Owns w lo hi e s n (some ⟨g, 0, none⟩) c xs) (u : Value) : Owns (w.setCell ⟨g, j, none⟩ u) lo hi e s n (some ⟨g, 0, none⟩) c (xs.set j u) :=
  ⟨(h.own.stored j u).1, h.lt⟩
theorem Owns.drewN {w : World} {lo hi e s n : Nat} {a : Option Addr} {c : Nat} {xs : List Value} (h : Owns w lo hi e s n a c xs) (k : Nat) : Owns (w.drewN k) lo hi e s n a c xs := h.bel (B := hi) ⟨rfl, rfl, rfl, Nat.le_refl _, fun _ _ => rfl⟩ (Nat.le_refl _)
/-- The call wrote `cells` over a slice of the caller's own, and nothing else. -/
def RetMark (w : World) (lo hi E n : Nat) (a : Option Addr) (c : Nat) (cells : List Value) (v : Value) (e : Ending) (w' : World) : Prop :=
  e = .returned v ∧ ∃ z : After w lo hi, w' = z.w ∧ Owns z.w lo hi E 1 n a c cells
/-- A world in which the blocks below `B` are as they were. -/
structure LaterB (B : Nat) (W : World) where
  w : World
  bel : Below B W w
instance (B : Nat) (W : World) : Nonempty (LaterB B W) := ⟨⟨W, Below.refl _ _⟩⟩
@[irreducible] def LaterB.far {B : Nat} {W : World} (x : LaterB B W) (a : Addr) : Option Value := x.w.cell? a
theorem LaterB.cell {B : Nat} {W : World} (x : LaterB B W) (b o : Nat) (s : Option Nat) : x.w.cell? ⟨b, o, s⟩ = if b < B then W.cell? ⟨b, o, s⟩ else x.far ⟨b, o, s⟩ := by
  split
  · rename_i h; exact x.bel.cell h
  · unfold LaterB.far; rfl
attribute [go_sem] LaterB.cell
def LaterBC (B : Nat) (W w' : World) : Prop := ∃ x : LaterB B W, w' = x.w
attribute [go_sem] LaterBC
theorem LaterBC.mk {B : Nat} {W w' : World} (h : Below B W w') : LaterBC B W w' := ⟨⟨w', h⟩, rfl⟩
theorem below_common {B : Nat} {w0 W w' : World} (h1 : Below B w0 W) (h2 : Below B w0 w') (hs : W.heap.size ≤ w'.heap.size) : Below B W w' :=
  ⟨h2.os.trans h1.os.symm, h2.tape.trans h1.tape.symm, h2.output.trans h1.output.symm, hs, fun k hk => (h2.block k hk).trans (h1.block k hk).symm⟩
theorem btw_later {lo hi : Nat} {a W : World} (x : Later W) (h : Between lo hi a W) : Between lo hi a x.w := h.later x.bel
theorem btw_alloc {lo hi : Nat} {a W : World} (h : Between lo hi a W) (o : Obj) : Between lo hi a (W.alloc o) := h.later ((Below.refl _ _).alloc (Nat.le_refl _) o)
theorem btw_after {lo hi : Nat} {a W : World} (x : After W lo hi) (h : Between lo hi a W) : Between lo hi a x.w := h.trans x.btw
def AfterC (lo hi : Nat) (W w' : World) : Prop := ∃ x : After W lo hi, w' = x.w
attribute [go_sem] AfterC
theorem AfterC.mk {lo hi : Nat} {W w' : World} (h : Between lo hi W w') : AfterC lo hi W w' := ⟨⟨w', h⟩, rfl⟩
end Go.Proofs.YtcpddgkloeklaaaGreatDoor

/- A drawn region in which one operation (the making of a variable's block) may come at any time among the calls. -/
set_option linter.unusedSimpArgs false
set_option linter.unusedVariables false
namespace Go.Proofs.YtcpddgkloeklaaaGreatDoor
open Go.RowKit
section
variable {P : Program} {ops : Array Oper} {C : World → Prop} {Q : Exit → Act → World → Prop}
/-- `f` floats: at each call it may come first. -/
def wpFloat (P : Program) (ops : Array Oper) (C : World → Prop) (Q : Exit → Act → World → Prop) (f : Nat) : List (Nat × Bool) → Act → World → Prop
  | [], a, w => False
  | (i, true) :: r, a, w => ∃ o, ops[i]? = some o ∧ if Region.wanted o (yielded ops a.tmps) then o.quiet P a C (fun a' => wpFloat P ops C Q f r a' w) else wpFloat P ops C Q f r (a.put o.dst undef) w
  | (i, false) :: r, a, w => if i = f then wpOp P ops Q i (fun a' w' => C w' ∧ wpPlan P ops C Q r a' w') a w else
      wpOp P ops Q i (fun a' w' => C w' ∧ wpFloat P ops C Q f r a' w') a w ∧ wpOp P ops Q f (fun a' w' => C w' ∧ wpPlan P ops C Q ((i, false) :: r.filter (fun x => x.1 != f)) a' w') a w
def floatB (ops : Array Oper) (f : Nat) : List (Nat × Bool) → Array Bool → Bool
  | [], listed => false
  | (i, true) :: r, listed => (Region.ready .any ops listed).contains i && Region.free .any ops listed i && ((ops[i]?).map fun o => opQuiet o.op).getD false && floatB ops f r (listed.setIfInBounds i true)
  | (i, false) :: r, listed => if i = f then Region.ready .any ops listed == [i] && planB ops r (listed.setIfInBounds i true) else
      (Region.ready .any ops listed == [i, f] || Region.ready .any ops listed == [f, i]) && floatB ops f r (listed.setIfInBounds i true) && planB ops ((i, false) :: r.filter (fun x => x.1 != f)) (listed.setIfInBounds f true) &&
        (r.filter (fun x => x.1 != f)).length + 1 == r.length
theorem wpAnyH_of_float (f : Nat) (hs : Region.noSelect ops = true) (hQ : ∀ c a (d : Option Tmp) v w, Q (.panic c) (a.put d v) w → Q (.panic c) a w) :
    ∀ (l : List (Nat × Bool)) (listed : Array Bool) (a : Act) (w : World), floatB ops f l listed = true → C w → wpFloat P ops C Q f l a w → wpAnyH P .any ops Q C l.length listed a w
  | [], listed, a, w, hB, _, h => h.elim
  | (i, true) :: r, listed, a, w, hB, hC, h => by
    simp only [floatB, Bool.and_eq_true] at hB
    obtain ⟨⟨⟨h1, h2⟩, h3⟩, h4⟩ := hB
    obtain ⟨o, ho, hh⟩ := h
    simp only [ho, Option.map_some, Option.getD_some] at h3
    by_cases hw : Region.wanted o (yielded ops a.tmps) = true
    · rw [if_pos hw] at hh
      obtain ⟨v, hv, hn⟩ := hh
      refine wpAnyH_take (v := v) ho hs h2 h1 (fun c a w => hQ c a _ v w) (.inl ⟨hw, fun w' hw' => ?_⟩) hC (wpAnyH_of_float f hs hQ r _ _ _ h4 hC hn)
      have := hv w' hw'
      unfold Oper.quietAt at this
      generalize hr : (execOp a.eval o).run P w' = res at this
      cases res with
      | halt x w1 => simp only [Oper.quietUpon] at this
      | ok n w1 =>
        obtain ⟨u, rfl⟩ := value_of_quiet h3 hr
        simp only [Oper.quietUpon] at this
        rw [this.1, this.2]
    · rw [if_neg hw] at hh
      exact wpAnyH_take (v := undef) ho hs h2 h1 (fun c a w => hQ c a _ undef w) (.inr ⟨by simpa using hw, rfl⟩) hC (wpAnyH_of_float f hs hQ r _ _ _ h4 hC hh)
  | (i, false) :: r, listed, a, w, hB, hC, h => by
    by_cases hif : i = f
    · subst hif
      simp only [floatB, if_true, Bool.and_eq_true, beq_iff_eq] at hB
      simp only [wpFloat, if_true] at h
      refine wpAnyH_all hB.1 (by simp) fun j hj => ?_
      obtain rfl : j = i := by simpa using hj
      exact wpOp_mono (fun a' w' hh => ⟨hh.1, wpAnyH_of_plan hs hQ r _ a' w' hB.2 hh.1 hh.2⟩) h
    · simp only [floatB, if_neg hif, Bool.and_eq_true, Bool.or_eq_true, beq_iff_eq] at hB
      simp only [wpFloat, if_neg hif] at h
      obtain ⟨⟨⟨h1, h2⟩, h3⟩, h4⟩ := hB
      have hlen : ((i, false) :: r.filter (fun x => x.1 != f)).length = r.length := by simp only [List.length_cons]; exact h4
      have both : ∀ j, j ∈ Region.ready .any ops listed → j = i ∨ j = f := fun j hj => by
        rcases h1 with h1 | h1 <;> rw [h1] at hj <;> simp at hj <;> omega
      refine wpAnyH_all (rs := Region.ready .any ops listed) rfl (by rcases h1 with h1 | h1 <;> rw [h1] <;> simp) fun j hj => ?_
      rcases both j hj with rfl | rfl
      · exact wpOp_mono (fun a' w' hh => ⟨hh.1, wpAnyH_of_float f hs hQ r _ a' w' h2 hh.1 hh.2⟩) h.1
      · exact wpOp_mono (fun a' w' hh => ⟨hh.1, hlen ▸ wpAnyH_of_plan hs hQ _ _ a' w' h3 hh.1 hh.2⟩) h.2
theorem wp_region_float {id : Nat} {a : Act} {W : World} {l : List Oper} (f : Nat) (pl : List (Nat × Bool)) (hm : P.follows .mixedOrders = true) (hs : Region.noSelect l.toArray = true)
    (hB : floatB l.toArray f pl (Array.replicate l.toArray.size false) = true) (hl : pl.length = l.toArray.size) (hQ : ∀ c a (d : Option Tmp) v w, Q (.panic c) (a.put d v) w → Q (.panic c) a w)
    (hC : C W.drew) (h : wpFloat P l.toArray C Q f pl a W.drew) : (Code.region id l.toArray true).wp P Q a W :=
  wp_region_held hm (hl ▸ wpAnyH_of_float f hs hQ pl _ _ _ hB hC h)
theorem float_quiet {f i : Nat} {r : List (Nat × Bool)} {o : Oper} {a : Act} {w : World} (ho : ops[i]? = some o) (hw : Region.wanted o (yielded ops a.tmps) = true)
    (h : ∀ K : Act → Prop, (∀ a, wpFloat P ops C Q f r a w → K a) → o.quiet P a C K) : wpFloat P ops C Q f ((i, true) :: r) a w :=
  ⟨o, ho, by rw [if_pos hw]; exact h _ fun _ h => h⟩
theorem float_skip {f i : Nat} {r : List (Nat × Bool)} {o : Oper} {a a' : Act} {w : World} (ho : ops[i]? = some o) (hw : Region.wanted o (yielded ops a.tmps) = false) (ha : a.put o.dst undef = a')
    (h : wpFloat P ops C Q f r a' w) : wpFloat P ops C Q f ((i, true) :: r) a w := by
  subst ha
  exact ⟨o, ho, by rw [if_neg (by rw [hw]; decide)]; exact h⟩
theorem op_loud {i : Nat} {o : Oper} {a : Act} {w : World} {K0 : Act → World → Prop} (ho : ops[i]? = some o) (hw : Region.wanted o (yielded ops a.tmps) = true)
    (h : ∀ K : Act → World → Prop, (∀ a w', K0 a w' → K a w') → o.wp P a w K Q) : wpOp P ops Q i K0 a w := by
  unfold wpOp
  rw [ho]
  show if Region.wanted o (yielded ops a.tmps) = true then _ else _
  rw [if_pos hw]
  exact .inl (h _ fun _ _ h1 => h1)
theorem float_fork {f i : Nat} {r : List (Nat × Bool)} {o o' : Oper} {a : Act} {w : World} (hif : (i == f) = false) (ho : ops[i]? = some o) (ho' : ops[f]? = some o') (hw : Region.wanted o (yielded ops a.tmps) = true) (hw' : Region.wanted o' (yielded ops a.tmps) = true)
    (h : ∀ K : Act → World → Prop, (∀ a w', C w' → wpFloat P ops C Q f r a w' → K a w') → o.wp P a w K Q)
    (h' : ∀ K : Act → World → Prop, (∀ a w', C w' → wpPlan P ops C Q ((i, false) :: r.filter (fun x => x.1 != f)) a w' → K a w') → o'.wp P a w K Q) : wpFloat P ops C Q f ((i, false) :: r) a w := by
  simp only [beq_eq_false_iff_ne] at hif
  simp only [wpFloat, if_neg hif]
  exact ⟨op_loud ho hw fun K hK => h K fun a w' h1 h2 => hK a w' ⟨h1, h2⟩, op_loud ho' hw' fun K hK => h' K fun a w' h1 h2 => hK a w' ⟨h1, h2⟩⟩
theorem float_last {f : Nat} {r : List (Nat × Bool)} {o : Oper} {a : Act} {w : World} (ho : ops[f]? = some o) (hw : Region.wanted o (yielded ops a.tmps) = true)
    (h : ∀ K : Act → World → Prop, (∀ a w', C w' → wpPlan P ops C Q r a w' → K a w') → o.wp P a w K Q) : wpFloat P ops C Q f ((f, false) :: r) a w := by
  simp only [wpFloat, if_true]
  exact op_loud ho hw fun K hK => h K fun a w' h1 h2 => hK a w' ⟨h1, h2⟩
end
theorem alloc_cell_if (w : World) (c : Array Value) (t b i : Nat) : (w.alloc (.cells c t)).cell? ⟨b, i, none⟩ = if b < w.heap.size then w.cell? ⟨b, i, none⟩ else if b = w.heap.size then c[i]? else none := by
  by_cases h : b < w.heap.size
  · rw [if_pos h]; exact World.cell?_alloc_lt w _ _ h
  · rw [if_neg h]
    by_cases h2 : b = w.heap.size
    · rw [if_pos h2]; exact World.cell?_alloc_at c t b i h2
    · rw [if_neg h2]
      have : (w.alloc (.cells c t)).heap[b]? = none := Array.getElem?_eq_none (by simp; omega)
      simp [World.cell?, this]
theorem alloc_frozen_if (w : World) (c : Array Value) (t b i : Nat) : (w.alloc (.cells c t)).frozen? ⟨b, i, none⟩ = if b < w.heap.size then w.frozen? ⟨b, i, none⟩ else false := by
  by_cases h : b < w.heap.size
  · rw [if_pos h]; exact World.frozen?_of_block (w := w) (Below.heap_alloc w _ b h)
  · rw [if_neg h]
    by_cases h2 : b = w.heap.size
    · exact World.frozen?_alloc_at c t b i h2
    · have : (w.alloc (.cells c t)).heap[b]? = none := Array.getElem?_eq_none (by simp; omega)
      simp [World.frozen?, this]
attribute [go_sem low] alloc_cell_if alloc_frozen_if
end Go.Proofs.YtcpddgkloeklaaaGreatDoor

/- Words and phrases: the library's Trim and Split, what the program and the reference say of a word and of a phrase. -/
set_option linter.unusedSimpArgs false
set_option linter.unusedVariables false
namespace Go.Proofs.YtcpddgkloeklaaaGreatDoor
open Go.RowKit
/-- The library's variable MaxLen holds some number. -/
def Max (w : World) : Prop := ∃ m, w.cell? ⟨Tryz.laysM146_ren.g 1, 0, none⟩ = some (.int .i64 m)
theorem Max.bel {w w' : World} (h : Max w) (hb : Below w.heap.size w w') : Max w' := by
  obtain ⟨m, hm⟩ := h
  exact ⟨m, (hb.cell (World.block_lt_of_cell? w _ hm)).trans hm⟩
theorem Max.of {w : World} (h : w.ShapedOpen Tryz.prog) : Max w := Tryz.laysM146.s1_3 w h
/-- A string as its bytes. -/
def bytesOf (l : List UInt8) : ByteArray := ⟨l.toArray⟩
theorem bytesOf_data (s : ByteArray) : bytesOf s.data.toList = s := by cases s; simp [bytesOf]
theorem data_bytesOf (l : List UInt8) : (bytesOf l).data.toList = l := by simp [bytesOf]
theorem size_bytesOf (l : List UInt8) : (bytesOf l).size = l.length := by simp [bytesOf, ByteArray.size]
/-- The pieces of a string between the bytes `c`. -/
def piecesS (c : UInt8) (s : ByteArray) : List ByteArray := (splitL c s.data.toList).map bytesOf
theorem splitB_pieces (c : UInt8) (s : ByteArray) : Lib.splitB ⟨#[c]⟩ 0 (Lib.countB s ⟨#[c]⟩) s = piecesS c s := by
  have h := Lib.splitB_data ⟨#[c]⟩ 0 (Lib.countB s ⟨#[c]⟩) s
  have e : Lib.splitK [c] 0 (Lib.countB s ⟨#[c]⟩) s.data.toList = splitL c s.data.toList := splitK_one c _ _ rfl
  have h2 : (Lib.splitB ⟨#[c]⟩ 0 (Lib.countB s ⟨#[c]⟩) s).map (·.data.toList) = splitL c s.data.toList := h.trans e
  unfold piecesS
  rw [← h2, List.map_map]
  have : (bytesOf ∘ fun (x : ByteArray) => x.data.toList) = id := by funext x; exact bytesOf_data x
  rw [this, List.map_id]
theorem countB_pieces (c : UInt8) (s : ByteArray) : Lib.countB s ⟨#[c]⟩ + 1 = (piecesS c s).length := by
  rw [← splitB_pieces]
  exact (Lib.splitB_all ⟨#[c]⟩ (show 1 ≤ (⟨#[c]⟩ : ByteArray).size from Nat.le_refl 1) 0 _ s rfl).symm
theorem splitL_length_le (c : UInt8) : ∀ l, (splitL c l).length ≤ l.length + 1
  | [] => by simp [splitL]
  | b :: l => by
    have ih := splitL_length_le c l
    unfold splitL
    split
    · simp; omega
    · split
      · simp
      · rename_i h; rw [h] at ih; simp at ih ⊢; omega
theorem piecesS_length_le (c : UInt8) (s : ByteArray) : (piecesS c s).length ≤ s.size + 1 := by
  have h := splitL_length_le c s.data.toList
  rw [Array.length_toList] at h
  unfold piecesS
  rw [List.length_map]
  exact h
def strCells (L : List ByteArray) : List Value := L.map Value.string
theorem length_strCells (L : List ByteArray) : (strCells L).length = L.length := by simp [strCells]
theorem strCells_get {L : List ByteArray} {k : Nat} (h : k < L.length) : (strCells L)[k]? = some (.string L[k]) := by simp [strCells, h]
theorem strCells_snoc (L : List ByteArray) (x : ByteArray) : strCells (L ++ [x]) = strCells L ++ [.string x] := by simp [strCells]
theorem info_str : (Tryz.prog.info? 9).map (fun i => (i.zero, i.size, i.bytes)) = some (some (.string ByteArray.empty), 1, 16) := by kernel_rfl
theorem info_str' : ∃ i, Tryz.prog.info? 9 = some i ∧ i.zero = some (.string ByteArray.empty) ∧ i.size = 1 ∧ i.bytes = 16 := by
  have h := info_str
  cases hi : Tryz.prog.info? 9 with
  | none => rw [hi] at h; cases h
  | some i =>
    rw [hi] at h
    simp only [Option.map_some, Option.some.injEq, Prod.mk.injEq] at h
    exact ⟨i, rfl, h.1, h.2.1, h.2.2⟩
theorem one_str (L : List ByteArray) : ∀ u ∈ strCells L, u.oneCell' = true := by
  intro u hu
  simp only [strCells, List.mem_map] at hu
  obtain ⟨b, _, rfl⟩ := hu
  rfl
/-- strings.Split at a separator of one byte. -/
theorem split_any (c : UInt8) (s : ByteArray) (w : World) (hx : Max w) (hs : s.size ≤ 1048576) :
    Calls Tryz.prog 197 #[.string s, .string ⟨#[c]⟩] w (RetOwn w 9 1 (piecesS c s).length (strCells (piecesS c s)) id) := by
  obtain ⟨m, hm⟩ := hx
  refine (Any.strings_Split { Tryz.laysM146 with } Tryz.laysM146.i9 s ⟨#[c]⟩ m w (by omega) hm (show 1 ≤ (⟨#[c]⟩ : ByteArray).size from Nat.le_refl 1)).mono ?_
  rintro e w' ⟨rfl, rfl⟩
  have hp := piecesS_length_le c s
  have h := World.ownsRow_lit (base := w.heap.size) (e := 9) (size := 1) w (strCells (piecesS c s)).toArray (piecesS c s).length (Nat.le_refl _) (by unfold maxLen; omega) (by simp [strCells])
  refine RetOwn.mk _ (by rw [countB_pieces]; rfl) ?_ ?_
  · rw [splitB_pieces, show Tryz.laysM146_ren.t 9 = 9 from by kernel_rfl]
    simpa [strCells] using h
  · exact bel_alloc (Below.refl _ _) _
/-- strings.Trim of all letters. -/
theorem trim_any (s : ByteArray) (w : World) (hs : s.size ≤ 1048576) :
    Calls Tryz.prog 196 #[.string s, .string ⟨#[97, 98, 99, 100, 101, 102, 103, 104, 105, 106, 107, 108, 109, 110, 111, 112, 113, 114, 115, 116, 117, 118, 119, 120, 121, 122]⟩] w (Ret w (.string (bytesOf (Lib.trimS s.data.toList letters)))) := by
  refine (Any.strings_Trim_laid Tryz.lays160 (by kernel_rfl) s ⟨#[97, 98, 99, 100, 101, 102, 103, 104, 105, 106, 107, 108, 109, 110, 111, 112, 113, 114, 115, 116, 117, 118, 119, 120, 121, 122]⟩ w (by omega) (by decide) (ascii_of_all (by decide))).mono ?_
  rintro e w' ⟨rfl, hb⟩
  exact .mk rfl hb
theorem isEmpty_bytesOf (l : List UInt8) : (bytesOf l).toList.isEmpty = l.isEmpty := by
  rw [← decide_eq_emptyBytes, Bool.eq_iff_iff, decide_eq_true_eq, List.isEmpty_iff]
  constructor
  · intro h
    have := congrArg (fun (x : ByteArray) => x.data.toList) h
    simpa [bytesOf] using this
  · rintro rfl
    rfl
def smallB (s : ByteArray) (lo hi : Int) : Bool := inB s.size lo hi && s.data.toList.all letterB
set_option maxHeartbeats 400000 in
theorem isSmall_any (s : ByteArray) (lo hi : Int) (w : World) (hs : s.size ≤ 1048576) :
    Calls Tryz.prog 186 #[.string s, .int .i64 lo, .int .i64 hi] w (Ret w (.bool (smallB s lo hi))) := by
  cases h1 : inB s.size lo hi
  · have X := Lib.hid (show smallB s lo hi = false by simp [smallB, h1])
    replace h1 := Lib.hid h1
    go_enter Tryz.func186, Tryz.ntmps186
    go_wp2_with fail
    with_reducible refine (within_b _ h1.out).mono ?_
    rintro e w' ⟨rfl, y1, rfl⟩
    have hsy1 := y1.bel.size
    (try simp only [World.size_alloc, World.size_setCell, World.size_drew] at hsy1)
    go_wp2_with fail
    go_ret
    exact .mk (by rw [X.out]; rfl) (by (repeat (first | (with_reducible exact Below.refl _ _) | (with_reducible assumption) | (with_reducible refine Later.out _ ?_) | (with_reducible refine bel_alloc ?_ _) | (with_reducible refine bel_drew ?_) | (with_reducible refine bel_drewN ?_ _) | (with_reducible refine bel_set ?_ ?_ _) | (with_reducible refine After.out _ ?_ ?_) | (dsimp only; omega) | omega | (simp only [World.size_alloc, World.size_setCell, World.size_drew]; omega))))
  · have ht := trim_letters s.data.toList
    have hc := fun w => trim_any s w hs
    obtain ⟨t, he⟩ : ∃ t, bytesOf (Lib.trimS s.data.toList letters) = t := ⟨_, rfl⟩
    simp only [he] at hc
    replace hc := Lib.hid hc
    have X := Lib.hid (show smallB s lo hi = t.toList.isEmpty by rw [← he, isEmpty_bytesOf, ht]; simp [smallB, h1])
    replace h1 := Lib.hid h1
    clear ht
    go_enter Tryz.func186, Tryz.ntmps186
    go_wp2_with fail
    with_reducible refine (within_b _ h1.out).mono ?_
    rintro e w' ⟨rfl, y1, rfl⟩
    have hsy1 := y1.bel.size
    (try simp only [World.size_alloc, World.size_setCell, World.size_drew] at hsy1)
    go_wp2_with fail
    with_reducible refine (hc.out _).mono ?_
    rintro e w' ⟨rfl, y2, rfl⟩
    have hsy2 := y2.bel.size
    (try simp only [World.size_alloc, World.size_setCell, World.size_drew] at hsy2)
    go_wp2_with fail
    go_ret
    exact .mk (by rw [X.out]; rfl) (by (repeat (first | (with_reducible exact Below.refl _ _) | (with_reducible assumption) | (with_reducible refine Later.out _ ?_) | (with_reducible refine bel_alloc ?_ _) | (with_reducible refine bel_drew ?_) | (with_reducible refine bel_drewN ?_ _) | (with_reducible refine bel_set ?_ ?_ _) | (with_reducible refine After.out _ ?_ ?_) | (dsimp only; omega) | omega | (simp only [World.size_alloc, World.size_setCell, World.size_drew]; omega))))
theorem smallB_word (s : ByteArray) : smallB s 1 16 = wordB s := by
  have : (s.size : Int) = (s.data.toList.length : Int) := by rw [Array.length_toList]; rfl
  unfold smallB wordB wordL inB
  rw [this, Bool.eq_iff_iff]
  simp only [Bool.and_eq_true, decide_eq_true_eq]
  constructor
  · rintro ⟨⟨h1, h2⟩, h3⟩
    exact ⟨⟨by omega, by omega⟩, h3⟩
  · rintro ⟨⟨h1, h2⟩, h3⟩
    exact ⟨⟨by omega, by omega⟩, h3⟩
set_option maxHeartbeats 400000 in
theorem isWord_any (s : ByteArray) (w : World) (hs : s.size ≤ 1048576) : Calls Tryz.prog 162 #[.string s] w (Ret w (.bool (wordB s))) := by
  rw [← smallB_word]
  go_enter Tryz.func162, Tryz.ntmps162
  go_wp2_with fail
  with_reducible refine (isSmall_any _ _ _ _ hs).mono ?_
  rintro e w' ⟨rfl, y1, rfl⟩
  have hsy1 := y1.bel.size
  (try simp only [World.size_alloc, World.size_setCell, World.size_drew] at hsy1)
  go_wp2_with fail
  go_ret
  exact .mk rfl (by (repeat (first | (with_reducible exact Below.refl _ _) | (with_reducible assumption) | (with_reducible refine Later.out _ ?_) | (with_reducible refine bel_alloc ?_ _) | (with_reducible refine bel_drew ?_) | (with_reducible refine bel_drewN ?_ _) | (with_reducible refine bel_set ?_ ?_ _) | (with_reducible refine After.out _ ?_ ?_) | (dsimp only; omega) | omega | (simp only [World.size_alloc, World.size_setCell, World.size_drew]; omega))))
theorem isWord_b {s : ByteArray} {b : Bool} (w : World) (hs : s.size ≤ 1048576) (h : wordB s = b) : Calls Tryz.prog 162 #[.string s] w (Ret w (.bool b)) := by
  subst h; exact isWord_any _ _ hs
/-- Are all of them words? -/
def wordsB (L : List ByteArray) : Bool := L.all wordB
set_option maxHeartbeats 400000 in
theorem areWords_any (L : List ByteArray) (a : Option Addr) (n c : Nat) (w : World) (hn : L.length = n) (hm : n ≤ 1048577) (hr : Row w a (strCells L)) (hs : ∀ s ∈ L, s.size ≤ 1048576) :
    Calls Tryz.prog 145 #[.slice a n c] w (Ret w (.bool (wordsB L))) := by
  subst hn
  replace hr := Lib.hid hr
  replace hs := Lib.hid hs
  go_enter Tryz.func145, Tryz.ntmps145
  go_wp2_with fail
  go_loopw [7] (fun i wr => ∃ k : Nat, k ≤ L.length ∧ i = .int .i64 k ∧ (L.take k).all wordB = true ∧ ∃ z : Later w, wr = z.w) (fun i _ => L.length - (intOf i).toNat)
  case atStart => exact ⟨0, Nat.zero_le _, rfl, rfl, ⟨_, Below.refl _ _⟩, rfl⟩
  case round =>
    obtain ⟨k, hk, rfl, hall, z, rfl⟩ := hrel
    replace hall := Lib.hid hall
    by_cases hlt : k < L.length
    · obtain ⟨b, o, rfl, hc⟩ := hr.out k _ (strCells_get hlt)
      have hb := World.block_lt_of_cell? w _ hc
      have hss := hs.out L[k] (List.getElem_mem hlt)
      cases hw : wordB L[k]
      · have X := Lib.hid (show wordsB L = false by
          rw [wordsB, Bool.eq_false_iff]; intro h
          have := List.all_eq_true.1 h _ (List.getElem_mem hlt)
          rw [hw] at this; cases this)
        replace hw := Lib.hid hw
        go_wp2_with fail
        with_reducible refine (isWord_b _ hss hw.out).mono ?_
        rintro e w' ⟨rfl, y1, rfl⟩
        have hsy1 := y1.bel.size
        (try simp only [World.size_alloc, World.size_setCell, World.size_drew] at hsy1)
        go_wp2_with fail
        go_ret
        exact .mk (by rw [X.out]; rfl) (by (repeat (first | (with_reducible exact Below.refl _ _) | (with_reducible assumption) | (with_reducible refine Later.out _ ?_) | (with_reducible refine bel_alloc ?_ _) | (with_reducible refine bel_drew ?_) | (with_reducible refine bel_drewN ?_ _) | (with_reducible refine bel_set ?_ ?_ _) | (with_reducible refine After.out _ ?_ ?_) | (dsimp only; omega) | omega | (simp only [World.size_alloc, World.size_setCell, World.size_drew]; omega))))
      · have X := Lib.hid (show (L.take (k + 1)).all wordB = true by
          rw [List.take_succ_eq_append_getElem hlt, List.all_append, hall.out]; simp [hw])
        replace hw := Lib.hid hw
        go_wp2_with fail
        with_reducible refine (isWord_b _ hss hw.out).mono ?_
        rintro e w' ⟨rfl, y1, rfl⟩
        have hsy1 := y1.bel.size
        (try simp only [World.size_alloc, World.size_setCell, World.size_drew] at hsy1)
        go_wp2_with fail
        go_roundw
        case rel => exact ⟨k + 1, by omega, by go_num, X.out, ⟨_, by (repeat (first | (with_reducible exact Below.refl _ _) | (with_reducible assumption) | (with_reducible refine Later.out _ ?_) | (with_reducible refine bel_alloc ?_ _) | (with_reducible refine bel_drew ?_) | (with_reducible refine bel_drewN ?_ _) | (with_reducible refine bel_set ?_ ?_ _) | (with_reducible refine After.out _ ?_ ?_) | (dsimp only; omega) | omega | (simp only [World.size_alloc, World.size_setCell, World.size_drew]; omega)))⟩, rfl⟩
        case measure => simp [intOf]; omega
    · obtain rfl : k = L.length := by omega
      have X := Lib.hid (show wordsB L = true by have := hall.out; rwa [List.take_length] at this)
      go_wp2_with fail
      go_ret
      exact .mk (by rw [X.out]; rfl) (by (repeat (first | (with_reducible exact Below.refl _ _) | (with_reducible assumption) | (with_reducible refine Later.out _ ?_) | (with_reducible refine bel_alloc ?_ _) | (with_reducible refine bel_drew ?_) | (with_reducible refine bel_drewN ?_ _) | (with_reducible refine bel_set ?_ ?_ _) | (with_reducible refine After.out _ ?_ ?_) | (dsimp only; omega) | omega | (simp only [World.size_alloc, World.size_setCell, World.size_drew]; omega))))
theorem mem_splitL {c : UInt8} : ∀ {l x : List UInt8}, x ∈ splitL c l → x.length ≤ l.length
  | [], x, h => by simp [splitL] at h; subst h; simp
  | b :: l, x, h => by
    unfold splitL at h
    split at h
    · rcases List.mem_cons.1 h with rfl | h
      · simp
      · have := mem_splitL h; simp; omega
    · split at h
      · simp at h; subst h; simp
      · rename_i y r hy
        rcases List.mem_cons.1 h with rfl | h
        · have := mem_splitL (c := c) (l := l) (x := y) (by rw [hy]; simp); simp; omega
        · have := mem_splitL (c := c) (l := l) (x := x) (by rw [hy]; simp [h]); simp; omega
theorem piecesS_size {c : UInt8} {s t : ByteArray} (h : t ∈ piecesS c s) : t.size ≤ s.size := by
  obtain ⟨l, hl, rfl⟩ := List.mem_map.1 h
  have := mem_splitL hl
  rw [size_bytesOf]
  rw [Array.length_toList] at this
  exact this
theorem phraseB_pieces (s : ByteArray) : phraseB s = (decide ((piecesS 32 s).length ≤ 8) && wordsB (piecesS 32 s)) := by
  unfold phraseB phraseL piecesS wordsB
  rw [List.length_map, List.all_map]
  congr 1
set_option maxHeartbeats 400000 in
theorem wordsOf_any (s : ByteArray) (w : World) (hx : Max w) (hs : s.size ≤ 1048576) : Calls Tryz.prog 187 #[.string s] w (RetOwn w 9 1 (piecesS 32 s).length (strCells (piecesS 32 s)) id) := by
  replace hx := Lib.hid hx
  go_enter Tryz.func187, Tryz.ntmps187
  go_wp2_with fail
  with_reducible refine (split_any 32 s _ hx.out hs).mono ?_
  rintro e w' ⟨a1, c1, rfl, hown, y1, rfl⟩
  have hsy1 := y1.bel.size
  (try simp only [World.size_alloc, World.size_setCell, World.size_drew] at hsy1)
  have HO := Lib.hid (Owns.of hown)
  clear hown
  go_wp2_with fail
  go_ret
  exact RetOwn.mk _ rfl HO.out.own y1.bel
set_option maxHeartbeats 400000 in
theorem isPhrase_any (s : ByteArray) (w : World) (hx : Max w) (hs : s.size ≤ 1048576) : Calls Tryz.prog 163 #[.string s] w (Ret w (.bool (phraseB s))) := by
  have hle := piecesS_length_le 32 s
  have hsz := fun t h => Nat.le_trans (piecesS_size (c := 32) (s := s) (t := t) h) hs
  have hp := phraseB_pieces s
  have hw := fun w => wordsOf_any s w
  obtain ⟨L, hL⟩ : ∃ L, piecesS 32 s = L := ⟨_, rfl⟩
  rw [hL] at hle hsz hp hw
  replace hsz := Lib.hid hsz
  replace hx := Lib.hid hx
  replace hw := Lib.hid hw
  clear hL
  by_cases h8 : L.length ≤ 8
  · have X := Lib.hid (show phraseB s = wordsB L by rw [hp]; simp [h8])
    clear hp
    go_enter Tryz.func163, Tryz.ntmps163
    go_wp2_with fail
    with_reducible refine (hw.out _ hx.out hs).mono ?_
    rintro e w' ⟨a1, c1, rfl, hown, y1, rfl⟩
    have hsy1 := y1.bel.size
    (try simp only [World.size_alloc, World.size_setCell, World.size_drew] at hsy1)
    have HO := Lib.hid (Owns.of hown)
    clear hown
    go_wp2_with fail
    with_reducible refine (areWords_any L _ _ _ _ rfl (by omega) HO.out.row hsz.out).mono ?_
    rintro e w' ⟨rfl, y2, rfl⟩
    have hsy2 := y2.bel.size
    (try simp only [World.size_alloc, World.size_setCell, World.size_drew] at hsy2)
    go_wp2_with fail
    go_ret
    exact .mk (by rw [X.out]; rfl) (by (repeat (first | (with_reducible exact Below.refl _ _) | (with_reducible assumption) | (with_reducible refine Later.out _ ?_) | (with_reducible refine bel_alloc ?_ _) | (with_reducible refine bel_drew ?_) | (with_reducible refine bel_drewN ?_ _) | (with_reducible refine bel_set ?_ ?_ _) | (with_reducible refine After.out _ ?_ ?_) | (dsimp only; omega) | omega | (simp only [World.size_alloc, World.size_setCell, World.size_drew]; omega))))
  · have X := Lib.hid (show phraseB s = false by rw [hp]; simp [h8])
    clear hp
    go_enter Tryz.func163, Tryz.ntmps163
    go_wp2_with fail
    with_reducible refine (hw.out _ hx.out hs).mono ?_
    rintro e w' ⟨a1, c1, rfl, hown, y1, rfl⟩
    have hsy1 := y1.bel.size
    (try simp only [World.size_alloc, World.size_setCell, World.size_drew] at hsy1)
    have HO := Lib.hid (Owns.of hown)
    clear hown
    go_wp2_with fail
    go_ret
    exact .mk (by rw [X.out]; rfl) (by (repeat (first | (with_reducible exact Below.refl _ _) | (with_reducible assumption) | (with_reducible refine Later.out _ ?_) | (with_reducible refine bel_alloc ?_ _) | (with_reducible refine bel_drew ?_) | (with_reducible refine bel_drewN ?_ _) | (with_reducible refine bel_set ?_ ?_ _) | (with_reducible refine After.out _ ?_ ?_) | (dsimp only; omega) | omega | (simp only [World.size_alloc, World.size_setCell, World.size_drew]; omega))))
theorem isPhrase_b {s : ByteArray} {b : Bool} (w : World) (hx : Max w) (hs : s.size ≤ 1048576) (h : phraseB s = b) : Calls Tryz.prog 163 #[.string s] w (Ret w (.bool b)) := by
  subst h; exact isPhrase_any _ _ hx hs
end Go.Proofs.YtcpddgkloeklaaaGreatDoor

/- append onto a row of the call's own, whatever its source; the world behind it as a later one. -/
set_option linter.unusedSimpArgs false
set_option linter.unusedVariables false
namespace Go.Proofs.YtcpddgkloeklaaaGreatDoor
open Go.RowKit
theorem Row.at_block {w : World} {g o : Nat} {cs : Array Value} {e : TypeId} {fr : Nat × Nat} {xs : List Value} (h : w.heap[g]? = some (.cells cs e fr)) (hx : ∀ j v, xs[j]? = some v → cs[o + j]? = some v) : Row w (some ⟨g, o, none⟩) xs := fun j v hj => by
  refine ⟨_, _, rfl, ?_⟩
  simp [World.cell?, h, hx j v hj]
theorem Row.made (w : World) (cs : Array Value) (e : TypeId) : Row (w.alloc (.cells cs e)) (some ⟨w.heap.size, 0, none⟩) cs.toList :=
  Row.at_block (heap_alloc_new w _) fun j v hj => by simpa using hj
theorem Row.madeAt {w : World} {cs : Array Value} {e : TypeId} {n : Nat} {xs : List Value} (hn : n = w.heap.size) (hx : xs = cs.toList) : Row (w.alloc (.cells cs e)) (some ⟨n, 0, none⟩) xs := by subst hn hx; exact Row.made _ _ _
theorem Row.sub {w : World} {a : Option Addr} {xs ys : List Value} (h : Row w a xs) (hs : ∀ (j : Nat) (v : Value), ys[j]? = some v → xs[j]? = some v) : Row w a ys := fun j v hj => h j v (hs j v hj)
section
variable {P : Program} (w : World)
theorem run_append_from_nil (base : Nat) (t ty e : TypeId) (i : TypeInfo) (size : Nat) (ht : P.underlying t = some (.slice e)) (hi : P.info? e = some i)
    (v : Value) (n : Nat) (xs : List Value) (hown : w.ownsRow base e size v n xs) (c : Nat) : (Builtin.append_ #[t, t] ty #[v, .slice none 0 c]).run P w = .ok v w := by
  rcases hown.2 with ⟨rfl, rfl⟩ | ⟨g, cap, cur, rfl, _, _, hnc, _⟩
  · simp [Builtin.append_, run_underlying ht, sizeOf, typeInfo, hi, Builtin.lenOf, Builtin.firstCells]
  · simp [Builtin.append_, run_underlying ht, sizeOf, typeInfo, hi, Builtin.lenOf, Builtin.firstCells, hnc, storeCells]
theorem run_append_row (base : Nat) (t ty e : TypeId) (i : TypeInfo) (z : Value) (size bytes : Nat) (ht : P.underlying t = some (.slice e)) (hi : P.info? e = some i) (hz : i.zero = some z)
    (hsize : i.size = size) (hby : i.bytes = bytes) (hzs : z.cells.size = size) (hsz : 0 < size)
    (v : Value) (n : Nat) (xs : List Value) (hown : w.ownsRow base e size v n xs)
    (A : Option Addr) (m c : Nat) (news : List Value) (hl : news.length = m * size) (hr : Row w A news) (h1 : ∀ u ∈ news, u.oneCell' = true)
    (h63 : n + m ≤ maxLen) (hbytes : (n + m) * bytes ≤ 140737488355328) (hbase : base ≤ w.heap.size) :
    ∃ v' w', (Builtin.append_ #[t, t] ty #[v, .slice A m c]).run P w = .ok v' w' ∧ w'.ownsRow base e size v' (n + m) (xs ++ news) ∧ w.grownBy w' v.ownBlock ∧ (v'.ownBlock = v.ownBlock ∨ v'.ownBlock = some w.heap.size) := by
  rcases A with _ | ad
  · have hn : news = [] := by
      cases news with
      | nil => rfl
      | cons x r =>
        obtain ⟨b, o, h, _⟩ := hr 0 x rfl
        cases h
    subst hn
    have hm : m = 0 := by
      rcases Nat.eq_zero_or_pos m with h0 | h0
      · exact h0
      · have h2 := Nat.mul_pos h0 hsz
        simp at hl
        omega
    subst hm
    exact ⟨v, w, run_append_from_nil w base t ty e i size ht hi v n xs hown c, by simpa using hown, World.grownBy.refl w _, .inl rfl⟩
  · have hcells : ∀ j u, news[j]? = some u → w.cell? (ad.add j) = some u := by
      intro j u hu
      obtain ⟨b, o, h, hc⟩ := hr j u hu
      injection h with h
      subst h
      by_cases hj : j = 0
      · subst hj; simpa [Addr.add] using hc
      · simpa [Addr.add, hj] using hc
    obtain ⟨v', w', hrun, h2, h3, _, h5⟩ := run_append_own_at (P := P) w base t ty e i z size bytes ht hi hz hsize hby hzs hsz v n xs hown ad m c news hl hcells h1 h63 hbytes hbase
    exact ⟨v', w', hrun, h2, h3, h5⟩
/-- append: the row stays the call's own; the blocks of `W` are as they were. -/
theorem wpList_append_later {ops : Array Oper} {rest : List Oper} {o : Oper} {ac : Act} {Q : Exit → Act → World → Prop} (hgd : o.guard = none) (s x : Operand) (t : TypeId)
    (ho : o.op = .call { callee := .builtin .append, args := #[s, x], argTypes := #[t, t] })
    (e : TypeId) (i : TypeInfo) (z : Value) (size bytes : Nat) (ht : P.underlying t = some (.slice e)) (hi : P.info? e = some i) (hz : i.zero = some z)
    (hsize : i.size = size) (hby : i.bytes = bytes) (hzs : z.cells.size = size) (hsz : 0 < size)
    (W : World) (hb : Below W.heap.size W w)
    (a : Option Addr) (n cap : Nat) (xs : List Value) (hs : ac.eval s = .slice a n cap) (hown : w.ownsRow W.heap.size e size (.slice a n cap) n xs)
    (A : Option Addr) (m c : Nat) (news : List Value) (hx : ac.eval x = .slice A m c) (hl : news.length = m * size) (hr : Row w A news) (h1 : ∀ u ∈ news, u.oneCell' = true)
    (h63 : n + m ≤ maxLen) (hbytes : (n + m) * bytes ≤ 140737488355328)
    (h : ∀ a' c' (x : Later W), x.w.ownsRow W.heap.size e size (.slice a' (n + m) c') (n + m) (xs ++ news) → wpList P ops Q rest (ac.put o.dst (.slice a' (n + m) c')) x.w) :
    wpList P ops Q (o :: rest) ac w :=
  wpList_plain hgd fun _ hK => by
    obtain ⟨v', w', hrun, h2, h3, _⟩ := run_append_row (P := P) w W.heap.size t o.type e i z size bytes ht hi hz hsize hby hzs hsz _ n xs hown A m c news hl hr h1 h63 hbytes hb.size
    obtain ⟨a', c', rfl⟩ := own_form h2
    have hb' : Below W.heap.size W w' := hb.grown h3 hb.size fun k hk => (hown.lt k hk).1
    unfold Oper.wp execOp
    simp only [ho, resolve, invoke, builtin, Sem.run_bind, Sem.run_pure, Result.andThen_ok, List.map_toArray, List.map_cons, List.map_nil, hs, hx, hrun]
    exact hK _ _ (h a' c' ⟨w', hb'⟩ h2)
/-- append with an owner's place kept apart: blocks below `lo` as they were. -/
theorem wpList_append_place {ops : Array Oper} {rest : List Oper} {o : Oper} {ac : Act} {Q : Exit → Act → World → Prop} (hgd : o.guard = none) (s x : Operand) (t : TypeId)
    (ho : o.op = .call { callee := .builtin .append, args := #[s, x], argTypes := #[t, t] })
    (base : Nat) (e : TypeId) (i : TypeInfo) (z : Value) (size bytes : Nat) (ht : P.underlying t = some (.slice e)) (hi : P.info? e = some i) (hz : i.zero = some z)
    (hsize : i.size = size) (hby : i.bytes = bytes) (hzs : z.cells.size = size) (hsz : 0 < size)
    (a : Option Addr) (n cap : Nat) (xs : List Value) (hs : ac.eval s = .slice a n cap) (hown : w.ownsRow base e size (.slice a n cap) n xs)
    (A : Option Addr) (m c : Nat) (news : List Value) (hx : ac.eval x = .slice A m c) (hl : news.length = m * size) (hr : Row w A news) (h1 : ∀ u ∈ news, u.oneCell' = true)
    (h63 : n + m ≤ maxLen) (hbytes : (n + m) * bytes ≤ 140737488355328) (hbase : base ≤ w.heap.size)
    (h : ∀ a' c' w', w'.ownsRow base e size (.slice a' (n + m) c') (n + m) (xs ++ news) → w.grownBy w' (Value.slice a n cap).ownBlock → ((Value.slice a' (n + m) c').ownBlock = (Value.slice a n cap).ownBlock ∨ (Value.slice a' (n + m) c').ownBlock = some w.heap.size) → wpList P ops Q rest (ac.put o.dst (.slice a' (n + m) c')) w') :
    wpList P ops Q (o :: rest) ac w :=
  wpList_plain hgd fun _ hK => by
    obtain ⟨v', w', hrun, h2, h3, h4⟩ := run_append_row (P := P) w base t o.type e i z size bytes ht hi hz hsize hby hzs hsz _ n xs hown A m c news hl hr h1 h63 hbytes hbase
    obtain ⟨a', c', rfl⟩ := own_form h2
    unfold Oper.wp execOp
    simp only [ho, resolve, invoke, builtin, Sem.run_bind, Sem.run_pure, Result.andThen_ok, List.map_toArray, List.map_cons, List.map_nil, hs, hx, hrun]
    exact hK _ _ (h a' c' w' h2 h3 h4)
/-- append to a row that lies from `lo` on and below `hi`: the blocks elsewhere are as they were. -/
theorem wpList_append_after {ops : Array Oper} {rest : List Oper} {o : Oper} {ac : Act} {Q : Exit → Act → World → Prop} (hgd : o.guard = none) (s x : Operand) (t : TypeId)
    (ho : o.op = .call { callee := .builtin .append, args := #[s, x], argTypes := #[t, t] })
    (e : TypeId) (i : TypeInfo) (z : Value) (size bytes : Nat) (ht : P.underlying t = some (.slice e)) (hi : P.info? e = some i) (hz : i.zero = some z)
    (hsize : i.size = size) (hby : i.bytes = bytes) (hzs : z.cells.size = size) (hsz : 0 < size)
    (lo hi' : Nat) (hlw : lo ≤ w.heap.size) (a : Option Addr) (n cap : Nat) (xs : List Value) (hs : ac.eval s = .slice a n cap) (hown : w.ownsRow lo e size (.slice a n cap) n xs) (hlt : ∀ p : Addr, a = some p → p.block < hi')
    (A : Option Addr) (m c : Nat) (news : List Value) (hx : ac.eval x = .slice A m c) (hl : news.length = m * size) (hr : Row w A news) (h1 : ∀ u ∈ news, u.oneCell' = true)
    (h63 : n + m ≤ maxLen) (hbytes : (n + m) * bytes ≤ 140737488355328)
    (h : ∀ a' c' (x : After w lo hi'), x.w.ownsRow lo e size (.slice a' (n + m) c') (n + m) (xs ++ news) → wpList P ops Q rest (ac.put o.dst (.slice a' (n + m) c')) x.w) :
    wpList P ops Q (o :: rest) ac w :=
  wpList_plain hgd fun _ hK => by
    obtain ⟨v', w', hrun, h2, h3, h4⟩ := run_append_row (P := P) w lo t o.type e i z size bytes ht hi hz hsize hby hzs hsz _ n xs hown A m c news hl hr h1 h63 hbytes hlw
    obtain ⟨a', c', rfl⟩ := own_form h2
    have hb' : Between lo hi' w w' := ⟨h3.os, h3.tape, h3.output, h3.size, fun k hk hor => h3.block k hk fun e => by
      cases a with
      | none => simp [Value.ownBlock] at e
      | some q =>
        have e1 : q.block = k := by simpa [Value.ownBlock] using e.symm
        have := hlt q rfl
        have := (hown.lt q.block rfl).1
        omega⟩
    unfold Oper.wp execOp
    simp only [ho, resolve, invoke, builtin, Sem.run_bind, Sem.run_pure, Result.andThen_ok, List.map_toArray, List.map_cons, List.map_nil, hs, hx, hrun]
    exact hK _ _ (h a' c' ⟨w', hb'⟩ h2)
theorem btw_beyond {lo hi lo' hi' : Nat} {a W : World} (x : After W lo' hi') (h : Between lo hi a W) (hl : a.heap.size ≤ lo') : Between lo hi a x.w :=
  ⟨x.btw.os.trans h.os, x.btw.tape.trans h.tape, x.btw.output.trans h.output, Nat.le_trans h.size x.btw.size, fun k hk ho => (x.btw.block k (Nat.lt_of_lt_of_le hk h.size) (.inl (Nat.lt_of_lt_of_le hk hl))).trans (h.block k hk ho)⟩
end
end Go.Proofs.YtcpddgkloeklaaaGreatDoor

/- Words and phrases, the reference's way. -/
set_option linter.unusedSimpArgs false
set_option linter.unusedVariables false
namespace Go.Proofs.YtcpddgkloeklaaaGreatDoor
open Go.RowKit
theorem byteAt {s : ByteArray} {k : Nat} (h : k < s.size) : s.data.toList[k]? = some s[k] := by
  rw [List.getElem?_eq_getElem (by rw [Array.length_toList]; exact h)]
  rfl
theorem all_take_succ {s : ByteArray} {k : Nat} {p : UInt8 → Bool} (h : k < s.size) (ha : (s.data.toList.take k).all p = true) (hp : p s[k] = true) : (s.data.toList.take (k + 1)).all p = true := by
  rw [List.take_add_one, byteAt h, List.all_append, ha]
  simp [hp]
theorem all_false_at {s : ByteArray} {k : Nat} {p : UInt8 → Bool} (h : k < s.size) (hp : p s[k] = false) : s.data.toList.all p = false := by
  rw [Bool.eq_false_iff]
  intro hh
  have := List.all_eq_true.1 hh s[k] (List.mem_of_getElem? (byteAt h))
  rw [hp] at this
  cases this
theorem wordB_not {s : ByteArray} (h : s.data.toList.all letterB = false) : wordB s = false := by simp [wordB, wordL, h]
theorem wordB_all {s : ByteArray} (h : s.data.toList.all letterB = true) : wordB s = inB s.size 1 16 := by
  rw [← smallB_word]; simp [smallB, h]
set_option maxHeartbeats 400000 in
theorem sIsWord_any (s : ByteArray) (w : World) (hs : s.size ≤ 1048576) : Calls Tryz.prog 141 #[.string s] w (Ret w (.bool (wordB s))) := by
  go_enter Tryz.func141, Tryz.ntmps141
  go_wp2_with fail
  go_loopw [3] (fun i wr => ∃ k : Nat, k ≤ s.size ∧ i = .int .i64 k ∧ (s.data.toList.take k).all letterB = true ∧ wr = w) (fun i _ => s.size - (intOf i).toNat)
  case atStart => exact ⟨0, Nat.zero_le _, rfl, rfl, rfl⟩
  case round =>
    obtain ⟨k, hk, rfl, hall, rfl⟩ := hrel
    replace hall := Lib.hid hall
    by_cases hlt : k < s.size
    · cases hl : letterB s[k]
      · have X := Lib.hid (wordB_not (all_false_at hlt hl))
        have hor : (s[k].toNat : Int) < 97 ∨ (97 ≤ (s[k].toNat : Int) ∧ 122 < (s[k].toNat : Int)) := by
          simp [letterB] at hl
          omega
        replace hl := Lib.hid hl
        rcases hor with h1 | ⟨h1, h2⟩
        all_goals
          go_wp2_with fail
          go_ret
          exact .mk (by rw [X.out]; rfl) (by (repeat (first | (with_reducible exact Below.refl _ _) | (with_reducible assumption) | (with_reducible refine Later.out _ ?_) | (with_reducible refine bel_alloc ?_ _) | (with_reducible refine bel_drew ?_) | (with_reducible refine bel_drewN ?_ _) | (with_reducible refine bel_set ?_ ?_ _) | (with_reducible refine After.out _ ?_ ?_) | (dsimp only; omega) | omega | (simp only [World.size_alloc, World.size_setCell, World.size_drew]; omega))))
      · have X := Lib.hid (all_take_succ hlt hall.out hl)
        have h1 : 97 ≤ (s[k].toNat : Int) ∧ (s[k].toNat : Int) ≤ 122 := by
          simp [letterB] at hl
          omega
        obtain ⟨h1, h2⟩ := h1
        replace hl := Lib.hid hl
        go_wp2_with fail
        go_roundw
        case rel => exact ⟨k + 1, by omega, by go_num, X.out, by first | rfl | trivial⟩
        case measure => first | (simp [intOf]; done) | (simp [intOf]; omega) | omega
    · obtain rfl : k = s.size := by omega
      have X := Lib.hid (wordB_all (s := s) (by have h := hall.out; rwa [List.take_of_length_le (by rw [Array.length_toList]; exact Nat.le_refl _)] at h))
      go_wp2_with fail
      with_reducible refine (l01In_any _ _ _ _).mono ?_
      rintro e w' ⟨rfl, y1, rfl⟩
      have hsy1 := y1.bel.size
      (try simp only [World.size_alloc, World.size_setCell, World.size_drew] at hsy1)
      go_wp2_with fail
      go_ret
      exact .mk (by rw [X.out]; rfl) (by (repeat (first | (with_reducible exact Below.refl _ _) | (with_reducible assumption) | (with_reducible refine Later.out _ ?_) | (with_reducible refine bel_alloc ?_ _) | (with_reducible refine bel_drew ?_) | (with_reducible refine bel_drewN ?_ _) | (with_reducible refine bel_set ?_ ?_ _) | (with_reducible refine After.out _ ?_ ?_) | (dsimp only; omega) | omega | (simp only [World.size_alloc, World.size_setCell, World.size_drew]; omega))))
theorem sIsWord_b {s : ByteArray} {b : Bool} (w : World) (hs : s.size ≤ 1048576) (h : wordB s = b) : Calls Tryz.prog 141 #[.string s] w (Ret w (.bool b)) := by
  subst h; exact sIsWord_any _ _ hs
theorem extract_list (s : ByteArray) (f i : Nat) (h : i ≤ s.size) : (s.extract f i).data.toList = (s.data.toList.drop f).take (i - f) := by
  rw [Lib.extract_data]
/-- What a cut at every `c` keeps true: `O` the pieces so far, `f` where the next begins. -/
def Cut (c : UInt8) (s : ByteArray) (i f : Nat) (O : List ByteArray) : Prop :=
  (i ≤ s.size ∧ f ≤ i ∧ c ∉ (s.data.toList.drop f).take (i - f) ∧ O.map (·.data.toList) ++ splitL c (s.data.toList.drop f) = splitL c s.data.toList) ∨ (i = s.size + 1 ∧ f = s.size + 1 ∧ O = piecesS c s)
theorem pieces_of_map {c : UInt8} {s : ByteArray} {O : List ByteArray} (h : O.map (·.data.toList) = splitL c s.data.toList) : O = piecesS c s := by
  unfold piecesS
  rw [← h, List.map_map]
  have : (bytesOf ∘ fun (x : ByteArray) => x.data.toList) = id := by funext x; exact bytesOf_data x
  rw [this, List.map_id]
theorem Cut.start (c : UInt8) (s : ByteArray) : Cut c s 0 0 [] := .inl ⟨Nat.zero_le _, Nat.le_refl _, by simp, by simp⟩
theorem Cut.pass {c : UInt8} {s : ByteArray} {i f : Nat} {O : List ByteArray} (h : Cut c s i f O) (hi : i < s.size) (hc : s[i] ≠ c) : Cut c s (i + 1) f O := by
  rcases h with ⟨h1, h2, h3, h4⟩ | ⟨h1, _⟩
  · refine .inl ⟨hi, by omega, ?_, h4⟩
    rw [show i + 1 - f = (i - f) + 1 by omega, List.take_add_one, List.getElem?_drop, show f + (i - f) = i by omega, byteAt hi]
    simp only [List.mem_append, Option.toList_some, List.mem_singleton]
    rintro (h | h)
    · exact h3 h
    · exact hc h.symm
  · omega
theorem Cut.hit {c : UInt8} {s : ByteArray} {i f : Nat} {O : List ByteArray} (h : Cut c s i f O) (hi : i < s.size) (hc : s[i] = c) : Cut c s (i + 1) (i + 1) (O ++ [s.extract f i]) := by
  rcases h with ⟨h1, h2, h3, h4⟩ | ⟨h1, _⟩
  · refine .inl ⟨hi, by omega, by simp, ?_⟩
    have e : s.data.toList.drop f = (s.data.toList.drop f).take (i - f) ++ c :: s.data.toList.drop (i + 1) := by
      have e1 : s.data.toList.drop i = c :: s.data.toList.drop (i + 1) := by
        rw [List.drop_eq_getElem_cons (by rw [Array.length_toList]; exact hi)]
        congr 1
      conv => lhs; rw [← List.take_append_drop (i - f) (s.data.toList.drop f)]
      rw [List.drop_drop, show f + (i - f) = i by omega, e1]
    rw [← h4, List.map_append, List.append_assoc]
    congr 1
    rw [e, splitL_hit h3]
    simp [extract_list s f i h1]
  · omega
theorem Cut.last {c : UInt8} {s : ByteArray} {f : Nat} {O : List ByteArray} (h : Cut c s s.size f O) : Cut c s (s.size + 1) (s.size + 1) (O ++ [s.extract f s.size]) := by
  rcases h with ⟨h1, h2, h3, h4⟩ | ⟨h1, _⟩
  · refine .inr ⟨rfl, rfl, pieces_of_map ?_⟩
    have e : (s.data.toList.drop f).take (s.size - f) = s.data.toList.drop f := List.take_of_length_le (by rw [List.length_drop, Array.length_toList]; exact Nat.le_refl _)
    rw [e] at h3
    rw [← h4, splitL_miss h3, List.map_append]
    simp [extract_list s f s.size (Nat.le_refl _), e]
  · omega
set_option maxRecDepth 4000 in
set_option maxHeartbeats 1000000 in
theorem l01Split_any (s : ByteArray) (c : UInt8) (w : World) (hs : s.size ≤ 1048576) :
    Calls Tryz.prog 185 #[.string s, .int .u8 c.toNat] w (RetOwn w 9 1 (piecesS c s).length (strCells (piecesS c s)) id) := by
  obtain ⟨ii, j1, j2, j3, j4⟩ := info_str'
  have Jii := Lib.hid (And.intro j1 (And.intro j2 (And.intro j3 j4)))
  clear j1 j2 j3 j4
  go_enter Tryz.func185, Tryz.ntmps185
  go_wp2_with fail
  go_loopw [5, 6, 7] (fun t5 t6 t7 wr => ∃ (i f : Nat) (O : List ByteArray) (a : Option Addr) (c5 : Nat), t5 = .slice a O.length c5 ∧ t6 = .int .i64 f ∧ t7 = .int .i64 i ∧ f ≤ i ∧ i ≤ s.size + 1 ∧ O.length ≤ i ∧ Cut c s i f O ∧ wr.ownsRow w.heap.size 9 1 (.slice a O.length c5) O.length (strCells O) ∧ ∃ z : Later w, wr = z.w) (fun _ _ t7 _ => s.size + 1 - (intOf t7).toNat)
  case atStart => exact ⟨0, 0, [], _, _, rfl, rfl, rfl, Nat.le_refl _, Nat.zero_le _, Nat.le_refl _, Cut.start c s, World.ownsRow_lit w #[] 0 (Nat.le_refl _) (by unfold maxLen; omega) rfl, ⟨_, bel_alloc (Below.refl _ _) _⟩, rfl⟩
  case round =>
    obtain ⟨i, f, O, a, c5, rfl, rfl, rfl, hf, hi, hO, hC, hown, z, rfl⟩ := hrel
    replace hC := Lib.hid hC
    replace hown := Lib.hid hown
    by_cases h1 : i < s.size
    · have hne : ((i : Int) == (s.size : Int)) = false := by rw [beq_eq_false_iff_ne]; omega
      by_cases hc : s[i] = c
      · have hcc : ((s[i].toNat : Int) == (c.toNat : Int)) = true := by rw [hc]; simp
        have X := Lib.hid (hC.out.hit h1 hc)
        replace hc := Lib.hid hc
        go_wp2_with (at_builtin; (refine wpList_append_later _ rfl _ _ _ rfl 9 ii _ 1 16 Tryz.underlying37 Jii.out.1 Jii.out.2.1 Jii.out.2.2.1 Jii.out.2.2.2 rfl (by decide) (w) ?qa1 _ _ _ (strCells O) rfl ?qa2 _ _ _ ([.string (s.extract f i)]) rfl ?qa3 ?qa4 ?qa5 ?qa6 ?qa7 ?_); (case qa1 => (repeat (first | (with_reducible exact Below.refl _ _) | (with_reducible assumption) | (with_reducible refine Later.out _ ?_) | (with_reducible refine bel_alloc ?_ _) | (with_reducible refine bel_drew ?_) | (with_reducible refine bel_drewN ?_ _) | (with_reducible refine bel_set ?_ ?_ _) | (with_reducible refine After.out _ ?_ ?_) | (dsimp only; omega) | omega | (simp only [World.size_alloc, World.size_setCell, World.size_drew]; omega)))); (case qa2 => exact own_bel hown.out (by (repeat (first | (with_reducible exact Below.refl _ _) | (with_reducible assumption) | (with_reducible refine Later.out _ ?_) | (with_reducible refine bel_alloc ?_ _) | (with_reducible refine bel_drew ?_) | (with_reducible refine bel_drewN ?_ _) | (with_reducible refine bel_set ?_ ?_ _) | (with_reducible refine After.out _ ?_ ?_) | (dsimp only; omega) | omega | (simp only [World.size_alloc, World.size_setCell, World.size_drew]; omega))))); (case qa3 => (first | rfl | (simp [boolCells]; done) | (simp [intCells]; done) | (simp; done) | (first | omega | (simp only [List.length_append, List.length_cons, List.length_nil]; omega)))); (case qa4 => exact Row.made _ _ _); (case qa5 => (intro u hu; simp at hu; subst hu; rfl)); (case qa6 => (unfold maxLen; (first | omega | (simp only [List.length_append, List.length_cons, List.length_nil]; omega)))); (case qa7 => (first | omega | (simp only [List.length_append, List.length_cons, List.length_nil]; omega))); intro a' c' x hown')
        replace hown' := Lib.hid hown'
        go_roundw
        case rel => exact ⟨i + 1, i + 1, O ++ [s.extract f i], a', c', by simp, by go_num, by go_num, Nat.le_refl _, by omega, by simp; omega, X.out, by rw [strCells_snoc]; simpa using hown'.out, x, rfl⟩
        case measure => first | (simp [intOf]; done) | (simp [intOf]; omega) | omega
      · have hcc : ((s[i].toNat : Int) == (c.toNat : Int)) = false := by
          rw [beq_eq_false_iff_ne]; intro h
          exact hc (UInt8.toNat_inj.1 (by omega))
        have X := Lib.hid (hC.out.pass h1 hc)
        replace hc := Lib.hid hc
        go_wp2_with fail
        go_roundw
        case rel => exact ⟨i + 1, f, O, a, c5, rfl, rfl, by go_num, by omega, by omega, by omega, X.out, hown.out, z, rfl⟩
        case measure => first | (simp [intOf]; done) | (simp [intOf]; omega) | omega
    · by_cases h2 : i = s.size
      · subst h2
        have X := Lib.hid hC.out.last
        have hne : ((s.size : Int) == (s.size : Int)) = true := by simp
        go_wp2_with (at_builtin; (refine wpList_append_later _ rfl _ _ _ rfl 9 ii _ 1 16 Tryz.underlying37 Jii.out.1 Jii.out.2.1 Jii.out.2.2.1 Jii.out.2.2.2 rfl (by decide) (w) ?qa8 _ _ _ (strCells O) rfl ?qa9 _ _ _ ([.string (s.extract f s.size)]) rfl ?qa10 ?qa11 ?qa12 ?qa13 ?qa14 ?_); (case qa8 => (repeat (first | (with_reducible exact Below.refl _ _) | (with_reducible assumption) | (with_reducible refine Later.out _ ?_) | (with_reducible refine bel_alloc ?_ _) | (with_reducible refine bel_drew ?_) | (with_reducible refine bel_drewN ?_ _) | (with_reducible refine bel_set ?_ ?_ _) | (with_reducible refine After.out _ ?_ ?_) | (dsimp only; omega) | omega | (simp only [World.size_alloc, World.size_setCell, World.size_drew]; omega)))); (case qa9 => exact own_bel hown.out (by (repeat (first | (with_reducible exact Below.refl _ _) | (with_reducible assumption) | (with_reducible refine Later.out _ ?_) | (with_reducible refine bel_alloc ?_ _) | (with_reducible refine bel_drew ?_) | (with_reducible refine bel_drewN ?_ _) | (with_reducible refine bel_set ?_ ?_ _) | (with_reducible refine After.out _ ?_ ?_) | (dsimp only; omega) | omega | (simp only [World.size_alloc, World.size_setCell, World.size_drew]; omega))))); (case qa10 => (first | rfl | (simp [boolCells]; done) | (simp [intCells]; done) | (simp; done) | (first | omega | (simp only [List.length_append, List.length_cons, List.length_nil]; omega)))); (case qa11 => exact Row.made _ _ _); (case qa12 => (intro u hu; simp at hu; subst hu; rfl)); (case qa13 => (unfold maxLen; (first | omega | (simp only [List.length_append, List.length_cons, List.length_nil]; omega)))); (case qa14 => (first | omega | (simp only [List.length_append, List.length_cons, List.length_nil]; omega))); intro a' c' x hown')
        replace hown' := Lib.hid hown'
        go_roundw
        case rel => exact ⟨s.size + 1, s.size + 1, O ++ [s.extract f s.size], a', c', by simp, by go_num, by go_num, Nat.le_refl _, Nat.le_refl _, by simp; omega, X.out, by rw [strCells_snoc]; simpa using hown'.out, x, rfl⟩
        case measure => first | (simp [intOf]; done) | (simp [intOf]; omega) | omega
      · obtain rfl : i = s.size + 1 := by omega
        have hP : O = piecesS c s := by
          rcases hC.out with ⟨h, _⟩ | ⟨_, _, h⟩
          · omega
          · exact h
        subst hP
        go_wp2_with fail
        go_ret
        exact RetOwn.mk _ rfl hown.out z.bel
/-- The call returned `f v` for some `v`. -/
def RetSome (w : World) (f : Value → Value) (e : Ending) (w' : World) : Prop := ∃ v, e = .returned (f v) ∧ ∃ y : Later w, w' = y.w
theorem RetSome.mk {w w' : World} {f : Value → Value} {e : Ending} (v : Value) (h : e = .returned (f v)) (hb : Below w.heap.size w w') : RetSome w f e w' := ⟨v, h, ⟨w', hb⟩, rfl⟩
set_option maxRecDepth 4000 in
set_option maxHeartbeats 1000000 in
theorem l01Phrase_any (s : ByteArray) (w : World) (hs : s.size ≤ 1048576) :
    Calls Tryz.prog 161 #[.string s] w (RetSome w fun v => .tuple #[v, .bool (phraseB s)]) := by
  have hle := piecesS_length_le 32 s
  have hsz := fun t h => Nat.le_trans (piecesS_size (c := 32) (s := s) (t := t) h) hs
  have hp := phraseB_pieces s
  have hw := fun w => (show Calls Tryz.prog 185 #[.string s, .int .u8 32] w _ from l01Split_any s 32 w hs)
  obtain ⟨L, hL⟩ : ∃ L, piecesS 32 s = L := ⟨_, rfl⟩
  rw [hL] at hle hsz hp
  simp only [hL] at hw
  replace hsz := Lib.hid hsz
  replace hw := Lib.hid hw
  replace hp := Lib.hid hp
  clear hL
  go_enter Tryz.func161, Tryz.ntmps161
  go_wp2_with fail
  with_reducible refine (hw.out _).mono ?_
  rintro e w' ⟨a1, c1, rfl, hown, y1, rfl⟩
  have hsy1 := y1.bel.size
  (try simp only [World.size_alloc, World.size_setCell, World.size_drew] at hsy1)
  have HO := Lib.hid (Owns.of hown)
  clear hown
  go_wp2_with fail
  go_loopw [5] (fun i wr => ∃ k : Nat, k ≤ L.length ∧ i = .int .i64 k ∧ (L.take k).all wordB = true ∧ ∃ z : Later y1.w, wr = z.w) (fun i _ => L.length - (intOf i).toNat)
  case atStart => exact ⟨0, Nat.zero_le _, rfl, rfl, ⟨_, Below.refl _ _⟩, rfl⟩
  case round =>
    obtain ⟨k, hk, rfl, hall, z, rfl⟩ := hrel
    replace hall := Lib.hid hall
    by_cases hlt : k < L.length
    · obtain ⟨b, o, rfl, hc⟩ := HO.out.row k _ (strCells_get hlt)
      have hb := World.block_lt_of_cell? _ _ hc
      have hss := hsz.out L[k] (List.getElem_mem hlt)
      cases hw : wordB L[k]
      · have X := Lib.hid (show phraseB s = false by
          rw [hp.out, Bool.and_eq_false_iff]
          right
          rw [wordsB, Bool.eq_false_iff]; intro h
          have := List.all_eq_true.1 h _ (List.getElem_mem hlt)
          rw [hw] at this; cases this)
        replace hw := Lib.hid hw
        go_wp2_with fail
        with_reducible refine (sIsWord_b _ hss hw.out).mono ?_
        rintro e w' ⟨rfl, y2, rfl⟩
        have hsy2 := y2.bel.size
        (try simp only [World.size_alloc, World.size_setCell, World.size_drew] at hsy2)
        go_wp2_with fail
        go_ret2
        exact .mk (.slice none 0 0) (by rw [X.out]; rfl) (by (repeat (first | (with_reducible exact Below.refl _ _) | (with_reducible assumption) | (with_reducible refine Later.out _ ?_) | (with_reducible refine bel_alloc ?_ _) | (with_reducible refine bel_drew ?_) | (with_reducible refine bel_drewN ?_ _) | (with_reducible refine bel_set ?_ ?_ _) | (with_reducible refine After.out _ ?_ ?_) | (dsimp only; omega) | omega | (simp only [World.size_alloc, World.size_setCell, World.size_drew]; omega))))
      · have X := Lib.hid (show (L.take (k + 1)).all wordB = true by
          rw [List.take_succ_eq_append_getElem hlt, List.all_append, hall.out]; simp [hw])
        replace hw := Lib.hid hw
        go_wp2_with fail
        with_reducible refine (sIsWord_b _ hss hw.out).mono ?_
        rintro e w' ⟨rfl, y2, rfl⟩
        have hsy2 := y2.bel.size
        (try simp only [World.size_alloc, World.size_setCell, World.size_drew] at hsy2)
        go_wp2_with fail
        go_roundw
        case rel => exact ⟨k + 1, by omega, by go_num, X.out, ⟨_, by (repeat (first | (with_reducible exact Below.refl _ _) | (with_reducible assumption) | (with_reducible refine Later.out _ ?_) | (with_reducible refine bel_alloc ?_ _) | (with_reducible refine bel_drew ?_) | (with_reducible refine bel_drewN ?_ _) | (with_reducible refine bel_set ?_ ?_ _) | (with_reducible refine After.out _ ?_ ?_) | (dsimp only; omega) | omega | (simp only [World.size_alloc, World.size_setCell, World.size_drew]; omega)))⟩, rfl⟩
        case measure => first | (simp [intOf]; done) | (simp [intOf]; omega) | omega
    · obtain rfl : k = L.length := by omega
      have X := Lib.hid (show phraseB s = decide ((L.length : Int) ≤ 8) by
        have h := hall.out
        rw [List.take_length] at h
        rw [hp.out, wordsB, h, Bool.and_true]
        exact decide_eq_decide.2 (by omega))
      go_wp2_with fail
      go_ret2
      exact .mk (.slice a1 L.length c1) (by rw [X.out]; rfl) (by (repeat (first | (with_reducible exact Below.refl _ _) | (with_reducible assumption) | (with_reducible refine Later.out _ ?_) | (with_reducible refine bel_alloc ?_ _) | (with_reducible refine bel_drew ?_) | (with_reducible refine bel_drewN ?_ _) | (with_reducible refine bel_set ?_ ?_ _) | (with_reducible refine After.out _ ?_ ?_) | (dsimp only; omega) | omega | (simp only [World.size_alloc, World.size_setCell, World.size_drew]; omega))))
set_option maxHeartbeats 400000 in
theorem sIsPhrase_any (s : ByteArray) (w : World) (hs : s.size ≤ 1048576) : Calls Tryz.prog 143 #[.string s] w (Ret w (.bool (phraseB s))) := by
  go_enter Tryz.func143, Tryz.ntmps143
  go_wp2_with fail
  with_reducible refine (l01Phrase_any s _ hs).mono ?_
  rintro e w' ⟨v, rfl, y1, rfl⟩
  go_wp2_with fail
  go_ret
  exact .mk rfl (by (repeat (first | (with_reducible exact Below.refl _ _) | (with_reducible assumption) | (with_reducible refine Later.out _ ?_) | (with_reducible refine bel_alloc ?_ _) | (with_reducible refine bel_drew ?_) | (with_reducible refine bel_drewN ?_ _) | (with_reducible refine bel_set ?_ ?_ _) | (with_reducible refine After.out _ ?_ ?_) | (dsimp only; omega) | omega | (simp only [World.size_alloc, World.size_setCell, World.size_drew]; omega))))
theorem sIsPhrase_b {s : ByteArray} {b : Bool} (w : World) (hs : s.size ≤ 1048576) (h : phraseB s = b) : Calls Tryz.prog 143 #[.string s] w (Ret w (.bool b)) := by
  subst h; exact sIsPhrase_any _ _ hs
end Go.Proofs.YtcpddgkloeklaaaGreatDoor

/- Claims: what one is, in plain terms; its cells; lists of claims as rows of cells. -/
set_option linter.unusedSimpArgs false
set_option linter.unusedVariables false
namespace Go.Proofs.YtcpddgkloeklaaaGreatDoor
open Go.RowKit
/-- What a source tells about a place. -/
structure Clm where
  src : ByteArray
  kind : Int
  place : ByteArray
  val : ByteArray
  fr : Int
  to : Int
  wt : Int
theorem Clm.ext' {c d : Clm} (h1 : c.src = d.src) (h2 : c.kind = d.kind) (h3 : c.place = d.place) (h4 : c.val = d.val) (h5 : c.fr = d.fr) (h6 : c.to = d.to) (h7 : c.wt = d.wt) : c = d := by
  cases c; cases d; simp_all
def clmCells (c : Clm) : List Value := [.string c.src, .int .i64 c.kind, .string c.place, .string c.val, .int .i64 c.fr, .int .i64 c.to, .int .i64 c.wt]
abbrev clmV (c : Clm) : Value := .agg #[.string c.src, .int .i64 c.kind, .string c.place, .string c.val, .int .i64 c.fr, .int .i64 c.to, .int .i64 c.wt]
def clmsCells (L : List Clm) : List Value := L.flatMap clmCells
theorem length_clmsCells (L : List Clm) : (clmsCells L).length = L.length * 7 := by
  induction L with
  | nil => rfl
  | cons c L ih => simp only [clmsCells, List.flatMap_cons, List.length_append, List.length_cons] at ih ⊢; rw [ih]; simp [clmCells]; omega
theorem clmsCells_append (L M : List Clm) : clmsCells (L ++ M) = clmsCells L ++ clmsCells M := by simp [clmsCells]
theorem clms_get {L : List Clm} : ∀ {k : Nat} (h : k < L.length) {i : Nat} {v : Value}, (clmCells L[k])[i]? = some v → (clmsCells L)[k * 7 + i]? = some v := by
  induction L with
  | nil => intro k h; simp at h
  | cons c L ih =>
    intro k h i v hv
    have hi : i < 7 := (List.getElem?_eq_some_iff.1 hv).1
    cases k with
    | zero =>
      show (clmCells c ++ clmsCells L)[0 * 7 + i]? = some v
      rw [Nat.zero_mul, Nat.zero_add, List.getElem?_append_left (by simpa [clmCells] using hi)]
      exact hv
    | succ k =>
      show (clmCells c ++ clmsCells L)[(k + 1) * 7 + i]? = some v
      have hl : (clmCells c).length = 7 := rfl
      rw [List.getElem?_append_right (by omega), hl, show (k + 1) * 7 + i - 7 = k * 7 + i by omega]
      exact ih (by simpa using h) hv
/-- The seven cells of a claim. -/
structure ClmAt (w : World) (b o : Nat) (c : Clm) : Prop where
  c0 : w.cell? ⟨b, o, none⟩ = some (.string c.src)
  c1 : w.cell? ⟨b, o + 1, none⟩ = some (.int .i64 c.kind)
  c2 : w.cell? ⟨b, o + 2, none⟩ = some (.string c.place)
  c3 : w.cell? ⟨b, o + 3, none⟩ = some (.string c.val)
  c4 : w.cell? ⟨b, o + 4, none⟩ = some (.int .i64 c.fr)
  c5 : w.cell? ⟨b, o + 5, none⟩ = some (.int .i64 c.to)
  c6 : w.cell? ⟨b, o + 6, none⟩ = some (.int .i64 c.wt)
theorem Row.clm {w : World} {a : Option Addr} {L : List Clm} (h : Row w a (clmsCells L)) {k : Nat} (hk : k < L.length) : ∃ b o, a = some ⟨b, o, none⟩ ∧ b < w.heap.size ∧ ClmAt w b (o + k * 7) L[k] := by
  obtain ⟨b, o, rfl, h0⟩ := h (k * 7 + 0) _ (clms_get hk (i := 0) rfl)
  have hb := World.block_lt_of_cell? w _ h0
  have key : ∀ i v, (clmCells L[k])[i]? = some v → w.cell? ⟨b, o + k * 7 + i, none⟩ = some v := by
    intro i v hv
    obtain ⟨b', o', he, hc⟩ := h (k * 7 + i) _ (clms_get hk hv)
    cases he
    rw [Nat.add_assoc]; exact hc
  exact ⟨b, o, rfl, hb, by simpa using key 0 _ rfl, key 1 _ rfl, key 2 _ rfl, key 3 _ rfl, key 4 _ rfl, key 5 _ rfl, key 6 _ rfl⟩
/-! ### The plain notions -/
def meetsB (c d : Clm) : Bool := decide (c.fr ≤ d.to) && decide (d.fr ≤ c.to)
def hasB (c : Clm) (y : Int) : Bool := decide (c.fr ≤ y) && decide (y ≤ c.to)
def spanB (f t : Int) : Bool := inB f (-3000) 3000 && inB t (-3000) 3000 && decide (f ≤ t)
def valueB (c : Clm) : Bool :=
  if c.kind = 0 then phraseB c.val else if c.kind = 1 then wordB c.val && !(decide (c.val = c.place)) else if c.kind = 2 ∨ c.kind = 3 then decide (c.val = ByteArray.empty) else false
def claimB (c : Clm) : Bool := wordB c.src && wordB c.place && valueB c && spanB c.fr c.to && inB c.wt 1 100
def claimsB (L : List Clm) : Bool := decide (L.length ≤ 12) && L.all claimB
/-- `c` tells a parent that `d` tells to be missing. -/
def withoutB (c d : Clm) : Bool := decide (c.kind = 1) && decide (d.kind = 3) && decide (d.place = c.val)
def contraB (c d : Clm) : Bool :=
  meetsB c d && (withoutB c d || withoutB d c || (decide (c.place = d.place) && ((decide (c.kind = 3) != decide (d.kind = 3)) || (decide (c.kind = d.kind) && (decide (c.kind = 0) || decide (c.kind = 1)) && !(decide (c.val = d.val))))))
end Go.Proofs.YtcpddgkloeklaaaGreatDoor

/- Is it a claim: both sides. -/
set_option linter.unusedSimpArgs false
set_option linter.unusedVariables false
namespace Go.Proofs.YtcpddgkloeklaaaGreatDoor
open Go.RowKit
structure ClmOk (c : Clm) : Prop where
  s1 : c.src.size ≤ 1048576
  s2 : c.place.size ≤ 1048576
  s3 : c.val.size ≤ 1048576
theorem spanB_0 {f t : Int} (h : inB f (-3000) 3000 = false) : spanB f t = false := by simp [spanB, h]
theorem spanB_1 {f t : Int} (h : inB t (-3000) 3000 = false) : spanB f t = false := by simp [spanB, h]
theorem spanB_2 {f t : Int} (h : inB f (-3000) 3000 = true) (h2 : inB t (-3000) 3000 = true) : spanB f t = decide (f ≤ t) := by simp [spanB, h, h2]
theorem isYear_any (y : Int) (w : World) : Calls Tryz.prog 164 #[.int .i64 y] w (Ret w (.bool (inB y (-3000) 3000))) := by
  go_enter Tryz.func164, Tryz.ntmps164
  go_wp2_with fail
  with_reducible refine (within_any _ _ _ _).mono ?_
  rintro e w' ⟨rfl, y1, rfl⟩
  have hsy1 := y1.bel.size
  (try simp only [World.size_alloc, World.size_setCell, World.size_drew] at hsy1)
  go_wp2_with fail
  go_ret
  exact .mk rfl (by (repeat (first | (with_reducible exact Below.refl _ _) | (with_reducible assumption) | (with_reducible refine Later.out _ ?_) | (with_reducible refine bel_alloc ?_ _) | (with_reducible refine bel_drew ?_) | (with_reducible refine bel_drewN ?_ _) | (with_reducible refine bel_set ?_ ?_ _) | (with_reducible refine After.out _ ?_ ?_) | (dsimp only; omega) | omega | (simp only [World.size_alloc, World.size_setCell, World.size_drew]; omega))))
theorem isYear_b {y : Int} {b : Bool} (w : World) (h : inB y (-3000) 3000 = b) : Calls Tryz.prog 164 #[.int .i64 y] w (Ret w (.bool b)) := by subst h; exact isYear_any _ _
theorem l02Year_any (y : Int) (w : World) : Calls Tryz.prog 160 #[.int .i64 y] w (Ret w (.bool (inB y (-3000) 3000))) := by
  go_enter Tryz.func160, Tryz.ntmps160
  go_wp2_with fail
  with_reducible refine (l01In_any _ _ _ _).mono ?_
  rintro e w' ⟨rfl, y1, rfl⟩
  have hsy1 := y1.bel.size
  (try simp only [World.size_alloc, World.size_setCell, World.size_drew] at hsy1)
  go_wp2_with fail
  go_ret
  exact .mk rfl (by (repeat (first | (with_reducible exact Below.refl _ _) | (with_reducible assumption) | (with_reducible refine Later.out _ ?_) | (with_reducible refine bel_alloc ?_ _) | (with_reducible refine bel_drew ?_) | (with_reducible refine bel_drewN ?_ _) | (with_reducible refine bel_set ?_ ?_ _) | (with_reducible refine After.out _ ?_ ?_) | (dsimp only; omega) | omega | (simp only [World.size_alloc, World.size_setCell, World.size_drew]; omega))))
theorem l02Year_b {y : Int} {b : Bool} (w : World) (h : inB y (-3000) 3000 = b) : Calls Tryz.prog 160 #[.int .i64 y] w (Ret w (.bool b)) := by subst h; exact l02Year_any _ _
section
variable (f t : Int) (w : World)
set_option maxHeartbeats 400000 in
theorem isSpan_any : Calls Tryz.prog 147 #[.agg #[.int .i64 f, .int .i64 t]] w (Ret w (.bool (spanB f t))) := by
  cases h1 : inB f (-3000) 3000
  · have X := Lib.hid (spanB_0 (t := t) h1)
    go_enter Tryz.func147, Tryz.ntmps147
    go_wp2_with fail
    with_reducible refine (isYear_b _ h1).mono ?_
    rintro e w' ⟨rfl, y1, rfl⟩
    have hsy1 := y1.bel.size
    (try simp only [World.size_alloc, World.size_setCell, World.size_drew] at hsy1)
    go_wp2_with fail
    go_ret
    exact .mk (by rw [X.out]; rfl) (by (repeat (first | (with_reducible exact Below.refl _ _) | (with_reducible assumption) | (with_reducible refine Later.out _ ?_) | (with_reducible refine bel_alloc ?_ _) | (with_reducible refine bel_drew ?_) | (with_reducible refine bel_drewN ?_ _) | (with_reducible refine bel_set ?_ ?_ _) | (with_reducible refine After.out _ ?_ ?_) | (dsimp only; omega) | omega | (simp only [World.size_alloc, World.size_setCell, World.size_drew]; omega))))
  cases h2 : inB t (-3000) 3000
  · have X := Lib.hid (spanB_1 (f := f) h2)
    go_enter Tryz.func147, Tryz.ntmps147
    go_wp2_with fail
    with_reducible refine (isYear_b _ h1).mono ?_
    rintro e w' ⟨rfl, y1, rfl⟩
    have hsy1 := y1.bel.size
    (try simp only [World.size_alloc, World.size_setCell, World.size_drew] at hsy1)
    go_wp2_with fail
    with_reducible refine (isYear_b _ h2).mono ?_
    rintro e w' ⟨rfl, y2, rfl⟩
    have hsy2 := y2.bel.size
    (try simp only [World.size_alloc, World.size_setCell, World.size_drew] at hsy2)
    go_wp2_with fail
    go_ret
    exact .mk (by rw [X.out]; rfl) (by (repeat (first | (with_reducible exact Below.refl _ _) | (with_reducible assumption) | (with_reducible refine Later.out _ ?_) | (with_reducible refine bel_alloc ?_ _) | (with_reducible refine bel_drew ?_) | (with_reducible refine bel_drewN ?_ _) | (with_reducible refine bel_set ?_ ?_ _) | (with_reducible refine After.out _ ?_ ?_) | (dsimp only; omega) | omega | (simp only [World.size_alloc, World.size_setCell, World.size_drew]; omega))))
  have X := Lib.hid (spanB_2 h1 h2)
  go_enter Tryz.func147, Tryz.ntmps147
  go_wp2_with fail
  with_reducible refine (isYear_b _ h1).mono ?_
  rintro e w' ⟨rfl, y1, rfl⟩
  have hsy1 := y1.bel.size
  (try simp only [World.size_alloc, World.size_setCell, World.size_drew] at hsy1)
  go_wp2_with fail
  with_reducible refine (isYear_b _ h2).mono ?_
  rintro e w' ⟨rfl, y2, rfl⟩
  have hsy2 := y2.bel.size
  (try simp only [World.size_alloc, World.size_setCell, World.size_drew] at hsy2)
  go_wp2_with fail
  go_ret
  exact .mk (by rw [X.out]; rfl) (by (repeat (first | (with_reducible exact Below.refl _ _) | (with_reducible assumption) | (with_reducible refine Later.out _ ?_) | (with_reducible refine bel_alloc ?_ _) | (with_reducible refine bel_drew ?_) | (with_reducible refine bel_drewN ?_ _) | (with_reducible refine bel_set ?_ ?_ _) | (with_reducible refine After.out _ ?_ ?_) | (dsimp only; omega) | omega | (simp only [World.size_alloc, World.size_setCell, World.size_drew]; omega))))
theorem isSpan_b {f t w} {b : Bool} (h : spanB f t = b) : Calls Tryz.prog 147 #[.agg #[.int .i64 f, .int .i64 t]] w (Ret w (.bool b)) := by subst h; exact isSpan_any _ _ _
set_option maxHeartbeats 400000 in
theorem sIsSpan_any : Calls Tryz.prog 142 #[.agg #[.int .i64 f, .int .i64 t]] w (Ret w (.bool (spanB f t))) := by
  cases h1 : inB f (-3000) 3000
  · have X := Lib.hid (spanB_0 (t := t) h1)
    go_enter Tryz.func142, Tryz.ntmps142
    go_wp2_with fail
    with_reducible refine (l02Year_b _ h1).mono ?_
    rintro e w' ⟨rfl, y1, rfl⟩
    have hsy1 := y1.bel.size
    (try simp only [World.size_alloc, World.size_setCell, World.size_drew] at hsy1)
    go_wp2_with fail
    go_ret
    exact .mk (by rw [X.out]; rfl) (by (repeat (first | (with_reducible exact Below.refl _ _) | (with_reducible assumption) | (with_reducible refine Later.out _ ?_) | (with_reducible refine bel_alloc ?_ _) | (with_reducible refine bel_drew ?_) | (with_reducible refine bel_drewN ?_ _) | (with_reducible refine bel_set ?_ ?_ _) | (with_reducible refine After.out _ ?_ ?_) | (dsimp only; omega) | omega | (simp only [World.size_alloc, World.size_setCell, World.size_drew]; omega))))
  cases h2 : inB t (-3000) 3000
  · have X := Lib.hid (spanB_1 (f := f) h2)
    go_enter Tryz.func142, Tryz.ntmps142
    go_wp2_with fail
    with_reducible refine (l02Year_b _ h1).mono ?_
    rintro e w' ⟨rfl, y1, rfl⟩
    have hsy1 := y1.bel.size
    (try simp only [World.size_alloc, World.size_setCell, World.size_drew] at hsy1)
    go_wp2_with fail
    with_reducible refine (l02Year_b _ h2).mono ?_
    rintro e w' ⟨rfl, y2, rfl⟩
    have hsy2 := y2.bel.size
    (try simp only [World.size_alloc, World.size_setCell, World.size_drew] at hsy2)
    go_wp2_with fail
    go_ret
    exact .mk (by rw [X.out]; rfl) (by (repeat (first | (with_reducible exact Below.refl _ _) | (with_reducible assumption) | (with_reducible refine Later.out _ ?_) | (with_reducible refine bel_alloc ?_ _) | (with_reducible refine bel_drew ?_) | (with_reducible refine bel_drewN ?_ _) | (with_reducible refine bel_set ?_ ?_ _) | (with_reducible refine After.out _ ?_ ?_) | (dsimp only; omega) | omega | (simp only [World.size_alloc, World.size_setCell, World.size_drew]; omega))))
  have X := Lib.hid (spanB_2 h1 h2)
  go_enter Tryz.func142, Tryz.ntmps142
  go_wp2_with fail
  with_reducible refine (l02Year_b _ h1).mono ?_
  rintro e w' ⟨rfl, y1, rfl⟩
  have hsy1 := y1.bel.size
  (try simp only [World.size_alloc, World.size_setCell, World.size_drew] at hsy1)
  go_wp2_with fail
  with_reducible refine (l02Year_b _ h2).mono ?_
  rintro e w' ⟨rfl, y2, rfl⟩
  have hsy2 := y2.bel.size
  (try simp only [World.size_alloc, World.size_setCell, World.size_drew] at hsy2)
  go_wp2_with fail
  go_ret
  exact .mk (by rw [X.out]; rfl) (by (repeat (first | (with_reducible exact Below.refl _ _) | (with_reducible assumption) | (with_reducible refine Later.out _ ?_) | (with_reducible refine bel_alloc ?_ _) | (with_reducible refine bel_drew ?_) | (with_reducible refine bel_drewN ?_ _) | (with_reducible refine bel_set ?_ ?_ _) | (with_reducible refine After.out _ ?_ ?_) | (dsimp only; omega) | omega | (simp only [World.size_alloc, World.size_setCell, World.size_drew]; omega))))
theorem sIsSpan_b {f t w} {b : Bool} (h : spanB f t = b) : Calls Tryz.prog 142 #[.agg #[.int .i64 f, .int .i64 t]] w (Ret w (.bool b)) := by subst h; exact sIsSpan_any _ _ _
end
/-! ### The value of a claim -/
theorem kindFacts (k : Int) : ((k == 0) = decide (k = 0)) ∧ ((k == 1) = decide (k = 1)) ∧ ((k == 2) = decide (k = 2)) ∧ ((k == 3) = decide (k = 3)) := ⟨rfl, rfl, rfl, rfl⟩
theorem valueB_name {c : Clm} (h : c.kind = 0) : valueB c = phraseB c.val := by simp [valueB, h]
theorem valueB_parent {c : Clm} (h : c.kind = 1) : valueB c = (wordB c.val && !(decide (c.val = c.place))) := by simp [valueB, h]
theorem valueB_plain {c : Clm} (h : c.kind = 2 ∨ c.kind = 3) : valueB c = c.val.toList.isEmpty := by
  rw [← decide_eq_emptyBytes]
  rcases h with h | h <;> simp [valueB, h]
theorem valueB_else {c : Clm} (h0 : c.kind ≠ 0) (h1 : c.kind ≠ 1) (h2 : c.kind ≠ 2) (h3 : c.kind ≠ 3) : valueB c = false := by simp [valueB, h0, h1, h2, h3]
theorem beq_bytes (a b : ByteArray) : (a == b) = decide (a = b) := by
  cases a; cases b
  rename_i x y
  show (x == y) = _
  by_cases h : x = y
  · subst h; simp
  · have h1 : (x == y) = false := by rw [beq_eq_false_iff_ne]; exact h
    rw [h1]; simp [h]
theorem toList_eq (a b : ByteArray) : (a.toList == b.toList) = decide (a = b) := by rw [← beq_toListBytes, beq_bytes]
theorem sameB (a b : ByteArray) : (a = b ∧ (a.toList == b.toList) = true) ∨ (a ≠ b ∧ (a.toList == b.toList) = false) := by
  by_cases h : a = b
  · exact .inl ⟨h, by simp [toList_eq, h]⟩
  · exact .inr ⟨h, by simp [toList_eq, h]⟩
section
variable (c : Clm) (w : World)
set_option maxHeartbeats 1000000 in
theorem isClaimValue_any (ok : ClmOk c) (hx : Max w) : Calls Tryz.prog 146 #[clmV c] w (Ret w (.bool (valueB c))) := by
  obtain ⟨s1, s2, s3⟩ := ok
  replace hx := Lib.hid hx
  by_cases k0 : c.kind = 0
  · have X := Lib.hid (valueB_name k0)
    unfold clmV
    rw [k0]
    clear k0
    go_enter Tryz.func146, Tryz.ntmps146
    go_wp2_with fail
    with_reducible refine (isPhrase_any _ _ (hx.out.bel (by (repeat (first | (with_reducible exact Below.refl _ _) | (with_reducible assumption) | (with_reducible refine Later.out _ ?_) | (with_reducible refine bel_alloc ?_ _) | (with_reducible refine bel_drew ?_) | (with_reducible refine bel_drewN ?_ _) | (with_reducible refine bel_set ?_ ?_ _) | (with_reducible refine After.out _ ?_ ?_) | (dsimp only; omega) | omega | (simp only [World.size_alloc, World.size_setCell, World.size_drew]; omega))))) s3).mono ?_
    rintro e w' ⟨rfl, y1, rfl⟩
    have hsy1 := y1.bel.size
    (try simp only [World.size_alloc, World.size_setCell, World.size_drew] at hsy1)
    go_wp2_with fail
    go_ret
    exact .mk (by rw [X.out]; rfl) (by (repeat (first | (with_reducible exact Below.refl _ _) | (with_reducible assumption) | (with_reducible refine Later.out _ ?_) | (with_reducible refine bel_alloc ?_ _) | (with_reducible refine bel_drew ?_) | (with_reducible refine bel_drewN ?_ _) | (with_reducible refine bel_set ?_ ?_ _) | (with_reducible refine After.out _ ?_ ?_) | (dsimp only; omega) | omega | (simp only [World.size_alloc, World.size_setCell, World.size_drew]; omega))))
  by_cases k1 : c.kind = 1
  · have X := Lib.hid (valueB_parent k1)
    unfold clmV
    rw [k1]
    clear k0 k1
    cases hw : wordB c.val
    · have Y := Lib.hid (show valueB c = false by rw [X.out, hw]; rfl)
      go_enter Tryz.func146, Tryz.ntmps146
      go_wp2_with fail
      with_reducible refine (isWord_b _ s3 hw).mono ?_
      rintro e w' ⟨rfl, y1, rfl⟩
      have hsy1 := y1.bel.size
      (try simp only [World.size_alloc, World.size_setCell, World.size_drew] at hsy1)
      go_wp2_with fail
      go_ret
      exact .mk (by rw [Y.out]; rfl) (by (repeat (first | (with_reducible exact Below.refl _ _) | (with_reducible assumption) | (with_reducible refine Later.out _ ?_) | (with_reducible refine bel_alloc ?_ _) | (with_reducible refine bel_drew ?_) | (with_reducible refine bel_drewN ?_ _) | (with_reducible refine bel_set ?_ ?_ _) | (with_reducible refine After.out _ ?_ ?_) | (dsimp only; omega) | omega | (simp only [World.size_alloc, World.size_setCell, World.size_drew]; omega))))
    · rcases sameB c.val c.place with ⟨h1, h2⟩ | ⟨h1, h2⟩
      · have Y := Lib.hid (show valueB c = false by rw [X.out, hw]; simp [h1])
        clear h1
        go_enter Tryz.func146, Tryz.ntmps146
        go_wp2_with fail
        with_reducible refine (isWord_b _ s3 hw).mono ?_
        rintro e w' ⟨rfl, y1, rfl⟩
        have hsy1 := y1.bel.size
        (try simp only [World.size_alloc, World.size_setCell, World.size_drew] at hsy1)
        go_wp2_with fail
        go_ret
        exact .mk (by rw [Y.out]; rfl) (by (repeat (first | (with_reducible exact Below.refl _ _) | (with_reducible assumption) | (with_reducible refine Later.out _ ?_) | (with_reducible refine bel_alloc ?_ _) | (with_reducible refine bel_drew ?_) | (with_reducible refine bel_drewN ?_ _) | (with_reducible refine bel_set ?_ ?_ _) | (with_reducible refine After.out _ ?_ ?_) | (dsimp only; omega) | omega | (simp only [World.size_alloc, World.size_setCell, World.size_drew]; omega))))
      · have Y := Lib.hid (show valueB c = true by rw [X.out, hw]; simp [h1])
        clear h1
        go_enter Tryz.func146, Tryz.ntmps146
        go_wp2_with fail
        with_reducible refine (isWord_b _ s3 hw).mono ?_
        rintro e w' ⟨rfl, y1, rfl⟩
        have hsy1 := y1.bel.size
        (try simp only [World.size_alloc, World.size_setCell, World.size_drew] at hsy1)
        go_wp2_with fail
        go_ret
        exact .mk (by rw [Y.out]; rfl) (by (repeat (first | (with_reducible exact Below.refl _ _) | (with_reducible assumption) | (with_reducible refine Later.out _ ?_) | (with_reducible refine bel_alloc ?_ _) | (with_reducible refine bel_drew ?_) | (with_reducible refine bel_drewN ?_ _) | (with_reducible refine bel_set ?_ ?_ _) | (with_reducible refine After.out _ ?_ ?_) | (dsimp only; omega) | omega | (simp only [World.size_alloc, World.size_setCell, World.size_drew]; omega))))
  by_cases k23 : c.kind = 2 ∨ c.kind = 3
  · have X := Lib.hid (valueB_plain k23)
    rcases k23 with k | k
    all_goals
      unfold clmV
      rw [k]
      clear k k0 k1
      go_enter Tryz.func146, Tryz.ntmps146
      go_wp2_with fail
      go_ret
      exact .mk (by rw [X.out]; rfl) (by (repeat (first | (with_reducible exact Below.refl _ _) | (with_reducible assumption) | (with_reducible refine Later.out _ ?_) | (with_reducible refine bel_alloc ?_ _) | (with_reducible refine bel_drew ?_) | (with_reducible refine bel_drewN ?_ _) | (with_reducible refine bel_set ?_ ?_ _) | (with_reducible refine After.out _ ?_ ?_) | (dsimp only; omega) | omega | (simp only [World.size_alloc, World.size_setCell, World.size_drew]; omega))))
  have X := Lib.hid (valueB_else k0 k1 (fun h => k23 (.inl h)) (fun h => k23 (.inr h)))
  have e0 : (c.kind == 0) = false := by simp [k0]
  have e1 : (c.kind == 1) = false := by simp [k1]
  have e2 : (c.kind == 2) = false := by rw [beq_eq_false_iff_ne]; exact fun h => k23 (.inl h)
  have e3 : (c.kind == 3) = false := by rw [beq_eq_false_iff_ne]; exact fun h => k23 (.inr h)
  clear k0 k1 k23
  go_enter Tryz.func146, Tryz.ntmps146
  go_wp2_with fail
  go_ret
  exact .mk (by rw [X.out]; rfl) (by (repeat (first | (with_reducible exact Below.refl _ _) | (with_reducible assumption) | (with_reducible refine Later.out _ ?_) | (with_reducible refine bel_alloc ?_ _) | (with_reducible refine bel_drew ?_) | (with_reducible refine bel_drewN ?_ _) | (with_reducible refine bel_set ?_ ?_ _) | (with_reducible refine After.out _ ?_ ?_) | (dsimp only; omega) | omega | (simp only [World.size_alloc, World.size_setCell, World.size_drew]; omega))))
theorem isClaimValue_b {c w} {b : Bool} (ok : ClmOk c) (hx : Max w) (h : valueB c = b) : Calls Tryz.prog 146 #[clmV c] w (Ret w (.bool b)) := by subst h; exact isClaimValue_any _ _ ok hx
theorem wordsB_two (a b : ByteArray) : wordsB [a, b] = (wordB a && wordB b) := by simp [wordsB]
set_option maxHeartbeats 1000000 in
theorem isClaim_any (ok : ClmOk c) (hx : Max w) : Calls Tryz.prog 111 #[clmV c] w (Ret w (.bool (claimB c))) := by
  have s1 := ok.s1
  have s2 := ok.s2
  have OK := Lib.hid ok
  have hin : ∀ s ∈ [c.src, c.place], s.size ≤ 1048576 := by simp [s1, s2]
  replace hin := Lib.hid hin
  replace hx := Lib.hid hx
  have HW := fun a w hr => areWords_any [c.src, c.place] a 2 2 w rfl (by omega) hr hin.out
  cases h1 : wordsB [c.src, c.place]
  · rw [h1] at HW
    replace HW := Lib.hid HW
    have X := Lib.hid (show claimB c = false by rw [wordsB_two] at h1; simp [claimB, h1])
    clear h1 ok
    go_enter Tryz.func111, Tryz.ntmps111
    go_wp2_with fail
    with_reducible refine (HW.out _ _ (Row.madeAt (by simp only [World.size_alloc]) (by simp [strCells]))).mono ?_
    rintro e w' ⟨rfl, y1, rfl⟩
    have hsy1 := y1.bel.size
    (try simp only [World.size_alloc, World.size_setCell, World.size_drew] at hsy1)
    go_wp2_with fail
    go_ret
    exact .mk (by rw [X.out]; rfl) (by (repeat (first | (with_reducible exact Below.refl _ _) | (with_reducible assumption) | (with_reducible refine Later.out _ ?_) | (with_reducible refine bel_alloc ?_ _) | (with_reducible refine bel_drew ?_) | (with_reducible refine bel_drewN ?_ _) | (with_reducible refine bel_set ?_ ?_ _) | (with_reducible refine After.out _ ?_ ?_) | (dsimp only; omega) | omega | (simp only [World.size_alloc, World.size_setCell, World.size_drew]; omega))))
  rw [h1] at HW
  replace HW := Lib.hid HW
  have E : claimB c = (valueB c && spanB c.fr c.to && inB c.wt 1 100) := by rw [wordsB_two] at h1; simp only [claimB, h1, Bool.true_and]
  clear h1 ok
  cases h2 : valueB c
  · have X := Lib.hid (show claimB c = false by simp [E, h2])
    clear E
    go_enter Tryz.func111, Tryz.ntmps111
    go_wp2_with fail
    with_reducible refine (HW.out _ _ (Row.madeAt (by simp only [World.size_alloc]) (by simp [strCells]))).mono ?_
    rintro e w' ⟨rfl, y1, rfl⟩
    have hsy1 := y1.bel.size
    (try simp only [World.size_alloc, World.size_setCell, World.size_drew] at hsy1)
    go_wp2_with fail
    with_reducible refine (isClaimValue_b OK.out (hx.out.bel (by (repeat (first | (with_reducible exact Below.refl _ _) | (with_reducible assumption) | (with_reducible refine Later.out _ ?_) | (with_reducible refine bel_alloc ?_ _) | (with_reducible refine bel_drew ?_) | (with_reducible refine bel_drewN ?_ _) | (with_reducible refine bel_set ?_ ?_ _) | (with_reducible refine After.out _ ?_ ?_) | (dsimp only; omega) | omega | (simp only [World.size_alloc, World.size_setCell, World.size_drew]; omega))))) h2).mono ?_
    rintro e w' ⟨rfl, y2, rfl⟩
    have hsy2 := y2.bel.size
    (try simp only [World.size_alloc, World.size_setCell, World.size_drew] at hsy2)
    go_wp2_with fail
    go_ret
    exact .mk (by rw [X.out]; rfl) (by (repeat (first | (with_reducible exact Below.refl _ _) | (with_reducible assumption) | (with_reducible refine Later.out _ ?_) | (with_reducible refine bel_alloc ?_ _) | (with_reducible refine bel_drew ?_) | (with_reducible refine bel_drewN ?_ _) | (with_reducible refine bel_set ?_ ?_ _) | (with_reducible refine After.out _ ?_ ?_) | (dsimp only; omega) | omega | (simp only [World.size_alloc, World.size_setCell, World.size_drew]; omega))))
  cases h3 : spanB c.fr c.to
  · have X := Lib.hid (show claimB c = false by simp [E, h3])
    clear E
    go_enter Tryz.func111, Tryz.ntmps111
    go_wp2_with fail
    with_reducible refine (HW.out _ _ (Row.madeAt (by simp only [World.size_alloc]) (by simp [strCells]))).mono ?_
    rintro e w' ⟨rfl, y1, rfl⟩
    have hsy1 := y1.bel.size
    (try simp only [World.size_alloc, World.size_setCell, World.size_drew] at hsy1)
    go_wp2_with fail
    with_reducible refine (isClaimValue_b OK.out (hx.out.bel (by (repeat (first | (with_reducible exact Below.refl _ _) | (with_reducible assumption) | (with_reducible refine Later.out _ ?_) | (with_reducible refine bel_alloc ?_ _) | (with_reducible refine bel_drew ?_) | (with_reducible refine bel_drewN ?_ _) | (with_reducible refine bel_set ?_ ?_ _) | (with_reducible refine After.out _ ?_ ?_) | (dsimp only; omega) | omega | (simp only [World.size_alloc, World.size_setCell, World.size_drew]; omega))))) h2).mono ?_
    rintro e w' ⟨rfl, y2, rfl⟩
    have hsy2 := y2.bel.size
    (try simp only [World.size_alloc, World.size_setCell, World.size_drew] at hsy2)
    go_wp2_with fail
    with_reducible refine (isSpan_b h3).mono ?_
    rintro e w' ⟨rfl, y3, rfl⟩
    have hsy3 := y3.bel.size
    (try simp only [World.size_alloc, World.size_setCell, World.size_drew] at hsy3)
    go_wp2_with fail
    go_ret
    exact .mk (by rw [X.out]; rfl) (by (repeat (first | (with_reducible exact Below.refl _ _) | (with_reducible assumption) | (with_reducible refine Later.out _ ?_) | (with_reducible refine bel_alloc ?_ _) | (with_reducible refine bel_drew ?_) | (with_reducible refine bel_drewN ?_ _) | (with_reducible refine bel_set ?_ ?_ _) | (with_reducible refine After.out _ ?_ ?_) | (dsimp only; omega) | omega | (simp only [World.size_alloc, World.size_setCell, World.size_drew]; omega))))
  have X := Lib.hid (show claimB c = inB c.wt 1 100 by simp [E, h2, h3])
  clear E
  go_enter Tryz.func111, Tryz.ntmps111
  go_wp2_with fail
  with_reducible refine (HW.out _ _ (Row.madeAt (by simp only [World.size_alloc]) (by simp [strCells]))).mono ?_
  rintro e w' ⟨rfl, y1, rfl⟩
  have hsy1 := y1.bel.size
  (try simp only [World.size_alloc, World.size_setCell, World.size_drew] at hsy1)
  go_wp2_with fail
  with_reducible refine (isClaimValue_b OK.out (hx.out.bel (by (repeat (first | (with_reducible exact Below.refl _ _) | (with_reducible assumption) | (with_reducible refine Later.out _ ?_) | (with_reducible refine bel_alloc ?_ _) | (with_reducible refine bel_drew ?_) | (with_reducible refine bel_drewN ?_ _) | (with_reducible refine bel_set ?_ ?_ _) | (with_reducible refine After.out _ ?_ ?_) | (dsimp only; omega) | omega | (simp only [World.size_alloc, World.size_setCell, World.size_drew]; omega))))) h2).mono ?_
  rintro e w' ⟨rfl, y2, rfl⟩
  have hsy2 := y2.bel.size
  (try simp only [World.size_alloc, World.size_setCell, World.size_drew] at hsy2)
  go_wp2_with fail
  with_reducible refine (isSpan_b h3).mono ?_
  rintro e w' ⟨rfl, y3, rfl⟩
  have hsy3 := y3.bel.size
  (try simp only [World.size_alloc, World.size_setCell, World.size_drew] at hsy3)
  go_wp2_with fail
  with_reducible refine (within_any _ _ _ _).mono ?_
  rintro e w' ⟨rfl, y4, rfl⟩
  have hsy4 := y4.bel.size
  (try simp only [World.size_alloc, World.size_setCell, World.size_drew] at hsy4)
  go_wp2_with fail
  go_ret
  exact .mk (by rw [X.out]; rfl) (by (repeat (first | (with_reducible exact Below.refl _ _) | (with_reducible assumption) | (with_reducible refine Later.out _ ?_) | (with_reducible refine bel_alloc ?_ _) | (with_reducible refine bel_drew ?_) | (with_reducible refine bel_drewN ?_ _) | (with_reducible refine bel_set ?_ ?_ _) | (with_reducible refine After.out _ ?_ ?_) | (dsimp only; omega) | omega | (simp only [World.size_alloc, World.size_setCell, World.size_drew]; omega))))
theorem isClaim_b {c w} {b : Bool} (ok : ClmOk c) (hx : Max w) (h : claimB c = b) : Calls Tryz.prog 111 #[clmV c] w (Ret w (.bool b)) := by subst h; exact isClaim_any _ _ ok hx
end
end Go.Proofs.YtcpddgkloeklaaaGreatDoor

/- Is it a claim, the reference's way; facts. -/
set_option linter.unusedSimpArgs false
set_option linter.unusedVariables false
namespace Go.Proofs.YtcpddgkloeklaaaGreatDoor
open Go.RowKit
section
variable (c : Clm) (w : World)
theorem claimB_w1 {c : Clm} (h : wordB c.src = false) : claimB c = false := by simp [claimB, h]
theorem claimB_w2 {c : Clm} (h : wordB c.place = false) : claimB c = false := by simp [claimB, h]
theorem claimB_w3 {c : Clm} (h : spanB c.fr c.to = false) : claimB c = false := by simp [claimB, h]
theorem claimB_w4 {c : Clm} (h : inB c.wt 1 100 = false) : claimB c = false := by simp [claimB, h]
theorem claimB_w5 {c : Clm} (h1 : wordB c.src = true) (h2 : wordB c.place = true) (h3 : spanB c.fr c.to = true) (h4 : inB c.wt 1 100 = true) : claimB c = valueB c := by simp [claimB, h1, h2, h3, h4]
set_option maxHeartbeats 2000000 in
theorem sIsClaim_any (ok : ClmOk c) : Calls Tryz.prog 108 #[clmV c] w (Ret w (.bool (claimB c))) := by
  obtain ⟨s1, s2, s3⟩ := ok
  cases h1 : wordB c.src
  · have X := Lib.hid (claimB_w1 h1)
    go_enter Tryz.func108, Tryz.ntmps108
    go_wp2_with fail
    with_reducible refine (sIsWord_b _ s1 h1).mono ?_
    rintro e w' ⟨rfl, y1, rfl⟩
    have hsy1 := y1.bel.size
    (try simp only [World.size_alloc, World.size_setCell, World.size_drew] at hsy1)
    go_wp2_with fail
    go_ret
    exact .mk (by rw [X.out]; rfl) (by (repeat (first | (with_reducible exact Below.refl _ _) | (with_reducible assumption) | (with_reducible refine Later.out _ ?_) | (with_reducible refine bel_alloc ?_ _) | (with_reducible refine bel_drew ?_) | (with_reducible refine bel_drewN ?_ _) | (with_reducible refine bel_set ?_ ?_ _) | (with_reducible refine After.out _ ?_ ?_) | (dsimp only; omega) | omega | (simp only [World.size_alloc, World.size_setCell, World.size_drew]; omega))))
  cases h2 : wordB c.place
  · have X := Lib.hid (claimB_w2 h2)
    go_enter Tryz.func108, Tryz.ntmps108
    go_wp2_with fail
    with_reducible refine (sIsWord_b _ s1 h1).mono ?_
    rintro e w' ⟨rfl, y1, rfl⟩
    have hsy1 := y1.bel.size
    (try simp only [World.size_alloc, World.size_setCell, World.size_drew] at hsy1)
    go_wp2_with fail
    with_reducible refine (sIsWord_b _ s2 h2).mono ?_
    rintro e w' ⟨rfl, y2, rfl⟩
    have hsy2 := y2.bel.size
    (try simp only [World.size_alloc, World.size_setCell, World.size_drew] at hsy2)
    go_wp2_with fail
    go_ret
    exact .mk (by rw [X.out]; rfl) (by (repeat (first | (with_reducible exact Below.refl _ _) | (with_reducible assumption) | (with_reducible refine Later.out _ ?_) | (with_reducible refine bel_alloc ?_ _) | (with_reducible refine bel_drew ?_) | (with_reducible refine bel_drewN ?_ _) | (with_reducible refine bel_set ?_ ?_ _) | (with_reducible refine After.out _ ?_ ?_) | (dsimp only; omega) | omega | (simp only [World.size_alloc, World.size_setCell, World.size_drew]; omega))))
  cases h3 : spanB c.fr c.to
  · have X := Lib.hid (claimB_w3 h3)
    go_enter Tryz.func108, Tryz.ntmps108
    go_wp2_with fail
    with_reducible refine (sIsWord_b _ s1 h1).mono ?_
    rintro e w' ⟨rfl, y1, rfl⟩
    have hsy1 := y1.bel.size
    (try simp only [World.size_alloc, World.size_setCell, World.size_drew] at hsy1)
    go_wp2_with fail
    with_reducible refine (sIsWord_b _ s2 h2).mono ?_
    rintro e w' ⟨rfl, y2, rfl⟩
    have hsy2 := y2.bel.size
    (try simp only [World.size_alloc, World.size_setCell, World.size_drew] at hsy2)
    go_wp2_with fail
    with_reducible refine (sIsSpan_b h3).mono ?_
    rintro e w' ⟨rfl, y3, rfl⟩
    have hsy3 := y3.bel.size
    (try simp only [World.size_alloc, World.size_setCell, World.size_drew] at hsy3)
    go_wp2_with fail
    go_ret
    exact .mk (by rw [X.out]; rfl) (by (repeat (first | (with_reducible exact Below.refl _ _) | (with_reducible assumption) | (with_reducible refine Later.out _ ?_) | (with_reducible refine bel_alloc ?_ _) | (with_reducible refine bel_drew ?_) | (with_reducible refine bel_drewN ?_ _) | (with_reducible refine bel_set ?_ ?_ _) | (with_reducible refine After.out _ ?_ ?_) | (dsimp only; omega) | omega | (simp only [World.size_alloc, World.size_setCell, World.size_drew]; omega))))
  cases h4 : inB c.wt 1 100
  · have X := Lib.hid (claimB_w4 h4)
    go_enter Tryz.func108, Tryz.ntmps108
    go_wp2_with fail
    with_reducible refine (sIsWord_b _ s1 h1).mono ?_
    rintro e w' ⟨rfl, y1, rfl⟩
    have hsy1 := y1.bel.size
    (try simp only [World.size_alloc, World.size_setCell, World.size_drew] at hsy1)
    go_wp2_with fail
    with_reducible refine (sIsWord_b _ s2 h2).mono ?_
    rintro e w' ⟨rfl, y2, rfl⟩
    have hsy2 := y2.bel.size
    (try simp only [World.size_alloc, World.size_setCell, World.size_drew] at hsy2)
    go_wp2_with fail
    with_reducible refine (sIsSpan_b h3).mono ?_
    rintro e w' ⟨rfl, y3, rfl⟩
    have hsy3 := y3.bel.size
    (try simp only [World.size_alloc, World.size_setCell, World.size_drew] at hsy3)
    go_wp2_with fail
    with_reducible refine (l01In_b _ h4).mono ?_
    rintro e w' ⟨rfl, y4, rfl⟩
    have hsy4 := y4.bel.size
    (try simp only [World.size_alloc, World.size_setCell, World.size_drew] at hsy4)
    go_wp2_with fail
    go_ret
    exact .mk (by rw [X.out]; rfl) (by (repeat (first | (with_reducible exact Below.refl _ _) | (with_reducible assumption) | (with_reducible refine Later.out _ ?_) | (with_reducible refine bel_alloc ?_ _) | (with_reducible refine bel_drew ?_) | (with_reducible refine bel_drewN ?_ _) | (with_reducible refine bel_set ?_ ?_ _) | (with_reducible refine After.out _ ?_ ?_) | (dsimp only; omega) | omega | (simp only [World.size_alloc, World.size_setCell, World.size_drew]; omega))))
  have E := claimB_w5 h1 h2 h3 h4
  rw [E]
  by_cases k0 : c.kind = 0
  · have X := Lib.hid (valueB_name k0)
    unfold clmV
    rw [k0]
    clear k0 E
    go_enter Tryz.func108, Tryz.ntmps108
    go_wp2_with fail
    with_reducible refine (sIsWord_b _ s1 h1).mono ?_
    rintro e w' ⟨rfl, y1, rfl⟩
    have hsy1 := y1.bel.size
    (try simp only [World.size_alloc, World.size_setCell, World.size_drew] at hsy1)
    go_wp2_with fail
    with_reducible refine (sIsWord_b _ s2 h2).mono ?_
    rintro e w' ⟨rfl, y2, rfl⟩
    have hsy2 := y2.bel.size
    (try simp only [World.size_alloc, World.size_setCell, World.size_drew] at hsy2)
    go_wp2_with fail
    with_reducible refine (sIsSpan_b h3).mono ?_
    rintro e w' ⟨rfl, y3, rfl⟩
    have hsy3 := y3.bel.size
    (try simp only [World.size_alloc, World.size_setCell, World.size_drew] at hsy3)
    go_wp2_with fail
    with_reducible refine (l01In_b _ h4).mono ?_
    rintro e w' ⟨rfl, y4, rfl⟩
    have hsy4 := y4.bel.size
    (try simp only [World.size_alloc, World.size_setCell, World.size_drew] at hsy4)
    go_wp2_with fail
    with_reducible refine (sIsPhrase_any _ _ s3).mono ?_
    rintro e w' ⟨rfl, y5, rfl⟩
    have hsy5 := y5.bel.size
    (try simp only [World.size_alloc, World.size_setCell, World.size_drew] at hsy5)
    go_wp2_with fail
    go_ret
    exact .mk (by rw [X.out]; rfl) (by (repeat (first | (with_reducible exact Below.refl _ _) | (with_reducible assumption) | (with_reducible refine Later.out _ ?_) | (with_reducible refine bel_alloc ?_ _) | (with_reducible refine bel_drew ?_) | (with_reducible refine bel_drewN ?_ _) | (with_reducible refine bel_set ?_ ?_ _) | (with_reducible refine After.out _ ?_ ?_) | (dsimp only; omega) | omega | (simp only [World.size_alloc, World.size_setCell, World.size_drew]; omega))))
  by_cases k1 : c.kind = 1
  · have X := Lib.hid (valueB_parent k1)
    unfold clmV
    rw [k1]
    clear k0 k1 E
    cases hw : wordB c.val
    · have Y := Lib.hid (show valueB c = false by rw [X.out, hw]; rfl)
      go_enter Tryz.func108, Tryz.ntmps108
      go_wp2_with fail
      with_reducible refine (sIsWord_b _ s1 h1).mono ?_
      rintro e w' ⟨rfl, y1, rfl⟩
      have hsy1 := y1.bel.size
      (try simp only [World.size_alloc, World.size_setCell, World.size_drew] at hsy1)
      go_wp2_with fail
      with_reducible refine (sIsWord_b _ s2 h2).mono ?_
      rintro e w' ⟨rfl, y2, rfl⟩
      have hsy2 := y2.bel.size
      (try simp only [World.size_alloc, World.size_setCell, World.size_drew] at hsy2)
      go_wp2_with fail
      with_reducible refine (sIsSpan_b h3).mono ?_
      rintro e w' ⟨rfl, y3, rfl⟩
      have hsy3 := y3.bel.size
      (try simp only [World.size_alloc, World.size_setCell, World.size_drew] at hsy3)
      go_wp2_with fail
      with_reducible refine (l01In_b _ h4).mono ?_
      rintro e w' ⟨rfl, y4, rfl⟩
      have hsy4 := y4.bel.size
      (try simp only [World.size_alloc, World.size_setCell, World.size_drew] at hsy4)
      go_wp2_with fail
      with_reducible refine (sIsWord_b _ s3 hw).mono ?_
      rintro e w' ⟨rfl, y5, rfl⟩
      have hsy5 := y5.bel.size
      (try simp only [World.size_alloc, World.size_setCell, World.size_drew] at hsy5)
      go_wp2_with fail
      go_ret
      exact .mk (by rw [Y.out]; rfl) (by (repeat (first | (with_reducible exact Below.refl _ _) | (with_reducible assumption) | (with_reducible refine Later.out _ ?_) | (with_reducible refine bel_alloc ?_ _) | (with_reducible refine bel_drew ?_) | (with_reducible refine bel_drewN ?_ _) | (with_reducible refine bel_set ?_ ?_ _) | (with_reducible refine After.out _ ?_ ?_) | (dsimp only; omega) | omega | (simp only [World.size_alloc, World.size_setCell, World.size_drew]; omega))))
    · rcases sameB c.val c.place with ⟨e1, e2⟩ | ⟨e1, e2⟩
      · have Y := Lib.hid (show valueB c = false by rw [X.out, hw]; simp [e1])
        clear e1
        go_enter Tryz.func108, Tryz.ntmps108
        go_wp2_with fail
        with_reducible refine (sIsWord_b _ s1 h1).mono ?_
        rintro e w' ⟨rfl, y1, rfl⟩
        have hsy1 := y1.bel.size
        (try simp only [World.size_alloc, World.size_setCell, World.size_drew] at hsy1)
        go_wp2_with fail
        with_reducible refine (sIsWord_b _ s2 h2).mono ?_
        rintro e w' ⟨rfl, y2, rfl⟩
        have hsy2 := y2.bel.size
        (try simp only [World.size_alloc, World.size_setCell, World.size_drew] at hsy2)
        go_wp2_with fail
        with_reducible refine (sIsSpan_b h3).mono ?_
        rintro e w' ⟨rfl, y3, rfl⟩
        have hsy3 := y3.bel.size
        (try simp only [World.size_alloc, World.size_setCell, World.size_drew] at hsy3)
        go_wp2_with fail
        with_reducible refine (l01In_b _ h4).mono ?_
        rintro e w' ⟨rfl, y4, rfl⟩
        have hsy4 := y4.bel.size
        (try simp only [World.size_alloc, World.size_setCell, World.size_drew] at hsy4)
        go_wp2_with fail
        with_reducible refine (sIsWord_b _ s3 hw).mono ?_
        rintro e w' ⟨rfl, y5, rfl⟩
        have hsy5 := y5.bel.size
        (try simp only [World.size_alloc, World.size_setCell, World.size_drew] at hsy5)
        go_wp2_with fail
        go_ret
        exact .mk (by rw [Y.out]; rfl) (by (repeat (first | (with_reducible exact Below.refl _ _) | (with_reducible assumption) | (with_reducible refine Later.out _ ?_) | (with_reducible refine bel_alloc ?_ _) | (with_reducible refine bel_drew ?_) | (with_reducible refine bel_drewN ?_ _) | (with_reducible refine bel_set ?_ ?_ _) | (with_reducible refine After.out _ ?_ ?_) | (dsimp only; omega) | omega | (simp only [World.size_alloc, World.size_setCell, World.size_drew]; omega))))
      · have Y := Lib.hid (show valueB c = true by rw [X.out, hw]; simp [e1])
        clear e1
        go_enter Tryz.func108, Tryz.ntmps108
        go_wp2_with fail
        with_reducible refine (sIsWord_b _ s1 h1).mono ?_
        rintro e w' ⟨rfl, y1, rfl⟩
        have hsy1 := y1.bel.size
        (try simp only [World.size_alloc, World.size_setCell, World.size_drew] at hsy1)
        go_wp2_with fail
        with_reducible refine (sIsWord_b _ s2 h2).mono ?_
        rintro e w' ⟨rfl, y2, rfl⟩
        have hsy2 := y2.bel.size
        (try simp only [World.size_alloc, World.size_setCell, World.size_drew] at hsy2)
        go_wp2_with fail
        with_reducible refine (sIsSpan_b h3).mono ?_
        rintro e w' ⟨rfl, y3, rfl⟩
        have hsy3 := y3.bel.size
        (try simp only [World.size_alloc, World.size_setCell, World.size_drew] at hsy3)
        go_wp2_with fail
        with_reducible refine (l01In_b _ h4).mono ?_
        rintro e w' ⟨rfl, y4, rfl⟩
        have hsy4 := y4.bel.size
        (try simp only [World.size_alloc, World.size_setCell, World.size_drew] at hsy4)
        go_wp2_with fail
        with_reducible refine (sIsWord_b _ s3 hw).mono ?_
        rintro e w' ⟨rfl, y5, rfl⟩
        have hsy5 := y5.bel.size
        (try simp only [World.size_alloc, World.size_setCell, World.size_drew] at hsy5)
        go_wp2_with fail
        go_ret
        exact .mk (by rw [Y.out]; rfl) (by (repeat (first | (with_reducible exact Below.refl _ _) | (with_reducible assumption) | (with_reducible refine Later.out _ ?_) | (with_reducible refine bel_alloc ?_ _) | (with_reducible refine bel_drew ?_) | (with_reducible refine bel_drewN ?_ _) | (with_reducible refine bel_set ?_ ?_ _) | (with_reducible refine After.out _ ?_ ?_) | (dsimp only; omega) | omega | (simp only [World.size_alloc, World.size_setCell, World.size_drew]; omega))))
  by_cases k23 : c.kind = 2 ∨ c.kind = 3
  · have X := Lib.hid (valueB_plain k23)
    rcases k23 with k | k
    all_goals
      unfold clmV
      rw [k]
      clear k k0 k1 E
      go_enter Tryz.func108, Tryz.ntmps108
      go_wp2_with fail
      with_reducible refine (sIsWord_b _ s1 h1).mono ?_
      rintro e w' ⟨rfl, y1, rfl⟩
      have hsy1 := y1.bel.size
      (try simp only [World.size_alloc, World.size_setCell, World.size_drew] at hsy1)
      go_wp2_with fail
      with_reducible refine (sIsWord_b _ s2 h2).mono ?_
      rintro e w' ⟨rfl, y2, rfl⟩
      have hsy2 := y2.bel.size
      (try simp only [World.size_alloc, World.size_setCell, World.size_drew] at hsy2)
      go_wp2_with fail
      with_reducible refine (sIsSpan_b h3).mono ?_
      rintro e w' ⟨rfl, y3, rfl⟩
      have hsy3 := y3.bel.size
      (try simp only [World.size_alloc, World.size_setCell, World.size_drew] at hsy3)
      go_wp2_with fail
      with_reducible refine (l01In_b _ h4).mono ?_
      rintro e w' ⟨rfl, y4, rfl⟩
      have hsy4 := y4.bel.size
      (try simp only [World.size_alloc, World.size_setCell, World.size_drew] at hsy4)
      go_wp2_with fail
      go_ret
      exact .mk (by rw [X.out]; rfl) (by (repeat (first | (with_reducible exact Below.refl _ _) | (with_reducible assumption) | (with_reducible refine Later.out _ ?_) | (with_reducible refine bel_alloc ?_ _) | (with_reducible refine bel_drew ?_) | (with_reducible refine bel_drewN ?_ _) | (with_reducible refine bel_set ?_ ?_ _) | (with_reducible refine After.out _ ?_ ?_) | (dsimp only; omega) | omega | (simp only [World.size_alloc, World.size_setCell, World.size_drew]; omega))))
  have X := Lib.hid (valueB_else k0 k1 (fun h => k23 (.inl h)) (fun h => k23 (.inr h)))
  have e0 : (c.kind == 0) = false := by simp [k0]
  have e1 : (c.kind == 1) = false := by simp [k1]
  have e2 : (c.kind == 2) = false := by rw [beq_eq_false_iff_ne]; exact fun h => k23 (.inl h)
  have e3 : (c.kind == 3) = false := by rw [beq_eq_false_iff_ne]; exact fun h => k23 (.inr h)
  clear k0 k1 k23 E
  go_enter Tryz.func108, Tryz.ntmps108
  go_wp2_with fail
  with_reducible refine (sIsWord_b _ s1 h1).mono ?_
  rintro e w' ⟨rfl, y1, rfl⟩
  have hsy1 := y1.bel.size
  (try simp only [World.size_alloc, World.size_setCell, World.size_drew] at hsy1)
  go_wp2_with fail
  with_reducible refine (sIsWord_b _ s2 h2).mono ?_
  rintro e w' ⟨rfl, y2, rfl⟩
  have hsy2 := y2.bel.size
  (try simp only [World.size_alloc, World.size_setCell, World.size_drew] at hsy2)
  go_wp2_with fail
  with_reducible refine (sIsSpan_b h3).mono ?_
  rintro e w' ⟨rfl, y3, rfl⟩
  have hsy3 := y3.bel.size
  (try simp only [World.size_alloc, World.size_setCell, World.size_drew] at hsy3)
  go_wp2_with fail
  with_reducible refine (l01In_b _ h4).mono ?_
  rintro e w' ⟨rfl, y4, rfl⟩
  have hsy4 := y4.bel.size
  (try simp only [World.size_alloc, World.size_setCell, World.size_drew] at hsy4)
  go_wp2_with fail
  go_ret
  exact .mk (by rw [X.out]; rfl) (by (repeat (first | (with_reducible exact Below.refl _ _) | (with_reducible assumption) | (with_reducible refine Later.out _ ?_) | (with_reducible refine bel_alloc ?_ _) | (with_reducible refine bel_drew ?_) | (with_reducible refine bel_drewN ?_ _) | (with_reducible refine bel_set ?_ ?_ _) | (with_reducible refine After.out _ ?_ ?_) | (dsimp only; omega) | omega | (simp only [World.size_alloc, World.size_setCell, World.size_drew]; omega))))
theorem sIsClaim_b {c w} {b : Bool} (ok : ClmOk c) (h : claimB c = b) : Calls Tryz.prog 108 #[clmV c] w (Ret w (.bool b)) := by subst h; exact sIsClaim_any _ _ ok
end
end Go.Proofs.YtcpddgkloeklaaaGreatDoor

/- Sizes of the laws' arguments. -/
namespace Go.Proofs.YtcpddgkloeklaaaGreatDoor
/-- What is left of `left` behind `S`, -1 if nothing is. -/
def szR (S left : Int) : Int := if left - S < 0 then -1 else left - S
theorem szR_no {S left : Int} (h : left - S < 0) : szR S left = -1 := if_pos h
theorem szR_yes {S left : Int} (h : ¬ left - S < 0) : szR S left = left - S := if_neg h
end Go.Proofs.YtcpddgkloeklaaaGreatDoor

/- The law IsClaim; sizes and copies of claims. -/
set_option linter.unusedSimpArgs false
set_option linter.unusedVariables false
namespace Go.Proofs.YtcpddgkloeklaaaGreatDoor
open Go.RowKit
/-- How much a claim weighs for the laws. -/
def clmSz (c : Clm) : Int := c.src.size + c.place.size + c.val.size
theorem clmSz_nonneg (c : Clm) : 0 ≤ clmSz c := by unfold clmSz; omega
structure ClmMax (c : Clm) : Prop where
  s1 : c.src.size ≤ maxLen
  s2 : c.place.size ≤ maxLen
  s3 : c.val.size ≤ maxLen
section
variable (c : Clm) (left : Int) (w : World)
set_option maxHeartbeats 400000 in
theorem szClaim_any (hm : ClmMax c) (h3 : 0 ≤ left) (h4 : left ≤ 1048576) :
    Calls Tryz.prog 53 #[clmV c, .int .i64 left] w (Ret w (.int .i64 (szR (clmSz c) left))) := by
  obtain ⟨m1, m2, m3⟩ := hm
  unfold maxLen at m1 m2 m3
  by_cases c1 : left - c.src.size < 0
  · have X := Lib.hid (szR_no (S := clmSz c) (left := left) (by unfold clmSz; omega))
    go_enter Tryz.func53, Tryz.ntmps53
    go_wp2_with fail
    go_ret
    exact .mk (by rw [X.out]; rfl) (by (repeat (first | (with_reducible exact Below.refl _ _) | (with_reducible assumption) | (with_reducible refine Later.out _ ?_) | (with_reducible refine bel_alloc ?_ _) | (with_reducible refine bel_drew ?_) | (with_reducible refine bel_drewN ?_ _) | (with_reducible refine bel_set ?_ ?_ _) | (with_reducible refine After.out _ ?_ ?_) | (dsimp only; omega) | omega | (simp only [World.size_alloc, World.size_setCell, World.size_drew]; omega))))
  by_cases c2 : left - c.src.size - c.place.size < 0
  · have X := Lib.hid (szR_no (S := clmSz c) (left := left) (by unfold clmSz; omega))
    go_enter Tryz.func53, Tryz.ntmps53
    go_wp2_with fail
    go_ret
    exact .mk (by rw [X.out]; rfl) (by (repeat (first | (with_reducible exact Below.refl _ _) | (with_reducible assumption) | (with_reducible refine Later.out _ ?_) | (with_reducible refine bel_alloc ?_ _) | (with_reducible refine bel_drew ?_) | (with_reducible refine bel_drewN ?_ _) | (with_reducible refine bel_set ?_ ?_ _) | (with_reducible refine After.out _ ?_ ?_) | (dsimp only; omega) | omega | (simp only [World.size_alloc, World.size_setCell, World.size_drew]; omega))))
  by_cases c3 : left - c.src.size - c.place.size - c.val.size < 0
  · have X := Lib.hid (szR_no (S := clmSz c) (left := left) (by unfold clmSz; omega))
    go_enter Tryz.func53, Tryz.ntmps53
    go_wp2_with fail
    go_ret
    exact .mk (by rw [X.out]; rfl) (by (repeat (first | (with_reducible exact Below.refl _ _) | (with_reducible assumption) | (with_reducible refine Later.out _ ?_) | (with_reducible refine bel_alloc ?_ _) | (with_reducible refine bel_drew ?_) | (with_reducible refine bel_drewN ?_ _) | (with_reducible refine bel_set ?_ ?_ _) | (with_reducible refine After.out _ ?_ ?_) | (dsimp only; omega) | omega | (simp only [World.size_alloc, World.size_setCell, World.size_drew]; omega))))
  have X := Lib.hid (show szR (clmSz c) left = left - c.src.size - c.place.size - c.val.size by rw [szR_yes (by unfold clmSz; omega)]; unfold clmSz; omega)
  go_enter Tryz.func53, Tryz.ntmps53
  go_wp2_with fail
  go_ret
  exact .mk (by rw [X.out]; rfl) (by (repeat (first | (with_reducible exact Below.refl _ _) | (with_reducible assumption) | (with_reducible refine Later.out _ ?_) | (with_reducible refine bel_alloc ?_ _) | (with_reducible refine bel_drew ?_) | (with_reducible refine bel_drewN ?_ _) | (with_reducible refine bel_set ?_ ?_ _) | (with_reducible refine After.out _ ?_ ?_) | (dsimp only; omega) | omega | (simp only [World.size_alloc, World.size_setCell, World.size_drew]; omega))))
theorem toSpan_any (f t : Int) (w : World) : Calls Tryz.prog 96 #[.agg #[.int .i64 f, .int .i64 t]] w (Ret w (.agg #[.int .i64 f, .int .i64 t])) := by
  go_enter Tryz.func96, Tryz.ntmps96
  go_wp2_with fail
  go_returns
  refine .mk rfl ?_
  (repeat (first | (with_reducible exact Below.refl _ _) | (with_reducible assumption) | (with_reducible refine Later.out _ ?_) | (with_reducible refine bel_alloc ?_ _) | (with_reducible refine bel_drew ?_) | (with_reducible refine bel_drewN ?_ _) | (with_reducible refine bel_set ?_ ?_ _) | (with_reducible refine After.out _ ?_ ?_) | (dsimp only; omega) | omega | (simp only [World.size_alloc, World.size_setCell, World.size_drew]; omega)))
set_option maxHeartbeats 1000000 in
theorem toClaim_any : Calls Tryz.prog 56 #[clmV c] w (Ret w (clmV c)) := by
  go_enter Tryz.func56, Tryz.ntmps56
  go_wp2_with fail
  with_reducible refine (toSpan_any _ _ _).mono ?_
  rintro e w' ⟨rfl, y1, rfl⟩
  have hsy1 := y1.bel.size
  (try simp only [World.size_alloc, World.size_setCell, World.size_drew] at hsy1)
  go_wp2_with fail
  refine bodyPost_ret (v := clmV c) (by simp [results, Tryz.results56, go_sem, ↓IntWalk.iteOmega]; try rfl) rfl ?_
  refine .mk rfl ?_
  (repeat (first | (with_reducible exact Below.refl _ _) | (with_reducible assumption) | (with_reducible refine Later.out _ ?_) | (with_reducible refine bel_alloc ?_ _) | (with_reducible refine bel_drew ?_) | (with_reducible refine bel_drewN ?_ _) | (with_reducible refine bel_set ?_ ?_ _) | (with_reducible refine After.out _ ?_ ?_) | (dsimp only; omega) | omega | (simp only [World.size_alloc, World.size_setCell, World.size_drew]; omega)))
end
theorem clmOk_of {c : Clm} {k : Int} (h : ¬ (k - clmSz c < 0)) (hk : k ≤ 1048576) : ClmOk c := by
  unfold clmSz at h
  exact ⟨by omega, by omega, by omega⟩
end Go.Proofs.YtcpddgkloeklaaaGreatDoor
