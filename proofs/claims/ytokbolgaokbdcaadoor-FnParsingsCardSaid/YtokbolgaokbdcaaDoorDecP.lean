import Derived.Test.YtokbolgaokbdcaaDoorStb
/- Decoding, both sides. -/
set_option linter.unusedSimpArgs false
set_option linter.unusedVariables false
namespace Go.Proofs.YtokbolgaokbdcaaDoor
open Go.RowKit
/-- Whether the text is decoded, and to what. -/
def dcK (T : List Rul) (s : ByteArray) : Bool := fpK T s && stb T (fpL T s)
def dcL (T : List Rul) (s : ByteArray) : List Int := if dcK T s then signsL T (fpL T s) else []
theorem fpL_in {T : List Rul} {s : ByteArray} (h : fpK T s = true) : inT T (fpL T s) := by
  have hw : 0 < ways T s 0 := by simpa [fpK] using h
  have key : ∀ (f i : Nat), 0 < ways T s i → s.size - i ≤ f → inT T (firstL T s f i) := by
    intro f
    induction f with
    | zero => intro i _ _ x hx; simp [firstL] at hx
    | succ f ih =>
      intro i hw hf
      by_cases hi : i < s.size
      · obtain ⟨k, hk, _, h1, h2, _, h3⟩ := first_step (f := f + 1) hi hw hf
        rw [h3]
        have h4 := fitsAt_iff.1 h1
        intro x hx
        rcases List.mem_cons.1 hx with rfl | hx
        · omega
        · exact ih _ h2 (by omega) x hx
      · rw [firstL_end (by omega)]
        intro x hx; cases hx
  unfold fpL
  rw [h]
  exact key _ 0 hw (by omega)
/-- What the reference hands back: its signs count only where it says yes. -/
def RetDec (w : World) (T : List Rul) (s : ByteArray) (e : Ending) (w' : World) : Prop :=
  ∃ (a : Option Addr) (c : Nat) (S : List Int), e = .returned (.tuple #[.slice a S.length c, .bool (dcK T s)]) ∧ w'.ownsRow w.heap.size 2 1 (.slice a S.length c) S.length (intCells S) ∧ (dcK T s = true → S = dcL T s) ∧ ∃ y : Later w, w' = y.w
theorem RetDec.mk {w w' : World} {T : List Rul} {s : ByteArray} {e : Ending} {a : Option Addr} {c n : Nat} {b : Bool} (S : List Int) (hn : n = S.length) (he : e = .returned (.tuple #[.slice a n c, .bool b])) (hb : dcK T s = b) (ho : w'.ownsRow w.heap.size 2 1 (.slice a n c) n (intCells S)) (hS : b = true → S = dcL T s) (hw : Below w.heap.size w w') : RetDec w T s e w' := by
  subst hn hb
  exact ⟨a, c, S, he, ho, hS, ⟨w', hw⟩, rfl⟩
end Go.Proofs.YtokbolgaokbdcaaDoor
