import Derived.Test.YtkkhjbdnpobpnaaApp
import Derived.StillTailTactics
/- A drawn region that reads (no calls) before one writing operation. -/
set_option linter.unusedSimpArgs false
set_option linter.unusedVariables false
namespace Go.Proofs.Ytkkhjbdnpobpnaa
open Go.RowKit
theorem Owns.drew {w : World} {lo hi e s n : Nat} {a : Option Addr} {c : Nat} {xs : List Value} (h : Owns w lo hi e s n a c xs) : Owns w.drew lo hi e s n a c xs := h.bel (B := hi) (Below.refl _ _).drew (Nat.le_refl _)
theorem wpStill_of_quiet {P : Program} {ops : Array Oper} {C : World → Prop} {Q : Act → Prop} {w : World} (hC : C w) : ∀ {l : List Oper} {a : Act}, (l.all fun o => opQuiet o.op) = true → wpQuiet P ops C Q l a → wpStill P ops w Q l a
  | [], a, _, h => h
  | o :: rest, a, hq, h => by
    simp only [List.all_cons, Bool.and_eq_true] at hq
    have h' : if Region.wanted o (yielded ops a.tmps) then o.quiet P a C (wpQuiet P ops C Q rest) else wpQuiet P ops C Q rest (a.put o.dst undef) := h
    show if Region.wanted o (yielded ops a.tmps) then o.still P a w (wpStill P ops w Q rest) else wpStill P ops w Q rest (a.put o.dst undef)
    split
    · rename_i hw
      rw [if_pos hw] at h'
      obtain ⟨v, hv, hn⟩ := h'
      have := hv w hC
      unfold Oper.quietAt at this
      unfold Oper.still
      generalize hr : (execOp a.eval o).run P w = res at this ⊢
      cases res with
      | halt x w1 => simp only [Oper.quietUpon] at this
      | ok n w1 =>
        obtain ⟨u, rfl⟩ := value_of_quiet hq.1 hr
        simp only [Oper.quietUpon] at this
        obtain ⟨rfl, rfl⟩ := this
        simp only [Oper.stillUpon]
        exact ⟨trivial, wpStill_of_quiet hC hq.2 hn⟩
    · rename_i hw
      rw [if_neg hw] at h'
      exact wpStill_of_quiet hC hq.2 h'
end Go.Proofs.Ytkkhjbdnpobpnaa
