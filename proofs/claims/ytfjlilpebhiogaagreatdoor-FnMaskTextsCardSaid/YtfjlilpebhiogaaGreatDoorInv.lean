import Derived.Test.YtfjlilpebhiogaaGreatDoorPackA
import Derived.StillTailTactics
/- A drawn region, whatever the order: an invariant in the place of the orders. Each operation is proved once, in every state in which it can come up. -/
set_option linter.unusedSimpArgs false
set_option linter.unusedVariables false
namespace Go.Proofs.YtfjlilpebhiogaaGreatDoor
open Go.RowKit
/-- The act once each operation has put what `x` says. -/
def putAll : List Oper → Nat → (Nat → Value) → Act → Act
  | [], _, _, a => a
  | o :: l, k, x, a => putAll l (k + 1) x (a.put o.dst (x k))
/-- No two operations write the same slot. -/
def apartB : List Oper → Bool
  | [] => true
  | o :: l => (match o.dst with | some d => l.all fun o' => o'.dst != some d | none => true) && apartB l
theorem put_put (a : Act) (d : Option Tmp) (u v : Value) : (a.put d u).put d v = a.put d v := by
  cases d with
  | none => rfl
  | some d => simp [Act.put]
theorem put_comm (a : Act) {d e : Option Tmp} (h : d ≠ e) (u v : Value) : (a.put d u).put e v = (a.put e v).put d u := by
  cases d with
  | none => rfl
  | some d =>
    cases e with
    | none => rfl
    | some e =>
      have hne : d ≠ e := fun he => h (by rw [he])
      simp only [Act.put]
      rw [Array.setIfInBounds_comm _ _ hne]
theorem put_self (a : Act) (d : Option Tmp) : ∃ v, a.put d v = a := by
  cases d with
  | none => exact ⟨undef, rfl⟩
  | some d =>
    refine ⟨a.tmps.getD d undef, ?_⟩
    simp only [Act.put]
    congr 1
    apply Array.ext
    · simp
    · intro i h1 h2
      rw [Array.getElem_setIfInBounds (by simpa using h1)]
      split
      · rename_i h; subst h; simp [Array.getD, h2]
      · rfl
theorem putAll_self (a : Act) : ∀ (l : List Oper) (k : Nat), ∃ x, putAll l k x a = a
  | [], k => ⟨fun _ => undef, rfl⟩
  | o :: l, k => by
    obtain ⟨v, hv⟩ := put_self a o.dst
    obtain ⟨x, hx⟩ := putAll_self a l (k + 1)
    refine ⟨fun j => if j = k then v else x j, ?_⟩
    have e : ∀ (l : List Oper) (k' : Nat) (b : Act), k < k' → putAll l k' (fun j => if j = k then v else x j) b = putAll l k' x b := by
      intro l
      induction l with
      | nil => intro k' b _; rfl
      | cons o l ih =>
        intro k' b hk
        simp only [putAll]
        rw [if_neg (by omega), ih _ _ (by omega)]
    simp only [putAll, if_true]
    rw [hv, e _ _ _ (by omega), hx]
theorem putAll_agree {x y : Nat → Value} : ∀ (l : List Oper) (k : Nat) (a : Act), (∀ j, k ≤ j → x j = y j) → putAll l k x a = putAll l k y a
  | [], _, _, _ => rfl
  | o :: l, k, a, h => by
    simp only [putAll]
    rw [h k (Nat.le_refl _), putAll_agree l (k + 1) _ fun j hj => h j (by omega)]
theorem putAll_put {d : Option Tmp} {v : Value} {x : Nat → Value} : ∀ (l : List Oper) (k : Nat) (a : Act), (∀ o ∈ l, o.dst ≠ d ∨ d = none) → (putAll l k x a).put d v = putAll l k x (a.put d v)
  | [], _, _, _ => rfl
  | o :: l, k, a, h => by
    simp only [putAll]
    rw [putAll_put l (k + 1) _ fun o' ho' => h o' (by simp [ho'])]
    rcases h o (by simp) with h1 | h1
    · rw [put_comm _ h1]
    · subst h1; rfl
theorem putAll_at {v : Value} {x : Nat → Value} : ∀ (l : List Oper) (k i : Nat) (o : Oper) (a : Act), apartB l = true → l[i]? = some o → (putAll l k x a).put o.dst v = putAll l k (fun j => if j = k + i then v else x j) a
  | [], _, _, _, _, _, h => by simp at h
  | o' :: l, k, 0, o, a, hap, h => by
    obtain rfl : o' = o := by simpa using h
    simp only [apartB, Bool.and_eq_true] at hap
    simp only [putAll, Nat.add_zero, if_true]
    rw [putAll_put, put_put]
    · exact putAll_agree _ _ _ fun j hj => by rw [if_neg (by omega)]
    · intro q hq
      cases hd : o'.dst with
      | none => exact .inr rfl
      | some d =>
        rw [hd] at hap
        have := List.all_eq_true.1 hap.1 q hq
        exact .inl (by simpa using this)
  | o' :: l, k, i + 1, o, a, hap, h => by
    simp only [apartB, Bool.and_eq_true] at hap
    simp only [putAll]
    rw [putAll_at l (k + 1) i o _ hap.2 (by simpa using h), if_neg (by omega)]
    congr 1
    funext j
    rw [show k + 1 + i = k + (i + 1) by omega]
section
variable {P : Program}
/-- What each operation owes. -/
def owesAll (P : Program) (ops : Array Oper) (Q : Exit → Act → World → Prop) (C : World → Prop) (Ev : World → World → Prop) (Φ : Nat → Value → World → Prop) (L J : Nat) (Ψ : Value → World → Prop) (A : (Nat → Value) → Act) : List Oper → Nat → Prop
  | [], _ => True
  | o :: l, k => (∀ x w, C w → (∀ e ∈ o.after, Region.binds .any e = true → Φ e.on (x e.on) w) → wpOp P ops Q k (fun a' w' => ∃ v, a' = (A x).put o.dst v ∧ C w' ∧ Ev w w' ∧ Φ k v w' ∧ (k = L → Ψ (x J) w')) (A x) w) ∧ owesAll P ops Q C Ev Φ L J Ψ A l (k + 1)
theorem owes_at {ops : Array Oper} {Q : Exit → Act → World → Prop} {C : World → Prop} {Ev : World → World → Prop} {Φ : Nat → Value → World → Prop} {L J : Nat} {Ψ : Value → World → Prop} {A : (Nat → Value) → Act} : ∀ (l : List Oper) (k i : Nat) (o : Oper), owesAll P ops Q C Ev Φ L J Ψ A l k → l[i]? = some o →
    ∀ x w, C w → (∀ e ∈ o.after, Region.binds .any e = true → Φ e.on (x e.on) w) → wpOp P ops Q (k + i) (fun a' w' => ∃ v, a' = (A x).put o.dst v ∧ C w' ∧ Ev w w' ∧ Φ (k + i) v w' ∧ (k + i = L → Ψ (x J) w')) (A x) w
  | [], _, _, _, _, h => by simp at h
  | o' :: l, k, 0, o, hw, h => by
    obtain rfl : o' = o := by simpa using h
    exact hw.1
  | o' :: l, k, i + 1, o, hw, h => by
    have := owes_at l (k + 1) i o hw.2 (by simpa using h)
    rwa [show k + 1 + i = k + (i + 1) by omega] at this
/-- Each operation waits for earlier ones only. -/
def backB : List Oper → Nat → Bool
  | [], _ => true
  | o :: l, k => (o.after.all fun e => !Region.binds .any e || decide (e.on < k)) && backB l (k + 1)
theorem back_at : ∀ (l : List Oper) (k i : Nat) (o : Oper), backB l k = true → l[i]? = some o → ∀ e ∈ o.after, Region.binds .any e = true → e.on < k + i
  | [], _, _, _, _, h => by simp at h
  | o' :: l, k, 0, o, hb, h => by
    obtain rfl : o' = o := by simpa using h
    intro e he hbi
    simp only [backB, Bool.and_eq_true, Array.all_eq_true_iff_forall_mem] at hb
    have := hb.1 e he
    rw [hbi] at this
    simpa using this
  | o' :: l, k, i + 1, o, hb, h => by
    simp only [backB, Bool.and_eq_true] at hb
    have := back_at l (k + 1) i o hb.2 (by simpa using h)
    rwa [show k + 1 + i = k + (i + 1) by omega] at this
theorem cnt_lt {p q : Nat → Bool} {i : Nat} (hp : p i = true) (hq : q i = false) (h : ∀ j, q j = true → p j = true) : ∀ (l : List Nat), i ∈ l → l.countP q < l.countP p
  | [], hi => by simp at hi
  | a :: l, hi => by
    have hle : l.countP q ≤ l.countP p := List.countP_mono_left fun x _ => h x
    rw [List.countP_cons, List.countP_cons]
    by_cases ha : a = i
    · subst ha
      rw [hp, hq]
      simp
      omega
    · have h1 := cnt_lt hp hq h l (by simpa [Ne.symm ha] using hi)
      have h2 := h a
      cases hqa : q a
      · cases hpa : p a <;> simp <;> omega
      · rw [h2 hqa]; simp; omega
theorem getD_in2 {listed : Array Bool} {j n : Nat} (hs : listed.size = n) (hj : j < n) (b : Bool) : listed.getD j b = listed[j]'(by omega) := by
  rw [Array.getD, dif_pos (by omega)]; rfl
/-- The operation L waits for J (or there is no L). -/
def waitsB (l : List Oper) (L J : Nat) : Bool := match l[L]? with | none => true | some o => J != L && o.after.any fun e => e.on == J && Region.binds .any e
set_option maxHeartbeats 1000000 in
/-- Each operation comes up, in whatever order, where those it waits for are done. -/
theorem wp_region_inv {id : Nat} {Q : Exit → Act → World → Prop} {a : Act} {W : World} {l : List Oper} (C : World → Prop) (Ev : World → World → Prop) (Φ : Nat → Value → World → Prop) (L J : Nat) (Ψ : Value → World → Prop) (hLJ : waitsB l L J = true) (hm : P.follows .mixedOrders = true) (hap : apartB l = true) (hbk : backB l 0 = true)
    (hC : C W.drew) (hst : ∀ i v w w', Ev w w' → Φ i v w → Φ i v w') (hstΨ : ∀ v w w', Ev w w' → Ψ v w → Ψ v w') (hop : owesAll P l.toArray Q C Ev Φ L J Ψ (fun x => putAll l 0 x a) l 0)
    (hend : ∀ x w, C w → (∀ i, i < l.length → Φ i (x i) w) → (L < l.length → Ψ (x J) w) → Q .normal (putAll l 0 x a) w) : (Code.region id l.toArray true).wp P Q a W := by
  have hfull : ∀ listed : Array Bool, listed.size = l.length → Region.ready .any l.toArray listed = [] → ∀ i, i < l.length → listed.getD i true = true := by
    intro listed hs h0 i
    induction i using Nat.strongRecOn with
    | _ i ih =>
      intro hi
      by_cases h1 : listed.getD i true = true
      · exact h1
      · exfalso
        have ho : l.toArray[i]? = some l[i] := by simp [hi]
        have hmem : i ∈ Region.ready .any l.toArray listed := mem_ready.2 ⟨by simpa using h1, l[i], ho, fun e he hb => by
          have h2 := back_at l 0 i l[i] hbk (by simp [hi]) e he hb
          rw [Nat.zero_add] at h2
          have h3 := ih e.on h2 (by omega)
          rw [getD_in2 hs (by omega)] at h3 ⊢
          exact h3⟩
        rw [h0] at hmem
        cases hmem
  have key : ∀ (f : Nat) (listed : Array Bool) (a' : Act) (w : World), listed.size = l.length → C w → (∃ x, a' = putAll l 0 x a ∧ (∀ i, i < l.length → listed.getD i true = true → Φ i (x i) w) ∧ (L < l.length → listed.getD L true = true → Ψ (x J) w ∧ listed.getD J true = true)) →
      (List.range l.length).countP (fun i => !listed.getD i true) ≤ f → wpAny P .any l.toArray Q f listed a' w := by
    intro f
    induction f with
    | zero =>
      rintro listed a' w hs hCw ⟨x, rfl, hx, hxL⟩ hf
      have hno : ∀ i, i < l.length → listed.getD i true = true := fun i hi => by
        have h0 := List.countP_eq_zero.1 (Nat.le_zero.1 hf) i (by simpa using hi)
        simpa using h0
      refine ⟨?_, hend x w hCw (fun i hi => hx i hi (hno i hi)) fun hL => (hxL hL (hno L hL)).1⟩
      unfold Region.ready
      rw [List.filter_eq_nil_iff]
      intro i hi
      rw [hno i (by simpa using hi)]
      simp
    | succ f ih =>
      rintro listed a' w hs hCw ⟨x, rfl, hx, hxL⟩ hf
      refine ⟨fun h0 => hend x w hCw (fun i hi => hx i hi (hfull listed hs h0 i hi)) (fun hL => (hxL hL (hfull listed hs h0 L hL)).1), fun i hi => ?_⟩
      obtain ⟨hun, o, ho, hdeps⟩ := mem_ready.1 hi
      have hil : i < l.length := by
        have := (Array.getElem?_eq_some_iff.1 ho).1
        simpa using this
      have ho' : l[i]? = some o := by simpa using ho
      have H := owes_at l 0 i o hop ho' x w hCw fun e he hb => by
        have h1 := hdeps e he hb
        have h2 : e.on < l.length := by
          rcases Nat.lt_or_ge e.on l.length with h3 | h3
          · exact h3
          · rw [Array.getD, dif_neg (by omega)] at h1; cases h1
        rw [getD_in2 hs h2] at h1
        exact hx _ h2 (by rw [getD_in2 hs h2]; exact h1)
      rw [Nat.zero_add] at H
      refine wpOp_mono ?_ H
      rintro a' w' ⟨v, rfl, hC', hEv, hv, hvL⟩
      refine ih _ _ _ (by simpa using hs) hC' ⟨fun j => if j = i then v else x j, ?_, fun j hj hlj => ?_, fun hL hlL => ?_⟩ ?_
      · have := putAll_at (v := v) (x := x) l 0 i o a hap ho'
        rw [Nat.zero_add] at this
        exact this
      · by_cases hji : j = i
        · subst hji; simpa using hv
        · simp only [if_neg hji]
          refine hst _ _ _ _ hEv (hx j hj ?_)
          rwa [getD_set_ne true (Ne.symm hji)] at hlj
      · have hJ : J ≠ L ∧ ∃ e ∈ (l[L]'hL).after, e.on = J ∧ Region.binds .any e = true := by
          unfold waitsB at hLJ
          rw [List.getElem?_eq_getElem hL] at hLJ
          simp only [Bool.and_eq_true, bne_iff_ne, ne_eq] at hLJ
          refine ⟨hLJ.1, ?_⟩
          have h9 := hLJ.2
          rw [← Array.any_toList, List.any_eq_true] at h9
          obtain ⟨e, he, hc⟩ := h9
          simp only [Bool.and_eq_true, beq_iff_eq] at hc
          exact ⟨e, by simpa using he, hc.1, hc.2⟩
        obtain ⟨hJL, e, he, heJ, heb⟩ := hJ
        by_cases hLi : L = i
        · subst hLi
          have ho2 : l[L]'hL = o := by
            rw [List.getElem?_eq_getElem hL] at ho'
            exact Option.some.inj ho'
          rw [ho2] at he
          have h1 := hdeps e he heb
          rw [heJ] at h1
          have h2 : J < l.length := by
            rcases Nat.lt_or_ge J l.length with h3 | h3
            · exact h3
            · rw [Array.getD, dif_neg (by omega)] at h1; cases h1
          simp only [if_neg hJL]
          refine ⟨hvL rfl, ?_⟩
          rw [getD_set_ne true (Ne.symm hJL)]
          rw [getD_in2 hs h2] at h1 ⊢
          exact h1
        · rw [getD_set_ne true (Ne.symm hLi)] at hlL
          obtain ⟨p1, p2⟩ := hxL hL hlL
          by_cases hJi : J = i
          · subst hJi
            have : listed.getD J true = false := by simpa using hun
            rw [this] at p2; cases p2
          · simp only [if_neg hJi]
            refine ⟨hstΨ _ _ _ hEv p1, ?_⟩
            rw [getD_set_ne true (Ne.symm hJi)]; exact p2
      · have h1 := cnt_lt (p := fun i => !listed.getD i true) (q := fun j => !(listed.setIfInBounds i true).getD j true) (i := i) (by simpa using hun) (by rw [getD_in2 (n := l.length) (by simpa using hs) hil]; simp) (fun j hj => by
          by_cases hji : j = i
          · subst hji; simpa using hun
          · rwa [getD_set_ne true (Ne.symm hji)] at hj) (List.range l.length) (by simpa using hil)
        omega
  have hlen : l.toArray.size = l.length := by simp
  obtain ⟨x0, hx0⟩ := putAll_self a l 0
  refine wp_region_any hm ?_
  rw [hlen]
  refine key _ _ _ _ (by simp) hC ⟨x0, hx0.symm, fun i hi hl => ?_, fun hL hl => ?_⟩ ?_
  · rw [getD_in2 (n := l.length) (by simp) hi] at hl
    simp at hl
  · rw [getD_in2 (n := l.length) (by simp) hL] at hl
    simp at hl
  · exact Nat.le_trans (List.countP_le_length) (by simp)
end
end Go.Proofs.YtfjlilpebhiogaaGreatDoor
