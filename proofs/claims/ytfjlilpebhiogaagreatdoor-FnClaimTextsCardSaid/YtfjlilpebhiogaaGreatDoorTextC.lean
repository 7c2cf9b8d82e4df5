import Derived.Test.YtfjlilpebhiogaaGreatDoorNum
import Derived.Test.YtfjlilpebhiogaaGreatDoorPackAa
import Derived.Test.YtfjlilpebhiogaaGreatDoorPackA
import Derived.Test.YtfjlilpebhiogaaGreatDoorTail
/- The texts of claims: both sides. -/
set_option linter.unusedSimpArgs false
set_option linter.unusedVariables false
namespace Go.Proofs.YtfjlilpebhiogaaGreatDoor
open Go.RowKit
/-- A text, a dot for none. -/
def dotB (s : ByteArray) : ByteArray := if s = ByteArray.empty then ⟨#[46]⟩ else s
def spanT (f t : Int) : ByteArray := decB f ++ ⟨#[46, 46]⟩ ++ decB t
/-- The text of a claim. -/
def clmT (c : Clm) : ByteArray := c.src ++ ⟨#[47]⟩ ++ decB c.kind ++ ⟨#[47]⟩ ++ c.place ++ ⟨#[47]⟩ ++ dotB c.val ++ ⟨#[47]⟩ ++ spanT c.fr c.to ++ ⟨#[47]⟩ ++ decB c.wt
set_option maxHeartbeats 1000000 in
theorem orDot_any (s : ByteArray) (w : World) : Calls Tryz.prog 60 #[.string s] w (Ret w (.string (dotB s))) := by
  by_cases h : s = ByteArray.empty
  · rw [show dotB s = ⟨#[46]⟩ from if_pos h]
    have h1 : s.toList.isEmpty = true := by rw [← decide_eq_emptyBytes]; exact decide_eq_true h
    clear h
    go_enter Tryz.func60, Tryz.ntmps60
    go_wp2_with fail
    go_ret
    exact .mk rfl (by (repeat (first | (with_reducible exact Below.refl _ _) | (with_reducible assumption) | (with_reducible refine Later.out _ ?_) | (with_reducible refine bel_alloc ?_ _) | (with_reducible refine bel_drew ?_) | (with_reducible refine bel_drewN ?_ _) | (with_reducible refine bel_set ?_ ?_ _) | (with_reducible refine After.out _ ?_ ?_) | (dsimp only; omega) | omega | (simp only [World.size_alloc, World.size_setCell, World.size_drew]; omega))))
  · rw [show dotB s = s from if_neg h]
    have h1 : s.toList.isEmpty = false := by rw [← decide_eq_emptyBytes]; exact decide_eq_false h
    clear h
    go_enter Tryz.func60, Tryz.ntmps60
    go_wp2_with fail
    go_ret
    exact .mk rfl (by (repeat (first | (with_reducible exact Below.refl _ _) | (with_reducible assumption) | (with_reducible refine Later.out _ ?_) | (with_reducible refine bel_alloc ?_ _) | (with_reducible refine bel_drew ?_) | (with_reducible refine bel_drewN ?_ _) | (with_reducible refine bel_set ?_ ?_ _) | (with_reducible refine After.out _ ?_ ?_) | (dsimp only; omega) | omega | (simp only [World.size_alloc, World.size_setCell, World.size_drew]; omega))))
set_option maxHeartbeats 1000000 in
theorem sStop_any (s : ByteArray) (w : World) : Calls Tryz.prog 66 #[.string s] w (Ret w (.string (dotB s))) := by
  by_cases h : s = ByteArray.empty
  · rw [show dotB s = ⟨#[46]⟩ from if_pos h]
    have h1 : s.toList.isEmpty = true := by rw [← decide_eq_emptyBytes]; exact decide_eq_true h
    clear h
    go_enter Tryz.func66, Tryz.ntmps66
    go_wp2_with fail
    go_ret
    exact .mk rfl (by (repeat (first | (with_reducible exact Below.refl _ _) | (with_reducible assumption) | (with_reducible refine Later.out _ ?_) | (with_reducible refine bel_alloc ?_ _) | (with_reducible refine bel_drew ?_) | (with_reducible refine bel_drewN ?_ _) | (with_reducible refine bel_set ?_ ?_ _) | (with_reducible refine After.out _ ?_ ?_) | (dsimp only; omega) | omega | (simp only [World.size_alloc, World.size_setCell, World.size_drew]; omega))))
  · rw [show dotB s = s from if_neg h]
    have h1 : s.toList.isEmpty = false := by rw [← decide_eq_emptyBytes]; exact decide_eq_false h
    clear h
    go_enter Tryz.func66, Tryz.ntmps66
    go_wp2_with fail
    go_ret
    exact .mk rfl (by (repeat (first | (with_reducible exact Below.refl _ _) | (with_reducible assumption) | (with_reducible refine Later.out _ ?_) | (with_reducible refine bel_alloc ?_ _) | (with_reducible refine bel_drew ?_) | (with_reducible refine bel_drewN ?_ _) | (with_reducible refine bel_set ?_ ?_ _) | (with_reducible refine After.out _ ?_ ?_) | (dsimp only; omega) | omega | (simp only [World.size_alloc, World.size_setCell, World.size_drew]; omega))))
set_option maxHeartbeats 4000000 in
theorem spanText_any (f t : Int) (w : World) (hf : -1000000 ≤ f ∧ f ≤ 1000000) (ht : -1000000 ≤ t ∧ t ≤ 1000000) (hT : Tab w) : Calls Tryz.prog 61 #[.agg #[.int .i64 f, .int .i64 t]] w (Ret w (.string (spanT f t))) := by
  have CF := Lib.hid (fun (w' : World) (hb : Below w.heap.size w w') => decimal_any f w' (by omega) (by omega) (hT.bel hb))
  have CT := Lib.hid (fun (w' : World) (hb : Below w.heap.size w w') => decimal_any t w' (by omega) (by omega) (hT.bel hb))
  have s1 := decB_size f (by omega) (by omega)
  have s2 := decB_size t (by omega) (by omega)
  unfold spanT
  obtain ⟨D1, hD1⟩ : ∃ D, decB f = D := ⟨_, rfl⟩
  obtain ⟨D2, hD2⟩ : ∃ D, decB t = D := ⟨_, rfl⟩
  rw [hD1] at CF s1
  rw [hD2] at CT s2
  rw [hD1, hD2]
  clear hD1 hD2 hT
  go_enter Tryz.func61, Tryz.ntmps61
  go_wp2_with fail
  refine wp_region_later (by kernel_rfl) (by kernel_rfl) ?_
  repeat (go_big_quiet_step ((first | (go_at_call 59; first | with_reducible exact Calls.later (CF.out _ (by (repeat (first | (with_reducible exact Below.refl _ _) | (with_reducible assumption) | (with_reducible refine Later.out _ ?_) | (with_reducible refine bel_alloc ?_ _) | (with_reducible refine bel_drew ?_) | (with_reducible refine bel_drewN ?_ _) | (with_reducible refine bel_set ?_ ?_ _) | (with_reducible refine After.out _ ?_ ?_) | (dsimp only; omega) | omega | (simp only [World.size_alloc, World.size_setCell, World.size_drew]; omega))))) | with_reducible exact Calls.later (CT.out _ (by (repeat (first | (with_reducible exact Below.refl _ _) | (with_reducible assumption) | (with_reducible refine Later.out _ ?_) | (with_reducible refine bel_alloc ?_ _) | (with_reducible refine bel_drew ?_) | (with_reducible refine bel_drewN ?_ _) | (with_reducible refine bel_set ?_ ?_ _) | (with_reducible refine After.out _ ?_ ?_) | (dsimp only; omega) | omega | (simp only [World.size_alloc, World.size_setCell, World.size_drew]; omega)))))))))
  refine wpQuiet_nil ?_
  rintro _ ⟨xq, rfl⟩
  go_wp2_with fail
  go_ret
  exact .mk rfl (by (repeat (first | (with_reducible exact Below.refl _ _) | (with_reducible assumption) | (with_reducible refine Later.out _ ?_) | (with_reducible refine bel_alloc ?_ _) | (with_reducible refine bel_drew ?_) | (with_reducible refine bel_drewN ?_ _) | (with_reducible refine bel_set ?_ ?_ _) | (with_reducible refine After.out _ ?_ ?_) | (dsimp only; omega) | omega | (simp only [World.size_alloc, World.size_setCell, World.size_drew]; omega))))
set_option maxHeartbeats 4000000 in
theorem sSpanText_any (f t : Int) (w : World) (hf : -1000000 ≤ f ∧ f ≤ 1000000) (ht : -1000000 ≤ t ∧ t ≤ 1000000) : Calls Tryz.prog 67 #[.agg #[.int .i64 f, .int .i64 t]] w (Ret w (.string (spanT f t))) := by
  have CF := Lib.hid (fun (w' : World) => sNumber_any f (by omega) (by omega) w')
  have CT := Lib.hid (fun (w' : World) => sNumber_any t (by omega) (by omega) w')
  have s1 := decB_size f (by omega) (by omega)
  have s2 := decB_size t (by omega) (by omega)
  unfold spanT
  obtain ⟨D1, hD1⟩ : ∃ D, decB f = D := ⟨_, rfl⟩
  obtain ⟨D2, hD2⟩ : ∃ D, decB t = D := ⟨_, rfl⟩
  rw [hD1] at CF s1
  rw [hD2] at CT s2
  rw [hD1, hD2]
  clear hD1 hD2
  go_enter Tryz.func67, Tryz.ntmps67
  go_wp2_with fail
  refine wp_region_later (by kernel_rfl) (by kernel_rfl) ?_
  repeat (go_big_quiet_step ((first | (go_at_call 91; first | with_reducible exact Calls.later (CF.out _) | with_reducible exact Calls.later (CT.out _)))))
  refine wpQuiet_nil ?_
  rintro _ ⟨xq, rfl⟩
  go_wp2_with fail
  go_ret
  exact .mk rfl (by (repeat (first | (with_reducible exact Below.refl _ _) | (with_reducible assumption) | (with_reducible refine Later.out _ ?_) | (with_reducible refine bel_alloc ?_ _) | (with_reducible refine bel_drew ?_) | (with_reducible refine bel_drewN ?_ _) | (with_reducible refine bel_set ?_ ?_ _) | (with_reducible refine After.out _ ?_ ?_) | (dsimp only; omega) | omega | (simp only [World.size_alloc, World.size_setCell, World.size_drew]; omega))))
theorem spanT_size (f t : Int) (hf : -1000000 ≤ f ∧ f ≤ 1000000) (ht : -1000000 ≤ t ∧ t ≤ 1000000) : (spanT f t).size ≤ 18 := by
  have s1 := decB_size f (by omega) (by omega)
  have s2 := decB_size t (by omega) (by omega)
  unfold spanT
  rw [ByteArray.size_append, ByteArray.size_append]
  show (decB f).size + 2 + (decB t).size ≤ 18
  omega
theorem dotB_size (s : ByteArray) : (dotB s).size ≤ s.size + 1 := by
  unfold dotB
  split
  · show 1 ≤ s.size + 1; omega
  · omega
set_option maxRecDepth 4000 in
set_option maxHeartbeats 8000000 in
theorem sClaimText_any (c : Clm) (w : World) (ok : ClmOk c) (hk : 0 ≤ c.kind ∧ c.kind ≤ 3) (hw : 0 ≤ c.wt ∧ c.wt ≤ 100) (hf : -1000000 ≤ c.fr ∧ c.fr ≤ 1000000) (ht : -1000000 ≤ c.to ∧ c.to ≤ 1000000) :
    Calls Tryz.prog 25 #[clmV c] w (Ret w (.string (clmT c))) := by
  obtain ⟨a1, a2, a3⟩ := ok
  have s1 := decB_size c.kind (by omega) (by omega)
  have s2 := decB_size c.wt (by omega) (by omega)
  have s3 := dotB_size c.val
  have s4 := spanT_size c.fr c.to hf ht
  obtain ⟨K, hK⟩ := Int.eq_ofNat_of_zero_le hk.1
  obtain ⟨U, hU⟩ := Int.eq_ofNat_of_zero_le hw.1
  have CK := Lib.hid (fun (w' : World) => sDec_any K (by omega) w')
  have CW := Lib.hid (fun (w' : World) => sDec_any U (by omega) w')
  have CV := Lib.hid (fun (w' : World) => sStop_any c.val w')
  have CS := Lib.hid (fun (w' : World) => sSpanText_any c.fr c.to w' hf ht)
  unfold clmT
  rw [← hK] at CK
  rw [← hU] at CW
  obtain ⟨D1, hD1⟩ : ∃ D, decB c.kind = D := ⟨_, rfl⟩
  obtain ⟨D2, hD2⟩ : ∃ D, decB c.wt = D := ⟨_, rfl⟩
  obtain ⟨D3, hD3⟩ : ∃ D, dotB c.val = D := ⟨_, rfl⟩
  obtain ⟨D4, hD4⟩ : ∃ D, spanT c.fr c.to = D := ⟨_, rfl⟩
  rw [hD1] at CK s1
  rw [hD2] at CW s2
  rw [hD3] at CV s3
  rw [hD4] at CS s4
  rw [hD1, hD2, hD3, hD4]
  clear hD1 hD2 hD3 hD4 hK hU hk hw hf ht
  obtain ⟨src, kind, place, val, fr, tt, wt⟩ := c
  dsimp only at *
  go_enter Tryz.func25, Tryz.ntmps25
  go_wp2_with fail
  refine wp_region_later (by kernel_rfl) (by kernel_rfl) ?_
  repeat (go_big_quiet_step ((first | (go_at_call 65; first | with_reducible exact Calls.later (CK.out _) | with_reducible exact Calls.later (CW.out _)) | (go_at_call 66; exact Calls.later (CV.out _)) | (go_at_call 67; exact Calls.later (CS.out _)))))
  refine wpQuiet_nil ?_
  rintro _ ⟨xq, rfl⟩
  go_wp2_with fail
  go_ret
  exact .mk rfl (by (repeat (first | (with_reducible exact Below.refl _ _) | (with_reducible assumption) | (with_reducible refine Later.out _ ?_) | (with_reducible refine bel_alloc ?_ _) | (with_reducible refine bel_drew ?_) | (with_reducible refine bel_drewN ?_ _) | (with_reducible refine bel_set ?_ ?_ _) | (with_reducible refine After.out _ ?_ ?_) | (dsimp only; omega) | omega | (simp only [World.size_alloc, World.size_setCell, World.size_drew]; omega))))
theorem join_six (a b c d e f : ByteArray) : (⟨(Lib.join ([a, b, c, d, e, f].map (·.data.toList)) (⟨#[47]⟩ : ByteArray).data.toList).toArray⟩ : ByteArray) = a ++ ⟨#[47]⟩ ++ b ++ ⟨#[47]⟩ ++ c ++ ⟨#[47]⟩ ++ d ++ ⟨#[47]⟩ ++ e ++ ⟨#[47]⟩ ++ f := by
  apply ByteArray.ext
  apply Array.toList_inj.1
  simp [Lib.join, List.intercalate]
theorem joinClm_any (a b c d e f : ByteArray) (g : Nat) (w : World) (hg : g < w.heap.size) (hs : a.size ≤ 2000000 ∧ b.size ≤ 2000000 ∧ c.size ≤ 2000000 ∧ d.size ≤ 2000000 ∧ e.size ≤ 2000000 ∧ f.size ≤ 2000000)
    (hr : ∀ (j : Nat) x, [a, b, c, d, e, f][j]? = some x → w.cell? ⟨g, 0 + j, none⟩ = some (.string x)) :
    Calls Tryz.prog 44 #[.slice (some ⟨g, 0, none⟩) 6 6, .string ⟨#[47]⟩] w (Ret w (.string (a ++ ⟨#[47]⟩ ++ b ++ ⟨#[47]⟩ ++ c ++ ⟨#[47]⟩ ++ d ++ ⟨#[47]⟩ ++ e ++ ⟨#[47]⟩ ++ f))) := by
  have h := Any.strings_Join Tryz.lays156 builderX g 0 6 [a, b, c, d, e, f] ⟨#[47]⟩ w hr hg (by simp) (Nat.le_refl _) (by
    have hl : ∀ s : ByteArray, s.data.toList.length = s.size := fun s => by rw [Array.length_toList]; rfl
    simp only [List.map_cons, List.map_nil]
    rw [Lib.join_length]
    simp only [Lib.lens, List.length_cons, List.length_nil, List.map_cons, List.map_nil, List.sum_cons, List.sum_nil, hl]
    omega)
  rw [join_six] at h
  exact Calls.mono (show Calls Tryz.prog 44 #[.slice (some ⟨g, 0, none⟩) 6 6, .string ⟨#[47]⟩] w _ from h) fun e w' ⟨he, hb⟩ => .mk he hb
end Go.Proofs.YtfjlilpebhiogaaGreatDoor
