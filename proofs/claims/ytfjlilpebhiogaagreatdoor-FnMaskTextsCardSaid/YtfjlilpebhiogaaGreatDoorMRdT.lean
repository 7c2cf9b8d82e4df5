import Derived.Test.YtfjlilpebhiogaaGreatDoorMRdS
import Derived.Test.YtfjlilpebhiogaaGreatDoorMaskC
import Derived.Test.YtfjlilpebhiogaaGreatDoorTail
import Derived.Test.YtfjlilpebhiogaaGreatDoorPackAb
/- ReadMask, the reference's way: the walk. -/
set_option linter.unusedSimpArgs false
set_option linter.unusedVariables false
namespace Go.Proofs.YtfjlilpebhiogaaGreatDoor
open Go.RowKit
/-- How a world turns: masks' blocks that are filled with values of which `P` holds. -/
def EvP (P : World → Value → Prop) (x y W H : Int) (w w' : World) : Prop := ∀ i, i < w.heap.size → (w'.heap[i]? = w.heap[i]? ∨ (RawM w i ∧ ∃ v, P w' v ∧ GoodM w' i x y W H v))
/-- The same without a word on the values. -/
def EvR (w w' : World) : Prop := ∀ i, i < w.heap.size → (w'.heap[i]? = w.heap[i]? ∨ RawM w i)
section
variable {P : World → Value → Prop} {x y W H : Int}
theorem EvP.toR {w w' : World} (h : EvP P x y W H w w') : EvR w w' := fun i hi => (h i hi).imp id fun h => h.1
theorem EvP.refl (w : World) : EvP P x y W H w w := fun _ _ => .inl rfl
theorem EvP.alloc (w : World) (o : Obj) : EvP P x y W H w (w.alloc o) := fun i hi => .inl (Below.heap_alloc w o i hi)
theorem EvP.later {w : World} (z : Later w) : EvP P x y W H w z.w := fun i hi => .inl (z.bel.block i hi)
theorem RawM.evP {w w' : World} {b : Nat} (h : RawM w b) (hE : EvP P x y W H w w') : RawM w' b := by
  obtain ⟨cs, h1, h2⟩ := h
  rcases hE b (lt_of_heapM h1) with h4 | ⟨_, v, _, h4⟩
  · exact ⟨cs, h4.trans h1, h2⟩
  · exact h4.raw
theorem GoodM.evP {w w' : World} {b : Nat} {v : Value} (h : GoodM w b x y W H v) (hv : P w v) (hv' : P w' v) (hE : EvP P x y W H w w') : ∃ v, P w' v ∧ GoodM w' b x y W H v := by
  rcases hE b (lt_of_heapM h) with h4 | ⟨_, v, hv, h4⟩
  · exact ⟨v, hv', h4.trans h⟩
  · exact ⟨v, hv, h4⟩
theorem EvP.storeR {w : World} {b : Nat} (h : RawM w b) (x y W H : Int) (v : Value) : EvR w (storeM w b x y W H v) := by
  intro i hi
  by_cases e : i = b
  · subst e
    exact .inr h
  · exact .inl (storeM_other e x y W H v)
theorem EvP.store {w : World} {b : Nat} (h : RawM w b) (x y W H : Int) (v : Value) (hv : EvR w (storeM w b x y W H v) → P (storeM w b x y W H v) v) : EvP P x y W H w (storeM w b x y W H v) := by
  have hR := EvP.storeR h x y W H v
  intro i hi
  by_cases e : i = b
  · subst e
    exact .inr ⟨h, v, hv hR, h.stored x y W H v⟩
  · exact .inl (storeM_other e x y W H v)
end
theorem own_ev {w w' : World} {base n c : Nat} {a : Option Addr} {xs : List Value} (h : w.ownsRow base 4 1 (.slice a n c) n xs) (hE : EvR w w') : w'.ownsRow base 4 1 (.slice a n c) n xs := by
  refine ⟨h.1, ?_⟩
  rcases h.2 with h0 | ⟨g', cap', cur, hv, hg, hb, h1⟩
  · exact .inl h0
  · refine .inr ⟨g', cap', cur, hv, hg, ?_, h1⟩
    rcases hE g' (lt_of_heapM hb) with h4 | ⟨cs, h4, _⟩
    · exact h4.trans hb
    · rw [hb] at h4
      injection h4 with h4
      injection h4 with _ h4 _
      exact absurd h4 (by decide)
/-- A row of the call's own, all false. -/
def OwnV (base n : Nat) (w : World) (v : Value) : Prop := ∃ gk ck, v = .slice (some ⟨gk, 0, none⟩) n ck ∧ base ≤ gk ∧ w.ownsRow base 4 1 (.slice (some ⟨gk, 0, none⟩) n ck) n (List.replicate n (.bool false))
theorem OwnV.mk {base n : Nat} {w : World} {a : Option Addr} {c : Nat} (h : w.ownsRow base 4 1 (.slice a n c) n (List.replicate n (.bool false))) (hn : 0 < n) : OwnV base n w (.slice a n c) := by
  obtain ⟨g, rfl, g1, g2, -, -⟩ := (Owns.of h).at_ (j := 0) (by omega)
  exact ⟨g, c, rfl, g1, h⟩
theorem OwnV.ev {base n : Nat} {w w' : World} {v : Value} {P : World → Value → Prop} {x y W H : Int} (h : OwnV base n w v) (hE : EvP P x y W H w w') : OwnV base n w' v := by
  obtain ⟨gk, ck, e, h1, h2⟩ := h
  exact ⟨gk, ck, e, h1, own_ev h2 hE.toR⟩
theorem pieces_consS (s : ByteArray) : ∃ w0 R, piecesS 32 s = w0 :: R := by
  cases h : piecesS 32 s with
  | nil => exact absurd (List.map_eq_nil_iff.1 h) (splitL_ne 32 _)
  | cons a b => exact ⟨a, b, rfl⟩
section
variable {s w0 : ByteArray} {R : List ByteArray} (hp : piecesS 32 s = w0 :: R)
include hp
theorem no_pointS (h : ptS w0 = false) : ∀ x y Wn Hn l, ¬ MT s x y Wn Hn l := fun x y Wn Hn l hm => by
  obtain ⟨a1, a2, a3, a4, a5, a6, a7, a8, a9⟩ := hm.parts hp
  rw [a1, (ptS_of a9).1] at h
  cases h
theorem no_lenS (h : ¬ (1 ≤ R.length ∧ R.length ≤ 24)) : ∀ x y Wn Hn l, ¬ MT s x y Wn Hn l := fun x y Wn Hn l hm => by
  obtain ⟨a1, a2, a3, a4, a5, a6, a7, a8, a9⟩ := hm.parts hp
  omega
theorem no_sizeS (hR : 0 < R.length) (h : ¬ (1 ≤ R[0].size ∧ R[0].size ≤ 24)) : ∀ x y Wn Hn l, ¬ MT s x y Wn Hn l := fun x y Wn Hn l hm => by
  obtain ⟨a1, a2, a3, a4, a5, a6, a7, a8, a9⟩ := hm.parts hp
  have := (a3 _ (List.getElem_mem hR)).1
  omega
theorem no_wordS {j : Nat} (hR : 0 < R.length) (hj : j < R.length) (h : ¬ R[j].size = R[0].size) : ∀ x y Wn Hn l, ¬ MT s x y Wn Hn l := fun x y Wn Hn l hm => by
  obtain ⟨a1, a2, a3, a4, a5, a6, a7, a8, a9⟩ := hm.parts hp
  exact h ((a3 _ (List.getElem_mem hj)).1.trans (a3 _ (List.getElem_mem hR)).1.symm)
theorem no_maskS (hR : 0 < R.length) (h : ¬ (isMaskB (ptSx w0) (ptSy w0) R[0].size R.length (cellsR R).length = true ∧ maskT (ptSx w0) (ptSy w0) R[0].size R.length (cellsR R) = s)) : ∀ x y Wn Hn l, ¬ MT s x y Wn Hn l := fun x y Wn Hn l hm => by
  obtain ⟨a1, a2, a3, a4, a5, a6, a7, a8, a9⟩ := hm.parts hp
  have p := ptS_of a9
  have h1 := (a3 _ (List.getElem_mem hR)).1
  apply h
  rw [h1, a2, a4, a1, p.2.1, p.2.2]
  exact hm
end
set_option maxRecDepth 8000 in
set_option maxHeartbeats 16000000 in
theorem sReadMask_any (s : ByteArray) (w : World) (hs : s.size ≤ 1048576) (X Y W H code : Int) (L : List Bool) (hR : RdM s X Y W H code L) :
    Calls Tryz.prog 18 #[.string s] w (RetOwn w 4 1 L.length (boolCells L) fun v => .tuple #[.agg #[.int .i64 X, .int .i64 Y, .int .i64 W, .int .i64 H, v], .int .i64 code]) := by
  have C0 : ∀ w, Calls Tryz.prog 33 #[.string s, .int .u8 32] w _ := fun w => l01Split_any s 32 w hs
  have hle := piecesS_length_le 32 s
  have hsz : ∀ t ∈ piecesS 32 s, t.size ≤ 1048576 := fun t h => Nat.le_trans (piecesS_size h) hs
  obtain ⟨w0, R, hp⟩ := pieces_consS s
  simp only [hp] at C0 hsz hle
  replace C0 : ∀ w, Calls Tryz.prog 33 #[.string s, .int .u8 32] w (RetOwn w 9 1 (R.length + 1) (strCells (w0 :: R)) id) := C0
  have hle : R.length ≤ 1048576 := by simp at hle; omega
  have hz0 := hsz w0 (by simp)
  have CP := Lib.hid (fun w => sReadPoint_any w0 w hz0)
  have hsR : ∀ (j : Nat) (h : j < R.length), R[j].size ≤ 1048576 := fun j h => hsz _ (by simp)
  have N0 := fun h => hR.no (no_pointS hp h)
  have N1 := fun h => hR.no (no_lenS hp h)
  have N2 := fun hR0 h => hR.no (no_sizeS hp hR0 h)
  have N3 := fun j hR0 hj h => hR.no (no_wordS (j := j) hp hR0 hj h)
  have N4 := fun hR0 h => hR.no (no_maskS hp hR0 h)
  have YM := fun (x y : Int) (Wn Hn : Nat) (l : List Bool) (h : MT s x y Wn Hn l) => hR.yes h
  obtain ⟨X0, hX0⟩ : ∃ v, ptSx w0 = v := ⟨_, rfl⟩
  obtain ⟨Y0, hY0⟩ : ∃ v, ptSy w0 = v := ⟨_, rfl⟩
  obtain ⟨K0, hK0⟩ : ∃ v, ptS w0 = v := ⟨_, rfl⟩
  rw [hX0, hY0, hK0] at CP
  rw [hK0] at N0
  rw [hX0, hY0] at N4
  have hFA := fun W l h1 h2 h3 h4 => fill_all (R := R) (W := W) (l := l) h1 h2 h3 h4
  obtain ⟨CL, hCL⟩ : ∃ l, cellsR R = l := ⟨_, rfl⟩
  rw [hCL] at N4 hFA
  replace C0 := Lib.hid C0
  replace N0 := Lib.hid N0
  replace N1 := Lib.hid N1
  replace N2 := Lib.hid N2
  replace N3 := Lib.hid N3
  replace N4 := Lib.hid N4
  replace YM := Lib.hid YM
  replace hsR := Lib.hid hsR
  replace hFA := Lib.hid hFA
  clear hR hsz hp hX0 hY0 hK0 hCL hz0
  cases K0
  · obtain ⟨rfl, rfl, rfl, rfl, rfl, rfl⟩ := N0.out rfl
    go_enter Tryz.func18, Tryz.ntmps18
    go_wp2_with fail
    with_reducible refine (C0.out _).mono ?_
    rintro e w' ⟨a1, c1, rfl, hown, y1, rfl⟩
    have hsy1 := y1.bel.size
    (try simp only [World.size_alloc, World.size_setCell, World.size_drew] at hsy1)
    have HO := Lib.hid (Owns.of hown)
    clear hown
    obtain ⟨g, rfl, g1, g2, -, -⟩ := HO.out.at_ (j := 0) (by omega)
    have q0 : y1.w.cell? ⟨g, 0, none⟩ = some (.string w0) := strs_at HO.out.row (k := 0) (by simp)
    go_wp2_with fail
    with_reducible refine (CP.out _).mono ?_
    rintro e w' ⟨rfl, y2, rfl⟩
    have hsy2 := y2.bel.size
    (try simp only [World.size_alloc, World.size_setCell, World.size_drew] at hsy2)
    go_wp2_with fail
    refine bodyPost_ret (by simp [results, Tryz.results18, go_sem, ↓IntWalk.iteOmega, *]; try rfl) rfl ?_
    exact RetOwn.mk (.slice none 0 0) rfl (World.ownsRow_nil _ _ _ _) (by (repeat (first | (with_reducible exact Below.refl _ _) | (with_reducible assumption) | (with_reducible refine Later.out _ ?_) | (with_reducible refine bel_alloc ?_ _) | (with_reducible refine bel_drew ?_) | (with_reducible refine bel_drewN ?_ _) | (with_reducible refine bel_set ?_ ?_ _) | (with_reducible refine After.out _ ?_ ?_) | (dsimp only; omega) | omega | (simp only [World.size_alloc, World.size_setCell, World.size_drew]; omega))))
  by_cases hlen : 1 ≤ R.length ∧ R.length ≤ 24
  rotate_left
  · obtain ⟨rfl, rfl, rfl, rfl, rfl, rfl⟩ := N1.out hlen
    have hin : inB ((R.length : Int) + 1) 2 25 = false := by
      rw [Bool.eq_false_iff]
      intro h
      rw [inB_iff] at h
      omega
    go_enter Tryz.func18, Tryz.ntmps18
    go_wp2_with fail
    with_reducible refine (C0.out _).mono ?_
    rintro e w' ⟨a1, c1, rfl, hown, y1, rfl⟩
    have hsy1 := y1.bel.size
    (try simp only [World.size_alloc, World.size_setCell, World.size_drew] at hsy1)
    have HO := Lib.hid (Owns.of hown)
    clear hown
    obtain ⟨g, rfl, g1, g2, -, -⟩ := HO.out.at_ (j := 0) (by omega)
    have q0 : y1.w.cell? ⟨g, 0, none⟩ = some (.string w0) := strs_at HO.out.row (k := 0) (by simp)
    go_wp2_with fail
    with_reducible refine (CP.out _).mono ?_
    rintro e w' ⟨rfl, y2, rfl⟩
    have hsy2 := y2.bel.size
    (try simp only [World.size_alloc, World.size_setCell, World.size_drew] at hsy2)
    go_wp2_with fail
    with_reducible refine (l01In_b _ hin).mono ?_
    rintro e w' ⟨rfl, y3, rfl⟩
    have hsy3 := y3.bel.size
    (try simp only [World.size_alloc, World.size_setCell, World.size_drew] at hsy3)
    go_wp2_with fail
    refine bodyPost_ret (by simp [results, Tryz.results18, go_sem, ↓IntWalk.iteOmega, *]; try rfl) rfl ?_
    exact RetOwn.mk (.slice none 0 0) rfl (World.ownsRow_nil _ _ _ _) (by (repeat (first | (with_reducible exact Below.refl _ _) | (with_reducible assumption) | (with_reducible refine Later.out _ ?_) | (with_reducible refine bel_alloc ?_ _) | (with_reducible refine bel_drew ?_) | (with_reducible refine bel_drewN ?_ _) | (with_reducible refine bel_set ?_ ?_ _) | (with_reducible refine After.out _ ?_ ?_) | (dsimp only; omega) | omega | (simp only [World.size_alloc, World.size_setCell, World.size_drew]; omega))))
  obtain ⟨hl1, hl2⟩ := hlen
  have hin : inB ((R.length : Int) + 1) 2 25 = true := inB_iff.2 ⟨by omega, by omega⟩
  obtain ⟨F, hF⟩ : ∃ F, R[0] = F := ⟨_, rfl⟩
  have N2' := fun h => N2.out hl1 h
  have N3' := fun j hj h => N3.out j hl1 hj h
  have N4' := fun h => N4.out hl1 h
  rw [hF] at N2' N4'
  simp only [hF] at N3'
  replace N2' := Lib.hid N2'
  replace N3' := Lib.hid N3'
  replace N4' := Lib.hid N4'
  clear N0 N1 N2 N3 N4
  have hFs : F.size ≤ 1048576 := by rw [← hF]; exact hsR.out 0 hl1
  by_cases hsz2 : 1 ≤ F.size ∧ F.size ≤ 24
  rotate_left
  · obtain ⟨rfl, rfl, rfl, rfl, rfl, rfl⟩ := N2'.out hsz2
    have hin2 : inB (F.size : Int) 1 24 = false := by
      rw [Bool.eq_false_iff]
      intro h
      rw [inB_iff] at h
      omega
    go_enter Tryz.func18, Tryz.ntmps18
    go_wp2_with fail
    with_reducible refine (C0.out _).mono ?_
    rintro e w' ⟨a1, c1, rfl, hown, y1, rfl⟩
    have hsy1 := y1.bel.size
    (try simp only [World.size_alloc, World.size_setCell, World.size_drew] at hsy1)
    have HO := Lib.hid (Owns.of hown)
    clear hown
    obtain ⟨g, rfl, g1, g2, -, -⟩ := HO.out.at_ (j := 0) (by omega)
    have q0 : y1.w.cell? ⟨g, 0, none⟩ = some (.string w0) := strs_at HO.out.row (k := 0) (by simp)
    have q1 : y1.w.cell? ⟨g, 1, none⟩ = some (.string F) := by have h := strs_at HO.out.row (k := 1) (by simp; omega); simpa [hF] using h
    go_wp2_with fail
    with_reducible refine (CP.out _).mono ?_
    rintro e w' ⟨rfl, y2, rfl⟩
    have hsy2 := y2.bel.size
    (try simp only [World.size_alloc, World.size_setCell, World.size_drew] at hsy2)
    go_wp2_with fail
    with_reducible refine (l01In_b _ hin).mono ?_
    rintro e w' ⟨rfl, y3, rfl⟩
    have hsy3 := y3.bel.size
    (try simp only [World.size_alloc, World.size_setCell, World.size_drew] at hsy3)
    go_wp2_with fail
    with_reducible refine (l01In_b _ hin2).mono ?_
    rintro e w' ⟨rfl, y4, rfl⟩
    have hsy4 := y4.bel.size
    (try simp only [World.size_alloc, World.size_setCell, World.size_drew] at hsy4)
    go_wp2_with fail
    refine bodyPost_ret (by simp [results, Tryz.results18, go_sem, ↓IntWalk.iteOmega, *]; try rfl) rfl ?_
    exact RetOwn.mk (.slice none 0 0) rfl (World.ownsRow_nil _ _ _ _) (by (repeat (first | (with_reducible exact Below.refl _ _) | (with_reducible assumption) | (with_reducible refine Later.out _ ?_) | (with_reducible refine bel_alloc ?_ _) | (with_reducible refine bel_drew ?_) | (with_reducible refine bel_drewN ?_ _) | (with_reducible refine bel_set ?_ ?_ _) | (with_reducible refine After.out _ ?_ ?_) | (dsimp only; omega) | omega | (simp only [World.size_alloc, World.size_setCell, World.size_drew]; omega))))
  obtain ⟨hz1, hz2⟩ := hsz2
  have hin2 : inB (F.size : Int) 1 24 = true := inB_iff.2 ⟨by omega, by omega⟩
  obtain ⟨n, hn⟩ : ∃ n, R.length * F.size = n := ⟨_, rfl⟩
  have hn5 : n ≤ 576 := by rw [← hn]; exact Nat.mul_le_mul hl2 hz2
  have hn0 : 0 < n := by rw [← hn]; exact Nat.mul_pos (by omega) (by omega)
  have CE := Lib.hid (fun w => sEmpty_any X0 Y0 F.size R.length none n 0 0 w (by rw [← hn, Int.natCast_mul, Int.mul_comm]) (by omega))
  have hqR : ∀ (g o : Nat) (w : World), Row w (some ⟨g, o, none⟩) (strCells (w0 :: R)) → ∀ j (h : j < R.length), w.cell? ⟨g, o + (j + 1), none⟩ = some (.string R[j]) := fun g o w h j hj => by
    have h2 := strs_at h (k := j + 1) (by simp; omega)
    simpa using h2
  replace hqR := Lib.hid hqR
  go_enter Tryz.func18, Tryz.ntmps18
  go_wp2_with fail
  with_reducible refine (C0.out _).mono ?_
  rintro e w' ⟨a1, c1, rfl, hown, y1, rfl⟩
  have hsy1 := y1.bel.size
  (try simp only [World.size_alloc, World.size_setCell, World.size_drew] at hsy1)
  have HO := Lib.hid (Owns.of hown)
  clear hown
  obtain ⟨g, rfl, g1, g2, -, -⟩ := HO.out.at_ (j := 0) (by omega)
  have q0 : y1.w.cell? ⟨g, 0, none⟩ = some (.string w0) := strs_at HO.out.row (k := 0) (by simp)
  have q1 : y1.w.cell? ⟨g, 1, none⟩ = some (.string F) := by have h := strs_at HO.out.row (k := 1) (by simp; omega); simpa [hF] using h
  have hqq := Lib.hid (fun j h => hqR.out g 0 y1.w HO.out.row j h)
  go_wp2_with fail
  with_reducible refine (CP.out _).mono ?_
  rintro e w' ⟨rfl, y2, rfl⟩
  have hsy2 := y2.bel.size
  (try simp only [World.size_alloc, World.size_setCell, World.size_drew] at hsy2)
  go_wp2_with fail
  with_reducible refine (l01In_b _ hin).mono ?_
  rintro e w' ⟨rfl, y3, rfl⟩
  have hsy3 := y3.bel.size
  (try simp only [World.size_alloc, World.size_setCell, World.size_drew] at hsy3)
  go_wp2_with fail
  with_reducible refine (l01In_b _ hin2).mono ?_
  rintro e w' ⟨rfl, y4, rfl⟩
  have hsy4 := y4.bel.size
  (try simp only [World.size_alloc, World.size_setCell, World.size_drew] at hsy4)
  have u1 : w.heap.size < y1.w.heap.size := by omega
  have u2 : w.heap.size < y2.w.heap.size := by omega
  have u4 : y2.w.heap.size < y4.w.heap.size := by omega
  have u5 : w.heap.size < y4.w.heap.size := by omega
  have hgw : w.heap.size < g := by (try simp only [World.size_alloc] at g1); omega
  have hg4 : g < y4.w.heap.size := by omega
  have i1 : (1 : Int) < (R.length : Int) + 1 := by omega
  have hbw4 : Below w.heap.size w y4.w := by (repeat (first | (with_reducible exact Below.refl _ _) | (with_reducible assumption) | (with_reducible refine Later.out _ ?_) | (with_reducible refine bel_alloc ?_ _) | (with_reducible refine bel_drew ?_) | (with_reducible refine bel_drewN ?_ _) | (with_reducible refine bel_set ?_ ?_ _) | (with_reducible refine After.out _ ?_ ?_) | (dsimp only; omega) | omega | (simp only [World.size_alloc, World.size_setCell, World.size_drew]; omega)))
  replace hbw4 := Lib.hid hbw4
  replace hn0 := Lib.hid hn0
  have r0 : y4.w.cell? ⟨w.heap.size, 0, none⟩ = some (.int .i64 0) := by simp [go_sem, ↓IntWalk.iteOmega, u1, u2, u4, u5]
  have r1 : y4.w.cell? ⟨w.heap.size, 1, none⟩ = some (.int .i64 0) := by simp [go_sem, ↓IntWalk.iteOmega, u1, u2, u4, u5]
  have r2 : y4.w.cell? ⟨w.heap.size, 2, none⟩ = some (.int .i64 0) := by simp [go_sem, ↓IntWalk.iteOmega, u1, u2, u4, u5]
  have r3 : y4.w.cell? ⟨w.heap.size, 3, none⟩ = some (.int .i64 0) := by simp [go_sem, ↓IntWalk.iteOmega, u1, u2, u4, u5]
  have r4 : y4.w.cell? ⟨w.heap.size, 4, none⟩ = some (.slice none 0 0) := by simp [go_sem, ↓IntWalk.iteOmega, u1, u2, u4, u5]
  have f0 : y4.w.frozen? ⟨w.heap.size, 0, none⟩ = false := by simp [go_sem, ↓IntWalk.iteOmega, u1, u2, u4, u5]
  have f1 : y4.w.frozen? ⟨w.heap.size, 1, none⟩ = false := by simp [go_sem, ↓IntWalk.iteOmega, u1, u2, u4, u5]
  have f2 : y4.w.frozen? ⟨w.heap.size, 2, none⟩ = false := by simp [go_sem, ↓IntWalk.iteOmega, u1, u2, u4, u5]
  have f3 : y4.w.frozen? ⟨w.heap.size, 3, none⟩ = false := by simp [go_sem, ↓IntWalk.iteOmega, u1, u2, u4, u5]
  have f4 : y4.w.frozen? ⟨w.heap.size, 4, none⟩ = false := by simp [go_sem, ↓IntWalk.iteOmega, u1, u2, u4, u5]
  replace r0 := Lib.hid r0
  replace f0 := Lib.hid f0
  replace r1 := Lib.hid r1
  replace f1 := Lib.hid f1
  replace r2 := Lib.hid r2
  replace f2 := Lib.hid f2
  replace r3 := Lib.hid r3
  replace f3 := Lib.hid f3
  replace r4 := Lib.hid r4
  replace f4 := Lib.hid f4
  go_upto_region 5 with fail
  go_cut [7] from 37 to 46 (fun t7 wx => ∃ B u, t7 = .pointer (some ⟨B, 0, none⟩) ∧ y4.w.heap.size ≤ B ∧ MaskAt wx B X0 Y0 F.size R.length u ∧ Below y4.w.heap.size y4.w wx ∧ OwnV y4.w.heap.size n wx u)
  case first =>
    refine wp_region_inv (LaterC y4.w.drew) (EvP (OwnV y4.w.heap.size n) X0 Y0 F.size R.length) (fun i v w' => match i with
      | 0 => v = .agg #[.int .i64 X0, .int .i64 Y0]
      | 1 | 5 => v = .slice (some ⟨g, 0, none⟩) (R.length + 1) c1
      | 2 => v = .pointer (some ⟨g, 1, none⟩)
      | 3 => v = .string F
      | 4 => v = .int .i64 F.size
      | 6 => v = .int .i64 ((R.length : Int) + 1)
      | 7 => v = .int .i64 R.length
      | 8 => v = .agg #[.int .i64 X0, .int .i64 Y0, .int .i64 F.size, .int .i64 R.length, .slice none 0 0]
      | 9 => ∃ u, v = .agg #[.int .i64 X0, .int .i64 Y0, .int .i64 F.size, .int .i64 R.length, u] ∧ OwnV y4.w.heap.size n w' u
      | 10 => ∃ b, v = .pointer (some ⟨b, 0, none⟩) ∧ y4.w.heap.size ≤ b ∧ RawM w' b
      | _ => True) 11 10 (fun v w' => ∃ b u, v = .pointer (some ⟨b, 0, none⟩) ∧ y4.w.heap.size ≤ b ∧ GoodM w' b X0 Y0 F.size R.length u ∧ OwnV y4.w.heap.size n w' u) (by kernel_rfl) (by kernel_rfl) (by kernel_rfl) (by kernel_rfl) (LaterC.mk (Below.refl _ _)) ?hst ?hstP ⟨?op0, ?op1, ?op2, ?op3, ?op4, ?op5, ?op6, ?op7, ?op8, ?op9, ?op10, ?op11, trivial⟩ ?hend
    case op0 =>
      rintro xv _ ⟨y, rfl⟩ hd
      (try simp only [List.mem_toArray, List.forall_mem_cons, List.not_mem_nil, false_imp_iff, implies_true, and_true, Region.binds, forall_const] at hd)
      have hsy := y.bel.size
      (try simp only [World.size_drew] at hsy)
      simp only [putAll, Act.put, List.setIfInBounds_toArray, List.set_cons_zero, List.set_cons_succ, Nat.zero_add, Nat.reduceAdd]
      refine op_loud (by rfl) (by rfl) ?_
      intro KP hKP
      replace hKP := Lib.hid hKP
      go_wp2_with fail
      refine hKP.out _ _ ⟨_, rfl, ⟨y, rfl⟩, EvP.refl _, rfl, (fun h => absurd h (by decide))⟩
    case op1 =>
      rintro xv _ ⟨y, rfl⟩ hd
      (try simp only [List.mem_toArray, List.forall_mem_cons, List.not_mem_nil, false_imp_iff, implies_true, and_true, Region.binds, forall_const] at hd)
      have hsy := y.bel.size
      (try simp only [World.size_drew] at hsy)
      simp only [putAll, Act.put, List.setIfInBounds_toArray, List.set_cons_zero, List.set_cons_succ, Nat.zero_add, Nat.reduceAdd]
      refine op_loud (by rfl) (by rfl) ?_
      intro KP hKP
      replace hKP := Lib.hid hKP
      go_wp2_with fail
      refine hKP.out _ _ ⟨_, rfl, ⟨y, rfl⟩, EvP.refl _, rfl, (fun h => absurd h (by decide))⟩
    case op2 =>
      rintro xv _ ⟨y, rfl⟩ hd
      (try simp only [List.mem_toArray, List.forall_mem_cons, List.not_mem_nil, false_imp_iff, implies_true, and_true, Region.binds, forall_const] at hd)
      have hsy := y.bel.size
      (try simp only [World.size_drew] at hsy)
      simp only [putAll, Act.put, List.setIfInBounds_toArray, List.set_cons_zero, List.set_cons_succ, Nat.zero_add, Nat.reduceAdd, hd]
      refine op_loud (by rfl) (by rfl) ?_
      intro KP hKP
      replace hKP := Lib.hid hKP
      go_wp2_with fail
      refine hKP.out _ _ ⟨_, rfl, ⟨y, rfl⟩, EvP.refl _, rfl, (fun h => absurd h (by decide))⟩
    case op3 =>
      rintro xv _ ⟨y, rfl⟩ hd
      (try simp only [List.mem_toArray, List.forall_mem_cons, List.not_mem_nil, false_imp_iff, implies_true, and_true, Region.binds, forall_const] at hd)
      have hsy := y.bel.size
      (try simp only [World.size_drew] at hsy)
      simp only [putAll, Act.put, List.setIfInBounds_toArray, List.set_cons_zero, List.set_cons_succ, Nat.zero_add, Nat.reduceAdd, hd]
      refine op_loud (by rfl) (by rfl) ?_
      intro KP hKP
      replace hKP := Lib.hid hKP
      go_wp2_with fail
      refine hKP.out _ _ ⟨_, rfl, ⟨y, rfl⟩, EvP.refl _, rfl, (fun h => absurd h (by decide))⟩
    case op4 =>
      rintro xv _ ⟨y, rfl⟩ hd
      (try simp only [List.mem_toArray, List.forall_mem_cons, List.not_mem_nil, false_imp_iff, implies_true, and_true, Region.binds, forall_const] at hd)
      have hsy := y.bel.size
      (try simp only [World.size_drew] at hsy)
      simp only [putAll, Act.put, List.setIfInBounds_toArray, List.set_cons_zero, List.set_cons_succ, Nat.zero_add, Nat.reduceAdd, hd]
      refine op_loud (by rfl) (by rfl) ?_
      intro KP hKP
      replace hKP := Lib.hid hKP
      go_wp2_with fail
      refine hKP.out _ _ ⟨_, rfl, ⟨y, rfl⟩, EvP.refl _, rfl, (fun h => absurd h (by decide))⟩
    case op5 =>
      rintro xv _ ⟨y, rfl⟩ hd
      (try simp only [List.mem_toArray, List.forall_mem_cons, List.not_mem_nil, false_imp_iff, implies_true, and_true, Region.binds, forall_const] at hd)
      have hsy := y.bel.size
      (try simp only [World.size_drew] at hsy)
      simp only [putAll, Act.put, List.setIfInBounds_toArray, List.set_cons_zero, List.set_cons_succ, Nat.zero_add, Nat.reduceAdd]
      refine op_loud (by rfl) (by rfl) ?_
      intro KP hKP
      replace hKP := Lib.hid hKP
      go_wp2_with fail
      refine hKP.out _ _ ⟨_, rfl, ⟨y, rfl⟩, EvP.refl _, rfl, (fun h => absurd h (by decide))⟩
    case op6 =>
      rintro xv _ ⟨y, rfl⟩ hd
      (try simp only [List.mem_toArray, List.forall_mem_cons, List.not_mem_nil, false_imp_iff, implies_true, and_true, Region.binds, forall_const] at hd)
      have hsy := y.bel.size
      (try simp only [World.size_drew] at hsy)
      simp only [putAll, Act.put, List.setIfInBounds_toArray, List.set_cons_zero, List.set_cons_succ, Nat.zero_add, Nat.reduceAdd, hd]
      refine op_loud (by rfl) (by rfl) ?_
      intro KP hKP
      replace hKP := Lib.hid hKP
      go_wp2_with fail
      refine hKP.out _ _ ⟨_, rfl, ⟨y, rfl⟩, EvP.refl _, rfl, (fun h => absurd h (by decide))⟩
    case op7 =>
      rintro xv _ ⟨y, rfl⟩ hd
      (try simp only [List.mem_toArray, List.forall_mem_cons, List.not_mem_nil, false_imp_iff, implies_true, and_true, Region.binds, forall_const] at hd)
      have hsy := y.bel.size
      (try simp only [World.size_drew] at hsy)
      simp only [putAll, Act.put, List.setIfInBounds_toArray, List.set_cons_zero, List.set_cons_succ, Nat.zero_add, Nat.reduceAdd, hd]
      refine op_loud (by rfl) (by rfl) ?_
      intro KP hKP
      replace hKP := Lib.hid hKP
      go_wp2_with fail
      refine hKP.out _ _ ⟨_, rfl, ⟨y, rfl⟩, EvP.refl _, by first | rfl | (congr 1; omega), (fun h => absurd h (by decide))⟩
    case op8 =>
      rintro xv _ ⟨y, rfl⟩ hd
      (try simp only [List.mem_toArray, List.forall_mem_cons, List.not_mem_nil, false_imp_iff, implies_true, and_true, Region.binds, forall_const] at hd)
      obtain ⟨e1, e2, e3⟩ := hd
      have hsy := y.bel.size
      (try simp only [World.size_drew] at hsy)
      simp only [putAll, Act.put, List.setIfInBounds_toArray, List.set_cons_zero, List.set_cons_succ, Nat.zero_add, Nat.reduceAdd, e1, e2, e3]
      refine op_loud (by rfl) (by rfl) ?_
      intro KP hKP
      replace hKP := Lib.hid hKP
      go_wp2_with fail
      refine hKP.out _ _ ⟨_, rfl, ⟨y, rfl⟩, EvP.refl _, rfl, (fun h => absurd h (by decide))⟩
    case op9 =>
      rintro xv _ ⟨y, rfl⟩ hd
      (try simp only [List.mem_toArray, List.forall_mem_cons, List.not_mem_nil, false_imp_iff, implies_true, and_true, Region.binds, forall_const] at hd)
      have hsy := y.bel.size
      (try simp only [World.size_drew] at hsy)
      simp only [putAll, Act.put, List.setIfInBounds_toArray, List.set_cons_zero, List.set_cons_succ, Nat.zero_add, Nat.reduceAdd, hd]
      refine op_loud (by rfl) (by rfl) ?_
      intro KP hKP
      replace hKP := Lib.hid hKP
      go_wp2_with (go_at_call 54; (with_reducible refine (CE.out _).mono ?_); rintro e w' ⟨a9, c9, rfl, hown9, z, rfl⟩)
      refine hKP.out _ _ ⟨_, rfl, LaterC.mk (y.bel.trans (z.bel.mono y.bel.size)), EvP.later z, ⟨_, rfl, OwnV.mk (own_mono hown9 (by omega)) hn0.out⟩, (fun h => absurd h (by decide))⟩
    case op10 =>
      rintro xv _ ⟨y, rfl⟩ hd
      (try simp only [List.mem_toArray, List.forall_mem_cons, List.not_mem_nil, false_imp_iff, implies_true, and_true, Region.binds, forall_const] at hd)
      have hsy := y.bel.size
      (try simp only [World.size_drew] at hsy)
      simp only [putAll, Act.put, List.setIfInBounds_toArray, List.set_cons_zero, List.set_cons_succ, Nat.zero_add, Nat.reduceAdd]
      refine op_loud (by rfl) (by rfl) ?_
      intro KP hKP
      replace hKP := Lib.hid hKP
      go_wp2_with fail
      refine hKP.out _ _ ⟨_, rfl, LaterC.mk (by (repeat (first | (with_reducible exact Below.refl _ _) | (with_reducible assumption) | (with_reducible refine Later.out _ ?_) | (with_reducible refine bel_alloc ?_ _) | (with_reducible refine bel_drew ?_) | (with_reducible refine bel_drewN ?_ _) | (with_reducible refine bel_set ?_ ?_ _) | (with_reducible refine After.out _ ?_ ?_) | (dsimp only; omega) | omega | (simp only [World.size_alloc, World.size_setCell, World.size_drew]; omega)))), EvP.alloc _ _, ⟨y.w.heap.size, rfl, by omega, _, heap_alloc_new _ _, rfl⟩, (fun h => absurd h (by decide))⟩
    case op11 =>
      rintro xv _ ⟨y, rfl⟩ hd
      (try simp only [List.mem_toArray, List.forall_mem_cons, List.not_mem_nil, false_imp_iff, implies_true, and_true, Region.binds, forall_const] at hd)
      obtain ⟨⟨b, e2, hb, hBr⟩, ⟨u, e1, hu⟩, -⟩ := hd
      obtain ⟨gk, ck, rfl, hgk, hok⟩ := hu
      have hsy := y.bel.size
      (try simp only [World.size_drew] at hsy)
      obtain ⟨v0, d0⟩ := hBr.cells (i := 0) (by omega)
      obtain ⟨v1, d1⟩ := hBr.cells (i := 1) (by omega)
      obtain ⟨v2, d2⟩ := hBr.cells (i := 2) (by omega)
      obtain ⟨v3, d3⟩ := hBr.cells (i := 3) (by omega)
      obtain ⟨v4, d4⟩ := hBr.cells (i := 4) (by omega)
      have f0 := hBr.free 0
      have f1 := hBr.free 1
      have f2 := hBr.free 2
      have f3 := hBr.free 3
      have f4 := hBr.free 4
      have hEv := EvP.store (P := OwnV y4.w.heap.size n) hBr X0 Y0 F.size R.length (.slice (some ⟨gk, 0, none⟩) n ck) (fun hE => OwnV.mk (own_ev hok hE) hn0.out)
      have hPsi := OwnV.mk (own_ev hok (EvP.storeR hBr X0 Y0 F.size R.length (.slice (some ⟨gk, 0, none⟩) n ck))) hn0.out
      replace hBr := Lib.hid hBr
      replace e2 := Lib.hid e2
      replace hEv := Lib.hid hEv
      replace hPsi := Lib.hid hPsi
      clear hok
      simp only [putAll, Act.put, List.setIfInBounds_toArray, List.set_cons_zero, List.set_cons_succ, Nat.zero_add, Nat.reduceAdd, e1, e2.out]
      refine op_loud (by rfl) (by rfl) ?_
      intro KP hKP
      replace hKP := Lib.hid hKP
      go_wp2_with fail
      refine hKP.out _ _ ⟨undef, rfl, LaterC.mk (bel_storeM y.bel (by simpa using hb) _ _ _ _ _), hEv.out, trivial, fun _ => ⟨b, _, rfl, hb, hBr.out.stored _ _ _ _ _, hPsi.out⟩⟩
    case hst =>
      intro i v w1 w2 hE h
      match i, h with
      | 0, h => exact h
      | 1, h => exact h
      | 2, h => exact h
      | 3, h => exact h
      | 4, h => exact h
      | 5, h => exact h
      | 6, h => exact h
      | 7, h => exact h
      | 8, h => exact h
      | 9, ⟨u, h1, h2⟩ => exact ⟨u, h1, h2.ev hE⟩
      | 10, ⟨b, h1, h2, h3⟩ => exact ⟨b, h1, h2, h3.evP hE⟩
      | n + 11, h => trivial
    case hstP =>
      rintro v w1 w2 hE ⟨b, u, rfl, hb, hG, hu⟩
      obtain ⟨u2, hu2, hG2⟩ := hG.evP (P := OwnV y4.w.heap.size n) hu (hu.ev hE) hE
      exact ⟨b, u2, rfl, hb, hG2, hu2⟩
    case hend =>
      rintro xv _ ⟨y, rfl⟩ hall hP
      obtain ⟨b, u, e21, hb, hG, hu⟩ := hP (by decide)
      clear hall hP
      obtain ⟨hM, hF2⟩ := hG.maskAt
      have hby : Below y4.w.heap.size y4.w y.w := by (repeat (first | (with_reducible exact Below.refl _ _) | (with_reducible assumption) | (with_reducible refine Later.out _ ?_) | (with_reducible refine bel_alloc ?_ _) | (with_reducible refine bel_drew ?_) | (with_reducible refine bel_drewN ?_ _) | (with_reducible refine bel_set ?_ ?_ _) | (with_reducible refine After.out _ ?_ ?_) | (dsimp only; omega) | omega | (simp only [World.size_alloc, World.size_setCell, World.size_drew]; omega)))
      simp only [putAll, Act.put, List.setIfInBounds_toArray, List.set_cons_zero, List.set_cons_succ, e21]
      go_wp2_with fail
      go_meet
      exact ⟨_, _, rfl, hb, hM, hby, hu⟩
  case rest =>
    obtain ⟨B, u, rfl, hB, hM, hbc, hu⟩ := hcut
    obtain ⟨gk, ck, rfl, hgk, hown⟩ := hu
    have hBz := hM.lt
    have hcs := hbc.size
    have hO1 : Owns wc gk (gk + 1) 4 1 n (some ⟨gk, 0, none⟩) ck (boolCells (List.replicate n false)) := by
      rw [show boolCells (List.replicate n false) = List.replicate n (.bool false) by simp [boolCells]]
      exact ⟨own_lift hown, fun p hp => by cases hp; simp⟩
    obtain ⟨m0, m1, m2, m3, m4⟩ := hM
    have hne : gk ≠ B := fun e => by
      subst e
      have h6 := hO1.own.cellAt 0 (by have := hn0.out; omega)
      rw [m0, boolCells_get (by simp; exact hn0.out)] at h6
      injection h6 with h6
      cases h6
    have hgB : B < gk ∨ gk + 1 ≤ B := by omega
    have hgkz : gk < wc.heap.size := (hO1.own.lt gk rfl).2
    have hq4 : ∀ (j : Nat) (h : j < R.length), wc.cell? ⟨g, j + 1, none⟩ = some (.string R[j]) := fun j h => by
      have h1 := hqq.out j h
      rw [Nat.zero_add] at h1
      refine (hbc.cell (by simp only; omega)).trans ((Below.cell (B := y1.w.heap.size) (by (repeat (first | (with_reducible exact Below.refl _ _) | (with_reducible assumption) | (with_reducible refine Later.out _ ?_) | (with_reducible refine bel_alloc ?_ _) | (with_reducible refine bel_drew ?_) | (with_reducible refine bel_drewN ?_ _) | (with_reducible refine bel_set ?_ ?_ _) | (with_reducible refine After.out _ ?_ ?_) | (dsimp only; omega) | omega | (simp only [World.size_alloc, World.size_setCell, World.size_drew]; omega)))) (by simp only; omega)).trans h1)
    replace hq4 := Lib.hid hq4
    have r0 := (hbc.cell (p := ⟨w.heap.size, 0, none⟩) (by simp only; omega)).trans r0.out
    have f0 := (hbc.frozen (p := ⟨w.heap.size, 0, none⟩) (by simp only; omega)).trans f0.out
    have r1 := (hbc.cell (p := ⟨w.heap.size, 1, none⟩) (by simp only; omega)).trans r1.out
    have f1 := (hbc.frozen (p := ⟨w.heap.size, 1, none⟩) (by simp only; omega)).trans f1.out
    have r2 := (hbc.cell (p := ⟨w.heap.size, 2, none⟩) (by simp only; omega)).trans r2.out
    have f2 := (hbc.frozen (p := ⟨w.heap.size, 2, none⟩) (by simp only; omega)).trans f2.out
    have r3 := (hbc.cell (p := ⟨w.heap.size, 3, none⟩) (by simp only; omega)).trans r3.out
    have f3 := (hbc.frozen (p := ⟨w.heap.size, 3, none⟩) (by simp only; omega)).trans f3.out
    have r4 := (hbc.cell (p := ⟨w.heap.size, 4, none⟩) (by simp only; omega)).trans r4.out
    have f4 := (hbc.frozen (p := ⟨w.heap.size, 4, none⟩) (by simp only; omega)).trans f4.out
    have hbwc : Below w.heap.size w wc := bel_trans hbw4.out hbc (by omega)
    replace hbwc := Lib.hid hbwc
    clear hbc hown hqq
    replace hO1 := Lib.hid hO1
    have hgg : g < gk := by omega
    have u6 : w.heap.size < wc.heap.size := by omega
    have u7 : g < wc.heap.size := by omega
    have u8 : B < wc.heap.size := hBz
    have u9 : w.heap.size < gk := by omega
    have u10 : y2.w.heap.size < wc.heap.size := by omega
    rcases hgB with hgB | hgB
    all_goals
      go_wp2_with fail
      go_loopw [8] (fun i wr => ∃ (k : Nat) (l : List Bool), k ≤ R.length ∧ i = .int .i64 ((k : Int) + 1) ∧ l.length = n ∧ FillTo R F.size k 0 l ∧ (∀ j, j < k → ∀ hj : j < R.length, R[j].size = F.size) ∧ Owns wr gk (gk + 1) 4 1 n (some ⟨gk, 0, none⟩) ck (boolCells l) ∧ Between gk (gk + 1) wc wr) (fun i _ => R.length + 1 - (intOf i).toNat)
      case atStart => exact ⟨0, List.replicate n false, Nat.zero_le _, rfl, by simp, fill_zero _ _ _, fun j h => absurd h (by omega), hO1.out, Between.refl _ _ _⟩
      case round =>
        obtain ⟨k, l, hk, rfl, hl, hfl, hgood, hO, hb⟩ := hrel
        obtain ⟨z, rfl⟩ := AfterC.mk hb
        have hzs := z.btw.size
        replace hfl := Lib.hid hfl
        replace hgood := Lib.hid hgood
        replace hO := Lib.hid hO
        replace hl := Lib.hid hl
        clear hb
        by_cases hlt : k < R.length
        · have hi1 : (k : Int) + 1 < (R.length : Int) + 1 := by omega
          have q5 : wc.cell? ⟨g, k + 1, none⟩ = some (.string R[k]) := hq4.out k hlt
          have hTs := hsR.out k hlt
          by_cases hg1 : R[k].size = F.size
          · have hst := fun (m : Nat) (l : List Bool) (h : FillTo R F.size k m l) (hm : m < F.size) (hw : m < R[k].size) (hl : l.length = n) => fill_set h hlt hm (by rw [wordC_len]; exact hw) (by rw [hl, ← hn])
            have hwc : ∀ (m : Nat) (hm : m < R[k].size) (h2 : m < (wordC R[k]).length), (wordC R[k])[m] = (R[k][m] == 35) := fun m hm h2 => by simp only [wordC, List.getElem_map]; rfl
            have hwl := wordC_len R[k]
            obtain ⟨T, hT⟩ : ∃ T, R[k] = T := ⟨_, rfl⟩
            simp only [hT] at q5 hTs hg1 hwc hwl hst
            replace hst := Lib.hid hst
            replace hwc := Lib.hid hwc
            replace hT := Lib.hid hT
            have hne : ((T.size : Int) != (F.size : Int)) = false := by simp [hg1]
            have hne2 : (T.size : Int) = (F.size : Int) := by omega
            go_wp2_with fail
            refine wp_region_later (by kernel_rfl) (by kernel_rfl) ?_
            repeat (go_big_quiet_step (fail))
            refine wpQuiet_nil ?_
            rintro _ ⟨xq, rfl⟩
            go_wp2_with fail
            have hxs := xq.bel.size
            (try simp only [World.size_drew] at hxs)
            have hOx : Owns xq.w gk (gk + 1) 4 1 n (some ⟨gk, 0, none⟩) ck (boolCells l) := hO.out.bel (B := z.w.heap.size) (by (repeat (first | (with_reducible exact Below.refl _ _) | (with_reducible assumption) | (with_reducible refine Later.out _ ?_) | (with_reducible refine bel_alloc ?_ _) | (with_reducible refine bel_drew ?_) | (with_reducible refine bel_drewN ?_ _) | (with_reducible refine bel_set ?_ ?_ _) | (with_reducible refine After.out _ ?_ ?_) | (dsimp only; omega) | omega | (simp only [World.size_alloc, World.size_setCell, World.size_drew]; omega)))) (by omega)
            have hbx : Between gk (gk + 1) wc xq.w := by (repeat (first | (with_reducible exact Between.refl _ _ _) | (with_reducible refine Between.drew ?_) | (with_reducible refine Between.drewN ?_ _) | (with_reducible refine Between.set ?_ ?_ ?_ _) | (with_reducible refine btw_later _ ?_) | (with_reducible refine btw_alloc ?_ _) | (with_reducible refine btw_after _ ?_) | (with_reducible assumption) | (dsimp only; omega) | omega))
            replace hOx := Lib.hid hOx
            replace hbx := Lib.hid hbx
            clear hO
            go_loopw [10] (fun i wr => ∃ (m : Nat) (l : List Bool), m ≤ F.size ∧ i = .int .i64 m ∧ l.length = n ∧ FillTo R F.size k m l ∧ Owns wr gk (gk + 1) 4 1 n (some ⟨gk, 0, none⟩) ck (boolCells l) ∧ Between gk (gk + 1) wc wr) (fun i _ => F.size - (intOf i).toNat)
            case atStart => exact ⟨0, l, Nat.zero_le _, rfl, hl.out, hfl.out, hOx.out, hbx.out⟩
            case round =>
              obtain ⟨m, l2, hm, rfl, hl2, hfl2, hO2, hb2⟩ := hrel
              obtain ⟨v, rfl⟩ := AfterC.mk hb2
              have hvs := v.btw.size
              by_cases hlm : m < F.size
              · have hj1 : (m : Int) < (F.size : Int) := by omega
                have hj2 : (m : Int) < (T.size : Int) := by omega
                have hmT : m < T.size := by omega
                obtain ⟨p, hp⟩ : ∃ p, (R.length - 1 - k) * F.size + m = p := ⟨_, rfl⟩
                have hpn : p < n := by
                  have h1 := Nat.mul_le_mul_right F.size (show (R.length - 1 - k) + 1 ≤ R.length by omega)
                  rw [Nat.succ_mul, hn] at h1
                  omega
                have hpe : ((R.length : Int) - ((k : Int) + 1)) * (F.size : Int) + (m : Int) = (p : Int) := by
                  rw [← hp, Int.natCast_add, Int.natCast_mul, show (((R.length - 1 - k : Nat)) : Int) = (R.length : Int) - ((k : Int) + 1) by omega]
                have hpe2 := Lib.hid hp
                have hst2 := hst.out m l2 hfl2 hlm hmT hl2
                rw [hwc.out m hmT (by omega), hp] at hst2
                obtain ⟨bb, hbb⟩ : ∃ b, (T[m] == 35) = b := ⟨_, rfl⟩
                have hbe : ((T[m].toNat : Int) == 35) = bb := by
                  rw [← hbb, Bool.eq_iff_iff, beq_iff_eq, beq_iff_eq]
                  constructor
                  · intro h; exact UInt8.toNat_inj.1 (by show T[m].toNat = 35; omega)
                  · intro h; rw [h]; rfl
                rw [hbb] at hst2
                have hc := hO2.own.cellAt p (by omega)
                rw [boolCells_get (by rw [hl2]; exact hpn)] at hc
                have hf := hO2.own.frozenAt p
                obtain ⟨b0, hb0⟩ : ∃ b, l2[p]'(by rw [hl2]; exact hpn) = b := ⟨_, rfl⟩
                rw [hb0] at hc
                have hm0 : 0 ≤ ((R.length : Int) - ((k : Int) + 1)) * (F.size : Int) := Int.mul_nonneg (by omega) (by omega)
                have hm1 : ((R.length : Int) - ((k : Int) + 1)) * (F.size : Int) ≤ 576 := by omega
                replace hO2 := Lib.hid hO2
                replace hst2 := Lib.hid hst2
                replace hl2 := Lib.hid hl2
                clear hb0 hbb hp hfl2 hb2
                go_wp2_with fail
                refine wp_region_still_tail 16 (by kernel_rfl) (by kernel_rfl) ?_
                simp only [List.take_succ_cons, List.take_zero, List.drop_succ_cons, List.drop_zero]
                refine wpStill_of_quiet (C := LaterC _) (LaterC.mk ((Below.refl _ _).drew)) (by kernel_rfl) ?_
                repeat (go_big_quiet_step (fail))
                refine wpQuiet_nil ?_
                change wpList _ _ _ _ _ (World.drew _)
                go_wp2_with fail
                go_roundw
                case rel =>
                  refine ⟨m + 1, l2.set p bb, by omega, by go_num, by rw [List.length_set]; exact hl2.out, hst2.out, ?_, ?_⟩
                  · have h := (hO2.out.bel (B := gk + 1) (Below.refl _ _).drew (Nat.le_refl _)).set (j := p) (.bool bb)
                    rw [show (boolCells l2).set p (.bool bb) = boolCells (l2.set p bb) by simp [boolCells, List.map_set]] at h
                    exact h
                  · exact Between.set (Between.drew v.btw) (by simp only; omega) (by simp only; omega) _
                case measure => first | (simp [intOf]; done) | (simp [intOf]; omega) | omega
              · obtain rfl : m = F.size := by omega
                have hj1 : ¬ (F.size : Int) < (F.size : Int) := by omega
                replace hO2 := Lib.hid hO2
                replace hl2 := Lib.hid hl2
                replace hfl2 := Lib.hid (fill_next hfl2)
                clear hb2
                go_wp2_with fail
                go_roundw
                case rel =>
                  refine ⟨k + 1, l2, by omega, by go_num, hl2.out, hfl2.out, fun j hj hjR => ?_, hO2.out, v.btw⟩
                  by_cases h3 : j < k
                  · exact hgood.out j h3 hjR
                  · obtain rfl : j = k := by omega
                    rw [hT.out]
                    exact hg1
                case measure => first | (simp [intOf]; done) | (simp [intOf]; omega) | omega
          · obtain ⟨rfl, rfl, rfl, rfl, rfl, rfl⟩ := N3'.out k hlt hg1
            obtain ⟨T, hT⟩ : ∃ T, R[k] = T := ⟨_, rfl⟩
            simp only [hT] at q5 hTs hg1
            have hne : ((T.size : Int) != (F.size : Int)) = true := by simpa using (by omega : ¬ (T.size : Int) = F.size)
            clear hT hO
            go_wp2_with fail
            refine wp_region_later (by kernel_rfl) (by kernel_rfl) ?_
            repeat (go_big_quiet_step (fail))
            refine wpQuiet_nil ?_
            rintro _ ⟨xq, rfl⟩
            go_wp2_with fail
            refine bodyPost_ret (by simp [results, Tryz.results18, go_sem, ↓IntWalk.iteOmega, *]; try rfl) rfl ?_
            have hb1 := hbwc.out
            exact RetOwn.mk (.slice none 0 0) rfl (World.ownsRow_nil _ _ _ _) (by (repeat (first | (with_reducible exact Below.refl _ _) | (with_reducible assumption) | (with_reducible refine Later.out _ ?_) | (with_reducible refine bel_alloc ?_ _) | (with_reducible refine bel_drew ?_) | (with_reducible refine bel_drewN ?_ _) | (with_reducible refine bel_set ?_ ?_ _) | (with_reducible refine After.out _ ?_ ?_) | (dsimp only; omega) | omega | (simp only [World.size_alloc, World.size_setCell, World.size_drew]; omega))))
        · obtain rfl : k = R.length := by omega
          have hi1 : ¬ (R.length : Int) + 1 < (R.length : Int) + 1 := by omega
          have hlC : l = CL := hFA.out F.size l hfl.out (by rw [hl.out, ← hn]) (by omega) (fun j hj => hgood.out j hj hj)
          have hln := hl.out
          subst hlC
          have hrow := Lib.hid hO.out.row
          have hown5 := Lib.hid hO.out.own
          cases hIM : isMaskB X0 Y0 F.size R.length n
          · obtain ⟨rfl, rfl, rfl, rfl, rfl, rfl⟩ := N4'.out (fun h => by rw [hln, hIM] at h; cases h.1)
            have CI := Lib.hid (fun w => sIsMask_b X0 Y0 F.size R.length (some ⟨gk, 0, none⟩) n ck w hIM)
            clear hIM
            go_wp2_with fail
            with_reducible refine (CI.out _).mono ?_
            rintro e w' ⟨rfl, y6, rfl⟩
            have hsy6 := y6.bel.size
            (try simp only [World.size_alloc, World.size_setCell, World.size_drew] at hsy6)
            go_wp2_with fail
            refine bodyPost_ret (by simp [results, Tryz.results18, go_sem, ↓IntWalk.iteOmega, *]; try rfl) rfl ?_
            have hb1 := hbwc.out
            exact RetOwn.mk (.slice none 0 0) rfl (World.ownsRow_nil _ _ _ _) (by (repeat (first | (with_reducible exact Below.refl _ _) | (with_reducible assumption) | (with_reducible refine Later.out _ ?_) | (with_reducible refine bel_alloc ?_ _) | (with_reducible refine bel_drew ?_) | (with_reducible refine bel_drewN ?_ _) | (with_reducible refine bel_set ?_ ?_ _) | (with_reducible refine After.out _ ?_ ?_) | (dsimp only; omega) | omega | (simp only [World.size_alloc, World.size_setCell, World.size_drew]; omega))))
          · have CI := Lib.hid (fun w => sIsMask_b X0 Y0 F.size R.length (some ⟨gk, 0, none⟩) n ck w hIM)
            have CT := fun w hr => sMaskText_any X0 Y0 F.size R.length l gk 0 n ck w hln hIM hr
            have N5 := fun (h : ¬ maskT X0 Y0 F.size R.length l = s) => N4'.out (fun h2 => h h2.2)
            have Y5 := fun (h : maskT X0 Y0 F.size R.length l = s) => YM.out X0 Y0 F.size R.length l ⟨by rw [hln]; exact hIM, h⟩
            obtain ⟨T, hT⟩ : ∃ T, maskT X0 Y0 F.size R.length l = T := ⟨_, rfl⟩
            simp only [hT] at CT
            rw [hT] at N5 Y5
            have hTe := toList_eq T s
            replace CT := Lib.hid CT
            clear hIM hT
            by_cases hts : T = s
            · obtain ⟨rfl, rfl, rfl, rfl, rfl, rfl⟩ := Y5 hts
              rw [decide_eq_true hts] at hTe
              clear N5 Y5 hts
              subst hln
              go_wp2_with fail
              with_reducible refine (CI.out _).mono ?_
              rintro e w' ⟨rfl, y6, rfl⟩
              have hsy6 := y6.bel.size
              (try simp only [World.size_alloc, World.size_setCell, World.size_drew] at hsy6)
              go_wp2_with fail
              with_reducible refine (CT.out _ (hrow.out.bel (by (repeat (first | (with_reducible exact Below.refl _ _) | (with_reducible assumption) | (with_reducible refine Later.out _ ?_) | (with_reducible refine bel_alloc ?_ _) | (with_reducible refine bel_drew ?_) | (with_reducible refine bel_drewN ?_ _) | (with_reducible refine bel_set ?_ ?_ _) | (with_reducible refine After.out _ ?_ ?_) | (dsimp only; omega) | omega | (simp only [World.size_alloc, World.size_setCell, World.size_drew]; omega)))))).mono ?_
              rintro e w' ⟨rfl, y7, rfl⟩
              have hsy7 := y7.bel.size
              (try simp only [World.size_alloc, World.size_setCell, World.size_drew] at hsy7)
              have ho7 : y7.w.ownsRow wc.heap.size 4 1 (.slice (some ⟨gk, 0, none⟩) L.length ck) L.length (boolCells L) ∨ True := .inr trivial
              have ho6 := own_bel (own_bel hown5.out y6.bel) y7.bel
              replace ho6 := Lib.hid ho6
              go_wp2_with fail
              refine bodyPost_ret (by simp [results, Tryz.results18, go_sem, ↓IntWalk.iteOmega, *]; try rfl) rfl ?_
              have hb1 := hbwc.out
              refine RetOwn.mk (.slice (some ⟨gk, 0, none⟩) L.length ck) rfl ?_ (by (repeat (first | (with_reducible exact Below.refl _ _) | (with_reducible assumption) | (with_reducible refine Later.out _ ?_) | (with_reducible refine bel_alloc ?_ _) | (with_reducible refine bel_drew ?_) | (with_reducible refine bel_drewN ?_ _) | (with_reducible refine bel_set ?_ ?_ _) | (with_reducible refine After.out _ ?_ ?_) | (dsimp only; omega) | omega | (simp only [World.size_alloc, World.size_setCell, World.size_drew]; omega))))
              refine own_mono (base := gk) ?_ (by omega)
              repeat (with_reducible refine own_set ?_ (by simp only; omega) _)
              exact ho6.out
            · obtain ⟨rfl, rfl, rfl, rfl, rfl, rfl⟩ := N5 hts
              rw [decide_eq_false hts] at hTe
              clear N5 Y5 hts
              go_wp2_with fail
              with_reducible refine (CI.out _).mono ?_
              rintro e w' ⟨rfl, y6, rfl⟩
              have hsy6 := y6.bel.size
              (try simp only [World.size_alloc, World.size_setCell, World.size_drew] at hsy6)
              go_wp2_with fail
              with_reducible refine (CT.out _ (hrow.out.bel (by (repeat (first | (with_reducible exact Below.refl _ _) | (with_reducible assumption) | (with_reducible refine Later.out _ ?_) | (with_reducible refine bel_alloc ?_ _) | (with_reducible refine bel_drew ?_) | (with_reducible refine bel_drewN ?_ _) | (with_reducible refine bel_set ?_ ?_ _) | (with_reducible refine After.out _ ?_ ?_) | (dsimp only; omega) | omega | (simp only [World.size_alloc, World.size_setCell, World.size_drew]; omega)))))).mono ?_
              rintro e w' ⟨rfl, y7, rfl⟩
              have hsy7 := y7.bel.size
              (try simp only [World.size_alloc, World.size_setCell, World.size_drew] at hsy7)
              go_wp2_with fail
              refine bodyPost_ret (by simp [results, Tryz.results18, go_sem, ↓IntWalk.iteOmega, *]; try rfl) rfl ?_
              have hb1 := hbwc.out
              exact RetOwn.mk (.slice none 0 0) rfl (World.ownsRow_nil _ _ _ _) (by (repeat (first | (with_reducible exact Below.refl _ _) | (with_reducible assumption) | (with_reducible refine Later.out _ ?_) | (with_reducible refine bel_alloc ?_ _) | (with_reducible refine bel_drew ?_) | (with_reducible refine bel_drewN ?_ _) | (with_reducible refine bel_set ?_ ?_ _) | (with_reducible refine After.out _ ?_ ?_) | (dsimp only; omega) | omega | (simp only [World.size_alloc, World.size_setCell, World.size_drew]; omega))))
end Go.Proofs.YtfjlilpebhiogaaGreatDoor
