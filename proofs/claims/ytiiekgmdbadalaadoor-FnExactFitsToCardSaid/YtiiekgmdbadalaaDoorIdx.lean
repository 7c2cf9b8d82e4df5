import Derived.Test.YtiiekgmdbadalaaDoorToI
/- The indices of those claims of which a function value tells true. -/
set_option linter.unusedSimpArgs false
set_option linter.unusedVariables false
namespace Go.Proofs.YtiiekgmdbadalaaDoor
open Go.RowKit
/-- The indices below `k` at which `p` holds. -/
def idxsTo (p : Clm → Bool) (L : List Clm) (k : Nat) : List Int := ((List.range k).filter fun i => match L[i]? with | some c => p c | none => false).map fun (i : Nat) => (i : Int)
def idxs (p : Clm → Bool) (L : List Clm) : List Int := idxsTo p L L.length
theorem idxsTo_zero (p : Clm → Bool) (L : List Clm) : idxsTo p L 0 = [] := rfl
theorem idxsTo_yes {p : Clm → Bool} {L : List Clm} {k : Nat} (hk : k < L.length) (h : p L[k] = true) : idxsTo p L (k + 1) = idxsTo p L k ++ [(k : Int)] := by
  simp [idxsTo, List.range_succ, List.getElem?_eq_getElem hk, h]
theorem idxsTo_no {p : Clm → Bool} {L : List Clm} {k : Nat} (hk : k < L.length) (h : p L[k] = false) : idxsTo p L (k + 1) = idxsTo p L k := by
  simp [idxsTo, List.range_succ, List.getElem?_eq_getElem hk, h]
theorem length_idxsTo (p : Clm → Bool) (L : List Clm) (k : Nat) : (idxsTo p L k).length ≤ k := by
  unfold idxsTo
  rw [List.length_map]
  have := List.length_filter_le (fun i => match L[i]? with | some c => p c | none => false) (List.range k)
  simpa using this
theorem idxs_le (p : Clm → Bool) (L : List Clm) : (idxs p L).length ≤ L.length := length_idxsTo p L _
theorem one_int1 (x : Int) : ∀ u ∈ [Value.int .i64 x], u.oneCell' = true := by intro u hu; simp at hu; subst hu; rfl
set_option maxRecDepth 4000 in
set_option maxHeartbeats 1000000 in
theorem claimsWhere_any (g : Nat) (pre lb : Array Value) (p : Clm → Bool) (L : List Clm) (a : Option Addr) (n c : Nat) (w : World) (eg : ∀ args w, (callFunc g args).run Tryd.prog w = .ok (.enter g args) w)
    (hn : L.length = n) (hm : n ≤ 1048576) (hr : Row w a (clmsCells L)) (hp : Tells g pre lb p L w) :
    Calls Tryd.prog 78 #[.slice a n c, .func (.func g) pre lb] w (RetOwn w 2 1 (idxs p L).length (intCells (idxs p L)) id) := by
  subst hn
  obtain ⟨ii, j1, j2, j3, j4⟩ := info_i64'
  have Jii := Lib.hid (And.intro j1 (And.intro j2 (And.intro j3 j4)))
  clear j1 j2 j3 j4
  replace hr := Lib.hid hr
  replace hp := Lib.hid hp
  go_enter Tryd.func78, Tryd.ntmps78
  go_wp2_with fail
  go_loopw [5, 10] (fun t5 i wr => ∃ (k : Nat) (a5 : Option Addr) (c5 : Nat), k ≤ L.length ∧ i = .int .i64 k ∧ t5 = .slice a5 (idxsTo p L k).length c5 ∧ wr.ownsRow w.heap.size 2 1 (.slice a5 (idxsTo p L k).length c5) (idxsTo p L k).length (intCells (idxsTo p L k)) ∧ ∃ z : Later w, wr = z.w) (fun _ i _ => L.length - (intOf i).toNat)
  case atStart => exact ⟨0, none, 0, Nat.zero_le _, rfl, rfl, World.ownsRow_nil _ _ _ _, ⟨_, Below.refl _ _⟩, rfl⟩
  case round =>
    obtain ⟨k, a5, c5, hk, rfl, rfl, hown, z, rfl⟩ := hrel
    replace hown := Lib.hid hown
    have hzz := z.bel.size
    by_cases hlt : k < L.length
    · obtain ⟨b, o, rfl, hb, q0, q1, q2, q3, q4, q5, q6⟩ := hr.out.clm hlt
      have hc := fun w1 hb => hp.out L[k] (List.getElem_mem hlt) w1 hb
      have hle := length_idxsTo p L k
      cases hv : p L[k]
      · rw [hv] at hc
        replace hc := Lib.hid hc
        have X := Lib.hid (idxsTo_no hlt hv)
        clear hv
        go_wp2_with (go_at_fn g; (with_reducible refine (hc.out _ (by (repeat (first | (with_reducible exact Below.refl _ _) | (with_reducible assumption) | (with_reducible refine Later.out _ ?_) | (with_reducible refine bel_alloc ?_ _) | (with_reducible refine bel_drew ?_) | (with_reducible refine bel_drewN ?_ _) | (with_reducible refine bel_set ?_ ?_ _) | (with_reducible refine After.out _ ?_ ?_) | (dsimp only; omega) | omega | (simp only [World.size_alloc, World.size_setCell, World.size_drew]; omega))))).mono ?_); rintro e w' ⟨rfl, y1, rfl⟩; have hs1 := y1.bel.size; (try simp only [World.size_alloc, World.size_setCell] at hs1))
        go_roundw
        case rel => exact ⟨k + 1, a5, c5, by omega, by go_num, by rw [X.out], by rw [X.out]; exact own_bel hown.out (by (repeat (first | (with_reducible exact Below.refl _ _) | (with_reducible assumption) | (with_reducible refine Later.out _ ?_) | (with_reducible refine bel_alloc ?_ _) | (with_reducible refine bel_drew ?_) | (with_reducible refine bel_drewN ?_ _) | (with_reducible refine bel_set ?_ ?_ _) | (with_reducible refine After.out _ ?_ ?_) | (dsimp only; omega) | omega | (simp only [World.size_alloc, World.size_setCell, World.size_drew]; omega)))), ⟨_, by (repeat (first | (with_reducible exact Below.refl _ _) | (with_reducible assumption) | (with_reducible refine Later.out _ ?_) | (with_reducible refine bel_alloc ?_ _) | (with_reducible refine bel_drew ?_) | (with_reducible refine bel_drewN ?_ _) | (with_reducible refine bel_set ?_ ?_ _) | (with_reducible refine After.out _ ?_ ?_) | (dsimp only; omega) | omega | (simp only [World.size_alloc, World.size_setCell, World.size_drew]; omega)))⟩, rfl⟩
        case measure => first | (simp [intOf]; done) | (simp [intOf]; omega) | omega
      · rw [hv] at hc
        replace hc := Lib.hid hc
        have X := Lib.hid (idxsTo_yes hlt hv)
        clear hv
        obtain ⟨N, hN⟩ : ∃ N, idxsTo p L k = N := ⟨_, rfl⟩
        rw [hN] at hown X hle
        simp only [hN]
        clear hN
        go_wp2_with (first | (go_at_fn g; (with_reducible refine (hc.out _ (by (repeat (first | (with_reducible exact Below.refl _ _) | (with_reducible assumption) | (with_reducible refine Later.out _ ?_) | (with_reducible refine bel_alloc ?_ _) | (with_reducible refine bel_drew ?_) | (with_reducible refine bel_drewN ?_ _) | (with_reducible refine bel_set ?_ ?_ _) | (with_reducible refine After.out _ ?_ ?_) | (dsimp only; omega) | omega | (simp only [World.size_alloc, World.size_setCell, World.size_drew]; omega))))).mono ?_); rintro e w' ⟨rfl, y1, rfl⟩; have hs1 := y1.bel.size; (try simp only [World.size_alloc, World.size_setCell] at hs1)) | (at_builtin; (refine wpList_append_later _ rfl _ _ _ rfl 2 ii _ 1 8 Tryd.underlying50 Jii.out.1 Jii.out.2.1 Jii.out.2.2.1 Jii.out.2.2.2 rfl (by decide) (w) ?qa1 _ _ _ (intCells N) rfl ?qa2 _ _ _ ([.int .i64 k]) rfl ?qa3 ?qa4 ?qa5 ?qa6 ?qa7 ?_); (case qa1 => (repeat (first | (with_reducible exact Below.refl _ _) | (with_reducible assumption) | (with_reducible refine Later.out _ ?_) | (with_reducible refine bel_alloc ?_ _) | (with_reducible refine bel_drew ?_) | (with_reducible refine bel_drewN ?_ _) | (with_reducible refine bel_set ?_ ?_ _) | (with_reducible refine After.out _ ?_ ?_) | (dsimp only; omega) | omega | (simp only [World.size_alloc, World.size_setCell, World.size_drew]; omega)))); (case qa2 => exact own_bel hown.out (by (repeat (first | (with_reducible exact Below.refl _ _) | (with_reducible assumption) | (with_reducible refine Later.out _ ?_) | (with_reducible refine bel_alloc ?_ _) | (with_reducible refine bel_drew ?_) | (with_reducible refine bel_drewN ?_ _) | (with_reducible refine bel_set ?_ ?_ _) | (with_reducible refine After.out _ ?_ ?_) | (dsimp only; omega) | omega | (simp only [World.size_alloc, World.size_setCell, World.size_drew]; omega))))); (case qa3 => (first | rfl | (simp [boolCells]; done) | (simp [intCells]; done) | (simp; done) | (first | omega | (simp only [List.length_append, List.length_cons, List.length_nil]; omega)))); (case qa4 => exact Row.made _ _ _); (case qa5 => exact one_int1 _); (case qa6 => (unfold maxLen; (first | omega | (simp only [List.length_append, List.length_cons, List.length_nil]; omega)))); (case qa7 => (first | omega | (simp only [List.length_append, List.length_cons, List.length_nil]; omega))); intro a9 c9 x9 hown9))
        replace hown9 := Lib.hid hown9
        go_roundw
        case rel => exact ⟨k + 1, a9, c9, by omega, by go_num, by rw [X.out]; simp, by rw [X.out, intCells_snoc]; simpa using hown9.out, x9, rfl⟩
        case measure => first | (simp [intOf]; done) | (simp [intOf]; omega) | omega
    · obtain rfl : k = L.length := by omega
      go_wp2_with fail
      go_ret
      exact RetOwn.mk _ rfl hown.out z.bel
end Go.Proofs.YtiiekgmdbadalaaDoor
