/- Marking the elements of a list that the call owns, and looking for the marks. -/
import Derived.Test.YtgnpbgknmapejaaDoorCopy
namespace Go.Proofs.YtgnpbgknmapejaaDoor
open Go.RowKit
set_option linter.unusedVariables false

/-- k, k + 1, .. -/
def marks (k n : Nat) : List Int := (List.range n).map fun i => ((k + i : Nat) : Int)
theorem marks_len (k n : Nat) : (marks k n).length = n := by simp [marks]
theorem marks_at {k n i : Nat} (h : i < n) : (marks k n)[i]? = some ((k + i : Nat) : Int) := by simp [marks, h]
theorem marks_wf {k n : Nat} (h : k + n ≤ 9223372036854775807) : ∀ x ∈ marks k n, (Lit.int .i64 x).wf = true := by
  intro x hx
  obtain ⟨i, hi, rfl⟩ := List.mem_map.1 hx
  have := List.mem_range.1 hi
  exact WalkArith.wf_i64 (by omega)
def marked (xs : List Int) (k i : Nat) : List Value := (marks k i ++ xs.drop i).map (Value.int .i64)
theorem marked_zero (xs : List Int) (k : Nat) : marked xs k 0 = xs.map (Value.int .i64) := by simp [marked, marks]
theorem marked_end {xs : List Int} {k n : Nat} (h : xs.length = n) : marked xs k n = (marks k n).map (Value.int .i64) := by
  unfold marked
  rw [List.drop_of_length_le (by omega), List.append_nil]
theorem marked_set {xs : List Int} {k i : Nat} (h : i < xs.length) : (marked xs k i).set i (.int .i64 ((k + i : Nat) : Int)) = marked xs k (i + 1) := by
  unfold marked
  rw [← List.map_set]
  congr 1
  have e : xs.drop i = xs[i] :: xs.drop (i + 1) := List.drop_eq_getElem_cons h
  rw [e, List.set_append_right _ _ (by rw [marks_len]; omega), marks_len, Nat.sub_self, List.set_cons_zero]
  have e2 : marks k (i + 1) = marks k i ++ [((k + i : Nat) : Int)] := by simp [marks, List.range_succ]
  rw [e2, List.append_assoc]; rfl
set_option maxHeartbeats 800000 in
theorem markL {w : World} {B g n c k : Nat} {xs : List Int} (O : w.ownsRow B 2 1 (.slice (some ⟨g, 0, none⟩) n c) n (xs.map (Value.int .i64))) (hn : n ≤ 4611686018427387903) (hk : k ≤ 4611686018427387903) :
    Calls Tryd.prog 38 #[.slice (some ⟨g, 0, none⟩) n c, .int .i64 k] w fun e w' => e = .returned (.int .i64 ((k + n : Nat) : Int)) ∧ w'.ownsRow B 2 1 (.slice (some ⟨g, 0, none⟩) n c) n ((marks k n).map (Value.int .i64)) ∧ w.grownBy w' (some g) := by
  have hl : xs.length = n := by have := O.1; simpa using this
  have HL := Lib.hid hl
  have O0 : w.ownsRow B 2 1 (.slice (some ⟨g, 0, none⟩) n c) n (marked xs k 0) := by rw [marked_zero]; exact O
  clear O hl
  go_enter Tryd.func38, Tryd.ntmps38
  go_wp2
  go_loopw [1, 5] (fun v i wr => ∃ j : Nat, j ≤ n ∧ i = .int .i64 j ∧ v = .int .i64 ((k + j : Nat) : Int) ∧ wr.ownsRow B 2 1 (.slice (some ⟨g, 0, none⟩) n c) n (marked xs k j) ∧ w.grownBy wr (some g)) (fun _ i _ => n - (intOf i).toNat)
  case atStart => exact ⟨0, Nat.zero_le _, rfl, rfl, O0, World.grownBy.refl _ _⟩
  case round =>
    obtain ⟨j, hj, rfl, rfl, hown, hgr⟩ := hrel
    clear O0
    by_cases hlt : j < n
    · obtain ⟨hs1, hs2⟩ := hown.stored j (.int .i64 ((k + j : Nat) : Int))
      have hfr := hown.frozenAt j
      obtain ⟨u, hu⟩ : ∃ u, wr.cell? ⟨g, j, none⟩ = some u := by
        rw [hown.cellAt j (by omega)]
        exact ⟨_, List.getElem?_eq_getElem (by rw [hown.1]; omega)⟩
      rw [marked_set (by rw [HL.out]; exact hlt)] at hs1
      have S1 := Lib.hid hs1
      have S2 := Lib.hid (hgr.trans hs2)
      clear hs1 hs2 hgr hown
      have hkj : ((k + j : Nat) : Int) = (k : Int) + (j : Int) := by omega
      go_wp2
      go_roundw
      case rel => exact ⟨j + 1, by omega, by go_num, by first | go_num | (congr 1; omega), by first | exact S1.out | (have := S1.out; simpa using this), by first | exact S2.out | (have := S2.out; simpa using this)⟩
      case measure => simp [intOf]; omega
    · obtain rfl : j = n := by omega
      rw [marked_end HL.out] at hown
      have S1 := Lib.hid hown
      have S2 := Lib.hid hgr
      clear hown hgr
      go_wp2
      go_ret
      exact ⟨ret_i (by omega), S1.out, S2.out⟩
theorem heldL {w : World} {A : Option Addr} {n c k : Nat} (H : Ints .i64 w A n (marks k n)) (hn : n ≤ 4611686018427387903) (hk : k ≤ 4611686018427387903) :
    Calls Tryd.prog 39 #[.slice A n c, .int .i64 k] w fun e w' => e = .returned (.int .i64 ((k + n : Nat) : Int)) ∧ ∃ q, w' = w.drewN q := by
  go_enter Tryd.func39, Tryd.ntmps39
  go_wp2
  go_loopw [1, 5] (fun v i wr => ∃ j : Nat, j ≤ n ∧ i = .int .i64 j ∧ v = .int .i64 ((k + j : Nat) : Int) ∧ ∃ q, wr = w.drewN q) (fun _ i _ => n - (intOf i).toNat)
  case atStart => exact ⟨0, Nat.zero_le _, rfl, rfl, 0, rfl⟩
  case round =>
    obtain ⟨j, hj, rfl, rfl, q, rfl⟩ := hrel
    by_cases hlt : j < n
    · obtain ⟨b, off, x, rfl, hb, hc, HX, hw⟩ := H.at_ hlt
      have hx : x = ((k + j : Nat) : Int) := by have := HX.out; rw [marks_at hlt] at this; injection this with this; exact this.symm
      subst hx
      have hbq : (((k + j : Nat) : Int) != ((k + j : Nat) : Int)) = false := by simp
      go_wp2
      try go_quiet (fail)
      all_goals go_wp2
      go_roundw
      case rel => exact ⟨j + 1, by omega, by go_num, by first | go_num | (congr 1; omega), by first | exact ⟨_, rfl⟩⟩
      case measure => simp [intOf]; omega
    · obtain rfl : j = n := by omega
      go_wp2
      go_ret
      exact ⟨ret_i (by omega), _, rfl⟩
end Go.Proofs.YtgnpbgknmapejaaDoor
