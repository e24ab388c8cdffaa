/- The contract of the copy of a list of numbers. -/
import Derived.Test.YtgnpbgknmapejaaDoorList
namespace Go.Proofs.YtgnpbgknmapejaaDoor
open Go.RowKit
set_option linter.unusedVariables false

theorem infoI64 : (Tryd.prog.info? 2).map (fun i => (i.zero, i.size, i.bytes)) = some (some (.int .i64 0), 1, 8) := by kernel_rfl

/-- what a copy holds when k elements are copied -/
def partly (xs : List Int) (n k : Nat) : List Value := (xs.take k ++ List.replicate (n - k) 0).map (Value.int .i64)
theorem partly_zero (xs : List Int) (n : Nat) : partly xs n 0 = List.replicate n (Value.int .i64 0) := by simp [partly]
theorem partly_set {xs : List Int} {n k : Nat} {x : Int} (hl : xs.length = n) (hx : xs[k]? = some x) (hk : k < n) : (partly xs n k).set k (.int .i64 x) = partly xs n (k + 1) := by
  unfold partly
  rw [take_step hx, ← List.map_set]
  congr 1
  have e : n - k = (n - (k + 1)) + 1 := by omega
  rw [e, List.replicate_succ, List.set_append_right _ _ (by simp; omega)]
  simp [List.length_take, show min k xs.length = k by omega]
theorem partly_end {xs : List Int} {n : Nat} (hl : xs.length = n) : partly xs n n = xs.map (Value.int .i64) := by
  unfold partly
  rw [List.take_of_length_le (by omega)]
  simp

theorem copyL {w : World} {A : Option Addr} {n : Nat} {xs : List Int} (H : Ints .i64 w A n xs) (c : Nat) (hn : n ≤ 1048576) :
    Calls Tryd.prog 80 #[.slice A n c] w fun e w' => ∃ g, e = .returned (.slice (some ⟨g, 0, none⟩) n n) ∧ w.heap.size ≤ g ∧ Ints .i64 w' (some ⟨g, 0, none⟩) n xs ∧ w'.ownsRow w.heap.size 2 1 (.slice (some ⟨g, 0, none⟩) n n) n (xs.map (Value.int .i64)) ∧ Below w.heap.size w w' := by
  obtain ⟨i0, hi, hz0, hz1, hz2⟩ := info_parts infoI64
  go_enter Tryd.func80, Tryd.ntmps80
  go_wp2_with (at_make; refine wpList_make_full _ rfl _ _ 39 rfl w.heap.size 2 i0 (.int .i64 0) 1 Tryd.underlying39 hi hz0 hz1 .i64 .i64 n n n rfl rfl rfl rfl (by rw [hz2]; omega) (by unfold maxLen; omega) (Nat.le_refl _) ?_; intro w1 hown hgrow)
  have hl := H.len
  have hb1 : Below w.heap.size w w1 := (Below.refl _ _).grown hgrow (Nat.le_refl _) (fun k e => by cases e)
  have ho : w1.ownsRow w.heap.size 2 1 (.slice (some ⟨w.heap.size, 0, none⟩) n n) n (partly xs n 0) := by
    rw [partly_zero]
    rw [Nat.mul_one] at hown
    rw [show (Value.int .i64 0).cells = #[Value.int .i64 0] from rfl, toList_madeCells_one] at hown
    exact hown
  clear hown hgrow hl hi hz0 hz1 hz2
  go_loopw [4] (fun i wr => ∃ k : Nat, k ≤ n ∧ i = .int .i64 k ∧ wr.ownsRow w.heap.size 2 1 (.slice (some ⟨w.heap.size, 0, none⟩) n n) n (partly xs n k) ∧ Below w.heap.size w wr) (fun i _ => n - (intOf i).toNat)
  case atStart => exact ⟨0, Nat.zero_le _, rfl, ho, hb1⟩
  case round =>
    obtain ⟨k, hk, rfl, hown, hbel⟩ := hrel
    clear ho hb1
    by_cases hlt : k < n
    · obtain ⟨b, off, x, rfl, hb, hc, HX, hw⟩ := H.at_ hlt
      have hcr : wr.cell? ⟨b, off + k, none⟩ = some (.int .i64 x) := (hbel.cell (p := ⟨b, off + k, none⟩) hb).trans hc
      obtain ⟨hs1, hs2⟩ := hown.stored k (.int .i64 x)
      have hfr := hown.frozenAt k
      obtain ⟨u, hu⟩ : ∃ u, wr.cell? ⟨w.heap.size, k, none⟩ = some u := by
        rw [hown.cellAt k (by omega)]
        exact ⟨_, List.getElem?_eq_getElem (by rw [hown.1]; omega)⟩
      rw [partly_set H.len HX.out hlt] at hs1
      have hb2 : Below w.heap.size w (wr.setCell ⟨w.heap.size, k, none⟩ (.int .i64 x)) := hbel.setCell (p := ⟨w.heap.size, k, none⟩) (Nat.le_refl _) _
      have S1 := Lib.hid hs1
      have S2 := Lib.hid hb2
      clear hs1 hs2 hb2 hown
      go_wp2
      go_roundw
      case rel => exact ⟨k + 1, by omega, by go_num, S1.out, S2.out⟩
      case measure => simp [intOf]; omega
    · obtain rfl : k = n := by omega
      rw [partly_end H.len] at hown
      have S1 := Lib.hid hown
      clear hown
      go_wp2
      go_ret
      exact ⟨_, rfl, Nat.le_refl _, Ints.of_own S1.out H.le (fun x hx => H.wf_ hx), S1.out, hbel⟩
end Go.Proofs.YtgnpbgknmapejaaDoor
