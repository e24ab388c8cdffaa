/- The text of a history: contracts and the walk of the law. -/
import Derived.Test.YtgnpbgknmapejaaDoorCopy
import Derived.Laws.DeepStrings4
import Derived.BigQuiet
namespace Go.Proofs.YtgnpbgknmapejaaDoor
open Go.RowKit
set_option linter.unusedVariables false

def htS : ByteArray := { data := #[99, 116, 115, 98] }
def piece (x : Int) : ByteArray := htS.extract (x - 1).toNat x.toNat
def htx (xs : List Int) : Nat → ByteArray
  | 0 => { data := #[] }
  | k + 1 => htx xs k ++ piece (xs.getD k 0)
def htB (xs : List Int) : Bool := allIn xs 1 4 && decide ((xs.length : Int) ≤ 100)
def htV (xs : List Int) : ByteArray := if htB xs then htx xs xs.length else { data := #[] }
theorem htx_step {xs : List Int} {k : Nat} {x : Int} (h : xs[k]? = some x) : htx xs (k + 1) = htx xs k ++ piece x := by
  simp [htx, List.getD, h]
theorem ht_in {xs : List Int} (h : htB xs = true) {k : Nat} {x : Int} (hx : xs[k]? = some x) : x = 1 ∨ x = 2 ∨ x = 3 ∨ x = 4 := by
  simp only [htB, Bool.and_eq_true, allIn, List.all_eq_true] at h
  have := h.1 x (List.mem_of_getElem? hx)
  simp [inB] at this
  omega
theorem htx_size (xs : List Int) (k : Nat) : (htx xs k).size ≤ 4 * k := by
  induction k with
  | zero => simp [htx, ByteArray.size]
  | succ k ih =>
    have : (piece (xs.getD k 0)).size ≤ 4 := by
      unfold piece
      rw [ByteArray.size_extract]
      have : htS.size = 4 := rfl
      omega
    simp only [htx, ByteArray.size_append]
    omega
set_option maxHeartbeats 1600000 in
theorem htS_ {w : World} {A : Option Addr} {n : Nat} {xs : List Int} (H : Ints .i64 w A n xs) (c : Nat) : Calls Tryd.prog 48 #[.slice A n c] w fun e w' => e = .returned (.string (htV xs)) ∧ ∃ q, w' = w.drewN q := by
  have hlen := Lib.hid H.len
  have hn := H.le
  have hB : Hid ((allIn xs 1 4 && decide ((n : Int) ≤ 100)) = htB xs) := by unfold htB; rw [H.len]; rfl
  rcases hs : htB xs
  · rw [hs] at hB
    go_enter Tryd.func48, Tryd.ntmps48
    go_wp2_with (go_at_call 85; refine (withS H _ _ _ _).mono ?_; rintro e w1 ⟨rfl, rfl⟩; rw [hB.out])
    go_ret
    exact ⟨by simp [htV, hs], 0, rfl⟩
  · rw [hs] at hB
    have HI : Hid (∀ (k : Nat) (x : Int), xs[k]? = some x → x = 1 ∨ x = 2 ∨ x = 3 ∨ x = 4) := fun k x hx => ht_in hs hx
    have h100 : n ≤ 100 := by have h := hs; simp only [htB, Bool.and_eq_true, decide_eq_true_eq] at h; have := H.len; omega
    go_enter Tryd.func48, Tryd.ntmps48
    go_wp2_with (go_at_call 85; refine (withS H _ _ _ _).mono ?_; rintro e w1 ⟨rfl, rfl⟩; rw [hB.out])
    go_loopw [3, 4] (fun v i wr => ∃ k : Nat, k ≤ n ∧ i = .int .i64 k ∧ v = .string (htx xs k) ∧ ∃ q, wr = w.drewN q) (fun _ i _ => n - (intOf i).toNat)
    case atStart => exact ⟨0, Nat.zero_le _, rfl, rfl, 0, rfl⟩
    case round =>
      obtain ⟨k, hk, rfl, rfl, q, rfl⟩ := hrel
      by_cases hlt : k < n
      · obtain ⟨b, off, x, rfl, hb, hc, HX, hw⟩ := H.at_ hlt
        have ST := Lib.hid (htx_step HX.out)
        have hz := htx_size xs k
        rcases HI.out k x HX.out with rfl | rfl | rfl | rfl
        all_goals
          go_wp2
          try go_quiet (fail)
          all_goals go_wp2
          go_roundw
          case rel => exact ⟨k + 1, by omega, by go_num, by rw [ST.out]; rfl, _, rfl⟩
          case measure => simp [intOf]; omega
      · obtain rfl : k = n := by omega
        go_wp2
        go_ret
        exact ⟨by simp [htV, hs, hlen.out], _, rfl⟩
set_option maxHeartbeats 1600000 in
theorem htI_ {w : World} {A : Option Addr} {n : Nat} {xs : List Int} (H : Ints .i64 w A n xs) (c : Nat) : Calls Tryd.prog 46 #[.slice A n c] w fun e w' => e = .returned (.string (htV xs)) ∧ ∃ q, w' = w.drewN q := by
  have hlen := Lib.hid H.len
  have hn := H.le
  rcases hs : htB xs
  · by_cases h100 : n ≤ 100
    · have hB : allIn xs 1 4 = false := by
        have h := hs
        simp only [htB, Bool.and_eq_false_iff, decide_eq_false_iff_not] at h
        have := H.len
        rcases h with h | h
        · exact h
        · omega
      go_enter Tryd.func46, Tryd.ntmps46
      go_wp2_with (go_at_call 84; refine (areWI H _ _ _).mono ?_; rintro e w1 ⟨rfl, rfl⟩)
      go_ret
      exact ⟨by simp [htV, hs], 0, rfl⟩
    · go_enter Tryd.func46, Tryd.ntmps46
      go_wp2_with (go_at_call 84; refine (areWI H _ _ _).mono ?_; rintro e w1 ⟨rfl, rfl⟩)
      go_ret
      exact ⟨by simp [htV, hs], 0, rfl⟩
  · have HI : Hid (∀ (k : Nat) (x : Int), xs[k]? = some x → x = 1 ∨ x = 2 ∨ x = 3 ∨ x = 4) := fun k x hx => ht_in hs hx
    have h100 : n ≤ 100 := by have h := hs; simp only [htB, Bool.and_eq_true, decide_eq_true_eq] at h; have := H.len; omega
    have hB : allIn xs 1 4 = true := by have h := hs; simp only [htB, Bool.and_eq_true] at h; exact h.1
    go_enter Tryd.func46, Tryd.ntmps46
    go_wp2_with (go_at_call 84; refine (areWI H _ _ _).mono ?_; rintro e w1 ⟨rfl, rfl⟩)
    go_loopw [3, 16] (fun v i wr => ∃ k : Nat, k ≤ n ∧ i = .int .i64 k ∧ v = .string (htx xs k) ∧ ∃ q, wr = w.drewN q) (fun _ i _ => n - (intOf i).toNat)
    case atStart => exact ⟨0, Nat.zero_le _, rfl, rfl, 0, rfl⟩
    case round =>
      obtain ⟨k, hk, rfl, rfl, q, rfl⟩ := hrel
      by_cases hlt : k < n
      · obtain ⟨b, off, x, rfl, hb, hc, HX, hw⟩ := H.at_ hlt
        have ST := Lib.hid (htx_step HX.out)
        have hz := htx_size xs k
        rcases HI.out k x HX.out with rfl | rfl | rfl | rfl
        all_goals
          go_wp2
          try go_quiet (fail)
          all_goals go_wp2
          go_roundw
          case rel => exact ⟨k + 1, by omega, by go_num, by rw [ST.out]; rfl, _, rfl⟩
          case measure => simp [intOf]; omega
      · obtain rfl : k = n := by omega
        go_wp2
        go_ret
        exact ⟨by simp [htV, hs, hlen.out], _, rfl⟩
end Go.Proofs.YtgnpbgknmapejaaDoor
