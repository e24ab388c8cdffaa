/- Contracts of functions on lists of numbers: all within bounds, rising, equal, a copy. -/
import Derived.Test.YtpebjphejpakpaaNum
import Derived.Test.YtpebjphejpakpaaInts
import Derived.Deep.QuietTactic
import Derived.BigQuiet
namespace Go.Proofs.Ytpebjphejpakpaa
open Go.RowKit
set_option linter.unusedVariables false

section
variable {α : Type} {xs : List α} {p : α → Bool} {k : Nat} {x : α}
theorem all_no (hx : xs[k]? = some x) (h : p x = false) : xs.all p = false := by
  rw [List.all_eq_false]
  exact ⟨x, List.mem_of_getElem? hx, by simp [h]⟩
theorem all_step (h : (xs.take k).all p = true) (hx : xs[k]? = some x) (hp : p x = true) : (xs.take (k + 1)).all p = true := by
  rw [take_step hx, List.all_append, h]
  simp [hp]
theorem all_end (hl : xs.length = k) (h : (xs.take k).all p = true) : xs.all p = true := by
  rwa [List.take_of_length_le (by omega)] at h
end

def allIn (xs : List Int) (l h : Int) : Bool := xs.all fun x => inB x l h

theorem areWI {w : World} {A : Option Addr} {n : Nat} {xs : List Int} (H : Ints .i64 w A n xs) (c : Nat) (l h : Int) :
    Calls Try.prog 92 #[.slice A n c, .int .i64 l, .int .i64 h] w fun e w' => e = .returned (.bool (allIn xs l h)) ∧ w = w' := by
  have hn := H.le
  go_enter Try.func92, Try.ntmps92
  go_wp2
  go_loop [11] (fun i => ∃ k : Nat, k ≤ n ∧ i = .int .i64 k ∧ Hid ((xs.take k).all (fun x => inB x l h) = true)) (fun i => n - (intOf i).toNat)
  case atStart => exact ⟨0, Nat.zero_le _, rfl, by simp [Hid]⟩
  case round =>
    obtain ⟨k, hk, rfl, HA⟩ := hrel
    by_cases hlt : k < n
    · obtain ⟨b, off, x, rfl, hb, hc, HX, hw⟩ := H.at_ hlt
      rcases hx : inB x l h
      · go_wp2_with (go_at_call 70; refine (inIv hx _).mono ?_; rintro e w' ⟨rfl, rfl⟩)
        go_ret
        exact ⟨ret_b (all_no HX.out hx).symm, rfl⟩
      · go_wp2_with (go_at_call 70; refine (inIv hx _).mono ?_; rintro e w' ⟨rfl, rfl⟩)
        go_round
        case rel => exact ⟨k + 1, by omega, by go_num, all_step HA.out HX.out hx⟩
        case measure => simp [intOf]; omega
    · obtain rfl : k = n := by omega
      go_wp2
      go_ret
      exact ⟨ret_b (all_end H.len HA.out).symm, rfl⟩

/-- rising strictly within 0 .. n - 1, up to place k -/
def okAt (xs : List Int) (n : Int) (i : Nat) : Prop := 0 ≤ xs.getD i 0 ∧ xs.getD i 0 < n ∧ (0 < i → xs.getD (i - 1) 0 < xs.getD i 0)
noncomputable def risesB (xs : List Int) (n : Int) : Bool := @decide (∀ i, i < xs.length → okAt xs n i) (Classical.propDecidable _)
theorem rises_no {xs : List Int} {n : Int} {i : Nat} (hi : i < xs.length) (h : ¬ okAt xs n i) : risesB xs n = false := by
  exact @decide_eq_false _ (Classical.propDecidable _) (fun k => h (k i hi))
theorem rises_yes {xs : List Int} {n : Int} {k : Nat} (hk : xs.length = k) (h : ∀ i, i < k → okAt xs n i) : risesB xs n = true := by
  exact @decide_eq_true _ (Classical.propDecidable _) (fun i hi => h i (by omega))
theorem getD_of {xs : List Int} {i : Nat} {x : Int} (h : xs[i]? = some x) : xs.getD i 0 = x := by rw [List.getD, h]; rfl
end Go.Proofs.Ytpebjphejpakpaa
