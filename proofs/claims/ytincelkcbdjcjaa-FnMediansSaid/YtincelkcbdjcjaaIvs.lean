/- Slices of intervals that read as lists; whether all are valid. -/
import Derived.Test.YtincelkcbdjcjaaStruct
import Derived.Deep.QuietTactic
import Derived.BigQuiet
namespace Go.Proofs.Ytincelkcbdjcjaa
open Go.RowKit
set_option linter.unusedVariables false

abbrev Iv := Int × Int
/-- The slice value '.slice A n cap' of structs of two numbers has the elements xs. -/
def Ivs (w : World) (A : Option Addr) (n : Nat) (xs : List Iv) : Prop :=
  xs.length = n ∧ n ≤ 9223372036854775807 ∧ (∀ x ∈ xs, (Lit.int .i64 x.1).wf = true ∧ (Lit.int .i64 x.2).wf = true) ∧
  (0 < n → ∃ b off, A = some ⟨b, off, none⟩ ∧ b < w.heap.size ∧ ∀ j, j < n → w.cell? ⟨b, off + j * 2, none⟩ = some (.int .i64 (xs.getD j (0, 0)).1) ∧ w.cell? ⟨b, off + j * 2 + 1, none⟩ = some (.int .i64 (xs.getD j (0, 0)).2))
section
variable {w w' : World} {A : Option Addr} {n : Nat} {xs : List Iv}
theorem Ivs.len (h : Ivs w A n xs) : xs.length = n := h.1
theorem Ivs.le (h : Ivs w A n xs) : n ≤ 9223372036854775807 := h.2.1
theorem Ivs.wf_ (h : Ivs w A n xs) {x : Iv} (hx : x ∈ xs) : (Lit.int .i64 x.1).wf = true ∧ (Lit.int .i64 x.2).wf = true := h.2.2.1 x hx
theorem Ivs.below (h : Ivs w A n xs) (hb : Below w.heap.size w w') : Ivs w' A n xs := by
  refine ⟨h.1, h.2.1, h.2.2.1, fun hn => ?_⟩
  obtain ⟨b, off, e, hlt, hc⟩ := h.2.2.2 hn
  exact ⟨b, off, e, Nat.lt_of_lt_of_le hlt hb.size, fun j hj => ⟨(hb.cell (p := ⟨b, off + j * 2, none⟩) hlt).trans (hc j hj).1, (hb.cell (p := ⟨b, off + j * 2 + 1, none⟩) hlt).trans (hc j hj).2⟩⟩
theorem Ivs.at_ (h : Ivs w A n xs) {i : Nat} (hi : i < n) :
    ∃ b off x y, A = some ⟨b, off, none⟩ ∧ b < w.heap.size ∧ w.cell? ⟨b, off + i * 2, none⟩ = some (.int .i64 x) ∧ w.cell? ⟨b, off + i * 2 + 1, none⟩ = some (.int .i64 y) ∧ Hid (xs[i]? = some (x, y)) ∧ ((Lit.int .i64 x).wf = true ∧ (Lit.int .i64 y).wf = true) := by
  obtain ⟨b, off, e, hlt, hc⟩ := h.2.2.2 (by omega)
  have hl : i < xs.length := by rw [h.1]; exact hi
  have hx : xs[i]? = some xs[i] := List.getElem?_eq_getElem hl
  have h1 := hc i hi
  rw [List.getD, hx] at h1
  exact ⟨b, off, xs[i].1, xs[i].2, e, hlt, h1.1, h1.2, hx, h.2.2.1 _ (List.getElem_mem hl)⟩
theorem Ivs.nil_ {A : Option Addr} : Ivs w A 0 [] := ⟨rfl, by omega, by simp, fun h => absurd h (by omega)⟩
end

def allIv (xs : List Iv) : Bool := xs.all fun x => isIv x.1 x.2

section
variable {α : Type} {xs : List α} {p : α → Bool} {k : Nat} {x : α}
theorem all_no' (hx : xs[k]? = some x) (h : p x = false) : xs.all p = false := by
  rw [List.all_eq_false]
  exact ⟨x, List.mem_of_getElem? hx, by simp [h]⟩
theorem all_step' (h : (xs.take k).all p = true) (hx : xs[k]? = some x) (hp : p x = true) : (xs.take (k + 1)).all p = true := by
  rw [take_step hx, List.all_append, h]
  simp [hp]
theorem all_end' (hl : xs.length = k) (h : (xs.take k).all p = true) : xs.all p = true := by
  rwa [List.take_of_length_le (by omega)] at h
end

theorem areIvI {w : World} {A : Option Addr} {n : Nat} {xs : List Iv} (H : Ivs w A n xs) (c : Nat) :
    Calls Try.prog 69 #[.slice A n c] w fun e w' => e = .returned (.bool (allIv xs)) ∧ Below w.heap.size w w' := by
  have hn := H.le
  go_enter Try.func69, Try.ntmps69
  go_wp2
  go_loopw [7] (fun i wr => ∃ k : Nat, k ≤ n ∧ i = .int .i64 k ∧ Hid ((xs.take k).all (fun x => isIv x.1 x.2) = true) ∧ Below w.heap.size w wr) (fun i _ => n - (intOf i).toNat)
  case atStart => exact ⟨0, Nat.zero_le _, rfl, by simp [Hid], Below.refl _ _⟩
  case round =>
    obtain ⟨k, hk, rfl, HA, hbel⟩ := hrel
    by_cases hlt : k < n
    · obtain ⟨b, off, x, y, rfl, hb, hc1, hc2, HX, hw⟩ := (H.below hbel).at_ hlt
      rcases hx : isIv x y
      · go_wp2_with (go_at_call 76; refine (isIvI _ _ _).mono ?_; rintro e w2 ⟨rfl, hb2⟩)
        go_ret
        exact ⟨ret_b (all_no' HX.out hx).symm, by (repeat' (first | (with_reducible exact Below.refl _ _) | (with_reducible assumption) | (with_reducible refine bStep ?_ (by with_reducible assumption)) | (with_reducible refine bAlloc ?_ _) | (with_reducible refine bDrew ?_) | (with_reducible refine bDrewN ?_ _) | (with_reducible refine Below.setCell ?_ ?_ _) | (with_reducible exact Nat.le_refl _) | (simp; done) | (simp; omega)))⟩
      · go_wp2_with (go_at_call 76; refine (isIvI _ _ _).mono ?_; rintro e w2 ⟨rfl, hb2⟩)
        go_roundw
        case rel => exact ⟨k + 1, by omega, by go_num, all_step' HA.out HX.out hx, by (repeat' (first | (with_reducible exact Below.refl _ _) | (with_reducible assumption) | (with_reducible refine bStep ?_ (by with_reducible assumption)) | (with_reducible refine bAlloc ?_ _) | (with_reducible refine bDrew ?_) | (with_reducible refine bDrewN ?_ _) | (with_reducible refine Below.setCell ?_ ?_ _) | (with_reducible exact Nat.le_refl _) | (simp; done) | (simp; omega)))⟩
        case measure => simp [intOf]; omega
    · obtain rfl : k = n := by omega
      go_wp2
      go_ret
      exact ⟨ret_b (all_end' H.len HA.out).symm, hbel⟩
theorem areIvS {w : World} {A : Option Addr} {n : Nat} {xs : List Iv} (H : Ivs w A n xs) (c : Nat) :
    Calls Try.prog 72 #[.slice A n c] w fun e w' => e = .returned (.bool (allIv xs)) ∧ Below w.heap.size w w' := by
  have hn := H.le
  go_enter Try.func72, Try.ntmps72
  go_wp2
  go_loopw [3] (fun i wr => ∃ k : Nat, k ≤ n ∧ i = .int .i64 k ∧ Hid ((xs.take k).all (fun x => isIv x.1 x.2) = true) ∧ Below w.heap.size w wr) (fun i _ => n - (intOf i).toNat)
  case atStart => exact ⟨0, Nat.zero_le _, rfl, by simp [Hid], Below.refl _ _⟩
  case round =>
    obtain ⟨k, hk, rfl, HA, hbel⟩ := hrel
    by_cases hlt : k < n
    · obtain ⟨b, off, x, y, rfl, hb, hc1, hc2, HX, hw⟩ := (H.below hbel).at_ hlt
      rcases hx : isIv x y
      · go_wp2_with (go_at_call 89; refine (isIvS _ _ _).mono ?_; rintro e w2 ⟨rfl, hb2⟩)
        go_ret
        exact ⟨ret_b (all_no' HX.out hx).symm, by (repeat' (first | (with_reducible exact Below.refl _ _) | (with_reducible assumption) | (with_reducible refine bStep ?_ (by with_reducible assumption)) | (with_reducible refine bAlloc ?_ _) | (with_reducible refine bDrew ?_) | (with_reducible refine bDrewN ?_ _) | (with_reducible refine Below.setCell ?_ ?_ _) | (with_reducible exact Nat.le_refl _) | (simp; done) | (simp; omega)))⟩
      · go_wp2_with (go_at_call 89; refine (isIvS _ _ _).mono ?_; rintro e w2 ⟨rfl, hb2⟩)
        go_roundw
        case rel => exact ⟨k + 1, by omega, by go_num, all_step' HA.out HX.out hx, by (repeat' (first | (with_reducible exact Below.refl _ _) | (with_reducible assumption) | (with_reducible refine bStep ?_ (by with_reducible assumption)) | (with_reducible refine bAlloc ?_ _) | (with_reducible refine bDrew ?_) | (with_reducible refine bDrewN ?_ _) | (with_reducible refine Below.setCell ?_ ?_ _) | (with_reducible exact Nat.le_refl _) | (simp; done) | (simp; omega)))⟩
        case measure => simp [intOf]; omega
    · obtain rfl : k = n := by omega
      go_wp2
      go_ret
      exact ⟨ret_b (all_end' H.len HA.out).symm, hbel⟩
end Go.Proofs.Ytincelkcbdjcjaa
