/- The draw that damages a text: each gives some values, and leaves all but the source as it was. -/
import Derived.Test.YtgnpbgknmapejaaDoorDraw
import Derived.Test.YtgnpbgknmapejaaDoorTxt
import Derived.Deep.RegionHeld3
import Derived.Deep.RegionWith
import Derived.Deep.QuietTactic
import Derived.BigQuiet
namespace Go.Proofs.YtgnpbgknmapejaaDoor
open Go.RowKit
set_option linter.unusedVariables false

def litS : Nat → ByteArray
  | 0 => ⟨#[48]⟩
  | 1 => ⟨#[49]⟩
  | 2 => ⟨#[32]⟩
  | 3 => ⟨#[45]⟩
  | 4 => ⟨#[46]⟩
  | 5 => ⟨#[97]⟩
  | 6 => ⟨#[10]⟩
  | _ => ⟨#[44]⟩
theorem litS_size : ∀ i, (litS i).size = 1
  | 0 => rfl
  | 1 => rfl
  | 2 => rfl
  | 3 => rfl
  | 4 => rfl
  | 5 => rfl
  | 6 => rfl
  | _ + 7 => rfl
theorem litc (W : World) (T : TypeId) (i : Nat) (h : i < 8) : (W.alloc (.cells #[.string ⟨#[48]⟩, .string ⟨#[49]⟩, .string ⟨#[32]⟩, .string ⟨#[45]⟩, .string ⟨#[46]⟩, .string ⟨#[97]⟩, .string ⟨#[10]⟩, .string ⟨#[44]⟩] T)).cell? ⟨W.heap.size, i, none⟩ = some (.string (litS i)) := by
  rcases (by omega : i = 0 ∨ i = 1 ∨ i = 2 ∨ i = 3 ∨ i = 4 ∨ i = 5 ∨ i = 6 ∨ i = 7) with rfl | rfl | rfl | rfl | rfl | rfl | rfl | rfl <;> simp [litS]
def DStr (N : Nat) (g : Nat) (w : World) (e : Ending) (w' : World) : Prop := ∃ r : ByteArray, e = .returned (.string r) ∧ r.size ≤ N ∧ Src w' g ∧ Gr g w w'
def DStrF (N : Nat) (w : World) (e : Ending) (w' : World) : Prop := ∃ r : ByteArray, e = .returned (.string r) ∧ r.size ≤ N ∧ Below w.heap.size w w'
set_option maxHeartbeats 3200000 in
theorem dmgS {w : World} {g : Nat} (hS : Src w g) (t : ByteArray) (N : Nat) (ht : t.size + 1 ≤ N) (hN : N ≤ 1000000000) : Calls Tryd.prog 57 #[.pointer (some ⟨g, 0, none⟩), .string t] w (DStr N g w) := by
  have hL0 := hS.lt
  have hL := hS.lt
  have W1 : IntKind.i64.wrap ((t.size : Int) + 1) = (t.size : Int) + 1 := IntWalk.i64_in _ (by omega)
  go_enter Tryd.func57, Tryd.ntmps57
  go_wp2_with fail
  refine (nextS (Src.keep hS (by (repeat' (first | (with_reducible exact Below.refl _ _) | (with_reducible assumption) | (with_reducible refine kStep ?_ (by with_reducible assumption) ?_) | (with_reducible refine kAlloc ?_ _ ?_) | (with_reducible refine kDrew ?_) | (with_reducible refine kDrewN ?_ _) | (with_reducible refine kSet ?_ _ ?_) | (simp; done) | (simp; omega) | omega)))) _).mono ?_
  rintro e w1 ⟨k0, rfl, ⟨hk0, hk1⟩, hS, hG⟩
  have hL := hS.lt
  obtain ⟨k, rfl⟩ : ∃ k : Nat, k0 = (k : Int) := ⟨k0.toNat, by omega⟩
  have hk : k ≤ t.size := by omega
  have hk2 : (k : Int) ≤ (t.size : Int) := by omega
  have e1 : (t.extract 0 k).size = k := by rw [ByteArray.size_extract]; omega
  have e2 : (t.extract k t.size).size = t.size - k := by rw [ByteArray.size_extract]; omega
  have u1 : k + 1 ≤ 9223372036854775807 := by omega
  have u2 : k + 1 + (t.size - k) ≤ 9223372036854775807 := by omega
  have u3 : k + (t.size - (k + 1)) ≤ 9223372036854775807 := by omega
  have u4 : (k : Int) ≤ (t.size : Int) := by omega
  have u5 : (0 : Int) ≤ (k : Int) := by omega
  have Wk : IntKind.i64.wrap ((k : Int) + 1) = (k : Int) + 1 := IntWalk.i64_in _ (by omega)
  go_wp2_with fail
  refine (nextS (Src.keep hS (by (repeat' (first | (with_reducible exact Below.refl _ _) | (with_reducible assumption) | (with_reducible refine kStep ?_ (by with_reducible assumption) ?_) | (with_reducible refine kAlloc ?_ _ ?_) | (with_reducible refine kDrew ?_) | (with_reducible refine kDrewN ?_ _) | (with_reducible refine kSet ?_ _ ?_) | (simp; done) | (simp; omega) | omega)))) _).mono ?_
  rintro e w2 ⟨j, rfl, ⟨hj0, hj1⟩, hS, hG2⟩
  have hL := hS.lt
  rcases (by omega : j = 0 ∨ j = 1 ∨ j = 2 ∨ (¬ j = 0 ∧ ¬ j = 1 ∧ ¬ j = 2)) with rfl | rfl | rfl | ⟨j0, j1, j2⟩
  · go_wp2_with fail
    go_ret
    exact ⟨_, rfl, by rw [e1]; omega, Src.keep hS (by (repeat' (first | (with_reducible exact Below.refl _ _) | (with_reducible assumption) | (with_reducible refine kStep ?_ (by with_reducible assumption) ?_) | (with_reducible refine kAlloc ?_ _ ?_) | (with_reducible refine kDrew ?_) | (with_reducible refine kDrewN ?_ _) | (with_reducible refine kSet ?_ _ ?_) | (simp; done) | (simp; omega) | omega))), by (repeat' (first | (with_reducible exact Gr.refl _ _) | (with_reducible assumption) | (with_reducible refine Gr.trans ?_ (by with_reducible assumption)) | (with_reducible refine Gr.below ?_ (by with_reducible assumption)) | (with_reducible refine Gr.alloc ?_ _) | (with_reducible refine Gr.drew ?_) | (with_reducible refine Gr.drewN ?_ _) | (with_reducible refine Gr.setCell ?_ ?_ _) | (exact .inl rfl) | (right; simp; done) | (right; simp; omega)))⟩
  · go_wp2_with fail
    go_region_with ((first | (go_at_call 56; refine (nextS (Src.keep hS (by (repeat' (first | (with_reducible exact Below.refl _ _) | (with_reducible assumption) | (with_reducible refine kStep ?_ (by with_reducible assumption) ?_) | (with_reducible refine kAlloc ?_ _ ?_) | (with_reducible refine kDrew ?_) | (with_reducible refine kDrewN ?_ _) | (with_reducible refine kSet ?_ _ ?_) | (simp; done) | (simp; omega) | omega)))) _).mono ?_; rintro e w1 ⟨x, rfl, ⟨hx0, hx1⟩, hS, hG⟩; have hL := hS.lt; have hsz := hG.size; (try simp at hsz); obtain ⟨y, rfl⟩ : ∃ y : Nat, x = (y : Int) := ⟨x.toNat, by omega⟩; have hy : y < 8 := (by omega); have hyI : (y : Int) < 8 := (by omega); have sz := litS_size y; (try have q2 := litc w1 9 y hy); (try have q3 := litc w2 9 y hy); (try have q1 := hG.cell w2.heap.size y (by first | omega | (simp; done) | (simp; omega)) (by omega)))))
    all_goals go_wp2
    all_goals go_ret
    all_goals exact ⟨_, rfl, by simp only [ByteArray.size_append, e1, e2, sz]; omega, Src.keep hS (by (repeat' (first | (with_reducible exact Below.refl _ _) | (with_reducible assumption) | (with_reducible refine kStep ?_ (by with_reducible assumption) ?_) | (with_reducible refine kAlloc ?_ _ ?_) | (with_reducible refine kDrew ?_) | (with_reducible refine kDrewN ?_ _) | (with_reducible refine kSet ?_ _ ?_) | (simp; done) | (simp; omega) | omega))), by (repeat' (first | (with_reducible exact Gr.refl _ _) | (with_reducible assumption) | (with_reducible refine Gr.trans ?_ (by with_reducible assumption)) | (with_reducible refine Gr.below ?_ (by with_reducible assumption)) | (with_reducible refine Gr.alloc ?_ _) | (with_reducible refine Gr.drew ?_) | (with_reducible refine Gr.drewN ?_ _) | (with_reducible refine Gr.setCell ?_ ?_ _) | (exact .inl rfl) | (right; simp; done) | (right; simp; omega)))⟩
  · by_cases hlt : k < t.size
    · have h1 : (k : Int) < (t.size : Int) := by omega
      have h2 : (k : Int) + 1 ≤ (t.size : Int) := by omega
      have e3 : (t.extract (k + 1) t.size).size = t.size - (k + 1) := by rw [ByteArray.size_extract]; omega
      go_wp2_with fail
      go_quiet (fail)
      go_wp2
      go_ret
      exact ⟨_, rfl, by simp only [ByteArray.size_append, e1, e3]; omega, Src.keep hS (by (repeat' (first | (with_reducible exact Below.refl _ _) | (with_reducible assumption) | (with_reducible refine kStep ?_ (by with_reducible assumption) ?_) | (with_reducible refine kAlloc ?_ _ ?_) | (with_reducible refine kDrew ?_) | (with_reducible refine kDrewN ?_ _) | (with_reducible refine kSet ?_ _ ?_) | (simp; done) | (simp; omega) | omega))), by (repeat' (first | (with_reducible exact Gr.refl _ _) | (with_reducible assumption) | (with_reducible refine Gr.trans ?_ (by with_reducible assumption)) | (with_reducible refine Gr.below ?_ (by with_reducible assumption)) | (with_reducible refine Gr.alloc ?_ _) | (with_reducible refine Gr.drew ?_) | (with_reducible refine Gr.drewN ?_ _) | (with_reducible refine Gr.setCell ?_ ?_ _) | (exact .inl rfl) | (right; simp; done) | (right; simp; omega)))⟩
    · have h1 : ¬ (k : Int) < (t.size : Int) := by omega
      go_wp2_with fail
      go_ret
      exact ⟨_, rfl, by omega, Src.keep hS (by (repeat' (first | (with_reducible exact Below.refl _ _) | (with_reducible assumption) | (with_reducible refine kStep ?_ (by with_reducible assumption) ?_) | (with_reducible refine kAlloc ?_ _ ?_) | (with_reducible refine kDrew ?_) | (with_reducible refine kDrewN ?_ _) | (with_reducible refine kSet ?_ _ ?_) | (simp; done) | (simp; omega) | omega))), by (repeat' (first | (with_reducible exact Gr.refl _ _) | (with_reducible assumption) | (with_reducible refine Gr.trans ?_ (by with_reducible assumption)) | (with_reducible refine Gr.below ?_ (by with_reducible assumption)) | (with_reducible refine Gr.alloc ?_ _) | (with_reducible refine Gr.drew ?_) | (with_reducible refine Gr.drewN ?_ _) | (with_reducible refine Gr.setCell ?_ ?_ _) | (exact .inl rfl) | (right; simp; done) | (right; simp; omega)))⟩
  · have b0 : (j == 0) = false := by simpa using j0
    have b1 : (j == 1) = false := by simpa using j1
    have b2 : (j == 2) = false := by simpa using j2
    go_wp2_with fail
    go_ret
    exact ⟨_, rfl, by omega, Src.keep hS (by (repeat' (first | (with_reducible exact Below.refl _ _) | (with_reducible assumption) | (with_reducible refine kStep ?_ (by with_reducible assumption) ?_) | (with_reducible refine kAlloc ?_ _ ?_) | (with_reducible refine kDrew ?_) | (with_reducible refine kDrewN ?_ _) | (with_reducible refine kSet ?_ _ ?_) | (simp; done) | (simp; omega) | omega))), by (repeat' (first | (with_reducible exact Gr.refl _ _) | (with_reducible assumption) | (with_reducible refine Gr.trans ?_ (by with_reducible assumption)) | (with_reducible refine Gr.below ?_ (by with_reducible assumption)) | (with_reducible refine Gr.alloc ?_ _) | (with_reducible refine Gr.drew ?_) | (with_reducible refine Gr.drewN ?_ _) | (with_reducible refine Gr.setCell ?_ ?_ _) | (exact .inl rfl) | (right; simp; done) | (right; simp; omega)))⟩
end Go.Proofs.YtgnpbgknmapejaaDoor
