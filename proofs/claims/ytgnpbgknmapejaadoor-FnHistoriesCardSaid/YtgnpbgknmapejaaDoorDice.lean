/- The laws' own numbers: roll, below; whether a code is too long. -/
import Derived.Test.YtgnpbgknmapejaaDoorSrc
import Derived.Laws.Bits64b
namespace Go.Proofs.YtgnpbgknmapejaaDoor
open Go.RowKit
set_option linter.unusedVariables false

/-- The dice lie in block g: the code, how far it has been read, a number that is stirred. -/
def Dice (w : World) (g : Nat) : Prop := ∃ (A : Option Addr) (n c : Nat) (zs : List Int) (at_ : Nat) (h : Nat),
  Ints .u8 w A n zs ∧ (0 < n → ∀ a, A = some a → a.block < g) ∧ w.cell? ⟨g, 0, none⟩ = some (.slice A n c) ∧ w.cell? ⟨g, 1, none⟩ = some (.int .i64 at_) ∧ w.cell? ⟨g, 2, none⟩ = some (.int .u64 h) ∧
  (w.frozen? ⟨g, 1, none⟩ = false ∧ w.frozen? ⟨g, 2, none⟩ = false) ∧ at_ ≤ n ∧ h < 18446744073709551616
theorem Dice.keep {w w' : World} {g : Nat} (h : Dice w g) (k : Below (g + 1) w w') : Dice w' g := by
  obtain ⟨A, n, c, zs, at_, sd, H, hA, h0, h1, h2, ⟨f1, f2⟩, h3, h4⟩ := h
  refine ⟨A, n, c, zs, at_, sd, ?_, hA, (k.cell (p := ⟨g, 0, none⟩) (Nat.lt_succ_self _)).trans h0, (k.cell (p := ⟨g, 1, none⟩) (Nat.lt_succ_self _)).trans h1, (k.cell (p := ⟨g, 2, none⟩) (Nat.lt_succ_self _)).trans h2,
    ⟨(k.frozen (p := ⟨g, 1, none⟩) (Nat.lt_succ_self _)).trans f1, (k.frozen (p := ⟨g, 2, none⟩) (Nat.lt_succ_self _)).trans f2⟩, h3, h4⟩
  obtain ⟨e1, e2, e3, e4⟩ := H
  refine ⟨e1, e2, e3, fun hn => ?_⟩
  obtain ⟨b, off, e, hlt, hc⟩ := e4 hn
  have hb := hA hn _ e
  simp only at hb
  exact ⟨b, off, e, Nat.lt_of_lt_of_le hlt k.size, fun j hj => (k.cell (p := ⟨b, off + j, none⟩) (by simp only; omega)).trans (hc j hj)⟩
theorem Dice.lt {w : World} {g : Nat} (h : Dice w g) : g < w.heap.size := by
  obtain ⟨A, n, c, zs, at_, sd, H, hA, h0, _⟩ := h
  exact World.block_lt_of_cell? w ⟨g, 0, none⟩ h0
theorem Dice.mk {w w' : World} {g n c at_ sd : Nat} {A : Option Addr} {zs : List Int} (H : Ints .u8 w A n zs) (hA : 0 < n → ∀ a, A = some a → a.block < g) (hG : Gr g w w') (h0 : w'.cell? ⟨g, 0, none⟩ = some (.slice A n c))
    (h1 : w'.cell? ⟨g, 1, none⟩ = some (.int .i64 at_)) (h2 : w'.cell? ⟨g, 2, none⟩ = some (.int .u64 sd)) (f1 : w'.frozen? ⟨g, 1, none⟩ = false) (f2 : w'.frozen? ⟨g, 2, none⟩ = false) (h3 : at_ ≤ n) (h4 : sd < 18446744073709551616) :
    Dice w' g := by
  refine ⟨A, n, c, zs, at_, sd, ?_, hA, h0, h1, h2, ⟨f1, f2⟩, h3, h4⟩
  obtain ⟨e1, e2, e3, e4⟩ := H
  refine ⟨e1, e2, e3, fun hn => ?_⟩
  obtain ⟨b, off, e, hlt, hc⟩ := e4 hn
  have hb := hA hn _ e
  simp only at hb
  exact ⟨b, off, e, Nat.lt_of_lt_of_le hlt hG.size, fun j hj => (hG.cell b (off + j) hlt (by omega)).trans (hc j hj)⟩
theorem Dice.new {w w' : World} {n c at_ sd : Nat} {A : Option Addr} {zs : List Int} (H : Ints .u8 w A n zs) (hB : Below w.heap.size w w') (h0 : w'.cell? ⟨w.heap.size, 0, none⟩ = some (.slice A n c))
    (h1 : w'.cell? ⟨w.heap.size, 1, none⟩ = some (.int .i64 at_)) (h2 : w'.cell? ⟨w.heap.size, 2, none⟩ = some (.int .u64 sd)) (f1 : w'.frozen? ⟨w.heap.size, 1, none⟩ = false) (f2 : w'.frozen? ⟨w.heap.size, 2, none⟩ = false) (h3 : at_ ≤ n) (h4 : sd < 18446744073709551616) :
    Dice w' w.heap.size := by
  refine ⟨A, n, c, zs, at_, sd, H.below hB, fun hn a ha => ?_, h0, h1, h2, ⟨f1, f2⟩, h3, h4⟩
  obtain ⟨b, off, z, e, hb, _⟩ := H.at_ (i := 0) hn
  rw [e] at ha; injection ha with ha; subst ha; exact hb
def Rolls (w : World) (e : Ending) (w' : World) : Prop := ∃ g : Nat, e = .returned (.pointer (some ⟨g, 0, none⟩)) ∧ w.heap.size ≤ g ∧ Dice w' g ∧ Below w.heap.size w w'
def Falls (g : Nat) (n : Int) (w : World) (e : Ending) (w' : World) : Prop := ∃ x : Int, e = .returned (.int .i64 x) ∧ (0 ≤ x ∧ x < n) ∧ Dice w' g ∧ Gr g w w'
theorem u64_nat (x : Int) : ∃ m : Nat, IntKind.u64.wrap x = (m : Int) ∧ m < 18446744073709551616 := by
  rw [IntKind.wrap_u64]
  exact ⟨(x % 18446744073709551616).toNat, by omega, by omega⟩
theorem and24 (m : Nat) (h : m < 18446744073709551616) : ∃ v : Nat, bits BinOp.and IntKind.u64 (m : Int) 16777215 = (v : Int) ∧ v ≤ 16777215 := by
  have := bits_and_u64_nat m 16777215 h (by omega)
  exact ⟨_, this, Nat.and_le_right⟩
theorem bigL (A : Option Addr) (n c : Nat) (w : World) : Calls Tryd.prog 13 #[.slice A n c] w fun e w' => e = .returned (.bool (decide ((4096 : Int) < (n : Int)))) ∧ w = w' := by
  go_enter Tryd.func13, Tryd.ntmps13
  go_wp2
  go_ret
  exact ⟨rfl, rfl⟩
end Go.Proofs.YtgnpbgknmapejaaDoor
