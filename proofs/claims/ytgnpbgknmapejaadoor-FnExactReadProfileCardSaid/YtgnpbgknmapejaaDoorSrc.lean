/- The source of drawn numbers, as it lies in memory; what a step of it leaves as it was; the contracts of l01From, l01Next, l01Pick. -/
import Derived.Test.YtgnpbgknmapejaaDoorStruct
import Derived.Test.YtgnpbgknmapejaaDoorInts
import Derived.Deep.QuietTactic
import Derived.BigQuiet
import Derived.IntWalk
namespace Go.Proofs.YtgnpbgknmapejaaDoor
open Go.RowKit
set_option linter.unusedVariables false

/-- but for block g, what was there is as it was -/
def Gr (g : Nat) (W w : World) : Prop := W.grownBy w (some g)
section
variable {g : Nat} {W w a b : World}
theorem Gr.refl (g : Nat) (w : World) : Gr g w w := ⟨rfl, rfl, rfl, Nat.le_refl _, fun _ _ _ => rfl⟩
theorem Gr.size (h : Gr g W w) : W.heap.size ≤ w.heap.size := World.grownBy.size h
theorem Gr.trans (h : Gr g W a) (k : Gr g a b) : Gr g W b :=
  ⟨(World.grownBy.os k).trans (World.grownBy.os h), (World.grownBy.tape k).trans (World.grownBy.tape h), (World.grownBy.output k).trans (World.grownBy.output h), Nat.le_trans h.size k.size, fun i hi hne => (World.grownBy.block k i (Nat.lt_of_lt_of_le hi h.size) hne).trans (World.grownBy.block h i hi hne)⟩
theorem Gr.below (h : Gr g W a) (k : Below a.heap.size a b) : Gr g W b :=
  ⟨k.os.trans (World.grownBy.os h), k.tape.trans (World.grownBy.tape h), k.output.trans (World.grownBy.output h), Nat.le_trans h.size k.size, fun i hi hne => (k.block i (Nat.lt_of_lt_of_le hi h.size)).trans (World.grownBy.block h i hi hne)⟩
theorem Gr.alloc (h : Gr g W w) (o : Obj) : Gr g W (w.alloc o) := h.below ((Below.refl _ _).alloc (Nat.le_refl _) o)
theorem Gr.drew (h : Gr g W w) : Gr g W w.drew := h.below (Below.refl _ _).drew
theorem Gr.drewN (h : Gr g W w) (n : Nat) : Gr g W (w.drewN n) := h.below (below_drewN (Below.refl _ _) n)
theorem Gr.setCell (h : Gr g W w) {p : Addr} (hp : p.block = g ∨ W.heap.size ≤ p.block) (u : Value) : Gr g W (w.setCell p u) :=
  have h' : W.grownBy w (some g) := h
  ⟨h'.os, h'.tape, h'.output, by simpa [World.setCell] using h'.size, fun i hi hne => by
    have hne' : i ≠ g := fun e => hne (by rw [e])
    have : i ≠ p.block := by omega
    exact (Below.heap_setCell w p u i this).trans (h'.block i hi hne)⟩
theorem Gr.cell (h : Gr g W w) : ∀ b o, b < W.heap.size → ¬ b = g → w.cell? ⟨b, o, none⟩ = W.cell? ⟨b, o, none⟩ := fun b o hb hne =>
  World.cell?_of_block (a := ⟨b, o, none⟩) (World.grownBy.block h b hb (by simpa using hne))
theorem Gr.frozen (h : Gr g W w) : ∀ b o, b < W.heap.size → ¬ b = g → w.frozen? ⟨b, o, none⟩ = W.frozen? ⟨b, o, none⟩ := fun b o hb hne =>
  World.frozen?_of_block (a := ⟨b, o, none⟩) (World.grownBy.block h b hb (by simpa using hne))
theorem Gr.bel {V : World} (h : Gr g w a) (k : Below V.heap.size V w) (hg : V.heap.size ≤ g) : Below V.heap.size V a :=
  k.grown h k.size (fun j hj => by injection hj with hj; omega)
end

theorem kStep {B : Nat} {W a b : World} (h : Below B W a) (k : Below a.heap.size a b) (hB : B ≤ a.heap.size) : Below B W b := h.trans (k.mono hB)
theorem kAlloc {B : Nat} {W w : World} (h : Below B W w) (o : Obj) (hB : B ≤ w.heap.size) : Below B W (w.alloc o) := h.alloc hB o
theorem kDrew {B : Nat} {W w : World} (h : Below B W w) : Below B W w.drew := h.drew
theorem kDrewN {B : Nat} {W w : World} (h : Below B W w) (n : Nat) : Below B W (w.drewN n) := below_drewN h n
theorem kSet {B : Nat} {W w : World} (h : Below B W w) {p : Addr} (u : Value) (hp : B ≤ p.block) : Below B W (w.setCell p u) := h.setCell hp u

/-- what an int64 holds, shut to simp -/
def I64 (x : Int) : Prop := -9223372036854775808 ≤ x ∧ x ≤ 9223372036854775807
theorem I64.out {x : Int} (h : I64 x) : -9223372036854775808 ≤ x ∧ x ≤ 9223372036854775807 := h
theorem I64.mk {x : Int} (h : -9223372036854775808 ≤ x ∧ x ≤ 9223372036854775807) : I64 x := h
theorem I64.wf {x : Int} (h : I64 x) : (Lit.int .i64 x).wf = true := WalkArith.wf_i64 h
theorem I64.wrap (x : Int) : I64 (wrap64 x) := by unfold I64 wrap64; omega

theorem I64.wrapK (x : Int) : I64 (IntKind.i64.wrap x) := by rw [IntWalk.i64_left]; exact I64.wrap x

/-- The source lies in block g: the code, how far it has been read, the seed. -/
def Src (w : World) (g : Nat) : Prop := ∃ (A : Option Addr) (n c : Nat) (zs : List Int) (at_ sd : Nat),
  Ints .u8 w A n zs ∧ (0 < n → ∀ a, A = some a → a.block < g) ∧ w.cell? ⟨g, 0, none⟩ = some (.slice A n c) ∧ w.cell? ⟨g, 1, none⟩ = some (.int .i64 at_) ∧ w.cell? ⟨g, 2, none⟩ = some (.int .i64 sd) ∧
  (w.frozen? ⟨g, 1, none⟩ = false ∧ w.frozen? ⟨g, 2, none⟩ = false) ∧ at_ ≤ n ∧ sd < 2147483647
theorem Src.keep {w w' : World} {g : Nat} (h : Src w g) (k : Below (g + 1) w w') : Src w' g := by
  obtain ⟨A, n, c, zs, at_, sd, H, hA, h0, h1, h2, ⟨f1, f2⟩, h3, h4⟩ := h
  refine ⟨A, n, c, zs, at_, sd, ?_, hA, (k.cell (p := ⟨g, 0, none⟩) (Nat.lt_succ_self _)).trans h0, (k.cell (p := ⟨g, 1, none⟩) (Nat.lt_succ_self _)).trans h1, (k.cell (p := ⟨g, 2, none⟩) (Nat.lt_succ_self _)).trans h2,
    ⟨(k.frozen (p := ⟨g, 1, none⟩) (Nat.lt_succ_self _)).trans f1, (k.frozen (p := ⟨g, 2, none⟩) (Nat.lt_succ_self _)).trans f2⟩, h3, h4⟩
  obtain ⟨e1, e2, e3, e4⟩ := H
  refine ⟨e1, e2, e3, fun hn => ?_⟩
  obtain ⟨b, off, e, hlt, hc⟩ := e4 hn
  have hb := hA hn _ e
  simp only at hb
  exact ⟨b, off, e, Nat.lt_of_lt_of_le hlt k.size, fun j hj => (k.cell (p := ⟨b, off + j, none⟩) (by simp only; omega)).trans (hc j hj)⟩
theorem Src.lt {w : World} {g : Nat} (h : Src w g) : g < w.heap.size := by
  obtain ⟨A, n, c, zs, at_, sd, H, hA, h0, _⟩ := h
  exact World.block_lt_of_cell? w ⟨g, 0, none⟩ h0

/-- a call that draws a number: what it may give, and what it leaves -/
def Draws (g : Nat) (p : Int → Prop) (w : World) (e : Ending) (w' : World) : Prop := ∃ x : Int, e = .returned (.int .i64 x) ∧ p x ∧ Src w' g ∧ Gr g w w'
theorem u8_bd {z : Int} (h : (Lit.int .u8 z).wf = true) : 0 ≤ z ∧ z ≤ 255 := by
  simpa [Lit.wf, IntKind.min, IntKind.max, IntKind.signed, IntKind.bits] using h
theorem mod_bd {x n : Int} (hn : 1 < n) : 0 ≤ x % n ∧ (x % n = 0 ∨ x % n < n) := ⟨Int.emod_nonneg _ (by omega), .inr (Int.emod_lt_of_pos _ (by omega))⟩
theorem Src.mk {w w' : World} {g n c at_ sd : Nat} {A : Option Addr} {zs : List Int} (H : Ints .u8 w A n zs) (hA : 0 < n → ∀ a, A = some a → a.block < g) (hG : Gr g w w') (h0 : w'.cell? ⟨g, 0, none⟩ = some (.slice A n c))
    (h1 : w'.cell? ⟨g, 1, none⟩ = some (.int .i64 at_)) (h2 : w'.cell? ⟨g, 2, none⟩ = some (.int .i64 sd)) (f1 : w'.frozen? ⟨g, 1, none⟩ = false) (f2 : w'.frozen? ⟨g, 2, none⟩ = false) (h3 : at_ ≤ n) (h4 : sd < 2147483647) :
    Src w' g := by
  refine ⟨A, n, c, zs, at_, sd, ?_, hA, h0, h1, h2, ⟨f1, f2⟩, h3, h4⟩
  obtain ⟨e1, e2, e3, e4⟩ := H
  refine ⟨e1, e2, e3, fun hn => ?_⟩
  obtain ⟨b, off, e, hlt, hc⟩ := e4 hn
  have hb := hA hn _ e
  simp only at hb
  exact ⟨b, off, e, Nat.lt_of_lt_of_le hlt hG.size, fun j hj => (hG.cell b (off + j) hlt (by omega)).trans (hc j hj)⟩
theorem Src.new {w w' : World} {n c at_ sd : Nat} {A : Option Addr} {zs : List Int} (H : Ints .u8 w A n zs) (hB : Below w.heap.size w w') (h0 : w'.cell? ⟨w.heap.size, 0, none⟩ = some (.slice A n c))
    (h1 : w'.cell? ⟨w.heap.size, 1, none⟩ = some (.int .i64 at_)) (h2 : w'.cell? ⟨w.heap.size, 2, none⟩ = some (.int .i64 sd)) (f1 : w'.frozen? ⟨w.heap.size, 1, none⟩ = false) (f2 : w'.frozen? ⟨w.heap.size, 2, none⟩ = false) (h3 : at_ ≤ n) (h4 : sd < 2147483647) :
    Src w' w.heap.size := by
  refine ⟨A, n, c, zs, at_, sd, H.below hB, fun hn a ha => ?_, h0, h1, h2, ⟨f1, f2⟩, h3, h4⟩
  obtain ⟨b, off, z, e, hb, _⟩ := H.at_ (i := 0) hn
  rw [e] at ha; injection ha with ha; subst ha; exact hb
set_option maxHeartbeats 1600000 in
theorem nextS {w : World} {g : Nat} (h : Src w g) (n : Int) : Calls Tryd.prog 56 #[.pointer (some ⟨g, 0, none⟩), .int .i64 n] w (Draws g (fun x => 0 ≤ x ∧ (x = 0 ∨ x < n)) w) := by
  by_cases hn : n ≤ 1
  · have S := Lib.hid h
    clear h
    go_enter Tryd.func56, Tryd.ntmps56
    go_wp2
    go_ret
    exact ⟨0, rfl, ⟨by omega, .inl rfl⟩, S.out, Gr.refl _ _⟩
  obtain ⟨A, m, c, zs, at_, sd, H, hA, h0, h1, h2, ⟨f1, f2⟩, h3, h4⟩ := h
  have hm := H.le
  obtain ⟨s', hs'⟩ : ∃ s' : Nat, ((sd : Int) * 48271 + 41) % 2147483647 = (s' : Int) := ⟨((sd * 48271 + 41) % 2147483647), by omega⟩
  have hs1 : s' < 2147483647 := by omega
  have hn1 : 1 < n := by omega
  by_cases c1 : at_ < m
  case neg =>
    have k1 : ¬ (at_ : Int) < (m : Int) := by omega
    go_enter Tryd.func56, Tryd.ntmps56
    go_wp2
    go_quiet (fail)
    go_wp2
    go_ret
    exact ⟨_, rfl, mod_bd hn1, Src.mk (c := c) (at_ := at_) (sd := s') H hA (by (repeat' (first | (with_reducible exact Gr.refl _ _) | (with_reducible assumption) | (with_reducible refine Gr.trans ?_ (by with_reducible assumption)) | (with_reducible refine Gr.below ?_ (by with_reducible assumption)) | (with_reducible refine Gr.alloc ?_ _) | (with_reducible refine Gr.drew ?_) | (with_reducible refine Gr.drewN ?_ _) | (with_reducible refine Gr.setCell ?_ ?_ _) | (exact .inl rfl) | (right; simp; done) | (right; simp; omega)))) (by go_simp) (by go_simp) (by go_simp) (by go_simp) (by go_simp) (by omega) hs1, by (repeat' (first | (with_reducible exact Gr.refl _ _) | (with_reducible assumption) | (with_reducible refine Gr.trans ?_ (by with_reducible assumption)) | (with_reducible refine Gr.below ?_ (by with_reducible assumption)) | (with_reducible refine Gr.alloc ?_ _) | (with_reducible refine Gr.drew ?_) | (with_reducible refine Gr.drewN ?_ _) | (with_reducible refine Gr.setCell ?_ ?_ _) | (exact .inl rfl) | (right; simp; done) | (right; simp; omega)))⟩
  have k1 : (at_ : Int) < (m : Int) := by omega
  obtain ⟨b, off, z, rfl, hb, hcz, HZ, hwz⟩ := H.at_ c1
  have hz := u8_bd hwz
  have hbg : ¬ b = g := by have := hA (by omega) _ rfl; simp only at this; omega
  have hgb : ¬ g = b := by omega
  have W1 : IntKind.i64.wrap ((s' : Int) / 29 + z) = (s' : Int) / 29 + z := IntWalk.i64_in _ (by omega)
  have W2 : IntKind.i64.wrap ((at_ : Int) + 1 - 1) = (at_ : Int) := by rw [IntWalk.i64_in _ (by omega)]; omega
  have W3 : IntKind.i64.wrap (at_ : Int) = (at_ : Int) := IntWalk.i64_in _ (by omega)
  have W4 : IntKind.i64.wrap z = z := IntWalk.i64_in _ (by omega)
  by_cases c2 : n ≤ 256
  case neg =>
    go_enter Tryd.func56, Tryd.ntmps56
    go_wp2
    go_quiet (fail)
    go_wp2
    go_quiet (fail)
    go_wp2
    go_ret
    exact ⟨_, rfl, mod_bd hn1, Src.mk (c := c) (at_ := at_ + 1) (sd := s') H hA (by (repeat' (first | (with_reducible exact Gr.refl _ _) | (with_reducible assumption) | (with_reducible refine Gr.trans ?_ (by with_reducible assumption)) | (with_reducible refine Gr.below ?_ (by with_reducible assumption)) | (with_reducible refine Gr.alloc ?_ _) | (with_reducible refine Gr.drew ?_) | (with_reducible refine Gr.drewN ?_ _) | (with_reducible refine Gr.setCell ?_ ?_ _) | (exact .inl rfl) | (right; simp; done) | (right; simp; omega)))) (by go_simp) (by go_simp) (by go_simp) (by go_simp) (by go_simp) (by omega) hs1, by (repeat' (first | (with_reducible exact Gr.refl _ _) | (with_reducible assumption) | (with_reducible refine Gr.trans ?_ (by with_reducible assumption)) | (with_reducible refine Gr.below ?_ (by with_reducible assumption)) | (with_reducible refine Gr.alloc ?_ _) | (with_reducible refine Gr.drew ?_) | (with_reducible refine Gr.drewN ?_ _) | (with_reducible refine Gr.setCell ?_ ?_ _) | (exact .inl rfl) | (right; simp; done) | (right; simp; omega)))⟩
  by_cases c3 : ((at_ : Int) + 1) % 2 = 0
  · have k3 : (((at_ : Int) + 1) % 2 == 0) = true := by simpa using c3
    clear c3
    go_enter Tryd.func56, Tryd.ntmps56
    go_wp2
    go_quiet (fail)
    go_wp2
    go_quiet (fail)
    go_wp2
    go_quiet (fail)
    go_wp2
    go_ret
    exact ⟨_, rfl, mod_bd hn1, Src.mk (c := c) (at_ := at_ + 1) (sd := s') H hA (by (repeat' (first | (with_reducible exact Gr.refl _ _) | (with_reducible assumption) | (with_reducible refine Gr.trans ?_ (by with_reducible assumption)) | (with_reducible refine Gr.below ?_ (by with_reducible assumption)) | (with_reducible refine Gr.alloc ?_ _) | (with_reducible refine Gr.drew ?_) | (with_reducible refine Gr.drewN ?_ _) | (with_reducible refine Gr.setCell ?_ ?_ _) | (exact .inl rfl) | (right; simp; done) | (right; simp; omega)))) (by go_simp) (by go_simp) (by go_simp) (by go_simp) (by go_simp) (by omega) hs1, by (repeat' (first | (with_reducible exact Gr.refl _ _) | (with_reducible assumption) | (with_reducible refine Gr.trans ?_ (by with_reducible assumption)) | (with_reducible refine Gr.below ?_ (by with_reducible assumption)) | (with_reducible refine Gr.alloc ?_ _) | (with_reducible refine Gr.drew ?_) | (with_reducible refine Gr.drewN ?_ _) | (with_reducible refine Gr.setCell ?_ ?_ _) | (exact .inl rfl) | (right; simp; done) | (right; simp; omega)))⟩
  · have k3 : (((at_ : Int) + 1) % 2 == 0) = false := by simpa using c3
    clear c3
    go_enter Tryd.func56, Tryd.ntmps56
    go_wp2
    go_quiet (fail)
    go_wp2
    go_quiet (fail)
    go_wp2
    go_ret
    exact ⟨_, rfl, mod_bd hn1, Src.mk (c := c) (at_ := at_ + 1) (sd := s') H hA (by (repeat' (first | (with_reducible exact Gr.refl _ _) | (with_reducible assumption) | (with_reducible refine Gr.trans ?_ (by with_reducible assumption)) | (with_reducible refine Gr.below ?_ (by with_reducible assumption)) | (with_reducible refine Gr.alloc ?_ _) | (with_reducible refine Gr.drew ?_) | (with_reducible refine Gr.drewN ?_ _) | (with_reducible refine Gr.setCell ?_ ?_ _) | (exact .inl rfl) | (right; simp; done) | (right; simp; omega)))) (by go_simp) (by go_simp) (by go_simp) (by go_simp) (by go_simp) (by omega) hs1, by (repeat' (first | (with_reducible exact Gr.refl _ _) | (with_reducible assumption) | (with_reducible refine Gr.trans ?_ (by with_reducible assumption)) | (with_reducible refine Gr.below ?_ (by with_reducible assumption)) | (with_reducible refine Gr.alloc ?_ _) | (with_reducible refine Gr.drew ?_) | (with_reducible refine Gr.drewN ?_ _) | (with_reducible refine Gr.setCell ?_ ?_ _) | (exact .inl rfl) | (right; simp; done) | (right; simp; omega)))⟩
/-- a call that makes a source -/
def Makes (w : World) (e : Ending) (w' : World) : Prop := ∃ g : Nat, e = .returned (.pointer (some ⟨g, 0, none⟩)) ∧ w.heap.size ≤ g ∧ Src w' g ∧ Below w.heap.size w w'
set_option maxHeartbeats 1600000 in
theorem fromS {w : World} {A : Option Addr} {n : Nat} {zs : List Int} (H : Ints .u8 w A n zs) (c : Nat) : Calls Tryd.prog 51 #[.slice A n c] w (Makes w) := by
  have hn := H.le
  go_enter Tryd.func51, Tryd.ntmps51
  go_wp2
  go_loopw [4] (fun i wr => ∃ k sd : Nat, k ≤ n ∧ i = .int .i64 k ∧ wr.cell? ⟨w.heap.size, 0, none⟩ = some (.slice A n c) ∧ wr.cell? ⟨w.heap.size, 1, none⟩ = some (.int .i64 0) ∧ wr.cell? ⟨w.heap.size, 2, none⟩ = some (.int .i64 sd) ∧ (wr.frozen? ⟨w.heap.size, 1, none⟩ = false ∧ wr.frozen? ⟨w.heap.size, 2, none⟩ = false) ∧ sd < 2147483647 ∧ Below w.heap.size w wr) (fun i _ => n - (intOf i).toNat)
  case atStart => exact ⟨0, 80051, Nat.zero_le _, rfl, by go_simp, by go_simp, by go_simp, ⟨by go_simp, by go_simp⟩, by omega, by (repeat' (first | (with_reducible exact Below.refl _ _) | (with_reducible assumption) | (with_reducible refine bStep ?_ (by with_reducible assumption)) | (with_reducible refine bAlloc ?_ _) | (with_reducible refine bDrew ?_) | (with_reducible refine bDrewN ?_ _) | (with_reducible refine Below.setCell ?_ ?_ _) | (with_reducible exact Nat.le_refl _) | (simp; done) | (simp; omega)))⟩
  case round =>
    obtain ⟨k, sd, hk, rfl, h0, h1, h2, ⟨f1, f2⟩, hsd, hbel⟩ := hrel
    by_cases c1 : k < n ∧ k < 64
    · obtain ⟨c1, c2⟩ := c1
      obtain ⟨b, off, z, rfl, hb, hcz, HZ, hwz⟩ := H.at_ c1
      have hz := u8_bd hwz
      have hbg : ¬ b = w.heap.size := by omega
      have hgb : ¬ w.heap.size = b := by omega
      have hcr : wr.cell? ⟨b, off + k, none⟩ = some (.int .u8 z) := (hbel.cell (p := ⟨b, off + k, none⟩) hb).trans hcz
      obtain ⟨s', hs'⟩ : ∃ s' : Nat, ((sd : Int) * 61 + z) % 2147483647 = (s' : Int) := ⟨(((sd : Int) * 61 + z) % 2147483647).toNat, by omega⟩
      have hs1 : s' < 2147483647 := by omega
      have W1 : IntKind.i64.wrap ((sd : Int) * 61) = (sd : Int) * 61 := IntWalk.i64_in _ (by omega)
      have W2 : IntKind.i64.wrap ((sd : Int) * 61 + z) = (sd : Int) * 61 + z := IntWalk.i64_in _ (by omega)
      have W3 : ((sd : Int) * 61 + z).tmod 2147483647 = (s' : Int) := by rw [Int.tmod_eq_emod_of_nonneg (by omega)]; exact hs'
      have W4 : IntKind.i64.wrap z = z := IntWalk.i64_in _ (by omega)
      have W5 : IntKind.i64.wrap (s' : Int) = (s' : Int) := IntWalk.i64_in _ (by omega)
      go_wp2
      go_region
      all_goals
        go_wp2
        go_roundw
        case rel => exact ⟨k + 1, s', by omega, by go_num, by go_simp, by go_simp, by go_simp, ⟨by go_simp, by go_simp⟩, hs1, by (repeat' (first | (with_reducible exact Below.refl _ _) | (with_reducible assumption) | (with_reducible refine bStep ?_ (by with_reducible assumption)) | (with_reducible refine bAlloc ?_ _) | (with_reducible refine bDrew ?_) | (with_reducible refine bDrewN ?_ _) | (with_reducible refine Below.setCell ?_ ?_ _) | (with_reducible exact Nat.le_refl _) | (simp; done) | (simp; omega)))⟩
        case measure => simp [intOf]; omega
    · have S : Src wr w.heap.size := Src.new (at_ := 0) (sd := sd) H hbel h0 h1 h2 f1 f2 (Nat.zero_le _) hsd
      have B := hbel
      by_cases c2 : k < n
      · have c3 : ¬ (k : Int) < 64 := by omega
        go_wp2
        go_ret
        exact ⟨_, rfl, Nat.le_refl _, S, B⟩
      · obtain rfl : k = n := by omega
        go_wp2
        go_ret
        exact ⟨_, rfl, Nat.le_refl _, S, B⟩

/-- the block holds numbers -/
def AnyInts (w : World) (A : Option Addr) (n : Nat) : Prop := ∃ zs, Ints .i64 w A n zs
set_option maxHeartbeats 800000 in
theorem pickS {w : World} {g : Nat} (h : Src w g) {b n : Nat} (c : Nat) (hn : 0 < n) {zs : List Int} (H : Ints .i64 w (some ⟨b, 0, none⟩) n zs) (hbg : ¬ b = g) :
    Calls Tryd.prog 83 #[.pointer (some ⟨g, 0, none⟩), .slice (some ⟨b, 0, none⟩) n c] w (Draws g (fun x => I64 x) w) := by
  have hle := H.le
  go_enter Tryd.func83, Tryd.ntmps83
  go_wp2_with fail
  refine (nextS h _).mono ?_
  rintro e w1 ⟨x, rfl, ⟨x0, x1⟩, S1, G1⟩
  obtain ⟨k, rfl⟩ := Int.eq_ofNat_of_zero_le x0
  have hk : k < n := by omega
  obtain ⟨b', off', v, e', hb, hc, HV, hw⟩ := H.at_ hk
  obtain ⟨rfl, rfl⟩ : b = b' ∧ 0 = off' := by injection e' with e'; injection e' with e1 e2; exact ⟨e1, e2⟩
  have hc1 : w1.cell? ⟨b, 0 + k, none⟩ = some (.int .i64 v) := (G1.cell b (0 + k) hb hbg).trans hc
  have hc2 : w1.cell? ⟨b, k, none⟩ = some (.int .i64 v) := by simpa using hc1
  have hV := I64.mk (wfB hw)
  have k1 : (k : Int) < (n : Int) := by omega
  clear x0 x1 e' hc hc1
  go_wp2
  go_ret
  exact ⟨_, rfl, hV, S1, G1⟩
end Go.Proofs.YtgnpbgknmapejaaDoor
