/- The laws' own numbers: roll, below; whether a code is too long. -/
import Derived.Test.YtincelkcbdjcjaaSrc
import Derived.Laws.Bits64b
namespace Go.Proofs.Ytincelkcbdjcjaa
open Go.RowKit
set_option linter.unusedVariables false

/-- The dice lie in block g: the code, how far it has been read, a number that is stirred. -/
def Dice (w : World) (g : Nat) : Prop := ∃ (A : Option Addr) (n c : Nat) (zs : List Int) (at_ : Nat) (h : Nat),
  Ints .u8 w A n zs ∧ (0 < n → ∀ a, A = some a → a.block < g) ∧ w.cell? ⟨g, 0, none⟩ = some (.slice A n c) ∧ w.cell? ⟨g, 1, none⟩ = some (.int .i64 at_) ∧ w.cell? ⟨g, 2, none⟩ = some (.int .u64 h) ∧
  (w.frozen? ⟨g, 1, none⟩ = false ∧ w.frozen? ⟨g, 2, none⟩ = false) ∧ at_ ≤ n ∧ h < 18446744073709551616
theorem Dice.keep {w w' : World} {g : Nat} (h : Dice w g) (k : Below (g + 1) w w') : Dice w' g := by
  obtain ⟨A, n, c, zs, at_, sd, H, hA, h0, h1, h2, ⟨f1, f2⟩, h3, h4⟩ := h
  refine ⟨A, n, c, zs, at_, sd, ?_, hA, (k.cell (p := ⟨g, 0, none⟩) (Nat.lt_succ_self _)).trans h0, (k.cell (p := ⟨g, 1, none⟩) (Nat.lt_succ_self _)).trans h1, (k.cell (p := ⟨g, 2, none⟩) (Nat.lt_succ_self _)).trans h2,
    ⟨(k.frozen (p := ⟨g, 1, none⟩) (Nat.lt_succ_self _)).trans f1, (k.frozen (p := ⟨g, 2, none⟩) (Nat.lt_succ_self _)).trans f2⟩, h3, h4⟩
  obtain ⟨e1, e2, e3, e4⟩ := H
  refine ⟨e1, e2, e3, fun hn => ?_⟩
  obtain ⟨b, off, e, hlt, hc⟩ := e4 hn
  have hb := hA hn _ e
  simp only at hb
  exact ⟨b, off, e, Nat.lt_of_lt_of_le hlt k.size, fun j hj => (k.cell (p := ⟨b, off + j, none⟩) (by simp only; omega)).trans (hc j hj)⟩
theorem Dice.lt {w : World} {g : Nat} (h : Dice w g) : g < w.heap.size := by
  obtain ⟨A, n, c, zs, at_, sd, H, hA, h0, _⟩ := h
  exact World.block_lt_of_cell? w ⟨g, 0, none⟩ h0
theorem Dice.mk {w w' : World} {g n c at_ sd : Nat} {A : Option Addr} {zs : List Int} (H : Ints .u8 w A n zs) (hA : 0 < n → ∀ a, A = some a → a.block < g) (hG : Gr g w w') (h0 : w'.cell? ⟨g, 0, none⟩ = some (.slice A n c))
    (h1 : w'.cell? ⟨g, 1, none⟩ = some (.int .i64 at_)) (h2 : w'.cell? ⟨g, 2, none⟩ = some (.int .u64 sd)) (f1 : w'.frozen? ⟨g, 1, none⟩ = false) (f2 : w'.frozen? ⟨g, 2, none⟩ = false) (h3 : at_ ≤ n) (h4 : sd < 18446744073709551616) :
    Dice w' g := by
  refine ⟨A, n, c, zs, at_, sd, ?_, hA, h0, h1, h2, ⟨f1, f2⟩, h3, h4⟩
  obtain ⟨e1, e2, e3, e4⟩ := H
  refine ⟨e1, e2, e3, fun hn => ?_⟩
  obtain ⟨b, off, e, hlt, hc⟩ := e4 hn
  have hb := hA hn _ e
  simp only at hb
  exact ⟨b, off, e, Nat.lt_of_lt_of_le hlt hG.size, fun j hj => (hG.cell b (off + j) hlt (by omega)).trans (hc j hj)⟩
theorem Dice.new {w w' : World} {n c at_ sd : Nat} {A : Option Addr} {zs : List Int} (H : Ints .u8 w A n zs) (hB : Below w.heap.size w w') (h0 : w'.cell? ⟨w.heap.size, 0, none⟩ = some (.slice A n c))
    (h1 : w'.cell? ⟨w.heap.size, 1, none⟩ = some (.int .i64 at_)) (h2 : w'.cell? ⟨w.heap.size, 2, none⟩ = some (.int .u64 sd)) (f1 : w'.frozen? ⟨w.heap.size, 1, none⟩ = false) (f2 : w'.frozen? ⟨w.heap.size, 2, none⟩ = false) (h3 : at_ ≤ n) (h4 : sd < 18446744073709551616) :
    Dice w' w.heap.size := by
  refine ⟨A, n, c, zs, at_, sd, H.below hB, fun hn a ha => ?_, h0, h1, h2, ⟨f1, f2⟩, h3, h4⟩
  obtain ⟨b, off, z, e, hb, _⟩ := H.at_ (i := 0) hn
  rw [e] at ha; injection ha with ha; subst ha; exact hb
def Rolls (w : World) (e : Ending) (w' : World) : Prop := ∃ g : Nat, e = .returned (.pointer (some ⟨g, 0, none⟩)) ∧ w.heap.size ≤ g ∧ Dice w' g ∧ Below w.heap.size w w'
def Falls (g : Nat) (n : Int) (w : World) (e : Ending) (w' : World) : Prop := ∃ x : Int, e = .returned (.int .i64 x) ∧ (0 ≤ x ∧ x < n) ∧ Dice w' g ∧ Gr g w w'
theorem u64_nat (x : Int) : ∃ m : Nat, IntKind.u64.wrap x = (m : Int) ∧ m < 18446744073709551616 := by
  rw [IntKind.wrap_u64]
  exact ⟨(x % 18446744073709551616).toNat, by omega, by omega⟩
theorem and24 (m : Nat) (h : m < 18446744073709551616) : ∃ v : Nat, bits BinOp.and IntKind.u64 (m : Int) 16777215 = (v : Int) ∧ v ≤ 16777215 := by
  have := bits_and_u64_nat m 16777215 h (by omega)
  exact ⟨_, this, Nat.and_le_right⟩
theorem bigL (A : Option Addr) (n c : Nat) (w : World) : Calls Try.prog 10 #[.slice A n c] w fun e w' => e = .returned (.bool (decide ((4096 : Int) < (n : Int)))) ∧ w = w' := by
  go_enter Try.func10, Try.ntmps10
  go_wp2
  go_ret
  exact ⟨rfl, rfl⟩
set_option maxHeartbeats 1600000 in
theorem fallL {w : World} {g : Nat} (h : Dice w g) (n : Int) (hn1 : 1 ≤ n) : Calls Try.prog 28 #[.pointer (some ⟨g, 0, none⟩), .int .i64 n] w (Falls g n w) := by
  obtain ⟨A, m, c, zs, at_, sd, H, hA, h0, h1, h2, ⟨f1, f2⟩, h3, h4⟩ := h
  have hm := H.le
  obtain ⟨p, hp, hpb⟩ := u64_nat ((sd : Int) * 6364136223846793005)
  obtain ⟨s', hs', hsb⟩ := u64_nat ((p : Int) + 1442695040888963407)
  obtain ⟨v, hv, hvb⟩ := and24 (s' / 8589934592) (by omega)
  have hv' : bits BinOp.and IntKind.u64 ((s' : Int) / 8589934592) 16777215 = (v : Int) := by rw [← hv]; congr 1
  have W0 : IntKind.i64.wrap (v : Int) = (v : Int) := IntWalk.i64_in _ (by omega)
  have S4 := Lib.hid hsb
  clear hv hpb hsb
  by_cases c1 : at_ < m
  case neg =>
    have k1 : ¬ (at_ : Int) < (m : Int) := by omega
    go_enter Try.func28, Try.ntmps28
    go_wp2
    go_quiet (fail)
    go_wp2
    go_ret
    exact ⟨_, rfl, ⟨Int.emod_nonneg _ (by omega), Int.emod_lt_of_pos _ (by omega)⟩, Dice.mk (c := c) (at_ := at_) (sd := s') H hA (by (repeat' (first | (with_reducible exact Gr.refl _ _) | (with_reducible assumption) | (with_reducible refine Gr.trans ?_ (by with_reducible assumption)) | (with_reducible refine Gr.below ?_ (by with_reducible assumption)) | (with_reducible refine Gr.alloc ?_ _) | (with_reducible refine Gr.drew ?_) | (with_reducible refine Gr.drewN ?_ _) | (with_reducible refine Gr.setCell ?_ ?_ _) | (exact .inl rfl) | (right; simp; done) | (right; simp; omega)))) (by go_simp) (by go_simp) (by go_simp) (by go_simp) (by go_simp) (by omega) S4.out, by (repeat' (first | (with_reducible exact Gr.refl _ _) | (with_reducible assumption) | (with_reducible refine Gr.trans ?_ (by with_reducible assumption)) | (with_reducible refine Gr.below ?_ (by with_reducible assumption)) | (with_reducible refine Gr.alloc ?_ _) | (with_reducible refine Gr.drew ?_) | (with_reducible refine Gr.drewN ?_ _) | (with_reducible refine Gr.setCell ?_ ?_ _) | (exact .inl rfl) | (right; simp; done) | (right; simp; omega)))⟩
  have k1 : (at_ : Int) < (m : Int) := by omega
  obtain ⟨b, off, z, rfl, hb, hcz, HZ, hwz⟩ := H.at_ c1
  have hz := u8_bd hwz
  have hbg : ¬ b = g := by have := hA (by omega) _ rfl; simp only at this; omega
  have hgb : ¬ g = b := by omega
  have W1 : IntKind.i64.wrap ((v : Int) + z) = (v : Int) + z := IntWalk.i64_in _ (by omega)
  have W4 : IntKind.i64.wrap z = z := IntWalk.i64_in _ (by omega)
  go_enter Try.func28, Try.ntmps28
  go_wp2
  go_quiet (fail)
  go_wp2
  go_quiet (fail)
  go_wp2
  go_ret
  exact ⟨_, rfl, ⟨Int.emod_nonneg _ (by omega), Int.emod_lt_of_pos _ (by omega)⟩, Dice.mk (c := c) (at_ := at_ + 1) (sd := s') H hA (by (repeat' (first | (with_reducible exact Gr.refl _ _) | (with_reducible assumption) | (with_reducible refine Gr.trans ?_ (by with_reducible assumption)) | (with_reducible refine Gr.below ?_ (by with_reducible assumption)) | (with_reducible refine Gr.alloc ?_ _) | (with_reducible refine Gr.drew ?_) | (with_reducible refine Gr.drewN ?_ _) | (with_reducible refine Gr.setCell ?_ ?_ _) | (exact .inl rfl) | (right; simp; done) | (right; simp; omega)))) (by go_simp) (by go_simp) (by go_simp) (by go_simp) (by go_simp) (by omega) S4.out, by (repeat' (first | (with_reducible exact Gr.refl _ _) | (with_reducible assumption) | (with_reducible refine Gr.trans ?_ (by with_reducible assumption)) | (with_reducible refine Gr.below ?_ (by with_reducible assumption)) | (with_reducible refine Gr.alloc ?_ _) | (with_reducible refine Gr.drew ?_) | (with_reducible refine Gr.drewN ?_ _) | (with_reducible refine Gr.setCell ?_ ?_ _) | (exact .inl rfl) | (right; simp; done) | (right; simp; omega)))⟩
set_option maxHeartbeats 1600000 in
theorem rollL {w : World} {A : Option Addr} {n : Nat} {zs : List Int} (H : Ints .u8 w A n zs) (c : Nat) (k0 : Nat) (hk0 : k0 < 65536) : Calls Try.prog 27 #[.slice A n c, .int .u64 k0] w (Rolls w) := by
  have hn := H.le
  obtain ⟨p, hp, hpb⟩ := u64_nat ((k0 : Int) * 9001)
  obtain ⟨q, hq, hqb⟩ := u64_nat (n : Int)
  obtain ⟨r, hr, hrb⟩ := u64_nat ((p : Int) + (q : Int))
  have S4 := Lib.hid hrb
  clear hpb hqb hrb
  go_enter Try.func27, Try.ntmps27
  go_wp2
  go_loopw [6] (fun i wr => ∃ k sd : Nat, k ≤ n ∧ i = .int .i64 k ∧ wr.cell? ⟨w.heap.size, 0, none⟩ = some (.slice A n c) ∧ wr.cell? ⟨w.heap.size, 1, none⟩ = some (.int .i64 0) ∧ wr.cell? ⟨w.heap.size, 2, none⟩ = some (.int .u64 sd) ∧ (wr.frozen? ⟨w.heap.size, 1, none⟩ = false ∧ wr.frozen? ⟨w.heap.size, 2, none⟩ = false) ∧ Hid (sd < 18446744073709551616) ∧ Below w.heap.size w wr) (fun i _ => n - (intOf i).toNat)
  case atStart => exact ⟨0, r, Nat.zero_le _, rfl, by go_simp, by go_simp, by go_simp, ⟨by go_simp, by go_simp⟩, S4, by (repeat' (first | (with_reducible exact Below.refl _ _) | (with_reducible assumption) | (with_reducible refine bStep ?_ (by with_reducible assumption)) | (with_reducible refine bAlloc ?_ _) | (with_reducible refine bDrew ?_) | (with_reducible refine bDrewN ?_ _) | (with_reducible refine Below.setCell ?_ ?_ _) | (with_reducible exact Nat.le_refl _) | (simp; done) | (simp; omega)))⟩
  case round =>
    obtain ⟨k, sd, hk, rfl, h0, h1, h2, ⟨f1, f2⟩, hsd, hbel⟩ := hrel
    clear S4 hp hq hr
    by_cases c1 : k < n
    · obtain ⟨b, off, z, rfl, hb, hcz, HZ, hwz⟩ := H.at_ c1
      have hz := u8_bd hwz
      have hbg : ¬ b = w.heap.size := by omega
      have hgb : ¬ w.heap.size = b := by omega
      have hcr : wr.cell? ⟨b, off + k, none⟩ = some (.int .u8 z) := (hbel.cell (p := ⟨b, off + k, none⟩) hb).trans hcz
      obtain ⟨a1, e1, _⟩ := u64_nat ((sd : Int) * 1099511628211)
      obtain ⟨a2, e2, _⟩ := u64_nat z
      obtain ⟨a3, e3, _⟩ := u64_nat ((a1 : Int) + (a2 : Int))
      obtain ⟨a4, e4, b4⟩ := u64_nat ((a3 : Int) + 5)
      have B4 := Lib.hid b4
      clear b4
      have k1 : (k : Int) < (n : Int) := by omega
      go_wp2
      go_region
      all_goals
        go_wp2
        go_roundw
        case rel => exact ⟨k + 1, a4, by omega, by go_num, by go_simp, by go_simp, by go_simp, ⟨by go_simp, by go_simp⟩, B4, by (repeat' (first | (with_reducible exact Below.refl _ _) | (with_reducible assumption) | (with_reducible refine bStep ?_ (by with_reducible assumption)) | (with_reducible refine bAlloc ?_ _) | (with_reducible refine bDrew ?_) | (with_reducible refine bDrewN ?_ _) | (with_reducible refine Below.setCell ?_ ?_ _) | (with_reducible exact Nat.le_refl _) | (simp; done) | (simp; omega)))⟩
        case measure => simp [intOf]; omega
    · obtain rfl : k = n := by omega
      have S : Dice wr w.heap.size := Dice.new (at_ := 0) (sd := sd) H hbel h0 h1 h2 f1 f2 (Nat.zero_le _) hsd.out
      have B := hbel
      go_wp2
      go_ret
      exact ⟨_, rfl, Nat.le_refl _, S, B⟩
end Go.Proofs.Ytincelkcbdjcjaa
