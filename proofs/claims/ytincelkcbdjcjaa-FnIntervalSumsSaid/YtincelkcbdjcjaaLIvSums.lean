/- The law on sums of intervals. -/
import Derived.Test.YtincelkcbdjcjaaAbsS
import Derived.Test.YtincelkcbdjcjaaDrawL
import Derived.Test.YtincelkcbdjcjaaDice
import Derived.Deep.RegionHeld3
import Derived.Deep.QuietTactic
import Derived.BigQuiet
import Derived.Laws.StructEq
namespace Go.Proofs.Ytincelkcbdjcjaa
open Go.RowKit
set_option linter.unusedVariables false
variable {w : World}

theorem insL (a b c d : Int) (w : World) (h1 : c ≤ a) (h2 : b ≤ d) : Calls Try.prog 29 #[.agg #[.int .i64 a, .int .i64 b], .agg #[.int .i64 c, .int .i64 d]] w fun e w' => e = .returned (.bool true) ∧ Below w.heap.size w w' := by
  have n01 : ¬ w.heap.size = w.heap.size + 1 := by omega
  have n10 : ¬ w.heap.size + 1 = w.heap.size := by omega
  go_enter Try.func29, Try.ntmps29
  go_wp2
  all_goals (try (go_quiet (fail)))
  all_goals go_wp2
  all_goals go_ret
  all_goals exact ⟨rfl, by (repeat' (first | (with_reducible exact Below.refl _ _) | (with_reducible assumption) | (with_reducible refine bStep ?_ (by with_reducible assumption)) | (with_reducible refine bAlloc ?_ _) | (with_reducible refine bDrew ?_) | (with_reducible refine bDrewN ?_ _) | (with_reducible refine Below.setCell ?_ ?_ _) | (with_reducible exact Nat.le_refl _) | (simp; done) | (simp; omega)))⟩
set_option maxHeartbeats 6400000 in
set_option maxRecDepth 20000 in
theorem wIntervalSums (A : Option Addr) (n c : Nat) (zs : List Int) (H0 : Ints .u8 w A n zs) :
    Calls Try.prog 4 #[.slice A n c] w fun e w' => e = .returned (.bool true) ∧ Below w.heap.size w w' := by
  have hn := H0.le
  by_cases hb : (4096 : Int) < (n : Int)
  · go_enter Try.func4, Try.ntmps4
    go_wp2_with (first | (go_at_call 10; refine (bigL _ _ _ _).mono ?_; rintro e w' ⟨rfl, rfl⟩))
    go_ret
    exact ⟨rfl, Below.refl _ _⟩
  go_enter Try.func4, Try.ntmps4
  go_wp2_with (first | (go_at_call 10; refine (bigL _ _ _ _).mono ?_; rintro e w' ⟨rfl, rfl⟩))
  refine (drSumIntervals H0 c).mono ?_
  rintro e w1 ⟨A1, m, c1, xs, rfl, ⟨hm, J0⟩, hB⟩
  have hsB := hB.size
  have hlen := Lib.hid J0.len
  have J := Lib.hid J0
  clear J0
  obtain ⟨l, h, k0, L, H, K, KA0, KB0, KC0, KD0, KR⟩ := sum_abs xs
  have KA := Lib.hid KA0
  have KB := Lib.hid KB0
  have KC := Lib.hid KC0
  have KD := Lib.hid KD0
  clear KA0 KB0 KC0 KD0
  rcases KR with hk | ⟨rfl, hx2, KK, lo, hi, ⟨lo0, hi0⟩, KS0, KT0⟩
  · have hkb : (k0 != 0) = true := by simpa using hk
    go_wp2_with fail
    (refine (KA.out _ _ _ c1 J.out).mono ?_; rintro e w2 ⟨rfl, hb2⟩; obtain ⟨hc2, hf2⟩ := bcell hb2; have hs2 := hb2.size; (try simp at hs2); (try have hl2 := Nat.lt_of_succ_le hs2))
    go_wp2_with fail
    (refine (KB.out _ _ _ c1 (J.out.below (by (repeat' (first | (with_reducible exact Below.refl _ _) | (with_reducible assumption) | (with_reducible refine bStep ?_ (by with_reducible assumption)) | (with_reducible refine bAlloc ?_ _) | (with_reducible refine bDrew ?_) | (with_reducible refine bDrewN ?_ _) | (with_reducible refine Below.setCell ?_ ?_ _) | (with_reducible exact Nat.le_refl _) | (simp; done) | (simp; omega)))))).mono ?_; rintro e w3 ⟨rfl, hb3⟩; obtain ⟨hc3, hf3⟩ := bcell hb3; have hs3 := hb3.size; (try simp at hs3); (try have hl3 := Nat.lt_of_succ_le hs3); (try have hz3x0 : w2.heap.size < w3.heap.size := (by have := hb3.size; (try simp at this); omega)); (try have hn3x0 : ¬ w2.heap.size = w3.heap.size := (by omega)); (try have hm3x0 : ¬ w3.heap.size = w2.heap.size := (by omega)); (try have c3x00 := hc3 (w2.heap.size) 0 (by first | omega | (simp; done) | (simp; omega))); (try have f3x00 := hf3 (w2.heap.size) 0 (by first | omega | (simp; done) | (simp; omega))); (try have c3x01 := hc3 (w2.heap.size) 1 (by first | omega | (simp; done) | (simp; omega))); (try have f3x01 := hf3 (w2.heap.size) 1 (by first | omega | (simp; done) | (simp; omega))))
    go_wp2_with fail
    (refine (KC.out _ _ _ c1 (J.out.below (by (repeat' (first | (with_reducible exact Below.refl _ _) | (with_reducible assumption) | (with_reducible refine bStep ?_ (by with_reducible assumption)) | (with_reducible refine bAlloc ?_ _) | (with_reducible refine bDrew ?_) | (with_reducible refine bDrewN ?_ _) | (with_reducible refine Below.setCell ?_ ?_ _) | (with_reducible exact Nat.le_refl _) | (simp; done) | (simp; omega)))))).mono ?_; rintro e w4 ⟨rfl, hb4⟩; obtain ⟨hc4, hf4⟩ := bcell hb4; have hs4 := hb4.size; (try simp at hs4); (try have hl4 := Nat.lt_of_succ_le hs4); (try have hz4x0 : w2.heap.size < w4.heap.size := (by have := hb4.size; (try simp at this); omega)); (try have hn4x0 : ¬ w2.heap.size = w4.heap.size := (by omega)); (try have hm4x0 : ¬ w4.heap.size = w2.heap.size := (by omega)); (try have hz4x1 : w3.heap.size < w4.heap.size := (by have := hb4.size; (try simp at this); omega)); (try have hn4x1 : ¬ w3.heap.size = w4.heap.size := (by omega)); (try have hm4x1 : ¬ w4.heap.size = w3.heap.size := (by omega)); (try have c4x00 := hc4 (w2.heap.size) 0 (by first | omega | (simp; done) | (simp; omega))); (try have f4x00 := hf4 (w2.heap.size) 0 (by first | omega | (simp; done) | (simp; omega))); (try have c4x01 := hc4 (w2.heap.size) 1 (by first | omega | (simp; done) | (simp; omega))); (try have f4x01 := hf4 (w2.heap.size) 1 (by first | omega | (simp; done) | (simp; omega))); (try have c4x10 := hc4 (w3.heap.size) 0 (by first | omega | (simp; done) | (simp; omega))); (try have f4x10 := hf4 (w3.heap.size) 0 (by first | omega | (simp; done) | (simp; omega))); (try have c4x11 := hc4 (w3.heap.size) 1 (by first | omega | (simp; done) | (simp; omega))); (try have f4x11 := hf4 (w3.heap.size) 1 (by first | omega | (simp; done) | (simp; omega))))
    go_wp2_with fail
    (refine (KD.out _ _ _ c1 (J.out.below (by (repeat' (first | (with_reducible exact Below.refl _ _) | (with_reducible assumption) | (with_reducible refine bStep ?_ (by with_reducible assumption)) | (with_reducible refine bAlloc ?_ _) | (with_reducible refine bDrew ?_) | (with_reducible refine bDrewN ?_ _) | (with_reducible refine Below.setCell ?_ ?_ _) | (with_reducible exact Nat.le_refl _) | (simp; done) | (simp; omega)))))).mono ?_; rintro e w5 ⟨rfl, hb5⟩; obtain ⟨hc5, hf5⟩ := bcell hb5; have hs5 := hb5.size; (try simp at hs5); (try have hl5 := Nat.lt_of_succ_le hs5); (try have hz5x0 : w2.heap.size < w5.heap.size := (by have := hb5.size; (try simp at this); omega)); (try have hn5x0 : ¬ w2.heap.size = w5.heap.size := (by omega)); (try have hm5x0 : ¬ w5.heap.size = w2.heap.size := (by omega)); (try have hz5x1 : w3.heap.size < w5.heap.size := (by have := hb5.size; (try simp at this); omega)); (try have hn5x1 : ¬ w3.heap.size = w5.heap.size := (by omega)); (try have hm5x1 : ¬ w5.heap.size = w3.heap.size := (by omega)); (try have hz5x2 : w4.heap.size < w5.heap.size := (by have := hb5.size; (try simp at this); omega)); (try have hn5x2 : ¬ w4.heap.size = w5.heap.size := (by omega)); (try have hm5x2 : ¬ w5.heap.size = w4.heap.size := (by omega)); (try have c5x00 := hc5 (w2.heap.size) 0 (by first | omega | (simp; done) | (simp; omega))); (try have f5x00 := hf5 (w2.heap.size) 0 (by first | omega | (simp; done) | (simp; omega))); (try have c5x01 := hc5 (w2.heap.size) 1 (by first | omega | (simp; done) | (simp; omega))); (try have f5x01 := hf5 (w2.heap.size) 1 (by first | omega | (simp; done) | (simp; omega))); (try have c5x10 := hc5 (w3.heap.size) 0 (by first | omega | (simp; done) | (simp; omega))); (try have f5x10 := hf5 (w3.heap.size) 0 (by first | omega | (simp; done) | (simp; omega))); (try have c5x11 := hc5 (w3.heap.size) 1 (by first | omega | (simp; done) | (simp; omega))); (try have f5x11 := hf5 (w3.heap.size) 1 (by first | omega | (simp; done) | (simp; omega))); (try have c5x20 := hc5 (w4.heap.size) 0 (by first | omega | (simp; done) | (simp; omega))); (try have f5x20 := hf5 (w4.heap.size) 0 (by first | omega | (simp; done) | (simp; omega))); (try have c5x21 := hc5 (w4.heap.size) 1 (by first | omega | (simp; done) | (simp; omega))); (try have f5x21 := hf5 (w4.heap.size) 1 (by first | omega | (simp; done) | (simp; omega))))
    go_wp2
    go_ret
    exact ⟨rfl, by (repeat' (first | (with_reducible exact Below.refl _ _) | (with_reducible assumption) | (with_reducible refine Gr.bel (by with_reducible assumption) ?_ ?_) | (with_reducible refine bStep ?_ (by with_reducible assumption)) | (with_reducible refine bAlloc ?_ _) | (with_reducible refine bDrew ?_) | (with_reducible refine bDrewN ?_ _) | (with_reducible refine Below.setCell ?_ ?_ _) | (with_reducible exact Nat.le_refl _) | omega | (simp; done) | (simp; omega)))⟩
  have KS := Lib.hid KS0
  have KT := Lib.hid KT0
  clear KS0 KT0
  rw [hlen.out] at hx2
  go_wp2_with fail
  (refine (KA.out _ _ _ c1 J.out).mono ?_; rintro e w2 ⟨rfl, hb2⟩; obtain ⟨hc2, hf2⟩ := bcell hb2; have hs2 := hb2.size; (try simp at hs2); (try have hl2 := Nat.lt_of_succ_le hs2))
  go_wp2_with fail
  (refine (KB.out _ _ _ c1 (J.out.below (by (repeat' (first | (with_reducible exact Below.refl _ _) | (with_reducible assumption) | (with_reducible refine bStep ?_ (by with_reducible assumption)) | (with_reducible refine bAlloc ?_ _) | (with_reducible refine bDrew ?_) | (with_reducible refine bDrewN ?_ _) | (with_reducible refine Below.setCell ?_ ?_ _) | (with_reducible exact Nat.le_refl _) | (simp; done) | (simp; omega)))))).mono ?_; rintro e w3 ⟨rfl, hb3⟩; obtain ⟨hc3, hf3⟩ := bcell hb3; have hs3 := hb3.size; (try simp at hs3); (try have hl3 := Nat.lt_of_succ_le hs3); (try have hz3x0 : w2.heap.size < w3.heap.size := (by have := hb3.size; (try simp at this); omega)); (try have hn3x0 : ¬ w2.heap.size = w3.heap.size := (by omega)); (try have hm3x0 : ¬ w3.heap.size = w2.heap.size := (by omega)); (try have c3x00 := hc3 (w2.heap.size) 0 (by first | omega | (simp; done) | (simp; omega))); (try have f3x00 := hf3 (w2.heap.size) 0 (by first | omega | (simp; done) | (simp; omega))); (try have c3x01 := hc3 (w2.heap.size) 1 (by first | omega | (simp; done) | (simp; omega))); (try have f3x01 := hf3 (w2.heap.size) 1 (by first | omega | (simp; done) | (simp; omega))))
  go_wp2_with fail
  (refine (KC.out _ _ _ c1 (J.out.below (by (repeat' (first | (with_reducible exact Below.refl _ _) | (with_reducible assumption) | (with_reducible refine bStep ?_ (by with_reducible assumption)) | (with_reducible refine bAlloc ?_ _) | (with_reducible refine bDrew ?_) | (with_reducible refine bDrewN ?_ _) | (with_reducible refine Below.setCell ?_ ?_ _) | (with_reducible exact Nat.le_refl _) | (simp; done) | (simp; omega)))))).mono ?_; rintro e w4 ⟨rfl, hb4⟩; obtain ⟨hc4, hf4⟩ := bcell hb4; have hs4 := hb4.size; (try simp at hs4); (try have hl4 := Nat.lt_of_succ_le hs4); (try have hz4x0 : w2.heap.size < w4.heap.size := (by have := hb4.size; (try simp at this); omega)); (try have hn4x0 : ¬ w2.heap.size = w4.heap.size := (by omega)); (try have hm4x0 : ¬ w4.heap.size = w2.heap.size := (by omega)); (try have hz4x1 : w3.heap.size < w4.heap.size := (by have := hb4.size; (try simp at this); omega)); (try have hn4x1 : ¬ w3.heap.size = w4.heap.size := (by omega)); (try have hm4x1 : ¬ w4.heap.size = w3.heap.size := (by omega)); (try have c4x00 := hc4 (w2.heap.size) 0 (by first | omega | (simp; done) | (simp; omega))); (try have f4x00 := hf4 (w2.heap.size) 0 (by first | omega | (simp; done) | (simp; omega))); (try have c4x01 := hc4 (w2.heap.size) 1 (by first | omega | (simp; done) | (simp; omega))); (try have f4x01 := hf4 (w2.heap.size) 1 (by first | omega | (simp; done) | (simp; omega))); (try have c4x10 := hc4 (w3.heap.size) 0 (by first | omega | (simp; done) | (simp; omega))); (try have f4x10 := hf4 (w3.heap.size) 0 (by first | omega | (simp; done) | (simp; omega))); (try have c4x11 := hc4 (w3.heap.size) 1 (by first | omega | (simp; done) | (simp; omega))); (try have f4x11 := hf4 (w3.heap.size) 1 (by first | omega | (simp; done) | (simp; omega))))
  go_wp2_with fail
  (refine (KD.out _ _ _ c1 (J.out.below (by (repeat' (first | (with_reducible exact Below.refl _ _) | (with_reducible assumption) | (with_reducible refine bStep ?_ (by with_reducible assumption)) | (with_reducible refine bAlloc ?_ _) | (with_reducible refine bDrew ?_) | (with_reducible refine bDrewN ?_ _) | (with_reducible refine Below.setCell ?_ ?_ _) | (with_reducible exact Nat.le_refl _) | (simp; done) | (simp; omega)))))).mono ?_; rintro e w5 ⟨rfl, hb5⟩; obtain ⟨hc5, hf5⟩ := bcell hb5; have hs5 := hb5.size; (try simp at hs5); (try have hl5 := Nat.lt_of_succ_le hs5); (try have hz5x0 : w2.heap.size < w5.heap.size := (by have := hb5.size; (try simp at this); omega)); (try have hn5x0 : ¬ w2.heap.size = w5.heap.size := (by omega)); (try have hm5x0 : ¬ w5.heap.size = w2.heap.size := (by omega)); (try have hz5x1 : w3.heap.size < w5.heap.size := (by have := hb5.size; (try simp at this); omega)); (try have hn5x1 : ¬ w3.heap.size = w5.heap.size := (by omega)); (try have hm5x1 : ¬ w5.heap.size = w3.heap.size := (by omega)); (try have hz5x2 : w4.heap.size < w5.heap.size := (by have := hb5.size; (try simp at this); omega)); (try have hn5x2 : ¬ w4.heap.size = w5.heap.size := (by omega)); (try have hm5x2 : ¬ w5.heap.size = w4.heap.size := (by omega)); (try have c5x00 := hc5 (w2.heap.size) 0 (by first | omega | (simp; done) | (simp; omega))); (try have f5x00 := hf5 (w2.heap.size) 0 (by first | omega | (simp; done) | (simp; omega))); (try have c5x01 := hc5 (w2.heap.size) 1 (by first | omega | (simp; done) | (simp; omega))); (try have f5x01 := hf5 (w2.heap.size) 1 (by first | omega | (simp; done) | (simp; omega))); (try have c5x10 := hc5 (w3.heap.size) 0 (by first | omega | (simp; done) | (simp; omega))); (try have f5x10 := hf5 (w3.heap.size) 0 (by first | omega | (simp; done) | (simp; omega))); (try have c5x11 := hc5 (w3.heap.size) 1 (by first | omega | (simp; done) | (simp; omega))); (try have f5x11 := hf5 (w3.heap.size) 1 (by first | omega | (simp; done) | (simp; omega))); (try have c5x20 := hc5 (w4.heap.size) 0 (by first | omega | (simp; done) | (simp; omega))); (try have f5x20 := hf5 (w4.heap.size) 0 (by first | omega | (simp; done) | (simp; omega))); (try have c5x21 := hc5 (w4.heap.size) 1 (by first | omega | (simp; done) | (simp; omega))); (try have f5x21 := hf5 (w4.heap.size) 1 (by first | omega | (simp; done) | (simp; omega))))
  go_wp2_with fail
  (refine (rollL (H0.below (by (repeat' (first | (with_reducible exact Below.refl _ _) | (with_reducible assumption) | (with_reducible refine bStep ?_ (by with_reducible assumption)) | (with_reducible refine bAlloc ?_ _) | (with_reducible refine bDrew ?_) | (with_reducible refine bDrewN ?_ _) | (with_reducible refine Below.setCell ?_ ?_ _) | (with_reducible exact Nat.le_refl _) | (simp; done) | (simp; omega))))) _ 201 (by omega)).mono ?_; rintro e w6 ⟨gD, rfl, hgD, hD, hb6⟩; obtain ⟨hc6, hf6⟩ := bcell hb6; have hs6 := hb6.size; (try simp at hs6); (try have hl6 := Nat.lt_of_succ_le hs6); (try have hz6x0 : w2.heap.size < w6.heap.size := (by have := hb6.size; (try simp at this); omega)); (try have hn6x0 : ¬ w2.heap.size = w6.heap.size := (by omega)); (try have hm6x0 : ¬ w6.heap.size = w2.heap.size := (by omega)); (try have hz6x1 : w3.heap.size < w6.heap.size := (by have := hb6.size; (try simp at this); omega)); (try have hn6x1 : ¬ w3.heap.size = w6.heap.size := (by omega)); (try have hm6x1 : ¬ w6.heap.size = w3.heap.size := (by omega)); (try have hz6x2 : w4.heap.size < w6.heap.size := (by have := hb6.size; (try simp at this); omega)); (try have hn6x2 : ¬ w4.heap.size = w6.heap.size := (by omega)); (try have hm6x2 : ¬ w6.heap.size = w4.heap.size := (by omega)); (try have hz6x3 : w5.heap.size < w6.heap.size := (by have := hb6.size; (try simp at this); omega)); (try have hn6x3 : ¬ w5.heap.size = w6.heap.size := (by omega)); (try have hm6x3 : ¬ w6.heap.size = w5.heap.size := (by omega)); (try have c6x00 := hc6 (w2.heap.size) 0 (by first | omega | (simp; done) | (simp; omega))); (try have f6x00 := hf6 (w2.heap.size) 0 (by first | omega | (simp; done) | (simp; omega))); (try have c6x01 := hc6 (w2.heap.size) 1 (by first | omega | (simp; done) | (simp; omega))); (try have f6x01 := hf6 (w2.heap.size) 1 (by first | omega | (simp; done) | (simp; omega))); (try have c6x10 := hc6 (w3.heap.size) 0 (by first | omega | (simp; done) | (simp; omega))); (try have f6x10 := hf6 (w3.heap.size) 0 (by first | omega | (simp; done) | (simp; omega))); (try have c6x11 := hc6 (w3.heap.size) 1 (by first | omega | (simp; done) | (simp; omega))); (try have f6x11 := hf6 (w3.heap.size) 1 (by first | omega | (simp; done) | (simp; omega))); (try have c6x20 := hc6 (w4.heap.size) 0 (by first | omega | (simp; done) | (simp; omega))); (try have f6x20 := hf6 (w4.heap.size) 0 (by first | omega | (simp; done) | (simp; omega))); (try have c6x21 := hc6 (w4.heap.size) 1 (by first | omega | (simp; done) | (simp; omega))); (try have f6x21 := hf6 (w4.heap.size) 1 (by first | omega | (simp; done) | (simp; omega))); (try have c6x30 := hc6 (w5.heap.size) 0 (by first | omega | (simp; done) | (simp; omega))); (try have f6x30 := hf6 (w5.heap.size) 0 (by first | omega | (simp; done) | (simp; omega))); (try have c6x31 := hc6 (w5.heap.size) 1 (by first | omega | (simp; done) | (simp; omega))); (try have f6x31 := hf6 (w5.heap.size) 1 (by first | omega | (simp; done) | (simp; omega))))
  have hLD := hD.lt
  (try simp at hgD)
  have hs1 : w1.heap.size ≤ w6.heap.size := by have := hb2.size; have := hb3.size; have := hb4.size; have := hb5.size; have := hb6.size; simp at *; omega
  have JW : Hid (Ivs w6 A1 m xs) := J.out.below (by (repeat' (first | (with_reducible exact Below.refl _ _) | (with_reducible assumption) | (with_reducible refine bStep ?_ (by with_reducible assumption)) | (with_reducible refine bAlloc ?_ _) | (with_reducible refine bDrew ?_) | (with_reducible refine bDrewN ?_ _) | (with_reducible refine Below.setCell ?_ ?_ _) | (with_reducible exact Nat.le_refl _) | (simp; done) | (simp; omega))))
  have hbl : Hid (∀ b off, 0 < m → A1 = some ⟨b, off, none⟩ → b < w1.heap.size) := by
    intro b off hm0 e
    obtain ⟨b', off', x', y', e', hb', _⟩ := J.out.at_ (i := 0) hm0
    rw [e'] at e; injection e with e; injection e with e1 e2; omega
  have hx0 : w6.cell? ⟨w2.heap.size, 0, none⟩ = some (.int .i64 l) := by go_simp
  have hx1 : w6.cell? ⟨w2.heap.size, 1, none⟩ = some (.int .i64 h) := by go_simp
  have hy0 : w6.cell? ⟨w4.heap.size, 0, none⟩ = some (.int .i64 L) := by go_simp
  have hy1 : w6.cell? ⟨w4.heap.size, 1, none⟩ = some (.int .i64 H) := by go_simp
  have hbW : Below w.heap.size w w6 := by (repeat' (first | (with_reducible exact Below.refl _ _) | (with_reducible assumption) | (with_reducible refine Gr.bel (by with_reducible assumption) ?_ ?_) | (with_reducible refine bStep ?_ (by with_reducible assumption)) | (with_reducible refine bAlloc ?_ _) | (with_reducible refine bDrew ?_) | (with_reducible refine bDrewN ?_ _) | (with_reducible refine Below.setCell ?_ ?_ _) | (with_reducible exact Nat.le_refl _) | omega | (simp; done) | (simp; omega)))
  go_wp2_with fail
  go_loopw [13, 14] (fun v i wr => ∃ (k : Nat) (T : Int), k ≤ m ∧ i = .int .i64 k ∧ v = .int .i64 T ∧ (lo k ≤ T ∧ T ≤ hi k) ∧ Dice wr gD ∧ Gr gD w6 wr) (fun _ i _ => m - (intOf i).toNat)
  case atStart => exact ⟨0, 0, Nat.zero_le _, rfl, rfl, ⟨by omega, by omega⟩, hD, Gr.refl _ _⟩
  case round =>
    obtain ⟨k, T, hk, rfl, rfl, ⟨hT0, hT1⟩, hD, hG⟩ := hrel
    have hLD := hD.lt
    have hsG := hG.size
    by_cases hlt : k < m
    · obtain ⟨b, off, x, y, rfl, hb, hc1, hc2, HX, hw⟩ := JW.out.at_ hlt
      have hb1 := hbl.out b off (by omega) rfl
      obtain ⟨⟨⟨x1, x2, x3⟩, s1, s2, s3, s4⟩, s5, s6⟩ := KS.out k (by rw [hlen.out]; exact hlt) x y HX.out
      have hK : K = 0 := by rcases KK with h | h; (have := hlen.out; omega); exact h
      subst hK
      clear JW hbl KS KT hlen J hx0 hx1
      have p0 : wr.cell? ⟨b, off + k * 2, none⟩ = some (.int .i64 x) := (hG.cell b _ hb (by omega)).trans hc1
      have p1 : wr.cell? ⟨b, off + k * 2 + 1, none⟩ = some (.int .i64 y) := (hG.cell b _ hb (by omega)).trans hc2
      have q0 : wr.cell? ⟨w4.heap.size, 0, none⟩ = some (.int .i64 L) := (hG.cell _ _ (by omega) (by omega)).trans hy0
      have q1 : wr.cell? ⟨w4.heap.size, 1, none⟩ = some (.int .i64 H) := (hG.cell _ _ (by omega) (by omega)).trans hy1
      have Wa : IntKind.i64.wrap (y - x) = y - x := IntWalk.i64_in _ (by omega)
      have Wb : IntKind.i64.wrap (y - x + 1) = y - x + 1 := IntWalk.i64_in _ (by omega)
      have Wc : IntKind.i64.wrap (T + x) = T + x := IntWalk.i64_in _ (by omega)
      have Wk : IntKind.i64.wrap ((k : Int) + 1) = (k : Int) + 1 := IntWalk.i64_in _ (by omega)
      have S1 := Lib.hid s1
      have S2 := Lib.hid s2
      clear hc1 hc2 hx2 s1 s2
      go_wp2_with fail
      go_region_held3 (fun w' => w'.cell? ⟨b, off + k * 2, none⟩ = some (.int .i64 x) ∧ w'.cell? ⟨b, off + k * 2 + 1, none⟩ = some (.int .i64 y)) ((go_keep) <;> go_simp)
        ((first | (go_at_call 28; refine (fallL (Dice.keep hD (by (repeat' (first | (with_reducible exact Below.refl _ _) | (with_reducible assumption) | (with_reducible refine kStep ?_ (by with_reducible assumption) ?_) | (with_reducible refine kAlloc ?_ _ ?_) | (with_reducible refine kDrew ?_) | (with_reducible refine kDrewN ?_ _) | (with_reducible refine kSet ?_ _ ?_) | (simp; done) | (simp; omega) | omega)))) _ (by omega)).mono ?_; rintro e w7 ⟨t, rfl, ⟨t0, t1⟩, hD, hGD⟩; have hLD := hD.lt; have hszD := hGD.size; (try simp at hszD); (try rw [Wb] at t1); (try have e0 := hGD.cell b (off + k * 2) (by first | omega | (simp; omega)) (by omega)); (try have e1 := hGD.cell b (off + k * 2 + 1) (by first | omega | (simp; omega)) (by omega)); (try have g0 := hGD.cell w4.heap.size 0 (by first | omega | (simp; omega)) (by omega)); (try have g1 := hGD.cell w4.heap.size 1 (by first | omega | (simp; omega)) (by omega)); have Wt : IntKind.i64.wrap (T + x + t) = T + x + t := IntWalk.i64_in _ (by omega))))
      all_goals go_wp2_with fail
      all_goals (go_region_held3 (fun w' => w'.cell? ⟨b, off + k * 2, none⟩ = some (.int .i64 x) ∧ w'.cell? ⟨b, off + k * 2 + 1, none⟩ = some (.int .i64 y) ∧ w'.cell? ⟨w4.heap.size, 0, none⟩ = some (.int .i64 (L)) ∧ w'.cell? ⟨w4.heap.size, 1, none⟩ = some (.int .i64 (H))) ((go_keep) <;> go_simp)
        ((first | (go_at_call 29; refine (insL _ _ _ _ _ (by omega) (by omega)).mono ?_; rintro e w8 ⟨rfl, hb8⟩; have hs8 := hb8.size; (try simp at hs8); obtain ⟨hcq, hfq⟩ := bcell hb8; (try have k80 := hcq b (off + k * 2) (by first | omega | (simp; omega))); (try have k81 := hcq b (off + k * 2 + 1) (by first | omega | (simp; omega))); (try have k82 := hcq w4.heap.size 0 (by first | omega | (simp; omega))); (try have k83 := hcq w4.heap.size 1 (by first | omega | (simp; omega)))))))
      all_goals go_wp2
      all_goals go_roundw
      all_goals first
        | (case rel => exact ⟨k + 1, T + x + t, by omega, by go_num, rfl, ⟨by rw [S1.out]; omega, by rw [S2.out]; omega⟩, Dice.keep hD (by (repeat' (first | (with_reducible exact Below.refl _ _) | (with_reducible assumption) | (with_reducible refine kStep ?_ (by with_reducible assumption) ?_) | (with_reducible refine kAlloc ?_ _ ?_) | (with_reducible refine kDrew ?_) | (with_reducible refine kDrewN ?_ _) | (with_reducible refine kSet ?_ _ ?_) | (simp; done) | (simp; omega) | omega))), by (repeat' (first | (with_reducible exact Gr.refl _ _) | (with_reducible assumption) | (with_reducible refine Gr.trans ?_ (by with_reducible assumption)) | (with_reducible refine Gr.below ?_ (by with_reducible assumption)) | (with_reducible refine Gr.alloc ?_ _) | (with_reducible refine Gr.drew ?_) | (with_reducible refine Gr.drewN ?_ _) | (with_reducible refine Gr.setCell ?_ ?_ _) | (exact .inl rfl) | (right; simp; done) | (right; simp; omega)))⟩)
        | skip
      all_goals (simp [intOf]; omega)
    · obtain rfl : k = m := by omega
      have VT := KT.out T (by rw [hlen.out]; exact hT0) (by rw [hlen.out]; exact hT1)
      have VT := Lib.hid VT
      have r0 : wr.cell? ⟨w2.heap.size, 0, none⟩ = some (.int .i64 l) := (hG.cell _ _ (by omega) (by omega)).trans hx0
      have r1 : wr.cell? ⟨w2.heap.size, 1, none⟩ = some (.int .i64 h) := (hG.cell _ _ (by omega) (by omega)).trans hx1
      have hbR : Below w.heap.size w wr := hG.bel hbW (by omega)
      clear hx0 hx1 hy0 hy1 hG hbW
      go_wp2_with (first | (go_at_call 30; refine (VT.out _).mono ?_; rintro e w9 ⟨rfl, hb9⟩))
      go_ret
      exact ⟨rfl, by (repeat' (first | (with_reducible exact Below.refl _ _) | (with_reducible assumption) | (with_reducible refine Gr.bel (by with_reducible assumption) ?_ ?_) | (with_reducible refine bStep ?_ (by with_reducible assumption)) | (with_reducible refine bAlloc ?_ _) | (with_reducible refine bDrew ?_) | (with_reducible refine bDrewN ?_ _) | (with_reducible refine Below.setCell ?_ ?_ _) | (with_reducible exact Nat.le_refl _) | omega | (simp; done) | (simp; omega)))⟩
end Go.Proofs.Ytincelkcbdjcjaa
