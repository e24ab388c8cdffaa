/- The law on fans. -/
import Derived.Test.YtincelkcbdjcjaaAbsF
import Derived.Test.YtincelkcbdjcjaaDrawF
import Derived.Test.YtincelkcbdjcjaaDrawB
import Derived.Test.YtincelkcbdjcjaaDice
import Derived.Deep.RegionHeld3
import Derived.Deep.QuietTactic
import Derived.BigQuiet
import Derived.Laws.StructEq
namespace Go.Proofs.Ytincelkcbdjcjaa
open Go.RowKit
set_option linter.unusedVariables false
variable {w : World}

theorem lie_sym (a b c d e f g h i : Int) : lieV d e f a b c g h i = lieV a b c d e f g h i := by
  unfold lieV alk
  rw [Int.mul_comm (cmpP (d * i) (g * f))]
  generalize decide (b > 0) = x
  generalize decide (e > 0) = y
  generalize decide (h > 0) = z
  generalize isDir a b c = u
  generalize isDir d e f = v
  cases x <;> cases y <;> cases z <;> cases u <;> cases v <;> simp

set_option maxHeartbeats 1600000 in
theorem likeD {w : World} {A B : Option Addr} {n : Nat} {f g h : Nat → Int} (H : Tris w A n f g h) (K : Tris w B n f g h) (c d : Nat) :
    Calls Try.prog 35 #[.slice A n c, .slice B n d] w fun e w' => e = .returned (.bool true) ∧ Below w.heap.size w w' := by
  have hn := H.1
  have h0 : ((n : Int) != (n : Int)) = false := by simp
  go_enter Try.func35, Try.ntmps35
  go_wp2
  go_loopw [5] (fun i wr => ∃ k : Nat, k ≤ n ∧ i = .int .i64 k ∧ Below w.heap.size w wr) (fun i _ => n - (intOf i).toNat)
  case atStart => exact ⟨0, Nat.zero_le _, rfl, Below.refl _ _⟩
  case round =>
    obtain ⟨k, hk, rfl, hbel⟩ := hrel
    by_cases hlt : k < n
    · obtain ⟨b, rfl, hb, hcb⟩ := (H.below hbel).2 (by omega)
      obtain ⟨b', rfl, hb', hcb'⟩ := (K.below hbel).2 (by omega)
      obtain ⟨p0, p1, p2⟩ := hcb k hlt
      obtain ⟨q0, q1, q2⟩ := hcb' k hlt
      clear hcb hcb'
      generalize f k = x at *
      generalize g k = y at *
      generalize h k = z at *
      go_wp2
      all_goals (try (go_quiet (fail)))
      all_goals go_wp2
      all_goals go_roundw
      all_goals first
        | (case rel => exact ⟨k + 1, by omega, by go_num, by (repeat' (first | (with_reducible exact Below.refl _ _) | (with_reducible assumption) | (with_reducible refine bStep ?_ (by with_reducible assumption)) | (with_reducible refine bAlloc ?_ _) | (with_reducible refine bDrew ?_) | (with_reducible refine bDrewN ?_ _) | (with_reducible refine Below.setCell ?_ ?_ _) | (with_reducible exact Nat.le_refl _) | (simp; done) | (simp; omega)))⟩)
        | skip
      all_goals first | (simp [intOf]; done) | (simp [intOf]; omega)
    · obtain rfl : k = n := by omega
      go_wp2
      go_ret
      exact ⟨rfl, hbel⟩
set_option maxHeartbeats 12800000 in
set_option maxRecDepth 20000 in
theorem wFans (A : Option Addr) (n c : Nat) (zs : List Int) (H0 : Ints .u8 w A n zs) :
    Calls Try.prog 5 #[.slice A n c] w fun e w' => e = .returned (.bool true) ∧ Below w.heap.size w w' := by
  have hn := H0.le
  by_cases hb : (4096 : Int) < (n : Int)
  · go_enter Try.func5, Try.ntmps5
    go_wp2_with (first | (go_at_call 10; refine (bigL _ _ _ _).mono ?_; rintro e w' ⟨rfl, rfl⟩))
    go_ret
    exact ⟨rfl, Below.refl _ _⟩
  go_enter Try.func5, Try.ntmps5
  go_wp2_with (first | (go_at_call 10; refine (bigL _ _ _ _).mono ?_; rintro e w' ⟨rfl, rfl⟩))
  refine (drFanOf H0 c).mono ?_
  rintro e w1 ⟨nn, l, h, q, rfl, ⟨hn', hl', hh'⟩, hB⟩
  have hsB := hB.size
  obtain ⟨m, r, F, G, H, hm, KS0, KI0, FI0, KR⟩ := fans_abs nn l h q hn'.out.1
  have KS := Lib.hid KS0
  have KI := Lib.hid KI0
  have FI := Lib.hid FI0
  clear KS0 KI0 FI0
  have er : (r != r) = false := by simp
  go_wp2_with fail
  refine (KI.out _).mono ?_
  rintro e w2 ⟨A2, c2, rfl, O2, hb2⟩
  have hs2 := hb2.size
  have J2 := Lib.hid (Tris.of_own O2 (by omega))
  clear O2
  go_wp2_with fail
  refine (KS.out _).mono ?_
  rintro e w3 ⟨A3, c3, rfl, O3, hb3⟩
  have hs3 := hb3.size
  have J3 := Lib.hid (Tris.of_own O3 (by omega))
  clear O3
  have J2 := Lib.hid (J2.out.below hb3)
  go_wp2_with fail
  refine (drLiesBetween (H0.below (by (repeat' (first | (with_reducible exact Below.refl _ _) | (with_reducible assumption) | (with_reducible refine bStep ?_ (by with_reducible assumption)) | (with_reducible refine bAlloc ?_ _) | (with_reducible refine bDrew ?_) | (with_reducible refine bDrewN ?_ _) | (with_reducible refine Below.setCell ?_ ?_ _) | (with_reducible exact Nat.le_refl _) | (simp; done) | (simp; omega))))) c).mono ?_
  rintro e w4 ⟨d0, d1, d2, e0, e1, e2, f0, f1, f2, rfl, hb4⟩
  have hs4 := hb4.size
  have J2 := Lib.hid (J2.out.below hb4)
  have J3 := Lib.hid (J3.out.below hb4)
  have ne01 : ¬ w4.heap.size = w4.heap.size + 1 := by omega
  have ne10 : ¬ w4.heap.size + 1 = w4.heap.size := by omega
  have ne02 : ¬ w4.heap.size = w4.heap.size + 1 + 1 := by omega
  have ne20 : ¬ w4.heap.size + 1 + 1 = w4.heap.size := by omega
  have ne12 : ¬ w4.heap.size + 1 = w4.heap.size + 1 + 1 := by omega
  have ne21 : ¬ w4.heap.size + 1 + 1 = w4.heap.size + 1 := by omega
  have LS := Lib.hid (lie_sym d0 d1 d2 e0 e1 e2 f0 f1 f2)
  rcases KR with rfl | ⟨rfl, kk, rfl, rfl, hl0, KL0, KC0⟩
  · go_wp2_with fail
    go_region_held3 (fun w' => w'.cell? ⟨w4.heap.size, 0, none⟩ = some (.int .i64 d0) ∧ w'.cell? ⟨w4.heap.size, 1, none⟩ = some (.int .i64 d1) ∧ w'.cell? ⟨w4.heap.size, 2, none⟩ = some (.int .i64 d2) ∧ w'.cell? ⟨w4.heap.size + 1, 0, none⟩ = some (.int .i64 e0) ∧ w'.cell? ⟨w4.heap.size + 1, 1, none⟩ = some (.int .i64 e1) ∧ w'.cell? ⟨w4.heap.size + 1, 2, none⟩ = some (.int .i64 e2) ∧ w'.cell? ⟨w4.heap.size + 1 + 1, 0, none⟩ = some (.int .i64 f0) ∧ w'.cell? ⟨w4.heap.size + 1 + 1, 1, none⟩ = some (.int .i64 f1) ∧ w'.cell? ⟨w4.heap.size + 1 + 1, 2, none⟩ = some (.int .i64 f2)) ((go_keep) <;> go_simp)
      ((first | (go_at_call 35; refine (likeD (J2.out.below (by (repeat' (first | (with_reducible exact Below.refl _ _) | (with_reducible assumption) | (with_reducible refine bStep ?_ (by with_reducible assumption)) | (with_reducible refine bAlloc ?_ _) | (with_reducible refine bDrew ?_) | (with_reducible refine bDrewN ?_ _) | (with_reducible refine Below.setCell ?_ ?_ _) | (with_reducible exact Nat.le_refl _) | (simp; done) | (simp; omega))))) (J3.out.below (by (repeat' (first | (with_reducible exact Below.refl _ _) | (with_reducible assumption) | (with_reducible refine bStep ?_ (by with_reducible assumption)) | (with_reducible refine bAlloc ?_ _) | (with_reducible refine bDrew ?_) | (with_reducible refine bDrewN ?_ _) | (with_reducible refine Below.setCell ?_ ?_ _) | (with_reducible exact Nat.le_refl _) | (simp; done) | (simp; omega))))) _ _).mono ?_; rintro e w5 ⟨rfl, hb5⟩; obtain ⟨hc5, hf5⟩ := bcell hb5; have hs5 := hb5.size; (try simp at hs5); (try have hl5 := Nat.lt_of_succ_le hs5); (try have hz5x0 : w4.heap.size < w5.heap.size := (by have := hb5.size; (try simp at this); omega)); (try have hn5x0 : ¬ w4.heap.size = w5.heap.size := (by omega)); (try have hm5x0 : ¬ w5.heap.size = w4.heap.size := (by omega)); (try have hz5x1 : w4.heap.size + 1 < w5.heap.size := (by have := hb5.size; (try simp at this); omega)); (try have hn5x1 : ¬ w4.heap.size + 1 = w5.heap.size := (by omega)); (try have hm5x1 : ¬ w5.heap.size = w4.heap.size + 1 := (by omega)); (try have hz5x2 : w4.heap.size + 1 + 1 < w5.heap.size := (by have := hb5.size; (try simp at this); omega)); (try have hn5x2 : ¬ w4.heap.size + 1 + 1 = w5.heap.size := (by omega)); (try have hm5x2 : ¬ w5.heap.size = w4.heap.size + 1 + 1 := (by omega)); (try have c5x00 := hc5 (w4.heap.size) 0 (by first | omega | (simp; done) | (simp; omega))); (try have f5x00 := hf5 (w4.heap.size) 0 (by first | omega | (simp; done) | (simp; omega))); (try have c5x01 := hc5 (w4.heap.size) 1 (by first | omega | (simp; done) | (simp; omega))); (try have f5x01 := hf5 (w4.heap.size) 1 (by first | omega | (simp; done) | (simp; omega))); (try have c5x02 := hc5 (w4.heap.size) 2 (by first | omega | (simp; done) | (simp; omega))); (try have f5x02 := hf5 (w4.heap.size) 2 (by first | omega | (simp; done) | (simp; omega))); (try have c5x10 := hc5 (w4.heap.size + 1) 0 (by first | omega | (simp; done) | (simp; omega))); (try have f5x10 := hf5 (w4.heap.size + 1) 0 (by first | omega | (simp; done) | (simp; omega))); (try have c5x11 := hc5 (w4.heap.size + 1) 1 (by first | omega | (simp; done) | (simp; omega))); (try have f5x11 := hf5 (w4.heap.size + 1) 1 (by first | omega | (simp; done) | (simp; omega))); (try have c5x12 := hc5 (w4.heap.size + 1) 2 (by first | omega | (simp; done) | (simp; omega))); (try have f5x12 := hf5 (w4.heap.size + 1) 2 (by first | omega | (simp; done) | (simp; omega))); (try have c5x20 := hc5 (w4.heap.size + 1 + 1) 0 (by first | omega | (simp; done) | (simp; omega))); (try have f5x20 := hf5 (w4.heap.size + 1 + 1) 0 (by first | omega | (simp; done) | (simp; omega))); (try have c5x21 := hc5 (w4.heap.size + 1 + 1) 1 (by first | omega | (simp; done) | (simp; omega))); (try have f5x21 := hf5 (w4.heap.size + 1 + 1) 1 (by first | omega | (simp; done) | (simp; omega))); (try have c5x22 := hc5 (w4.heap.size + 1 + 1) 2 (by first | omega | (simp; done) | (simp; omega))); (try have f5x22 := hf5 (w4.heap.size + 1 + 1) 2 (by first | omega | (simp; done) | (simp; omega)))) | (go_at_call 36; refine (FI.out _).mono ?_; rintro e w6 ⟨rfl, rfl⟩) | (go_at_call 37; refine (lieI _ _ _ _ _ _ _ _ _ _).mono ?_; rintro e w7 ⟨rfl, hb7⟩; (try rw [LS.out]); obtain ⟨hc7, hf7⟩ := bcell hb7; have hs7 := hb7.size; (try simp at hs7); (try have hl7 := Nat.lt_of_succ_le hs7); (try have hz7x0 : w4.heap.size < w7.heap.size := (by have := hb7.size; (try simp at this); omega)); (try have hn7x0 : ¬ w4.heap.size = w7.heap.size := (by omega)); (try have hm7x0 : ¬ w7.heap.size = w4.heap.size := (by omega)); (try have hz7x1 : w4.heap.size + 1 < w7.heap.size := (by have := hb7.size; (try simp at this); omega)); (try have hn7x1 : ¬ w4.heap.size + 1 = w7.heap.size := (by omega)); (try have hm7x1 : ¬ w7.heap.size = w4.heap.size + 1 := (by omega)); (try have hz7x2 : w4.heap.size + 1 + 1 < w7.heap.size := (by have := hb7.size; (try simp at this); omega)); (try have hn7x2 : ¬ w4.heap.size + 1 + 1 = w7.heap.size := (by omega)); (try have hm7x2 : ¬ w7.heap.size = w4.heap.size + 1 + 1 := (by omega)); (try have c7x00 := hc7 (w4.heap.size) 0 (by first | omega | (simp; done) | (simp; omega))); (try have f7x00 := hf7 (w4.heap.size) 0 (by first | omega | (simp; done) | (simp; omega))); (try have c7x01 := hc7 (w4.heap.size) 1 (by first | omega | (simp; done) | (simp; omega))); (try have f7x01 := hf7 (w4.heap.size) 1 (by first | omega | (simp; done) | (simp; omega))); (try have c7x02 := hc7 (w4.heap.size) 2 (by first | omega | (simp; done) | (simp; omega))); (try have f7x02 := hf7 (w4.heap.size) 2 (by first | omega | (simp; done) | (simp; omega))); (try have c7x10 := hc7 (w4.heap.size + 1) 0 (by first | omega | (simp; done) | (simp; omega))); (try have f7x10 := hf7 (w4.heap.size + 1) 0 (by first | omega | (simp; done) | (simp; omega))); (try have c7x11 := hc7 (w4.heap.size + 1) 1 (by first | omega | (simp; done) | (simp; omega))); (try have f7x11 := hf7 (w4.heap.size + 1) 1 (by first | omega | (simp; done) | (simp; omega))); (try have c7x12 := hc7 (w4.heap.size + 1) 2 (by first | omega | (simp; done) | (simp; omega))); (try have f7x12 := hf7 (w4.heap.size + 1) 2 (by first | omega | (simp; done) | (simp; omega))); (try have c7x20 := hc7 (w4.heap.size + 1 + 1) 0 (by first | omega | (simp; done) | (simp; omega))); (try have f7x20 := hf7 (w4.heap.size + 1 + 1) 0 (by first | omega | (simp; done) | (simp; omega))); (try have c7x21 := hc7 (w4.heap.size + 1 + 1) 1 (by first | omega | (simp; done) | (simp; omega))); (try have f7x21 := hf7 (w4.heap.size + 1 + 1) 1 (by first | omega | (simp; done) | (simp; omega))); (try have c7x22 := hc7 (w4.heap.size + 1 + 1) 2 (by first | omega | (simp; done) | (simp; omega))); (try have f7x22 := hf7 (w4.heap.size + 1 + 1) 2 (by first | omega | (simp; done) | (simp; omega)))) | (go_at_call 38; refine (lieS _ _ _ _ _ _ _ _ _ _).mono ?_; rintro e w8 ⟨rfl, hb8⟩; obtain ⟨hc8, hf8⟩ := bcell hb8; have hs8 := hb8.size; (try simp at hs8); (try have hl8 := Nat.lt_of_succ_le hs8); (try have hz8x0 : w4.heap.size < w8.heap.size := (by have := hb8.size; (try simp at this); omega)); (try have hn8x0 : ¬ w4.heap.size = w8.heap.size := (by omega)); (try have hm8x0 : ¬ w8.heap.size = w4.heap.size := (by omega)); (try have hz8x1 : w4.heap.size + 1 < w8.heap.size := (by have := hb8.size; (try simp at this); omega)); (try have hn8x1 : ¬ w4.heap.size + 1 = w8.heap.size := (by omega)); (try have hm8x1 : ¬ w8.heap.size = w4.heap.size + 1 := (by omega)); (try have hz8x2 : w4.heap.size + 1 + 1 < w8.heap.size := (by have := hb8.size; (try simp at this); omega)); (try have hn8x2 : ¬ w4.heap.size + 1 + 1 = w8.heap.size := (by omega)); (try have hm8x2 : ¬ w8.heap.size = w4.heap.size + 1 + 1 := (by omega)); (try have c8x00 := hc8 (w4.heap.size) 0 (by first | omega | (simp; done) | (simp; omega))); (try have f8x00 := hf8 (w4.heap.size) 0 (by first | omega | (simp; done) | (simp; omega))); (try have c8x01 := hc8 (w4.heap.size) 1 (by first | omega | (simp; done) | (simp; omega))); (try have f8x01 := hf8 (w4.heap.size) 1 (by first | omega | (simp; done) | (simp; omega))); (try have c8x02 := hc8 (w4.heap.size) 2 (by first | omega | (simp; done) | (simp; omega))); (try have f8x02 := hf8 (w4.heap.size) 2 (by first | omega | (simp; done) | (simp; omega))); (try have c8x10 := hc8 (w4.heap.size + 1) 0 (by first | omega | (simp; done) | (simp; omega))); (try have f8x10 := hf8 (w4.heap.size + 1) 0 (by first | omega | (simp; done) | (simp; omega))); (try have c8x11 := hc8 (w4.heap.size + 1) 1 (by first | omega | (simp; done) | (simp; omega))); (try have f8x11 := hf8 (w4.heap.size + 1) 1 (by first | omega | (simp; done) | (simp; omega))); (try have c8x12 := hc8 (w4.heap.size + 1) 2 (by first | omega | (simp; done) | (simp; omega))); (try have f8x12 := hf8 (w4.heap.size + 1) 2 (by first | omega | (simp; done) | (simp; omega))); (try have c8x20 := hc8 (w4.heap.size + 1 + 1) 0 (by first | omega | (simp; done) | (simp; omega))); (try have f8x20 := hf8 (w4.heap.size + 1 + 1) 0 (by first | omega | (simp; done) | (simp; omega))); (try have c8x21 := hc8 (w4.heap.size + 1 + 1) 1 (by first | omega | (simp; done) | (simp; omega))); (try have f8x21 := hf8 (w4.heap.size + 1 + 1) 1 (by first | omega | (simp; done) | (simp; omega))); (try have c8x22 := hc8 (w4.heap.size + 1 + 1) 2 (by first | omega | (simp; done) | (simp; omega))); (try have f8x22 := hf8 (w4.heap.size + 1 + 1) 2 (by first | omega | (simp; done) | (simp; omega))))))
    all_goals go_wp2
    all_goals go_ret
    all_goals exact ⟨rfl, by (repeat' (first | (with_reducible exact Below.refl _ _) | (with_reducible assumption) | (with_reducible refine Gr.bel (by with_reducible assumption) ?_ ?_) | (with_reducible refine bStep ?_ (by with_reducible assumption)) | (with_reducible refine bAlloc ?_ _) | (with_reducible refine bDrew ?_) | (with_reducible refine bDrewN ?_ _) | (with_reducible refine Below.setCell ?_ ?_ _) | (with_reducible exact Nat.le_refl _) | omega | (simp; done) | (simp; omega)))⟩
  have KL := Lib.hid KL0
  have KC := Lib.hid KC0
  clear KL0 KC0
  go_wp2_with fail
  go_region_held3 (fun w' => w'.cell? ⟨w4.heap.size, 0, none⟩ = some (.int .i64 d0) ∧ w'.cell? ⟨w4.heap.size, 1, none⟩ = some (.int .i64 d1) ∧ w'.cell? ⟨w4.heap.size, 2, none⟩ = some (.int .i64 d2) ∧ w'.cell? ⟨w4.heap.size + 1, 0, none⟩ = some (.int .i64 e0) ∧ w'.cell? ⟨w4.heap.size + 1, 1, none⟩ = some (.int .i64 e1) ∧ w'.cell? ⟨w4.heap.size + 1, 2, none⟩ = some (.int .i64 e2) ∧ w'.cell? ⟨w4.heap.size + 1 + 1, 0, none⟩ = some (.int .i64 f0) ∧ w'.cell? ⟨w4.heap.size + 1 + 1, 1, none⟩ = some (.int .i64 f1) ∧ w'.cell? ⟨w4.heap.size + 1 + 1, 2, none⟩ = some (.int .i64 f2)) ((go_keep) <;> go_simp)
    ((first | (go_at_call 35; refine (likeD (J2.out.below (by (repeat' (first | (with_reducible exact Below.refl _ _) | (with_reducible assumption) | (with_reducible refine bStep ?_ (by with_reducible assumption)) | (with_reducible refine bAlloc ?_ _) | (with_reducible refine bDrew ?_) | (with_reducible refine bDrewN ?_ _) | (with_reducible refine Below.setCell ?_ ?_ _) | (with_reducible exact Nat.le_refl _) | (simp; done) | (simp; omega))))) (J3.out.below (by (repeat' (first | (with_reducible exact Below.refl _ _) | (with_reducible assumption) | (with_reducible refine bStep ?_ (by with_reducible assumption)) | (with_reducible refine bAlloc ?_ _) | (with_reducible refine bDrew ?_) | (with_reducible refine bDrewN ?_ _) | (with_reducible refine Below.setCell ?_ ?_ _) | (with_reducible exact Nat.le_refl _) | (simp; done) | (simp; omega))))) _ _).mono ?_; rintro e w5 ⟨rfl, hb5⟩; obtain ⟨hc5, hf5⟩ := bcell hb5; have hs5 := hb5.size; (try simp at hs5); (try have hl5 := Nat.lt_of_succ_le hs5); (try have hz5x0 : w4.heap.size < w5.heap.size := (by have := hb5.size; (try simp at this); omega)); (try have hn5x0 : ¬ w4.heap.size = w5.heap.size := (by omega)); (try have hm5x0 : ¬ w5.heap.size = w4.heap.size := (by omega)); (try have hz5x1 : w4.heap.size + 1 < w5.heap.size := (by have := hb5.size; (try simp at this); omega)); (try have hn5x1 : ¬ w4.heap.size + 1 = w5.heap.size := (by omega)); (try have hm5x1 : ¬ w5.heap.size = w4.heap.size + 1 := (by omega)); (try have hz5x2 : w4.heap.size + 1 + 1 < w5.heap.size := (by have := hb5.size; (try simp at this); omega)); (try have hn5x2 : ¬ w4.heap.size + 1 + 1 = w5.heap.size := (by omega)); (try have hm5x2 : ¬ w5.heap.size = w4.heap.size + 1 + 1 := (by omega)); (try have c5x00 := hc5 (w4.heap.size) 0 (by first | omega | (simp; done) | (simp; omega))); (try have f5x00 := hf5 (w4.heap.size) 0 (by first | omega | (simp; done) | (simp; omega))); (try have c5x01 := hc5 (w4.heap.size) 1 (by first | omega | (simp; done) | (simp; omega))); (try have f5x01 := hf5 (w4.heap.size) 1 (by first | omega | (simp; done) | (simp; omega))); (try have c5x02 := hc5 (w4.heap.size) 2 (by first | omega | (simp; done) | (simp; omega))); (try have f5x02 := hf5 (w4.heap.size) 2 (by first | omega | (simp; done) | (simp; omega))); (try have c5x10 := hc5 (w4.heap.size + 1) 0 (by first | omega | (simp; done) | (simp; omega))); (try have f5x10 := hf5 (w4.heap.size + 1) 0 (by first | omega | (simp; done) | (simp; omega))); (try have c5x11 := hc5 (w4.heap.size + 1) 1 (by first | omega | (simp; done) | (simp; omega))); (try have f5x11 := hf5 (w4.heap.size + 1) 1 (by first | omega | (simp; done) | (simp; omega))); (try have c5x12 := hc5 (w4.heap.size + 1) 2 (by first | omega | (simp; done) | (simp; omega))); (try have f5x12 := hf5 (w4.heap.size + 1) 2 (by first | omega | (simp; done) | (simp; omega))); (try have c5x20 := hc5 (w4.heap.size + 1 + 1) 0 (by first | omega | (simp; done) | (simp; omega))); (try have f5x20 := hf5 (w4.heap.size + 1 + 1) 0 (by first | omega | (simp; done) | (simp; omega))); (try have c5x21 := hc5 (w4.heap.size + 1 + 1) 1 (by first | omega | (simp; done) | (simp; omega))); (try have f5x21 := hf5 (w4.heap.size + 1 + 1) 1 (by first | omega | (simp; done) | (simp; omega))); (try have c5x22 := hc5 (w4.heap.size + 1 + 1) 2 (by first | omega | (simp; done) | (simp; omega))); (try have f5x22 := hf5 (w4.heap.size + 1 + 1) 2 (by first | omega | (simp; done) | (simp; omega)))) | (go_at_call 36; refine (FI.out _).mono ?_; rintro e w6 ⟨rfl, rfl⟩) | (go_at_call 37; refine (lieI _ _ _ _ _ _ _ _ _ _).mono ?_; rintro e w7 ⟨rfl, hb7⟩; (try rw [LS.out]); obtain ⟨hc7, hf7⟩ := bcell hb7; have hs7 := hb7.size; (try simp at hs7); (try have hl7 := Nat.lt_of_succ_le hs7); (try have hz7x0 : w4.heap.size < w7.heap.size := (by have := hb7.size; (try simp at this); omega)); (try have hn7x0 : ¬ w4.heap.size = w7.heap.size := (by omega)); (try have hm7x0 : ¬ w7.heap.size = w4.heap.size := (by omega)); (try have hz7x1 : w4.heap.size + 1 < w7.heap.size := (by have := hb7.size; (try simp at this); omega)); (try have hn7x1 : ¬ w4.heap.size + 1 = w7.heap.size := (by omega)); (try have hm7x1 : ¬ w7.heap.size = w4.heap.size + 1 := (by omega)); (try have hz7x2 : w4.heap.size + 1 + 1 < w7.heap.size := (by have := hb7.size; (try simp at this); omega)); (try have hn7x2 : ¬ w4.heap.size + 1 + 1 = w7.heap.size := (by omega)); (try have hm7x2 : ¬ w7.heap.size = w4.heap.size + 1 + 1 := (by omega)); (try have c7x00 := hc7 (w4.heap.size) 0 (by first | omega | (simp; done) | (simp; omega))); (try have f7x00 := hf7 (w4.heap.size) 0 (by first | omega | (simp; done) | (simp; omega))); (try have c7x01 := hc7 (w4.heap.size) 1 (by first | omega | (simp; done) | (simp; omega))); (try have f7x01 := hf7 (w4.heap.size) 1 (by first | omega | (simp; done) | (simp; omega))); (try have c7x02 := hc7 (w4.heap.size) 2 (by first | omega | (simp; done) | (simp; omega))); (try have f7x02 := hf7 (w4.heap.size) 2 (by first | omega | (simp; done) | (simp; omega))); (try have c7x10 := hc7 (w4.heap.size + 1) 0 (by first | omega | (simp; done) | (simp; omega))); (try have f7x10 := hf7 (w4.heap.size + 1) 0 (by first | omega | (simp; done) | (simp; omega))); (try have c7x11 := hc7 (w4.heap.size + 1) 1 (by first | omega | (simp; done) | (simp; omega))); (try have f7x11 := hf7 (w4.heap.size + 1) 1 (by first | omega | (simp; done) | (simp; omega))); (try have c7x12 := hc7 (w4.heap.size + 1) 2 (by first | omega | (simp; done) | (simp; omega))); (try have f7x12 := hf7 (w4.heap.size + 1) 2 (by first | omega | (simp; done) | (simp; omega))); (try have c7x20 := hc7 (w4.heap.size + 1 + 1) 0 (by first | omega | (simp; done) | (simp; omega))); (try have f7x20 := hf7 (w4.heap.size + 1 + 1) 0 (by first | omega | (simp; done) | (simp; omega))); (try have c7x21 := hc7 (w4.heap.size + 1 + 1) 1 (by first | omega | (simp; done) | (simp; omega))); (try have f7x21 := hf7 (w4.heap.size + 1 + 1) 1 (by first | omega | (simp; done) | (simp; omega))); (try have c7x22 := hc7 (w4.heap.size + 1 + 1) 2 (by first | omega | (simp; done) | (simp; omega))); (try have f7x22 := hf7 (w4.heap.size + 1 + 1) 2 (by first | omega | (simp; done) | (simp; omega)))) | (go_at_call 38; refine (lieS _ _ _ _ _ _ _ _ _ _).mono ?_; rintro e w8 ⟨rfl, hb8⟩; obtain ⟨hc8, hf8⟩ := bcell hb8; have hs8 := hb8.size; (try simp at hs8); (try have hl8 := Nat.lt_of_succ_le hs8); (try have hz8x0 : w4.heap.size < w8.heap.size := (by have := hb8.size; (try simp at this); omega)); (try have hn8x0 : ¬ w4.heap.size = w8.heap.size := (by omega)); (try have hm8x0 : ¬ w8.heap.size = w4.heap.size := (by omega)); (try have hz8x1 : w4.heap.size + 1 < w8.heap.size := (by have := hb8.size; (try simp at this); omega)); (try have hn8x1 : ¬ w4.heap.size + 1 = w8.heap.size := (by omega)); (try have hm8x1 : ¬ w8.heap.size = w4.heap.size + 1 := (by omega)); (try have hz8x2 : w4.heap.size + 1 + 1 < w8.heap.size := (by have := hb8.size; (try simp at this); omega)); (try have hn8x2 : ¬ w4.heap.size + 1 + 1 = w8.heap.size := (by omega)); (try have hm8x2 : ¬ w8.heap.size = w4.heap.size + 1 + 1 := (by omega)); (try have c8x00 := hc8 (w4.heap.size) 0 (by first | omega | (simp; done) | (simp; omega))); (try have f8x00 := hf8 (w4.heap.size) 0 (by first | omega | (simp; done) | (simp; omega))); (try have c8x01 := hc8 (w4.heap.size) 1 (by first | omega | (simp; done) | (simp; omega))); (try have f8x01 := hf8 (w4.heap.size) 1 (by first | omega | (simp; done) | (simp; omega))); (try have c8x02 := hc8 (w4.heap.size) 2 (by first | omega | (simp; done) | (simp; omega))); (try have f8x02 := hf8 (w4.heap.size) 2 (by first | omega | (simp; done) | (simp; omega))); (try have c8x10 := hc8 (w4.heap.size + 1) 0 (by first | omega | (simp; done) | (simp; omega))); (try have f8x10 := hf8 (w4.heap.size + 1) 0 (by first | omega | (simp; done) | (simp; omega))); (try have c8x11 := hc8 (w4.heap.size + 1) 1 (by first | omega | (simp; done) | (simp; omega))); (try have f8x11 := hf8 (w4.heap.size + 1) 1 (by first | omega | (simp; done) | (simp; omega))); (try have c8x12 := hc8 (w4.heap.size + 1) 2 (by first | omega | (simp; done) | (simp; omega))); (try have f8x12 := hf8 (w4.heap.size + 1) 2 (by first | omega | (simp; done) | (simp; omega))); (try have c8x20 := hc8 (w4.heap.size + 1 + 1) 0 (by first | omega | (simp; done) | (simp; omega))); (try have f8x20 := hf8 (w4.heap.size + 1 + 1) 0 (by first | omega | (simp; done) | (simp; omega))); (try have c8x21 := hc8 (w4.heap.size + 1 + 1) 1 (by first | omega | (simp; done) | (simp; omega))); (try have f8x21 := hf8 (w4.heap.size + 1 + 1) 1 (by first | omega | (simp; done) | (simp; omega))); (try have c8x22 := hc8 (w4.heap.size + 1 + 1) 2 (by first | omega | (simp; done) | (simp; omega))); (try have f8x22 := hf8 (w4.heap.size + 1 + 1) 2 (by first | omega | (simp; done) | (simp; omega))))))
  go_wp2_with fail
  rename World => wv
  have hbv : Below w4.heap.size w4 wv := by (repeat' (first | (with_reducible exact Below.refl _ _) | (with_reducible assumption) | (with_reducible refine bStep ?_ (by with_reducible assumption)) | (with_reducible refine bAlloc ?_ _) | (with_reducible refine bDrew ?_) | (with_reducible refine bDrewN ?_ _) | (with_reducible refine Below.setCell ?_ ?_ _) | (with_reducible exact Nat.le_refl _) | (simp; done) | (simp; omega)))
  have hbw : Below w.heap.size w wv := by (repeat' (first | (with_reducible exact Below.refl _ _) | (with_reducible assumption) | (with_reducible refine bStep ?_ (by with_reducible assumption)) | (with_reducible refine bAlloc ?_ _) | (with_reducible refine bDrew ?_) | (with_reducible refine bDrewN ?_ _) | (with_reducible refine Below.setCell ?_ ?_ _) | (with_reducible exact Nat.le_refl _) | (simp; done) | (simp; omega)))
  have J := Lib.hid (J2.out.below hbv)
  obtain ⟨W, hW⟩ : ∃ W, wv = W := ⟨_, rfl⟩
  go_loopw [14] (fun v wr => ∃ k : Nat, k ≤ kk + 1 ∧ v = .int .i64 k ∧ Below wv.heap.size wv wr) (fun v _ => kk + 1 - (intOf v).toNat)
  case atStart => exact ⟨0, Nat.zero_le _, rfl, Below.refl _ _⟩
  case round =>
    obtain ⟨i, hi, rfl, hbel⟩ := hrel
    by_cases hlt : i < kk + 1
    · obtain ⟨b, rfl, hb, hcb⟩ := (J.out.below hbel).2 (by omega)
      obtain ⟨p0, p1, p2⟩ := hcb 0 (by omega)
      obtain ⟨r0, r1, r2⟩ := hcb kk (by omega)
      have LB := Lib.hid (KL.out i (by omega))
      simp only [Nat.zero_mul, Nat.zero_add] at p0 p1 p2
      have fk0 : (0 : Int) ≤ (kk : Int) := by omega
      have fk1 : (kk : Int) < (kk : Int) + 1 := by omega
      have fk2 : IntKind.i64.wrap (kk : Int) = (kk : Int) := IntWalk.i64_in _ (by omega)
      have fk3 : IntKind.i64.wrap ((kk : Int) + 1 - 1) = (kk : Int) := by rw [Int.add_sub_cancel]; exact fk2
      have fk4 : IntKind.i64.wrap (((kk + 1 : Nat) : Int) - 1) = (kk : Int) := by rw [show (((kk + 1 : Nat) : Int) - 1) = (kk : Int) from by omega]; exact fk2
      have fk5 : (kk : Int) < ((kk + 1 : Nat) : Int) := by omega
      have fk6 : kk < kk + 1 := by omega
      rcases i with _ | j
      · generalize F 0 = x0 at *
        generalize G 0 = y0 at *
        generalize H 0 = z0 at *
        generalize F kk = x1 at *
        generalize G kk = y1 at *
        generalize H kk = z1 at *
        clear hcb KL KC J J2 J3
        go_wp2_with fail
        go_region_held3 (fun w' => w'.cell? ⟨b, 0, none⟩ = some (.int .i64 x0) ∧ w'.cell? ⟨b, 1, none⟩ = some (.int .i64 y0) ∧ w'.cell? ⟨b, 2, none⟩ = some (.int .i64 z0) ∧ w'.cell? ⟨b, kk * 3, none⟩ = some (.int .i64 x1) ∧ w'.cell? ⟨b, kk * 3 + 1, none⟩ = some (.int .i64 y1) ∧ w'.cell? ⟨b, kk * 3 + 2, none⟩ = some (.int .i64 z1)) ((go_keep) <;> go_simp)
          ((first | (go_at_call 37; refine (LB.out _).mono ?_; rintro e w9 ⟨rfl, hb9⟩; obtain ⟨hcq, hfq⟩ := bcell hb9; have hs9 := hb9.size; (try simp at hs9); (try have k90 := hcq b (0) (by first | omega | (simp; omega))); (try have k91 := hcq b (1) (by first | omega | (simp; omega))); (try have k92 := hcq b (2) (by first | omega | (simp; omega))); (try have k93 := hcq b (kk * 3) (by first | omega | (simp; omega))); (try have k94 := hcq b (kk * 3 + 1) (by first | omega | (simp; omega))); (try have k95 := hcq b (kk * 3 + 2) (by first | omega | (simp; omega))))))
        all_goals go_wp2
        all_goals go_roundw
        all_goals first
          | (case rel => exact ⟨1, by omega, by go_num, by (repeat' (first | (with_reducible exact Below.refl _ _) | (with_reducible assumption) | (with_reducible refine bStep ?_ (by with_reducible assumption)) | (with_reducible refine bAlloc ?_ _) | (with_reducible refine bDrew ?_) | (with_reducible refine bDrewN ?_ _) | (with_reducible refine Below.setCell ?_ ?_ _) | (with_reducible exact Nat.le_refl _) | (simp; done) | (simp; omega)))⟩)
          | skip
        all_goals first | (simp [intOf]; done) | (simp [intOf]; omega)
      · obtain ⟨s0, s1, s2⟩ := hcb (j + 1) (by omega)
        obtain ⟨t0, t1, t2⟩ := hcb j (by omega)
        have CB := Lib.hid (KC.out j (by omega))
        have ej : ((j + 1 : Nat) : Int) = (j : Int) + 1 := by omega
        have fj0 : (0 : Int) ≤ (j : Int) + 1 := by omega
        have fj1 : (j : Int) + 1 < (kk : Int) + 1 := by omega
        have fj2 : (j : Int) < (kk : Int) := by omega
        have fj3 : (j : Int) + 1 < ((kk + 1 : Nat) : Int) := by omega
        have fj4 : j < kk := by omega
        have fj5 : (0 : Int) ≤ (j : Int) := by omega
        have fj6 : (j : Int) < ((kk + 1 : Nat) : Int) := by omega
        have fj7 : (j : Int) < (kk : Int) + 1 := by omega
        have fj8 : (j : Int) + 1 ≤ (kk : Int) := by omega
        have fj9 : IntKind.i64.wrap (j : Int) = (j : Int) := IntWalk.i64_in _ (by omega)
        have fj10 : IntKind.i64.wrap ((j : Int) + 1 - 1) = (j : Int) := by rw [Int.add_sub_cancel]; exact fj9
        have fj11 : j < kk + 1 := by omega
        rw [ej]
        have Wj : IntKind.i64.wrap ((j : Int) + 1) = (j : Int) + 1 := IntWalk.i64_in _ (by omega)
        generalize F (j + 1) = x2 at *
        generalize G (j + 1) = y2 at *
        generalize H (j + 1) = z2 at *
        generalize F j = x3 at *
        generalize G j = y3 at *
        generalize H j = z3 at *
        generalize F 0 = x0 at *
        generalize G 0 = y0 at *
        generalize H 0 = z0 at *
        generalize F kk = x1 at *
        generalize G kk = y1 at *
        generalize H kk = z1 at *
        clear hcb KL KC J J2 J3
        go_wp2_with fail
        go_region_held3 (fun w' => w'.cell? ⟨b, 0, none⟩ = some (.int .i64 x0) ∧ w'.cell? ⟨b, 1, none⟩ = some (.int .i64 y0) ∧ w'.cell? ⟨b, 2, none⟩ = some (.int .i64 z0) ∧ w'.cell? ⟨b, kk * 3, none⟩ = some (.int .i64 x1) ∧ w'.cell? ⟨b, kk * 3 + 1, none⟩ = some (.int .i64 y1) ∧ w'.cell? ⟨b, kk * 3 + 2, none⟩ = some (.int .i64 z1) ∧ w'.cell? ⟨b, (j + 1) * 3, none⟩ = some (.int .i64 x2) ∧ w'.cell? ⟨b, (j + 1) * 3 + 1, none⟩ = some (.int .i64 y2) ∧ w'.cell? ⟨b, (j + 1) * 3 + 2, none⟩ = some (.int .i64 z2)) ((go_keep) <;> go_simp)
          ((first | (go_at_call 37; refine (LB.out _).mono ?_; rintro e w9 ⟨rfl, hb9⟩; obtain ⟨hcq, hfq⟩ := bcell hb9; have hs9 := hb9.size; (try simp at hs9); (try have k90 := hcq b (0) (by first | omega | (simp; omega))); (try have k91 := hcq b (1) (by first | omega | (simp; omega))); (try have k92 := hcq b (2) (by first | omega | (simp; omega))); (try have k93 := hcq b (kk * 3) (by first | omega | (simp; omega))); (try have k94 := hcq b (kk * 3 + 1) (by first | omega | (simp; omega))); (try have k95 := hcq b (kk * 3 + 2) (by first | omega | (simp; omega))); (try have k96 := hcq b (j * 3) (by first | omega | (simp; omega))); (try have k97 := hcq b (j * 3 + 1) (by first | omega | (simp; omega))); (try have k98 := hcq b (j * 3 + 2) (by first | omega | (simp; omega))); (try have k99 := hcq b ((j + 1) * 3) (by first | omega | (simp; omega))); (try have k910 := hcq b ((j + 1) * 3 + 1) (by first | omega | (simp; omega))); (try have k911 := hcq b ((j + 1) * 3 + 2) (by first | omega | (simp; omega))))))
        all_goals go_wp2_with fail
        all_goals (go_region_held3 (fun w' => w'.cell? ⟨b, j * 3, none⟩ = some (.int .i64 x3) ∧ w'.cell? ⟨b, j * 3 + 1, none⟩ = some (.int .i64 y3) ∧ w'.cell? ⟨b, j * 3 + 2, none⟩ = some (.int .i64 z3) ∧ w'.cell? ⟨b, (j + 1) * 3, none⟩ = some (.int .i64 x2) ∧ w'.cell? ⟨b, (j + 1) * 3 + 1, none⟩ = some (.int .i64 y2) ∧ w'.cell? ⟨b, (j + 1) * 3 + 2, none⟩ = some (.int .i64 z2)) ((go_keep) <;> go_simp)
          ((first | (go_at_call 18; refine (CB.out _).mono ?_; rintro e w10 ⟨rfl, hb10⟩; obtain ⟨hcq, hfq⟩ := bcell hb10; have hs10 := hb10.size; (try simp at hs10); (try have k100 := hcq b (0) (by first | omega | (simp; omega))); (try have k101 := hcq b (1) (by first | omega | (simp; omega))); (try have k102 := hcq b (2) (by first | omega | (simp; omega))); (try have k103 := hcq b (kk * 3) (by first | omega | (simp; omega))); (try have k104 := hcq b (kk * 3 + 1) (by first | omega | (simp; omega))); (try have k105 := hcq b (kk * 3 + 2) (by first | omega | (simp; omega))); (try have k106 := hcq b (j * 3) (by first | omega | (simp; omega))); (try have k107 := hcq b (j * 3 + 1) (by first | omega | (simp; omega))); (try have k108 := hcq b (j * 3 + 2) (by first | omega | (simp; omega))); (try have k109 := hcq b ((j + 1) * 3) (by first | omega | (simp; omega))); (try have k1010 := hcq b ((j + 1) * 3 + 1) (by first | omega | (simp; omega))); (try have k1011 := hcq b ((j + 1) * 3 + 2) (by first | omega | (simp; omega)))))))
        all_goals go_wp2
        all_goals go_roundw
        all_goals first
          | (case rel => exact ⟨j + 1 + 1, by omega, by go_num, by (repeat' (first | (with_reducible exact Below.refl _ _) | (with_reducible assumption) | (with_reducible refine bStep ?_ (by with_reducible assumption)) | (with_reducible refine bAlloc ?_ _) | (with_reducible refine bDrew ?_) | (with_reducible refine bDrewN ?_ _) | (with_reducible refine Below.setCell ?_ ?_ _) | (with_reducible exact Nat.le_refl _) | (simp; done) | (simp; omega)))⟩)
          | skip
        all_goals first | (simp [intOf]; done) | (simp [intOf]; omega)
    · obtain rfl : i = kk + 1 := by omega
      have W1 : IntKind.i64.wrap (l + (kk : Int) - l) = (kk : Int) := by rw [show l + (kk : Int) - l = (kk : Int) by omega]; exact IntWalk.i64_in _ (by omega)
      have W2 : IntKind.i64.wrap ((kk : Int) + 1) = (kk : Int) + 1 := IntWalk.i64_in _ (by omega)
      have e2 : (((kk + 1 : Nat) : Int) == (kk : Int) + 1) = true := by simp
      go_wp2
      go_ret
      exact ⟨ret_b (by first | rfl | exact e2 | simp), by (repeat' (first | (with_reducible exact Below.refl _ _) | (with_reducible assumption) | (with_reducible refine bStep ?_ (by with_reducible assumption)) | (with_reducible refine bAlloc ?_ _) | (with_reducible refine bDrew ?_) | (with_reducible refine bDrewN ?_ _) | (with_reducible refine Below.setCell ?_ ?_ _) | (with_reducible exact Nat.le_refl _) | (simp; done) | (simp; omega)))⟩
end Go.Proofs.Ytincelkcbdjcjaa
