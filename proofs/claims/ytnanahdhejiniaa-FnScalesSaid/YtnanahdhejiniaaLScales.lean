/- The law on scaled intervals. -/
import Derived.Test.YtnanahdhejiniaaDrawI
import Derived.Test.YtnanahdhejiniaaDice
import Derived.Test.YtnanahdhejiniaaLawI
import Derived.Test.YtnanahdhejiniaaWScale
import Derived.Deep.RegionHeld3
import Derived.Deep.RegionWith
import Derived.Laws.StructEq
namespace Go.Proofs.Ytnanahdhejiniaa
open Go.RowKit
set_option linter.unusedVariables false
variable {w : World}

theorem si_zero {l h n d : Int} (hc : siC l h n d = 0) : siOk l h n d = true ∧ siL l h n d = siA l h n d ∧ siH l h n d = siB l h n d ∧ (-1000000000000 ≤ siA l h n d ∧ siA l h n d ≤ 1000000000000) ∧ -1000000000000 ≤ siB l h n d ∧ siB l h n d ≤ 1000000000000 := by
  unfold siC at hc
  split at hc
  · split at hc
    · rename_i h1 h2
      unfold rsC at hc
      split at hc
      · rename_i h3
        have h4 : isV (siA l h n d) = true ∧ isV (siB l h n d) = true := by simpa [rsOk] using h3
        refine ⟨h2, ?_, ?_, isV_t h4.1, isV_t h4.2⟩
        · unfold siL; rw [if_pos h2]; unfold rsL; rw [if_pos h3]
        · unfold siH; rw [if_pos h2]; unfold rsH; rw [if_pos h3]
      · omega
    · omega
  · omega
set_option maxHeartbeats 1600000 in
theorem wScales (A : Option Addr) (n c : Nat) (zs : List Int) (H : Ints .u8 w A n zs) :
    Calls Try.prog 7 #[.slice A n c] w fun e w' => e = .returned (.bool true) ∧ Below w.heap.size w w' := by
  have hn := H.le
  by_cases hb : (4096 : Int) < (n : Int)
  · go_enter Try.func7, Try.ntmps7
    go_wp2_with (first | (go_at_call 15; refine (bigL _ _ _ _).mono ?_; rintro e w' ⟨rfl, rfl⟩))
    go_ret
    exact ⟨rfl, Below.refl _ _⟩
  go_enter Try.func7, Try.ntmps7
  go_wp2_with (first | (go_at_call 15; refine (bigL _ _ _ _).mono ?_; rintro e w' ⟨rfl, rfl⟩))
  refine (drScaledInterval H c).mono ?_
  rintro e w1 ⟨a, b, m, d, rfl, ⟨ha, hb', hm, hd⟩, hB⟩
  have hsB := hB.size
  by_cases hc : siC a b m d = 0
  case neg =>
    have E1 : (siC a b m d != 0) = true := by simpa using hc
    go_wp2_with fail
    (refine (scaI _ _ _ _ _).mono ?_; rintro e w2 ⟨rfl, hb2⟩; obtain ⟨hc2, hf2⟩ := bcell hb2; have hs2 := hb2.size; (try simp at hs2); (try have hl2 := Nat.lt_of_succ_le hs2); (try have hz2x0 : w1.heap.size < w2.heap.size := (by have := hb2.size; (try simp at this); omega)); (try have hn2x0 : ¬ w1.heap.size = w2.heap.size := (by omega)); (try have hm2x0 : ¬ w2.heap.size = w1.heap.size := (by omega)); (try have c2x00 := hc2 (w1.heap.size) 0 (by first | omega | (simp; done) | (simp; omega))); (try have f2x00 := hf2 (w1.heap.size) 0 (by first | omega | (simp; done) | (simp; omega))); (try have c2x01 := hc2 (w1.heap.size) 1 (by first | omega | (simp; done) | (simp; omega))); (try have f2x01 := hf2 (w1.heap.size) 1 (by first | omega | (simp; done) | (simp; omega))))
    go_wp2_with fail
    (refine (scaS _ _ _ _ _).mono ?_; rintro e w3 ⟨rfl, hb3⟩; obtain ⟨hc3, hf3⟩ := bcell hb3; have hs3 := hb3.size; (try simp at hs3); (try have hl3 := Nat.lt_of_succ_le hs3); (try have hz3x0 : w1.heap.size < w3.heap.size := (by have := hb3.size; (try simp at this); omega)); (try have hn3x0 : ¬ w1.heap.size = w3.heap.size := (by omega)); (try have hm3x0 : ¬ w3.heap.size = w1.heap.size := (by omega)); (try have hz3x1 : w2.heap.size < w3.heap.size := (by have := hb3.size; (try simp at this); omega)); (try have hn3x1 : ¬ w2.heap.size = w3.heap.size := (by omega)); (try have hm3x1 : ¬ w3.heap.size = w2.heap.size := (by omega)); (try have c3x00 := hc3 (w1.heap.size) 0 (by first | omega | (simp; done) | (simp; omega))); (try have f3x00 := hf3 (w1.heap.size) 0 (by first | omega | (simp; done) | (simp; omega))); (try have c3x01 := hc3 (w1.heap.size) 1 (by first | omega | (simp; done) | (simp; omega))); (try have f3x01 := hf3 (w1.heap.size) 1 (by first | omega | (simp; done) | (simp; omega))); (try have c3x10 := hc3 (w2.heap.size) 0 (by first | omega | (simp; done) | (simp; omega))); (try have f3x10 := hf3 (w2.heap.size) 0 (by first | omega | (simp; done) | (simp; omega))); (try have c3x11 := hc3 (w2.heap.size) 1 (by first | omega | (simp; done) | (simp; omega))); (try have f3x11 := hf3 (w2.heap.size) 1 (by first | omega | (simp; done) | (simp; omega))))
    go_wp2
    go_ret
    exact ⟨rfl, by (repeat' (first | (with_reducible exact Below.refl _ _) | (with_reducible assumption) | (with_reducible refine Gr.bel (by with_reducible assumption) ?_ ?_) | (with_reducible refine bStep ?_ (by with_reducible assumption)) | (with_reducible refine bAlloc ?_ _) | (with_reducible refine bDrew ?_) | (with_reducible refine bDrewN ?_ _) | (with_reducible refine Below.setCell ?_ ?_ _) | (with_reducible exact Nat.le_refl _) | omega | (simp; done) | (simp; omega)))⟩
  obtain ⟨z1, z2, z3, z4, z5⟩ := si_zero hc
  have hok : isIv a b = true ∧ inB m (-1000000) 1000000 = true ∧ inB d 1 1000000 = true := by simpa [siOk] using z1
  have b1 := isIv_bdp hok.1
  have b2 := inB_t hok.2.1
  have b3 := inB_t hok.2.2
  have m1 := mul_bdp (x := siA a b m d) (y := d) 1000000000000 1000000 (by omega) (by omega)
  have m2 := mul_bdp (x := siB a b m d) (y := d) 1000000000000 1000000 (by omega) (by omega)
  have VA : Hid (flo (mnV (a * m) (b * m)) d = siA a b m d) := rfl
  have VB : Hid (cel (mxV (a * m) (b * m)) d = siB a b m d) := rfl
  obtain ⟨lo, hlo⟩ : ∃ lo, siA a b m d = lo := ⟨_, rfl⟩
  obtain ⟨hi, hhi⟩ : ∃ hi, siB a b m d = hi := ⟨_, rfl⟩
  rw [hlo] at z2 z4 m1 VA
  rw [hhi] at z3 z5 m2 VB
  obtain ⟨LL, hL⟩ : ∃ x, lo * d = x := ⟨_, rfl⟩
  obtain ⟨HH, hH⟩ : ∃ x, hi * d = x := ⟨_, rfl⟩
  rw [hL] at m1
  rw [hH] at m2
  have r1 : -1000000000000000000 ≤ LL ∧ LL ≤ 1000000000000000000 := by omega
  have r2 : -1000000000000000000 ≤ HH ∧ HH ≤ 1000000000000000000 := by omega
  have Wa : IntKind.i64.wrap (b - a) = b - a := IntWalk.i64_in _ (by omega)
  have Wb : IntKind.i64.wrap (b - a + 1) = b - a + 1 := IntWalk.i64_in _ (by omega)
  clear z1 hok m1 m2 hlo hhi
  go_wp2_with fail
  (refine (scaI _ _ _ _ _).mono ?_; rintro e w2 ⟨rfl, hb2⟩; obtain ⟨hc2, hf2⟩ := bcell hb2; have hs2 := hb2.size; (try simp at hs2); (try have hl2 := Nat.lt_of_succ_le hs2); (try have hz2x0 : w1.heap.size < w2.heap.size := (by have := hb2.size; (try simp at this); omega)); (try have hn2x0 : ¬ w1.heap.size = w2.heap.size := (by omega)); (try have hm2x0 : ¬ w2.heap.size = w1.heap.size := (by omega)); (try have c2x00 := hc2 (w1.heap.size) 0 (by first | omega | (simp; done) | (simp; omega))); (try have f2x00 := hf2 (w1.heap.size) 0 (by first | omega | (simp; done) | (simp; omega))); (try have c2x01 := hc2 (w1.heap.size) 1 (by first | omega | (simp; done) | (simp; omega))); (try have f2x01 := hf2 (w1.heap.size) 1 (by first | omega | (simp; done) | (simp; omega))))
  go_wp2_with fail
  (refine (scaS _ _ _ _ _).mono ?_; rintro e w3 ⟨rfl, hb3⟩; obtain ⟨hc3, hf3⟩ := bcell hb3; have hs3 := hb3.size; (try simp at hs3); (try have hl3 := Nat.lt_of_succ_le hs3); (try have hz3x0 : w1.heap.size < w3.heap.size := (by have := hb3.size; (try simp at this); omega)); (try have hn3x0 : ¬ w1.heap.size = w3.heap.size := (by omega)); (try have hm3x0 : ¬ w3.heap.size = w1.heap.size := (by omega)); (try have hz3x1 : w2.heap.size < w3.heap.size := (by have := hb3.size; (try simp at this); omega)); (try have hn3x1 : ¬ w2.heap.size = w3.heap.size := (by omega)); (try have hm3x1 : ¬ w3.heap.size = w2.heap.size := (by omega)); (try have c3x00 := hc3 (w1.heap.size) 0 (by first | omega | (simp; done) | (simp; omega))); (try have f3x00 := hf3 (w1.heap.size) 0 (by first | omega | (simp; done) | (simp; omega))); (try have c3x01 := hc3 (w1.heap.size) 1 (by first | omega | (simp; done) | (simp; omega))); (try have f3x01 := hf3 (w1.heap.size) 1 (by first | omega | (simp; done) | (simp; omega))); (try have c3x10 := hc3 (w2.heap.size) 0 (by first | omega | (simp; done) | (simp; omega))); (try have f3x10 := hf3 (w2.heap.size) 0 (by first | omega | (simp; done) | (simp; omega))); (try have c3x11 := hc3 (w2.heap.size) 1 (by first | omega | (simp; done) | (simp; omega))); (try have f3x11 := hf3 (w2.heap.size) 1 (by first | omega | (simp; done) | (simp; omega))))
  go_wp2_with fail
  go_region_held3 (fun w' => w'.cell? ⟨w1.heap.size, 0, none⟩ = some (.int .i64 (a)) ∧ w'.cell? ⟨w1.heap.size, 1, none⟩ = some (.int .i64 (b))) ((go_keep) <;> go_simp)
    ((first | (go_at_call 27; refine (rollL (H.below (by (repeat' (first | (with_reducible exact Below.refl _ _) | (with_reducible assumption) | (with_reducible refine bStep ?_ (by with_reducible assumption)) | (with_reducible refine bAlloc ?_ _) | (with_reducible refine bDrew ?_) | (with_reducible refine bDrewN ?_ _) | (with_reducible refine Below.setCell ?_ ?_ _) | (with_reducible exact Nat.le_refl _) | (simp; done) | (simp; omega))))) _ 203 (by omega)).mono ?_; rintro e w4 ⟨gD, rfl, hgD, hD, hb4⟩; obtain ⟨hc4, hf4⟩ := bcell hb4; have hs4 := hb4.size; (try simp at hs4); (try have hl4 := Nat.lt_of_succ_le hs4); (try have hz4x0 : w1.heap.size < w4.heap.size := (by have := hb4.size; (try simp at this); omega)); (try have hn4x0 : ¬ w1.heap.size = w4.heap.size := (by omega)); (try have hm4x0 : ¬ w4.heap.size = w1.heap.size := (by omega)); (try have hz4x1 : w2.heap.size < w4.heap.size := (by have := hb4.size; (try simp at this); omega)); (try have hn4x1 : ¬ w2.heap.size = w4.heap.size := (by omega)); (try have hm4x1 : ¬ w4.heap.size = w2.heap.size := (by omega)); (try have c4x00 := hc4 (w1.heap.size) 0 (by first | omega | (simp; done) | (simp; omega))); (try have f4x00 := hf4 (w1.heap.size) 0 (by first | omega | (simp; done) | (simp; omega))); (try have c4x01 := hc4 (w1.heap.size) 1 (by first | omega | (simp; done) | (simp; omega))); (try have f4x01 := hf4 (w1.heap.size) 1 (by first | omega | (simp; done) | (simp; omega))); (try have c4x10 := hc4 (w2.heap.size) 0 (by first | omega | (simp; done) | (simp; omega))); (try have f4x10 := hf4 (w2.heap.size) 0 (by first | omega | (simp; done) | (simp; omega))); (try have c4x11 := hc4 (w2.heap.size) 1 (by first | omega | (simp; done) | (simp; omega))); (try have f4x11 := hf4 (w2.heap.size) 1 (by first | omega | (simp; done) | (simp; omega))); have hLD := hD.lt; (try simp at hgD)) | (go_at_call 28; refine (fallL (Dice.keep hD (by (repeat' (first | (with_reducible exact Below.refl _ _) | (with_reducible assumption) | (with_reducible refine kStep ?_ (by with_reducible assumption) ?_) | (with_reducible refine kAlloc ?_ _ ?_) | (with_reducible refine kDrew ?_) | (with_reducible refine kDrewN ?_ _) | (with_reducible refine kSet ?_ _ ?_) | (simp; done) | (simp; omega) | omega)))) _ (by omega)).mono ?_; rintro e w5 ⟨t, rfl, ⟨t0, t1⟩, hD, hGD⟩; have hLD := hD.lt; have hszD := hGD.size; (try simp at hszD); (try rw [Wb] at t1); have hbF5 := hGD.bel (V := w) (by (repeat' (first | (with_reducible exact Below.refl _ _) | (with_reducible assumption) | (with_reducible refine Gr.bel (by with_reducible assumption) ?_ ?_) | (with_reducible refine bStep ?_ (by with_reducible assumption)) | (with_reducible refine bAlloc ?_ _) | (with_reducible refine bDrew ?_) | (with_reducible refine bDrewN ?_ _) | (with_reducible refine Below.setCell ?_ ?_ _) | (with_reducible exact Nat.le_refl _) | omega | (simp; done) | (simp; omega)))) (by omega); (try have hz5x0 : w1.heap.size < w5.heap.size := (by first | omega | (simp; omega))); (try have hn5x0 : ¬ w1.heap.size = w5.heap.size := (by omega)); (try have hm5x0 : ¬ w5.heap.size = w1.heap.size := (by omega)); (try have c5x00 := hGD.cell (w1.heap.size) 0 (by first | omega | (simp; done) | (simp; omega)) (by first | omega | (simp; omega))); (try have f5x00 := hGD.frozen (w1.heap.size) 0 (by first | omega | (simp; done) | (simp; omega)) (by first | omega | (simp; omega))); (try have c5x01 := hGD.cell (w1.heap.size) 1 (by first | omega | (simp; done) | (simp; omega)) (by first | omega | (simp; omega))); (try have f5x01 := hGD.frozen (w1.heap.size) 1 (by first | omega | (simp; done) | (simp; omega)) (by first | omega | (simp; omega))); (try have hz5x1 : w2.heap.size < w5.heap.size := (by first | omega | (simp; omega))); (try have hn5x1 : ¬ w2.heap.size = w5.heap.size := (by omega)); (try have hm5x1 : ¬ w5.heap.size = w2.heap.size := (by omega)); (try have c5x10 := hGD.cell (w2.heap.size) 0 (by first | omega | (simp; done) | (simp; omega)) (by first | omega | (simp; omega))); (try have f5x10 := hGD.frozen (w2.heap.size) 0 (by first | omega | (simp; done) | (simp; omega)) (by first | omega | (simp; omega))); (try have c5x11 := hGD.cell (w2.heap.size) 1 (by first | omega | (simp; done) | (simp; omega)) (by first | omega | (simp; omega))); (try have f5x11 := hGD.frozen (w2.heap.size) 1 (by first | omega | (simp; done) | (simp; omega)) (by first | omega | (simp; omega))); have Wt : IntKind.i64.wrap (a + t) = a + t := IntWalk.i64_in _ (by omega); have SL := scale_law (l := a) (h := b) (v := a + t) (m := m) (D := d) (by omega) (by omega) (by omega); have mv := mul_bdp (x := a + t) (y := m) 1000000000000 1000000 (by omega) (by omega); obtain ⟨v, hv⟩ : ∃ v, (a + t) * m = v := ⟨_, rfl⟩; rw [hv] at SL mv; rw [VA.out, VB.out, hL, hH] at SL; obtain ⟨SL1, SL2⟩ := SL; have Wv : IntKind.i64.wrap v = v := IntWalk.i64_in _ (by omega))))
  all_goals go_wp2
  all_goals go_ret
  all_goals exact ⟨rfl, by (repeat' (first | (with_reducible exact Below.refl _ _) | (with_reducible assumption) | (with_reducible refine Gr.bel (by with_reducible assumption) ?_ ?_) | (with_reducible refine bStep ?_ (by with_reducible assumption)) | (with_reducible refine bAlloc ?_ _) | (with_reducible refine bDrew ?_) | (with_reducible refine bDrewN ?_ _) | (with_reducible refine Below.setCell ?_ ?_ _) | (with_reducible exact Nat.le_refl _) | omega | (simp; done) | (simp; omega)))⟩
end Go.Proofs.Ytnanahdhejiniaa
