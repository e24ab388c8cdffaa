/- Contracts of the hull of a list of intervals. -/
import Derived.Test.YtincelkcbdjcjaaSum
namespace Go.Proofs.Ytincelkcbdjcjaa
open Go.RowKit
set_option linter.unusedVariables false

set_option maxHeartbeats 1600000 in
theorem encI {w : World} {A : Option Addr} {n : Nat} {xs : List Iv} (H : Ivs w A n xs) (c : Nat) :
    Calls Try.prog 25 #[.slice A n c] w fun e w' => e = .returned (.tuple #[.agg #[.int .i64 (enL xs), .int .i64 (enH xs)], .int .i64 (enC xs)]) ∧ Below w.heap.size w w' := by
  have hn := H.le
  have hl := H.len
  by_cases h2 : 200 < n
  · have g1 : (200 : Int) < (n : Int) := by omega
    have V : Hid (200 < xs.length) := by show 200 < xs.length; omega
    go_enter Try.func25, Try.ntmps25
    go_wp2
    first | go_ret2 | (refine bodyPost_ret (by simp [results, Try.results25, go_sem, *]; try rfl) rfl ?_)
    exact ⟨by simp [enL, enH, enC, V.out], by (repeat' (first | (with_reducible exact Below.refl _ _) | (with_reducible assumption) | (with_reducible refine bStep ?_ (by with_reducible assumption)) | (with_reducible refine bAlloc ?_ _) | (with_reducible refine bDrew ?_) | (with_reducible refine bDrewN ?_ _) | (with_reducible refine Below.setCell ?_ ?_ _) | (with_reducible exact Nat.le_refl _) | (simp; done) | (simp; omega)))⟩
  have g1 : ¬ (200 : Int) < (n : Int) := by omega
  have V : Hid (¬ 200 < xs.length) := by show ¬ 200 < xs.length; omega
  rcases ha : allIv xs
  · go_enter Try.func25, Try.ntmps25
    go_wp2_with (first | (go_at_call 69; refine (areIvI (H.below (by (repeat' (first | (with_reducible exact Below.refl _ _) | (with_reducible assumption) | (with_reducible refine bStep ?_ (by with_reducible assumption)) | (with_reducible refine bAlloc ?_ _) | (with_reducible refine bDrew ?_) | (with_reducible refine bDrewN ?_ _) | (with_reducible refine Below.setCell ?_ ?_ _) | (with_reducible exact Nat.le_refl _) | (simp; done) | (simp; omega))))) _).mono ?_; rintro e w1 ⟨rfl, hb1⟩; obtain ⟨hc1, hf1⟩ := bcell hb1; have hs1 := hb1.size; (try simp at hs1); (try have hl1 := Nat.lt_of_succ_le hs1); (try have hz10 : w.heap.size < w1.heap.size := (by have := hb1.size; (try simp at this); omega)); (try have hn10 : ¬ w.heap.size = w1.heap.size := (by omega)); (try have hm10 : ¬ w1.heap.size = w.heap.size := (by omega)); (try have hz11 : w.heap.size + 1 < w1.heap.size := (by have := hb1.size; (try simp at this); omega)); (try have hn11 : ¬ w.heap.size + 1 = w1.heap.size := (by omega)); (try have hm11 : ¬ w1.heap.size = w.heap.size + 1 := (by omega)); (try have c100 := hc1 (w.heap.size) 0 (by first | omega | (simp; done) | (simp; omega))); (try have f100 := hf1 (w.heap.size) 0 (by first | omega | (simp; done) | (simp; omega))); (try have c101 := hc1 (w.heap.size) 1 (by first | omega | (simp; done) | (simp; omega))); (try have f101 := hf1 (w.heap.size) 1 (by first | omega | (simp; done) | (simp; omega))); (try have c110 := hc1 (w.heap.size + 1) 0 (by first | omega | (simp; done) | (simp; omega))); (try have f110 := hf1 (w.heap.size + 1) 0 (by first | omega | (simp; done) | (simp; omega))); (try have c111 := hc1 (w.heap.size + 1) 1 (by first | omega | (simp; done) | (simp; omega))); (try have f111 := hf1 (w.heap.size + 1) 1 (by first | omega | (simp; done) | (simp; omega)))))
    first | go_ret2 | (refine bodyPost_ret (by simp [results, Try.results25, go_sem, *]; try rfl) rfl ?_)
    exact ⟨by simp [enL, enH, enC, V.out, ha], by (repeat' (first | (with_reducible exact Below.refl _ _) | (with_reducible assumption) | (with_reducible refine bStep ?_ (by with_reducible assumption)) | (with_reducible refine bAlloc ?_ _) | (with_reducible refine bDrew ?_) | (with_reducible refine bDrewN ?_ _) | (with_reducible refine Below.setCell ?_ ?_ _) | (with_reducible exact Nat.le_refl _) | (simp; done) | (simp; omega)))⟩
  have HA := Lib.hid ha
  by_cases hz : n = 0
  · subst hz
    have HL := Lib.hid hl
    clear hl
    go_enter Try.func25, Try.ntmps25
    go_wp2_with (first | (go_at_call 69; refine (areIvI (H.below (by (repeat' (first | (with_reducible exact Below.refl _ _) | (with_reducible assumption) | (with_reducible refine bStep ?_ (by with_reducible assumption)) | (with_reducible refine bAlloc ?_ _) | (with_reducible refine bDrew ?_) | (with_reducible refine bDrewN ?_ _) | (with_reducible refine Below.setCell ?_ ?_ _) | (with_reducible exact Nat.le_refl _) | (simp; done) | (simp; omega))))) _).mono ?_; rintro e w1 ⟨rfl, hb1⟩; obtain ⟨hc1, hf1⟩ := bcell hb1; have hs1 := hb1.size; (try simp at hs1); (try have hl1 := Nat.lt_of_succ_le hs1); (try have hz10 : w.heap.size < w1.heap.size := (by have := hb1.size; (try simp at this); omega)); (try have hn10 : ¬ w.heap.size = w1.heap.size := (by omega)); (try have hm10 : ¬ w1.heap.size = w.heap.size := (by omega)); (try have hz11 : w.heap.size + 1 < w1.heap.size := (by have := hb1.size; (try simp at this); omega)); (try have hn11 : ¬ w.heap.size + 1 = w1.heap.size := (by omega)); (try have hm11 : ¬ w1.heap.size = w.heap.size + 1 := (by omega)); (try have c100 := hc1 (w.heap.size) 0 (by first | omega | (simp; done) | (simp; omega))); (try have f100 := hf1 (w.heap.size) 0 (by first | omega | (simp; done) | (simp; omega))); (try have c101 := hc1 (w.heap.size) 1 (by first | omega | (simp; done) | (simp; omega))); (try have f101 := hf1 (w.heap.size) 1 (by first | omega | (simp; done) | (simp; omega))); (try have c110 := hc1 (w.heap.size + 1) 0 (by first | omega | (simp; done) | (simp; omega))); (try have f110 := hf1 (w.heap.size + 1) 0 (by first | omega | (simp; done) | (simp; omega))); (try have c111 := hc1 (w.heap.size + 1) 1 (by first | omega | (simp; done) | (simp; omega))); (try have f111 := hf1 (w.heap.size + 1) 1 (by first | omega | (simp; done) | (simp; omega)))))
    first | go_ret2 | (refine bodyPost_ret (by simp [results, Try.results25, go_sem, *]; try rfl) rfl ?_)
    exact ⟨by simp [enL, enH, enC, V.out, ha, HL.out], by (repeat' (first | (with_reducible exact Below.refl _ _) | (with_reducible assumption) | (with_reducible refine bStep ?_ (by with_reducible assumption)) | (with_reducible refine bAlloc ?_ _) | (with_reducible refine bDrew ?_) | (with_reducible refine bDrewN ?_ _) | (with_reducible refine Below.setCell ?_ ?_ _) | (with_reducible exact Nat.le_refl _) | (simp; done) | (simp; omega)))⟩
  have hpos : 0 < n := by omega
  have hnz : ((n : Int) == 0) = false := by simp; omega
  have hp1 : (0 : Int) < (n : Int) := by omega
  have HN : Hid (¬ xs.length = 0) := by show ¬ xs.length = 0; omega
  have HL := Lib.hid hl
  obtain ⟨b, off, x0, y0, rfl, hb, hc0, hc1, HX0, hw0⟩ := H.at_ hpos
  have L0 := Lib.hid (hu_one HX0.out)
  have hc0' : w.cell? ⟨b, off, none⟩ = some (.int .i64 x0) := by simpa using hc0
  have hc1'' : w.cell? ⟨b, off + 1, none⟩ = some (.int .i64 y0) := by simpa using hc1
  have hbn : ¬ b = w.heap.size := by omega
  have hbn' : ¬ w.heap.size = b := by omega
  clear hc0 hc1 hl hz
  go_enter Try.func25, Try.ntmps25
  go_wp2_with (first | (go_at_call 69; refine (areIvI (H.below (by (repeat' (first | (with_reducible exact Below.refl _ _) | (with_reducible assumption) | (with_reducible refine bStep ?_ (by with_reducible assumption)) | (with_reducible refine bAlloc ?_ _) | (with_reducible refine bDrew ?_) | (with_reducible refine bDrewN ?_ _) | (with_reducible refine Below.setCell ?_ ?_ _) | (with_reducible exact Nat.le_refl _) | (simp; done) | (simp; omega))))) _).mono ?_; rintro e w1 ⟨rfl, hb1⟩; have hcb0 := (hb1.cell (p := ⟨b, off, none⟩) (by simp; omega)); have hcb1 := (hb1.cell (p := ⟨b, off + 1, none⟩) (by simp; omega)); have hcb2 : ¬ b = w1.heap.size := (by have := hb1.size; (try simp at this); omega); have hcb3 : ¬ w1.heap.size = b := (by omega); obtain ⟨hc1, hf1⟩ := bcell hb1; have hs1 := hb1.size; (try simp at hs1); (try have hl1 := Nat.lt_of_succ_le hs1); (try have hz10 : w.heap.size < w1.heap.size := (by have := hb1.size; (try simp at this); omega)); (try have hn10 : ¬ w.heap.size = w1.heap.size := (by omega)); (try have hm10 : ¬ w1.heap.size = w.heap.size := (by omega)); (try have hz11 : w.heap.size + 1 < w1.heap.size := (by have := hb1.size; (try simp at this); omega)); (try have hn11 : ¬ w.heap.size + 1 = w1.heap.size := (by omega)); (try have hm11 : ¬ w1.heap.size = w.heap.size + 1 := (by omega)); (try have c100 := hc1 (w.heap.size) 0 (by first | omega | (simp; done) | (simp; omega))); (try have f100 := hf1 (w.heap.size) 0 (by first | omega | (simp; done) | (simp; omega))); (try have c101 := hc1 (w.heap.size) 1 (by first | omega | (simp; done) | (simp; omega))); (try have f101 := hf1 (w.heap.size) 1 (by first | omega | (simp; done) | (simp; omega))); (try have c110 := hc1 (w.heap.size + 1) 0 (by first | omega | (simp; done) | (simp; omega))); (try have f110 := hf1 (w.heap.size + 1) 0 (by first | omega | (simp; done) | (simp; omega))); (try have c111 := hc1 (w.heap.size + 1) 1 (by first | omega | (simp; done) | (simp; omega))); (try have f111 := hf1 (w.heap.size + 1) 1 (by first | omega | (simp; done) | (simp; omega)))))
  go_loopw [27] (fun i wr => ∃ k : Nat, 0 ≤ k ∧ k ≤ n ∧ i = .int .i64 k ∧ wr.cell? ⟨w1.heap.size, 0, none⟩ = some (.int .i64 (huL xs k)) ∧ wr.cell? ⟨w1.heap.size, 1, none⟩ = some (.int .i64 (huH xs k)) ∧ wr.frozen? ⟨w1.heap.size, 0, none⟩ = false ∧ wr.frozen? ⟨w1.heap.size, 1, none⟩ = false ∧ (wr.cell? ⟨w.heap.size, 0, none⟩ = some (.int .i64 0) ∧ wr.cell? ⟨w.heap.size, 1, none⟩ = some (.int .i64 0) ∧ wr.frozen? ⟨w.heap.size, 0, none⟩ = false ∧ wr.frozen? ⟨w.heap.size, 1, none⟩ = false) ∧ w1.heap.size < wr.heap.size ∧ Below w.heap.size w wr) (fun i _ => n - (intOf i).toNat)
  case atStart => exact ⟨0, by omega, by omega, rfl, by rw [L0.out.1.1]; go_simp, by rw [L0.out.1.2]; go_simp, by (first | (go_simp; done) | (simp [*]; done) | ((simp [*]) <;> go_simp)), by (first | (go_simp; done) | (simp [*]; done) | ((simp [*]) <;> go_simp)), by (first | (go_simp; done) | (simp [*]; done) | ((simp [*]) <;> go_simp)), by go_simp; try omega, by (repeat' (first | (with_reducible exact Below.refl _ _) | (with_reducible assumption) | (with_reducible refine bStep ?_ (by with_reducible assumption)) | (with_reducible refine bAlloc ?_ _) | (with_reducible refine bDrew ?_) | (with_reducible refine bDrewN ?_ _) | (with_reducible refine Below.setCell ?_ ?_ _) | (with_reducible exact Nat.le_refl _) | (simp; done) | (simp; omega)))⟩
  case round =>
    obtain ⟨k, hk0, hk, rfl, hs0, hs1', hz0, hz1, ⟨hy0, hy1, hy2, hy3⟩, hg, hbel⟩ := hrel
    have hw0 : w.heap.size < w1.heap.size := by have := hb1.size; (try simp at this); omega
    have hw1 : ¬ w.heap.size = w1.heap.size := by omega
    have hw2 : ¬ w1.heap.size = w.heap.size := by omega
    have hw3 : ¬ w1.heap.size = wr.heap.size := by omega
    have hw5 : w.heap.size < wr.heap.size := by omega
    have hw6 : ¬ w.heap.size = wr.heap.size := by omega
    have hw7 : ¬ wr.heap.size = w.heap.size := by omega
    have hw4 : ¬ wr.heap.size = w1.heap.size := by omega
    by_cases hlt : k < n
    · obtain ⟨b', off', x, y, e, hb', hc1', hc2', HX, hw⟩ := (H.below hbel).at_ hlt
      obtain ⟨rfl, rfl⟩ : b = b' ∧ off = off' := by injection e with e; injection e with e1 e2; exact ⟨e1, e2⟩
      have ST := Lib.hid (hu_step HX.out)
      have hbn2 : ¬ b = wr.heap.size := by omega
      have hbn2' : ¬ wr.heap.size = b := by omega
      clear e L0 hc0' hc1'' HX0 hcb0 hcb1
      obtain ⟨p, hp⟩ : ∃ p, huL xs k = p := ⟨_, rfl⟩
      obtain ⟨q, hq⟩ : ∃ q, huH xs k = q := ⟨_, rfl⟩
      rw [hp] at hs0 ST
      rw [hq] at hs1' ST
      clear hp hq
      have V : (x < p ∧ mnV p x = x) ∨ (¬ x < p ∧ mnV p x = p) := by unfold mnV; split <;> simp_all
      have V' : (q < y ∧ mxV q y = y) ∨ (¬ q < y ∧ mxV q y = q) := by unfold mxV; split <;> simp_all
      rcases V with ⟨h3, e1⟩ | ⟨h3, e1⟩ <;> rcases V' with ⟨h4, e2⟩ | ⟨h4, e2⟩ <;> rw [e1, e2] at ST <;> clear e1 e2
      all_goals
        go_wp2
        go_roundw
        case rel => exact ⟨k + 1, by omega, by omega, by go_num, by rw [ST.out.1]; go_simp, by rw [ST.out.2]; go_simp, by (first | (go_simp; done) | (simp [*]; done) | ((simp [*]) <;> go_simp)), by (first | (go_simp; done) | (simp [*]; done) | ((simp [*]) <;> go_simp)), by (first | (go_simp; done) | (simp [*]; done) | ((simp [*]) <;> go_simp)), by go_simp; try omega, by (repeat' (first | (with_reducible exact Below.refl _ _) | (with_reducible assumption) | (with_reducible refine bStep ?_ (by with_reducible assumption)) | (with_reducible refine bAlloc ?_ _) | (with_reducible refine bDrew ?_) | (with_reducible refine bDrewN ?_ _) | (with_reducible refine Below.setCell ?_ ?_ _) | (with_reducible exact Nat.le_refl _) | (simp; done) | (simp; omega)))⟩
        case measure => simp [intOf]; omega
    · obtain rfl : k = n := by omega
      go_wp2
      first | go_ret2 | (refine bodyPost_ret (by simp [results, Try.results25, go_sem, *]; try rfl) rfl ?_)
      exact ⟨by simp [enL, enH, enC, V.out, HA.out, HL.out, h2, HN.out]; try omega, by (repeat' (first | (with_reducible exact Below.refl _ _) | (with_reducible assumption) | (with_reducible refine bStep ?_ (by with_reducible assumption)) | (with_reducible refine bAlloc ?_ _) | (with_reducible refine bDrew ?_) | (with_reducible refine bDrewN ?_ _) | (with_reducible refine Below.setCell ?_ ?_ _) | (with_reducible exact Nat.le_refl _) | (simp; done) | (simp; omega)))⟩
set_option maxHeartbeats 1600000 in
theorem encS {w : World} {A : Option Addr} {n : Nat} {xs : List Iv} (H : Ivs w A n xs) (c : Nat) :
    Calls Try.prog 26 #[.slice A n c] w fun e w' => e = .returned (.tuple #[.agg #[.int .i64 (enL xs), .int .i64 (enH xs)], .int .i64 (enC xs)]) ∧ Below w.heap.size w w' := by
  have hn := H.le
  have hl := H.len
  by_cases h2 : 200 < n
  · have g1 : (200 : Int) < (n : Int) := by omega
    have V : Hid (200 < xs.length) := by show 200 < xs.length; omega
    go_enter Try.func26, Try.ntmps26
    go_wp2
    first | go_ret2 | (refine bodyPost_ret (by simp [results, Try.results26, go_sem, *]; try rfl) rfl ?_)
    exact ⟨by simp [enL, enH, enC, V.out], by (repeat' (first | (with_reducible exact Below.refl _ _) | (with_reducible assumption) | (with_reducible refine bStep ?_ (by with_reducible assumption)) | (with_reducible refine bAlloc ?_ _) | (with_reducible refine bDrew ?_) | (with_reducible refine bDrewN ?_ _) | (with_reducible refine Below.setCell ?_ ?_ _) | (with_reducible exact Nat.le_refl _) | (simp; done) | (simp; omega)))⟩
  have g1 : ¬ (200 : Int) < (n : Int) := by omega
  have V : Hid (¬ 200 < xs.length) := by show ¬ 200 < xs.length; omega
  rcases ha : allIv xs
  · go_enter Try.func26, Try.ntmps26
    go_wp2_with (first | (go_at_call 72; refine (areIvS (H.below (by (repeat' (first | (with_reducible exact Below.refl _ _) | (with_reducible assumption) | (with_reducible refine bStep ?_ (by with_reducible assumption)) | (with_reducible refine bAlloc ?_ _) | (with_reducible refine bDrew ?_) | (with_reducible refine bDrewN ?_ _) | (with_reducible refine Below.setCell ?_ ?_ _) | (with_reducible exact Nat.le_refl _) | (simp; done) | (simp; omega))))) _).mono ?_; rintro e w1 ⟨rfl, hb1⟩; obtain ⟨hc1, hf1⟩ := bcell hb1; have hs1 := hb1.size; (try simp at hs1); (try have hl1 := Nat.lt_of_succ_le hs1); (try have hz10 : w.heap.size < w1.heap.size := (by have := hb1.size; (try simp at this); omega)); (try have hn10 : ¬ w.heap.size = w1.heap.size := (by omega)); (try have hm10 : ¬ w1.heap.size = w.heap.size := (by omega)); (try have hz11 : w.heap.size + 1 < w1.heap.size := (by have := hb1.size; (try simp at this); omega)); (try have hn11 : ¬ w.heap.size + 1 = w1.heap.size := (by omega)); (try have hm11 : ¬ w1.heap.size = w.heap.size + 1 := (by omega)); (try have c100 := hc1 (w.heap.size) 0 (by first | omega | (simp; done) | (simp; omega))); (try have f100 := hf1 (w.heap.size) 0 (by first | omega | (simp; done) | (simp; omega))); (try have c101 := hc1 (w.heap.size) 1 (by first | omega | (simp; done) | (simp; omega))); (try have f101 := hf1 (w.heap.size) 1 (by first | omega | (simp; done) | (simp; omega))); (try have c110 := hc1 (w.heap.size + 1) 0 (by first | omega | (simp; done) | (simp; omega))); (try have f110 := hf1 (w.heap.size + 1) 0 (by first | omega | (simp; done) | (simp; omega))); (try have c111 := hc1 (w.heap.size + 1) 1 (by first | omega | (simp; done) | (simp; omega))); (try have f111 := hf1 (w.heap.size + 1) 1 (by first | omega | (simp; done) | (simp; omega)))))
    first | go_ret2 | (refine bodyPost_ret (by simp [results, Try.results26, go_sem, *]; try rfl) rfl ?_)
    exact ⟨by simp [enL, enH, enC, V.out, ha], by (repeat' (first | (with_reducible exact Below.refl _ _) | (with_reducible assumption) | (with_reducible refine bStep ?_ (by with_reducible assumption)) | (with_reducible refine bAlloc ?_ _) | (with_reducible refine bDrew ?_) | (with_reducible refine bDrewN ?_ _) | (with_reducible refine Below.setCell ?_ ?_ _) | (with_reducible exact Nat.le_refl _) | (simp; done) | (simp; omega)))⟩
  have HA := Lib.hid ha
  by_cases hz : n = 0
  · subst hz
    have HL := Lib.hid hl
    clear hl
    go_enter Try.func26, Try.ntmps26
    go_wp2_with (first | (go_at_call 72; refine (areIvS (H.below (by (repeat' (first | (with_reducible exact Below.refl _ _) | (with_reducible assumption) | (with_reducible refine bStep ?_ (by with_reducible assumption)) | (with_reducible refine bAlloc ?_ _) | (with_reducible refine bDrew ?_) | (with_reducible refine bDrewN ?_ _) | (with_reducible refine Below.setCell ?_ ?_ _) | (with_reducible exact Nat.le_refl _) | (simp; done) | (simp; omega))))) _).mono ?_; rintro e w1 ⟨rfl, hb1⟩; obtain ⟨hc1, hf1⟩ := bcell hb1; have hs1 := hb1.size; (try simp at hs1); (try have hl1 := Nat.lt_of_succ_le hs1); (try have hz10 : w.heap.size < w1.heap.size := (by have := hb1.size; (try simp at this); omega)); (try have hn10 : ¬ w.heap.size = w1.heap.size := (by omega)); (try have hm10 : ¬ w1.heap.size = w.heap.size := (by omega)); (try have hz11 : w.heap.size + 1 < w1.heap.size := (by have := hb1.size; (try simp at this); omega)); (try have hn11 : ¬ w.heap.size + 1 = w1.heap.size := (by omega)); (try have hm11 : ¬ w1.heap.size = w.heap.size + 1 := (by omega)); (try have c100 := hc1 (w.heap.size) 0 (by first | omega | (simp; done) | (simp; omega))); (try have f100 := hf1 (w.heap.size) 0 (by first | omega | (simp; done) | (simp; omega))); (try have c101 := hc1 (w.heap.size) 1 (by first | omega | (simp; done) | (simp; omega))); (try have f101 := hf1 (w.heap.size) 1 (by first | omega | (simp; done) | (simp; omega))); (try have c110 := hc1 (w.heap.size + 1) 0 (by first | omega | (simp; done) | (simp; omega))); (try have f110 := hf1 (w.heap.size + 1) 0 (by first | omega | (simp; done) | (simp; omega))); (try have c111 := hc1 (w.heap.size + 1) 1 (by first | omega | (simp; done) | (simp; omega))); (try have f111 := hf1 (w.heap.size + 1) 1 (by first | omega | (simp; done) | (simp; omega)))))
    first | go_ret2 | (refine bodyPost_ret (by simp [results, Try.results26, go_sem, *]; try rfl) rfl ?_)
    exact ⟨by simp [enL, enH, enC, V.out, ha, HL.out], by (repeat' (first | (with_reducible exact Below.refl _ _) | (with_reducible assumption) | (with_reducible refine bStep ?_ (by with_reducible assumption)) | (with_reducible refine bAlloc ?_ _) | (with_reducible refine bDrew ?_) | (with_reducible refine bDrewN ?_ _) | (with_reducible refine Below.setCell ?_ ?_ _) | (with_reducible exact Nat.le_refl _) | (simp; done) | (simp; omega)))⟩
  have hpos : 0 < n := by omega
  have hnz : ((n : Int) == 0) = false := by simp; omega
  have hp1 : (0 : Int) < (n : Int) := by omega
  have HN : Hid (¬ xs.length = 0) := by show ¬ xs.length = 0; omega
  have HL := Lib.hid hl
  obtain ⟨b, off, x0, y0, rfl, hb, hc0, hc1, HX0, hw0⟩ := H.at_ hpos
  have L0 := Lib.hid (hu_one HX0.out)
  have hc0' : w.cell? ⟨b, off, none⟩ = some (.int .i64 x0) := by simpa using hc0
  have hc1'' : w.cell? ⟨b, off + 1, none⟩ = some (.int .i64 y0) := by simpa using hc1
  have hbn : ¬ b = w.heap.size := by omega
  have hbn' : ¬ w.heap.size = b := by omega
  clear hc0 hc1 hl hz
  go_enter Try.func26, Try.ntmps26
  go_wp2_with (first | (go_at_call 72; refine (areIvS (H.below (by (repeat' (first | (with_reducible exact Below.refl _ _) | (with_reducible assumption) | (with_reducible refine bStep ?_ (by with_reducible assumption)) | (with_reducible refine bAlloc ?_ _) | (with_reducible refine bDrew ?_) | (with_reducible refine bDrewN ?_ _) | (with_reducible refine Below.setCell ?_ ?_ _) | (with_reducible exact Nat.le_refl _) | (simp; done) | (simp; omega))))) _).mono ?_; rintro e w1 ⟨rfl, hb1⟩; have hcb0 := (hb1.cell (p := ⟨b, off, none⟩) (by simp; omega)); have hcb1 := (hb1.cell (p := ⟨b, off + 1, none⟩) (by simp; omega)); have hcb2 : ¬ b = w1.heap.size := (by have := hb1.size; (try simp at this); omega); have hcb3 : ¬ w1.heap.size = b := (by omega); obtain ⟨hc1, hf1⟩ := bcell hb1; have hs1 := hb1.size; (try simp at hs1); (try have hl1 := Nat.lt_of_succ_le hs1); (try have hz10 : w.heap.size < w1.heap.size := (by have := hb1.size; (try simp at this); omega)); (try have hn10 : ¬ w.heap.size = w1.heap.size := (by omega)); (try have hm10 : ¬ w1.heap.size = w.heap.size := (by omega)); (try have hz11 : w.heap.size + 1 < w1.heap.size := (by have := hb1.size; (try simp at this); omega)); (try have hn11 : ¬ w.heap.size + 1 = w1.heap.size := (by omega)); (try have hm11 : ¬ w1.heap.size = w.heap.size + 1 := (by omega)); (try have c100 := hc1 (w.heap.size) 0 (by first | omega | (simp; done) | (simp; omega))); (try have f100 := hf1 (w.heap.size) 0 (by first | omega | (simp; done) | (simp; omega))); (try have c101 := hc1 (w.heap.size) 1 (by first | omega | (simp; done) | (simp; omega))); (try have f101 := hf1 (w.heap.size) 1 (by first | omega | (simp; done) | (simp; omega))); (try have c110 := hc1 (w.heap.size + 1) 0 (by first | omega | (simp; done) | (simp; omega))); (try have f110 := hf1 (w.heap.size + 1) 0 (by first | omega | (simp; done) | (simp; omega))); (try have c111 := hc1 (w.heap.size + 1) 1 (by first | omega | (simp; done) | (simp; omega))); (try have f111 := hf1 (w.heap.size + 1) 1 (by first | omega | (simp; done) | (simp; omega)))))
  go_loopw [5] (fun i wr => ∃ k : Nat, 1 ≤ k ∧ k ≤ n ∧ i = .int .i64 k ∧ wr.cell? ⟨w1.heap.size, 0, none⟩ = some (.int .i64 (huL xs k)) ∧ wr.cell? ⟨w1.heap.size, 1, none⟩ = some (.int .i64 (huH xs k)) ∧ wr.frozen? ⟨w1.heap.size, 0, none⟩ = false ∧ wr.frozen? ⟨w1.heap.size, 1, none⟩ = false ∧ (wr.cell? ⟨w.heap.size, 0, none⟩ = some (.int .i64 0) ∧ wr.cell? ⟨w.heap.size, 1, none⟩ = some (.int .i64 0) ∧ wr.frozen? ⟨w.heap.size, 0, none⟩ = false ∧ wr.frozen? ⟨w.heap.size, 1, none⟩ = false) ∧ w1.heap.size < wr.heap.size ∧ Below w.heap.size w wr) (fun i _ => n - (intOf i).toNat)
  case atStart => exact ⟨1, by omega, by omega, rfl, by rw [L0.out.2.1]; go_simp, by rw [L0.out.2.2]; go_simp, by (first | (go_simp; done) | (simp [*]; done) | ((simp [*]) <;> go_simp)), by (first | (go_simp; done) | (simp [*]; done) | ((simp [*]) <;> go_simp)), by (first | (go_simp; done) | (simp [*]; done) | ((simp [*]) <;> go_simp)), by go_simp; try omega, by (repeat' (first | (with_reducible exact Below.refl _ _) | (with_reducible assumption) | (with_reducible refine bStep ?_ (by with_reducible assumption)) | (with_reducible refine bAlloc ?_ _) | (with_reducible refine bDrew ?_) | (with_reducible refine bDrewN ?_ _) | (with_reducible refine Below.setCell ?_ ?_ _) | (with_reducible exact Nat.le_refl _) | (simp; done) | (simp; omega)))⟩
  case round =>
    obtain ⟨k, hk0, hk, rfl, hs0, hs1', hz0, hz1, ⟨hy0, hy1, hy2, hy3⟩, hg, hbel⟩ := hrel
    have hw0 : w.heap.size < w1.heap.size := by have := hb1.size; (try simp at this); omega
    have hw1 : ¬ w.heap.size = w1.heap.size := by omega
    have hw2 : ¬ w1.heap.size = w.heap.size := by omega
    have hw3 : ¬ w1.heap.size = wr.heap.size := by omega
    have hw5 : w.heap.size < wr.heap.size := by omega
    have hw6 : ¬ w.heap.size = wr.heap.size := by omega
    have hw7 : ¬ wr.heap.size = w.heap.size := by omega
    have hw4 : ¬ wr.heap.size = w1.heap.size := by omega
    by_cases hlt : k < n
    · obtain ⟨b', off', x, y, e, hb', hc1', hc2', HX, hw⟩ := (H.below hbel).at_ hlt
      obtain ⟨rfl, rfl⟩ : b = b' ∧ off = off' := by injection e with e; injection e with e1 e2; exact ⟨e1, e2⟩
      have ST := Lib.hid (hu_step HX.out)
      have hbn2 : ¬ b = wr.heap.size := by omega
      have hbn2' : ¬ wr.heap.size = b := by omega
      clear e L0 hc0' hc1'' HX0 hcb0 hcb1
      obtain ⟨p, hp⟩ : ∃ p, huL xs k = p := ⟨_, rfl⟩
      obtain ⟨q, hq⟩ : ∃ q, huH xs k = q := ⟨_, rfl⟩
      rw [hp] at hs0 ST
      rw [hq] at hs1' ST
      clear hp hq
      go_wp2_with fail
      go_region_with ((go_at_call 75; refine (hullS _ _ _ _ _).mono ?_; rintro e w2 ⟨rfl, hb2⟩; obtain ⟨hc2, hf2⟩ := bcell hb2; have hs2 := hb2.size; (try simp at hs2); (try have hl2 := Nat.lt_of_succ_le hs2); (try have hz20 : w.heap.size < w2.heap.size := (by have := hb2.size; (try simp at this); omega)); (try have hn20 : ¬ w.heap.size = w2.heap.size := (by omega)); (try have hm20 : ¬ w2.heap.size = w.heap.size := (by omega)); (try have hz2x1 : w1.heap.size < w2.heap.size := (by have := hb2.size; (try simp at this); omega)); (try have hn2x1 : ¬ w1.heap.size = w2.heap.size := (by omega)); (try have hm2x1 : ¬ w2.heap.size = w1.heap.size := (by omega)); (try have hz2x2 : b < w2.heap.size := (by have := hb2.size; (try simp at this); omega)); (try have hn2x2 : ¬ b = w2.heap.size := (by omega)); (try have hm2x2 : ¬ w2.heap.size = b := (by omega)); (try have c200 := hc2 (w.heap.size) 0 (by first | omega | (simp; done) | (simp; omega))); (try have f200 := hf2 (w.heap.size) 0 (by first | omega | (simp; done) | (simp; omega))); (try have c201 := hc2 (w.heap.size) 1 (by first | omega | (simp; done) | (simp; omega))); (try have f201 := hf2 (w.heap.size) 1 (by first | omega | (simp; done) | (simp; omega))); (try have c2x10 := hc2 (w1.heap.size) 0 (by first | omega | (simp; done) | (simp; omega))); (try have f2x10 := hf2 (w1.heap.size) 0 (by first | omega | (simp; done) | (simp; omega))); (try have c2x11 := hc2 (w1.heap.size) 1 (by first | omega | (simp; done) | (simp; omega))); (try have f2x11 := hf2 (w1.heap.size) 1 (by first | omega | (simp; done) | (simp; omega))); (try have e0 := hc2 b (off + k * 2) (by first | omega | (simp; omega))); (try have e1 := hc2 b (off + k * 2 + 1) (by first | omega | (simp; omega)))))
      all_goals
        go_wp2
        go_roundw
        case rel => exact ⟨k + 1, by omega, by omega, by go_num, by rw [ST.out.1]; go_simp, by rw [ST.out.2]; go_simp, by (first | (go_simp; done) | (simp [*]; done) | ((simp [*]) <;> go_simp)), by (first | (go_simp; done) | (simp [*]; done) | ((simp [*]) <;> go_simp)), by (first | (go_simp; done) | (simp [*]; done) | ((simp [*]) <;> go_simp)), by go_simp; try omega, by (repeat' (first | (with_reducible exact Below.refl _ _) | (with_reducible assumption) | (with_reducible refine bStep ?_ (by with_reducible assumption)) | (with_reducible refine bAlloc ?_ _) | (with_reducible refine bDrew ?_) | (with_reducible refine bDrewN ?_ _) | (with_reducible refine Below.setCell ?_ ?_ _) | (with_reducible exact Nat.le_refl _) | (simp; done) | (simp; omega)))⟩
        case measure => simp [intOf]; omega
    · obtain rfl : k = n := by omega
      go_wp2
      first | go_ret2 | (refine bodyPost_ret (by simp [results, Try.results26, go_sem, *]; try rfl) rfl ?_)
      exact ⟨by simp [enL, enH, enC, V.out, HA.out, HL.out, h2, HN.out]; try omega, by (repeat' (first | (with_reducible exact Below.refl _ _) | (with_reducible assumption) | (with_reducible refine bStep ?_ (by with_reducible assumption)) | (with_reducible refine bAlloc ?_ _) | (with_reducible refine bDrew ?_) | (with_reducible refine bDrewN ?_ _) | (with_reducible refine Below.setCell ?_ ?_ _) | (with_reducible exact Nat.le_refl _) | (simp; done) | (simp; omega)))⟩
end Go.Proofs.Ytincelkcbdjcjaa
