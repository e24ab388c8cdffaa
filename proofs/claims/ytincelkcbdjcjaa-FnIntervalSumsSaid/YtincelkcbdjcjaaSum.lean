/- Contracts of the sum and the hull of a list of intervals. -/
import Derived.Test.YtincelkcbdjcjaaIvsOps
import Derived.Deep.RegionWith
namespace Go.Proofs.Ytincelkcbdjcjaa
open Go.RowKit
set_option linter.unusedVariables false

def suL (xs : List Iv) : Nat → Int
  | 0 => 0
  | k + 1 => suL xs k + (xs.getD k (0, 0)).1
def suH (xs : List Iv) : Nat → Int
  | 0 => 0
  | k + 1 => suH xs k + (xs.getD k (0, 0)).2
def smL (xs : List Iv) : Int := if 200 < xs.length then 0 else if allIv xs then rsL (suL xs xs.length) (suH xs xs.length) else 0
def smH (xs : List Iv) : Int := if 200 < xs.length then 0 else if allIv xs then rsH (suL xs xs.length) (suH xs xs.length) else 0
def smC (xs : List Iv) : Int := if 200 < xs.length then 3 else if allIv xs then rsC (suL xs xs.length) (suH xs xs.length) 2 else 1
def huL (xs : List Iv) : Nat → Int
  | 0 => (xs.getD 0 (0, 0)).1
  | k + 1 => mnV (huL xs k) (xs.getD k (0, 0)).1
def huH (xs : List Iv) : Nat → Int
  | 0 => (xs.getD 0 (0, 0)).2
  | k + 1 => mxV (huH xs k) (xs.getD k (0, 0)).2
def enL (xs : List Iv) : Int := if 200 < xs.length then 0 else if allIv xs then (if xs.length = 0 then 0 else huL xs xs.length) else 0
def enH (xs : List Iv) : Int := if 200 < xs.length then 0 else if allIv xs then (if xs.length = 0 then 0 else huH xs xs.length) else 0
def enC (xs : List Iv) : Int := if 200 < xs.length then 3 else if allIv xs then (if xs.length = 0 then 4 else 0) else 1
theorem iv_of {xs : List Iv} {k : Nat} {x y : Int} (h : allIv xs = true) (hx : xs[k]? = some (x, y)) : (-1000000000000 ≤ x ∧ x ≤ 1000000000000) ∧ -1000000000000 ≤ y ∧ y ≤ 1000000000000 := by
  have := List.all_eq_true.1 h _ (List.mem_of_getElem? hx)
  simp only [isIv, Bool.and_eq_true] at this
  exact ⟨isV_t this.1.1, isV_t this.1.2⟩
theorem su_bd {xs : List Iv} (h : allIv xs = true) : ∀ k : Nat, k ≤ xs.length → (-(1000000000000 * (k : Int)) ≤ suL xs k ∧ suL xs k ≤ 1000000000000 * (k : Int)) ∧ -(1000000000000 * (k : Int)) ≤ suH xs k ∧ suH xs k ≤ 1000000000000 * (k : Int)
  | 0, _ => by simp [suL, suH]
  | k + 1, hk => by
    have ih := su_bd h k (by omega)
    have hx : xs[k]? = some xs[k] := List.getElem?_eq_getElem (by omega)
    have b := iv_of h (x := xs[k].1) (y := xs[k].2) hx
    have e : xs.getD k (0, 0) = xs[k] := by simp [List.getD, hx]
    simp only [suL, suH, e]
    omega
theorem su_step {xs : List Iv} {k : Nat} {x y : Int} (hx : xs[k]? = some (x, y)) : suL xs (k + 1) = suL xs k + x ∧ suH xs (k + 1) = suH xs k + y := by
  simp [suL, suH, List.getD, hx]
theorem hu_step {xs : List Iv} {k : Nat} {x y : Int} (hx : xs[k]? = some (x, y)) : huL xs (k + 1) = mnV (huL xs k) x ∧ huH xs (k + 1) = mxV (huH xs k) y := by
  simp [huL, huH, List.getD, hx]
theorem hu_one {xs : List Iv} {x y : Int} (hx : xs[0]? = some (x, y)) : (huL xs 0 = x ∧ huH xs 0 = y) ∧ huL xs 1 = x ∧ huH xs 1 = y := by
  simp [huL, huH, List.getD, hx, mnV, mxV]
set_option maxHeartbeats 1600000 in
theorem sumI {w : World} {A : Option Addr} {n : Nat} {xs : List Iv} (H : Ivs w A n xs) (c : Nat) :
    Calls Try.prog 23 #[.slice A n c] w fun e w' => e = .returned (.tuple #[.agg #[.int .i64 (smL xs), .int .i64 (smH xs)], .int .i64 (smC xs)]) ∧ Below w.heap.size w w' := by
  have hn := H.le
  have hl := H.len
  by_cases h2 : 200 < n
  · have g1 : (200 : Int) < (n : Int) := by omega
    have V : Hid (200 < xs.length) := by show 200 < xs.length; omega
    go_enter Try.func23, Try.ntmps23
    go_wp2
    first | go_ret2 | (refine bodyPost_ret (by simp [results, Try.results23, go_sem, *]; try rfl) rfl ?_)
    exact ⟨by simp [smL, smH, smC, V.out], by (repeat' (first | (with_reducible exact Below.refl _ _) | (with_reducible assumption) | (with_reducible refine bStep ?_ (by with_reducible assumption)) | (with_reducible refine bAlloc ?_ _) | (with_reducible refine bDrew ?_) | (with_reducible refine bDrewN ?_ _) | (with_reducible refine Below.setCell ?_ ?_ _) | (with_reducible exact Nat.le_refl _) | (simp; done) | (simp; omega)))⟩
  have g1 : ¬ (200 : Int) < (n : Int) := by omega
  have V : Hid (¬ 200 < xs.length) := by show ¬ 200 < xs.length; omega
  rcases ha : allIv xs
  · go_enter Try.func23, Try.ntmps23
    go_wp2_with (first | (go_at_call 69; refine (areIvI (H.below (by (repeat' (first | (with_reducible exact Below.refl _ _) | (with_reducible assumption) | (with_reducible refine bStep ?_ (by with_reducible assumption)) | (with_reducible refine bAlloc ?_ _) | (with_reducible refine bDrew ?_) | (with_reducible refine bDrewN ?_ _) | (with_reducible refine Below.setCell ?_ ?_ _) | (with_reducible exact Nat.le_refl _) | (simp; done) | (simp; omega))))) _).mono ?_; rintro e w1 ⟨rfl, hb1⟩; obtain ⟨hc1, hf1⟩ := bcell hb1; have hs1 := hb1.size; (try simp at hs1); (try have hl1 := Nat.lt_of_succ_le hs1); (try have hz10 : w.heap.size < w1.heap.size := (by have := hb1.size; (try simp at this); omega)); (try have hn10 : ¬ w.heap.size = w1.heap.size := (by omega)); (try have hm10 : ¬ w1.heap.size = w.heap.size := (by omega)); (try have hz11 : w.heap.size + 1 < w1.heap.size := (by have := hb1.size; (try simp at this); omega)); (try have hn11 : ¬ w.heap.size + 1 = w1.heap.size := (by omega)); (try have hm11 : ¬ w1.heap.size = w.heap.size + 1 := (by omega)); (try have c100 := hc1 (w.heap.size) 0 (by first | omega | (simp; done) | (simp; omega))); (try have f100 := hf1 (w.heap.size) 0 (by first | omega | (simp; done) | (simp; omega))); (try have c101 := hc1 (w.heap.size) 1 (by first | omega | (simp; done) | (simp; omega))); (try have f101 := hf1 (w.heap.size) 1 (by first | omega | (simp; done) | (simp; omega))); (try have c110 := hc1 (w.heap.size + 1) 0 (by first | omega | (simp; done) | (simp; omega))); (try have f110 := hf1 (w.heap.size + 1) 0 (by first | omega | (simp; done) | (simp; omega))); (try have c111 := hc1 (w.heap.size + 1) 1 (by first | omega | (simp; done) | (simp; omega))); (try have f111 := hf1 (w.heap.size + 1) 1 (by first | omega | (simp; done) | (simp; omega)))))
    first | go_ret2 | (refine bodyPost_ret (by simp [results, Try.results23, go_sem, *]; try rfl) rfl ?_)
    exact ⟨by simp [smL, smH, smC, V.out, ha], by (repeat' (first | (with_reducible exact Below.refl _ _) | (with_reducible assumption) | (with_reducible refine bStep ?_ (by with_reducible assumption)) | (with_reducible refine bAlloc ?_ _) | (with_reducible refine bDrew ?_) | (with_reducible refine bDrewN ?_ _) | (with_reducible refine Below.setCell ?_ ?_ _) | (with_reducible exact Nat.le_refl _) | (simp; done) | (simp; omega)))⟩
  have HA := Lib.hid ha
  have HL := Lib.hid hl
  go_enter Try.func23, Try.ntmps23
  go_wp2_with (first | (go_at_call 69; refine (areIvI (H.below (by (repeat' (first | (with_reducible exact Below.refl _ _) | (with_reducible assumption) | (with_reducible refine bStep ?_ (by with_reducible assumption)) | (with_reducible refine bAlloc ?_ _) | (with_reducible refine bDrew ?_) | (with_reducible refine bDrewN ?_ _) | (with_reducible refine Below.setCell ?_ ?_ _) | (with_reducible exact Nat.le_refl _) | (simp; done) | (simp; omega))))) _).mono ?_; rintro e w1 ⟨rfl, hb1⟩; obtain ⟨hc1, hf1⟩ := bcell hb1; have hs1 := hb1.size; (try simp at hs1); (try have hl1 := Nat.lt_of_succ_le hs1); (try have hz10 : w.heap.size < w1.heap.size := (by have := hb1.size; (try simp at this); omega)); (try have hn10 : ¬ w.heap.size = w1.heap.size := (by omega)); (try have hm10 : ¬ w1.heap.size = w.heap.size := (by omega)); (try have hz11 : w.heap.size + 1 < w1.heap.size := (by have := hb1.size; (try simp at this); omega)); (try have hn11 : ¬ w.heap.size + 1 = w1.heap.size := (by omega)); (try have hm11 : ¬ w1.heap.size = w.heap.size + 1 := (by omega)); (try have c100 := hc1 (w.heap.size) 0 (by first | omega | (simp; done) | (simp; omega))); (try have f100 := hf1 (w.heap.size) 0 (by first | omega | (simp; done) | (simp; omega))); (try have c101 := hc1 (w.heap.size) 1 (by first | omega | (simp; done) | (simp; omega))); (try have f101 := hf1 (w.heap.size) 1 (by first | omega | (simp; done) | (simp; omega))); (try have c110 := hc1 (w.heap.size + 1) 0 (by first | omega | (simp; done) | (simp; omega))); (try have f110 := hf1 (w.heap.size + 1) 0 (by first | omega | (simp; done) | (simp; omega))); (try have c111 := hc1 (w.heap.size + 1) 1 (by first | omega | (simp; done) | (simp; omega))); (try have f111 := hf1 (w.heap.size + 1) 1 (by first | omega | (simp; done) | (simp; omega)))))
  go_loopw [19] (fun i wr => ∃ k : Nat, k ≤ n ∧ i = .int .i64 k ∧ wr.cell? ⟨w1.heap.size, 0, none⟩ = some (.int .i64 (suL xs k)) ∧ wr.cell? ⟨w1.heap.size, 1, none⟩ = some (.int .i64 (suH xs k)) ∧ wr.frozen? ⟨w1.heap.size, 0, none⟩ = false ∧ wr.frozen? ⟨w1.heap.size, 1, none⟩ = false ∧ (wr.cell? ⟨w.heap.size, 0, none⟩ = some (.int .i64 0) ∧ wr.cell? ⟨w.heap.size, 1, none⟩ = some (.int .i64 0) ∧ wr.frozen? ⟨w.heap.size, 0, none⟩ = false ∧ wr.frozen? ⟨w.heap.size, 1, none⟩ = false) ∧ w1.heap.size < wr.heap.size ∧ Below w.heap.size w wr) (fun i _ => n - (intOf i).toNat)
  case atStart => exact ⟨0, Nat.zero_le _, rfl, by go_simp; rfl, by go_simp; rfl, by (first | (go_simp; done) | (simp [*]; done) | ((simp [*]) <;> go_simp)), by (first | (go_simp; done) | (simp [*]; done) | ((simp [*]) <;> go_simp)), by (first | (go_simp; done) | (simp [*]; done) | ((simp [*]) <;> go_simp)), by go_simp; try omega, by (repeat' (first | (with_reducible exact Below.refl _ _) | (with_reducible assumption) | (with_reducible refine bStep ?_ (by with_reducible assumption)) | (with_reducible refine bAlloc ?_ _) | (with_reducible refine bDrew ?_) | (with_reducible refine bDrewN ?_ _) | (with_reducible refine Below.setCell ?_ ?_ _) | (with_reducible exact Nat.le_refl _) | (simp; done) | (simp; omega)))⟩
  case round =>
    obtain ⟨k, hk, rfl, hs0, hs1', hz0, hz1, ⟨hy0, hy1, hy2, hy3⟩, hg, hbel⟩ := hrel
    have hw0 : w.heap.size < w1.heap.size := by have := hb1.size; (try simp at this); omega
    have hw1 : ¬ w.heap.size = w1.heap.size := by omega
    have hw2 : ¬ w1.heap.size = w.heap.size := by omega
    have hw3 : ¬ w1.heap.size = wr.heap.size := by omega
    have hw5 : w.heap.size < wr.heap.size := by omega
    have hw6 : ¬ w.heap.size = wr.heap.size := by omega
    have hw7 : ¬ wr.heap.size = w.heap.size := by omega
    have hw4 : ¬ wr.heap.size = w1.heap.size := by omega
    have B := su_bd HA.out k (by rw [HL.out]; exact hk)
    by_cases hlt : k < n
    · obtain ⟨b, off, x, y, rfl, hb, hc1', hc2', HX, hw⟩ := (H.below hbel).at_ hlt
      have B2 := iv_of HA.out HX.out
      have ST := Lib.hid (su_step HX.out)
      obtain ⟨p, hp⟩ : ∃ p, suL xs k = p := ⟨_, rfl⟩
      obtain ⟨q, hq⟩ : ∃ q, suH xs k = q := ⟨_, rfl⟩
      rw [hp] at hs0 B ST
      rw [hq] at hs1' B ST
      have hbn : ¬ b = wr.heap.size := by omega
      have hbn' : ¬ wr.heap.size = b := by omega
      go_wp2_with (first | (go_at_call 70; refine (ivAddI _ _ _ _ _ (by omega) (by omega) (by omega) (by omega)).mono ?_; rintro e w2 ⟨rfl, hb2⟩; obtain ⟨hc2, hf2⟩ := bcell hb2; have hs2 := hb2.size; (try simp at hs2); (try have hl2 := Nat.lt_of_succ_le hs2); (try have hz20 : w.heap.size < w2.heap.size := (by have := hb2.size; (try simp at this); omega)); (try have hn20 : ¬ w.heap.size = w2.heap.size := (by omega)); (try have hm20 : ¬ w2.heap.size = w.heap.size := (by omega)); (try have hz2x1 : w1.heap.size < w2.heap.size := (by have := hb2.size; (try simp at this); omega)); (try have hn2x1 : ¬ w1.heap.size = w2.heap.size := (by omega)); (try have hm2x1 : ¬ w2.heap.size = w1.heap.size := (by omega)); (try have hz2x2 : wr.heap.size < w2.heap.size := (by have := hb2.size; (try simp at this); omega)); (try have hn2x2 : ¬ wr.heap.size = w2.heap.size := (by omega)); (try have hm2x2 : ¬ w2.heap.size = wr.heap.size := (by omega)); (try have hz2x3 : (wr.heap.size + 1) < w2.heap.size := (by have := hb2.size; (try simp at this); omega)); (try have hn2x3 : ¬ (wr.heap.size + 1) = w2.heap.size := (by omega)); (try have hm2x3 : ¬ w2.heap.size = (wr.heap.size + 1) := (by omega)); (try have c200 := hc2 (w.heap.size) 0 (by first | omega | (simp; done) | (simp; omega))); (try have f200 := hf2 (w.heap.size) 0 (by first | omega | (simp; done) | (simp; omega))); (try have c201 := hc2 (w.heap.size) 1 (by first | omega | (simp; done) | (simp; omega))); (try have f201 := hf2 (w.heap.size) 1 (by first | omega | (simp; done) | (simp; omega))); (try have c2x10 := hc2 (w1.heap.size) 0 (by first | omega | (simp; done) | (simp; omega))); (try have f2x10 := hf2 (w1.heap.size) 0 (by first | omega | (simp; done) | (simp; omega))); (try have c2x11 := hc2 (w1.heap.size) 1 (by first | omega | (simp; done) | (simp; omega))); (try have f2x11 := hf2 (w1.heap.size) 1 (by first | omega | (simp; done) | (simp; omega))); (try have c2x20 := hc2 (wr.heap.size) 0 (by first | omega | (simp; done) | (simp; omega))); (try have f2x20 := hf2 (wr.heap.size) 0 (by first | omega | (simp; done) | (simp; omega))); (try have c2x21 := hc2 (wr.heap.size) 1 (by first | omega | (simp; done) | (simp; omega))); (try have f2x21 := hf2 (wr.heap.size) 1 (by first | omega | (simp; done) | (simp; omega))); (try have c2x30 := hc2 ((wr.heap.size + 1)) 0 (by first | omega | (simp; done) | (simp; omega))); (try have f2x30 := hf2 ((wr.heap.size + 1)) 0 (by first | omega | (simp; done) | (simp; omega))); (try have c2x31 := hc2 ((wr.heap.size + 1)) 1 (by first | omega | (simp; done) | (simp; omega))); (try have f2x31 := hf2 ((wr.heap.size + 1)) 1 (by first | omega | (simp; done) | (simp; omega)))))
      go_roundw
      case rel => exact ⟨k + 1, by omega, by go_num, by rw [ST.out.1]; go_simp, by rw [ST.out.2]; go_simp, by (first | (go_simp; done) | (simp [*]; done) | ((simp [*]) <;> go_simp)), by (first | (go_simp; done) | (simp [*]; done) | ((simp [*]) <;> go_simp)), by (first | (go_simp; done) | (simp [*]; done) | ((simp [*]) <;> go_simp)), by go_simp; try omega, by (repeat' (first | (with_reducible exact Below.refl _ _) | (with_reducible assumption) | (with_reducible refine bStep ?_ (by with_reducible assumption)) | (with_reducible refine bAlloc ?_ _) | (with_reducible refine bDrew ?_) | (with_reducible refine bDrewN ?_ _) | (with_reducible refine Below.setCell ?_ ?_ _) | (with_reducible exact Nat.le_refl _) | (simp; done) | (simp; omega)))⟩
      case measure => simp [intOf]; omega
    · obtain rfl : k = n := by omega
      have EL := Lib.hid (rfl : suL xs k = suL xs k)
      go_wp2_with (first | (go_at_call 71; refine (chkI _ _ _ _).mono ?_; rintro e w3 ⟨rfl, hb3⟩; obtain ⟨hc3, hf3⟩ := bcell hb3; have hs3 := hb3.size; (try simp at hs3); (try have hl3 := Nat.lt_of_succ_le hs3); (try have hz30 : w.heap.size < w3.heap.size := (by have := hb3.size; (try simp at this); omega)); (try have hn30 : ¬ w.heap.size = w3.heap.size := (by omega)); (try have hm30 : ¬ w3.heap.size = w.heap.size := (by omega)); (try have hz31 : w.heap.size + 1 < w3.heap.size := (by have := hb3.size; (try simp at this); omega)); (try have hn31 : ¬ w.heap.size + 1 = w3.heap.size := (by omega)); (try have hm31 : ¬ w3.heap.size = w.heap.size + 1 := (by omega)); (try have c300 := hc3 (w.heap.size) 0 (by first | omega | (simp; done) | (simp; omega))); (try have f300 := hf3 (w.heap.size) 0 (by first | omega | (simp; done) | (simp; omega))); (try have c301 := hc3 (w.heap.size) 1 (by first | omega | (simp; done) | (simp; omega))); (try have f301 := hf3 (w.heap.size) 1 (by first | omega | (simp; done) | (simp; omega))); (try have c310 := hc3 (w.heap.size + 1) 0 (by first | omega | (simp; done) | (simp; omega))); (try have f310 := hf3 (w.heap.size + 1) 0 (by first | omega | (simp; done) | (simp; omega))); (try have c311 := hc3 (w.heap.size + 1) 1 (by first | omega | (simp; done) | (simp; omega))); (try have f311 := hf3 (w.heap.size + 1) 1 (by first | omega | (simp; done) | (simp; omega)))))
      first | go_ret2 | (refine bodyPost_ret (by simp [results, Try.results23, go_sem, *]; try rfl) rfl ?_)
      exact ⟨by simp [smL, smH, smC, V.out, HA.out, HL.out, h2], by (repeat' (first | (with_reducible exact Below.refl _ _) | (with_reducible assumption) | (with_reducible refine bStep ?_ (by with_reducible assumption)) | (with_reducible refine bAlloc ?_ _) | (with_reducible refine bDrew ?_) | (with_reducible refine bDrewN ?_ _) | (with_reducible refine Below.setCell ?_ ?_ _) | (with_reducible exact Nat.le_refl _) | (simp; done) | (simp; omega)))⟩
set_option maxHeartbeats 1600000 in
theorem sumS {w : World} {A : Option Addr} {n : Nat} {xs : List Iv} (H : Ivs w A n xs) (c : Nat) :
    Calls Try.prog 24 #[.slice A n c] w fun e w' => e = .returned (.tuple #[.agg #[.int .i64 (smL xs), .int .i64 (smH xs)], .int .i64 (smC xs)]) ∧ Below w.heap.size w w' := by
  have hn := H.le
  have hl := H.len
  by_cases h2 : 200 < n
  · have g1 : (200 : Int) < (n : Int) := by omega
    have V : Hid (200 < xs.length) := by show 200 < xs.length; omega
    go_enter Try.func24, Try.ntmps24
    go_wp2
    first | go_ret2 | (refine bodyPost_ret (by simp [results, Try.results24, go_sem, *]; try rfl) rfl ?_)
    exact ⟨by simp [smL, smH, smC, V.out], by (repeat' (first | (with_reducible exact Below.refl _ _) | (with_reducible assumption) | (with_reducible refine bStep ?_ (by with_reducible assumption)) | (with_reducible refine bAlloc ?_ _) | (with_reducible refine bDrew ?_) | (with_reducible refine bDrewN ?_ _) | (with_reducible refine Below.setCell ?_ ?_ _) | (with_reducible exact Nat.le_refl _) | (simp; done) | (simp; omega)))⟩
  have g1 : ¬ (200 : Int) < (n : Int) := by omega
  have V : Hid (¬ 200 < xs.length) := by show ¬ 200 < xs.length; omega
  rcases ha : allIv xs
  · go_enter Try.func24, Try.ntmps24
    go_wp2_with (first | (go_at_call 72; refine (areIvS (H.below (by (repeat' (first | (with_reducible exact Below.refl _ _) | (with_reducible assumption) | (with_reducible refine bStep ?_ (by with_reducible assumption)) | (with_reducible refine bAlloc ?_ _) | (with_reducible refine bDrew ?_) | (with_reducible refine bDrewN ?_ _) | (with_reducible refine Below.setCell ?_ ?_ _) | (with_reducible exact Nat.le_refl _) | (simp; done) | (simp; omega))))) _).mono ?_; rintro e w1 ⟨rfl, hb1⟩; obtain ⟨hc1, hf1⟩ := bcell hb1; have hs1 := hb1.size; (try simp at hs1); (try have hl1 := Nat.lt_of_succ_le hs1); (try have hz10 : w.heap.size < w1.heap.size := (by have := hb1.size; (try simp at this); omega)); (try have hn10 : ¬ w.heap.size = w1.heap.size := (by omega)); (try have hm10 : ¬ w1.heap.size = w.heap.size := (by omega)); (try have hz11 : w.heap.size + 1 < w1.heap.size := (by have := hb1.size; (try simp at this); omega)); (try have hn11 : ¬ w.heap.size + 1 = w1.heap.size := (by omega)); (try have hm11 : ¬ w1.heap.size = w.heap.size + 1 := (by omega)); (try have c100 := hc1 (w.heap.size) 0 (by first | omega | (simp; done) | (simp; omega))); (try have f100 := hf1 (w.heap.size) 0 (by first | omega | (simp; done) | (simp; omega))); (try have c101 := hc1 (w.heap.size) 1 (by first | omega | (simp; done) | (simp; omega))); (try have f101 := hf1 (w.heap.size) 1 (by first | omega | (simp; done) | (simp; omega))); (try have c110 := hc1 (w.heap.size + 1) 0 (by first | omega | (simp; done) | (simp; omega))); (try have f110 := hf1 (w.heap.size + 1) 0 (by first | omega | (simp; done) | (simp; omega))); (try have c111 := hc1 (w.heap.size + 1) 1 (by first | omega | (simp; done) | (simp; omega))); (try have f111 := hf1 (w.heap.size + 1) 1 (by first | omega | (simp; done) | (simp; omega)))))
    first | go_ret2 | (refine bodyPost_ret (by simp [results, Try.results24, go_sem, *]; try rfl) rfl ?_)
    exact ⟨by simp [smL, smH, smC, V.out, ha], by (repeat' (first | (with_reducible exact Below.refl _ _) | (with_reducible assumption) | (with_reducible refine bStep ?_ (by with_reducible assumption)) | (with_reducible refine bAlloc ?_ _) | (with_reducible refine bDrew ?_) | (with_reducible refine bDrewN ?_ _) | (with_reducible refine Below.setCell ?_ ?_ _) | (with_reducible exact Nat.le_refl _) | (simp; done) | (simp; omega)))⟩
  have HA := Lib.hid ha
  have HL := Lib.hid hl
  go_enter Try.func24, Try.ntmps24
  go_wp2_with (first | (go_at_call 72; refine (areIvS (H.below (by (repeat' (first | (with_reducible exact Below.refl _ _) | (with_reducible assumption) | (with_reducible refine bStep ?_ (by with_reducible assumption)) | (with_reducible refine bAlloc ?_ _) | (with_reducible refine bDrew ?_) | (with_reducible refine bDrewN ?_ _) | (with_reducible refine Below.setCell ?_ ?_ _) | (with_reducible exact Nat.le_refl _) | (simp; done) | (simp; omega))))) _).mono ?_; rintro e w1 ⟨rfl, hb1⟩; obtain ⟨hc1, hf1⟩ := bcell hb1; have hs1 := hb1.size; (try simp at hs1); (try have hl1 := Nat.lt_of_succ_le hs1); (try have hz10 : w.heap.size < w1.heap.size := (by have := hb1.size; (try simp at this); omega)); (try have hn10 : ¬ w.heap.size = w1.heap.size := (by omega)); (try have hm10 : ¬ w1.heap.size = w.heap.size := (by omega)); (try have hz11 : w.heap.size + 1 < w1.heap.size := (by have := hb1.size; (try simp at this); omega)); (try have hn11 : ¬ w.heap.size + 1 = w1.heap.size := (by omega)); (try have hm11 : ¬ w1.heap.size = w.heap.size + 1 := (by omega)); (try have c100 := hc1 (w.heap.size) 0 (by first | omega | (simp; done) | (simp; omega))); (try have f100 := hf1 (w.heap.size) 0 (by first | omega | (simp; done) | (simp; omega))); (try have c101 := hc1 (w.heap.size) 1 (by first | omega | (simp; done) | (simp; omega))); (try have f101 := hf1 (w.heap.size) 1 (by first | omega | (simp; done) | (simp; omega))); (try have c110 := hc1 (w.heap.size + 1) 0 (by first | omega | (simp; done) | (simp; omega))); (try have f110 := hf1 (w.heap.size + 1) 0 (by first | omega | (simp; done) | (simp; omega))); (try have c111 := hc1 (w.heap.size + 1) 1 (by first | omega | (simp; done) | (simp; omega))); (try have f111 := hf1 (w.heap.size + 1) 1 (by first | omega | (simp; done) | (simp; omega)))))
  go_loopw [5] (fun i wr => ∃ k : Nat, k ≤ n ∧ i = .int .i64 k ∧ wr.cell? ⟨w1.heap.size, 0, none⟩ = some (.int .i64 (suL xs k)) ∧ wr.cell? ⟨w1.heap.size, 1, none⟩ = some (.int .i64 (suH xs k)) ∧ wr.frozen? ⟨w1.heap.size, 0, none⟩ = false ∧ wr.frozen? ⟨w1.heap.size, 1, none⟩ = false ∧ (wr.cell? ⟨w.heap.size, 0, none⟩ = some (.int .i64 0) ∧ wr.cell? ⟨w.heap.size, 1, none⟩ = some (.int .i64 0) ∧ wr.frozen? ⟨w.heap.size, 0, none⟩ = false ∧ wr.frozen? ⟨w.heap.size, 1, none⟩ = false) ∧ w1.heap.size < wr.heap.size ∧ Below w.heap.size w wr) (fun i _ => n - (intOf i).toNat)
  case atStart => exact ⟨0, Nat.zero_le _, rfl, by go_simp; rfl, by go_simp; rfl, by (first | (go_simp; done) | (simp [*]; done) | ((simp [*]) <;> go_simp)), by (first | (go_simp; done) | (simp [*]; done) | ((simp [*]) <;> go_simp)), by (first | (go_simp; done) | (simp [*]; done) | ((simp [*]) <;> go_simp)), by go_simp; try omega, by (repeat' (first | (with_reducible exact Below.refl _ _) | (with_reducible assumption) | (with_reducible refine bStep ?_ (by with_reducible assumption)) | (with_reducible refine bAlloc ?_ _) | (with_reducible refine bDrew ?_) | (with_reducible refine bDrewN ?_ _) | (with_reducible refine Below.setCell ?_ ?_ _) | (with_reducible exact Nat.le_refl _) | (simp; done) | (simp; omega)))⟩
  case round =>
    obtain ⟨k, hk, rfl, hs0, hs1', hz0, hz1, ⟨hy0, hy1, hy2, hy3⟩, hg, hbel⟩ := hrel
    have hw0 : w.heap.size < w1.heap.size := by have := hb1.size; (try simp at this); omega
    have hw1 : ¬ w.heap.size = w1.heap.size := by omega
    have hw2 : ¬ w1.heap.size = w.heap.size := by omega
    have hw3 : ¬ w1.heap.size = wr.heap.size := by omega
    have hw5 : w.heap.size < wr.heap.size := by omega
    have hw6 : ¬ w.heap.size = wr.heap.size := by omega
    have hw7 : ¬ wr.heap.size = w.heap.size := by omega
    have hw4 : ¬ wr.heap.size = w1.heap.size := by omega
    have B := su_bd HA.out k (by rw [HL.out]; exact hk)
    by_cases hlt : k < n
    · obtain ⟨b, off, x, y, rfl, hb, hc1', hc2', HX, hw⟩ := (H.below hbel).at_ hlt
      have B2 := iv_of HA.out HX.out
      have ST := Lib.hid (su_step HX.out)
      obtain ⟨p, hp⟩ : ∃ p, suL xs k = p := ⟨_, rfl⟩
      obtain ⟨q, hq⟩ : ∃ q, suH xs k = q := ⟨_, rfl⟩
      rw [hp] at hs0 B ST
      rw [hq] at hs1' B ST
      have hbn : ¬ b = wr.heap.size := by omega
      have hbn' : ¬ wr.heap.size = b := by omega
      go_wp2_with fail
      go_region_with ((go_at_call 73; refine (ivAddS _ _ _ _ _ (by omega) (by omega) (by omega) (by omega)).mono ?_; rintro e w2 ⟨rfl, hb2⟩; obtain ⟨hc2, hf2⟩ := bcell hb2; have hs2 := hb2.size; (try simp at hs2); (try have hl2 := Nat.lt_of_succ_le hs2); (try have hz20 : w.heap.size < w2.heap.size := (by have := hb2.size; (try simp at this); omega)); (try have hn20 : ¬ w.heap.size = w2.heap.size := (by omega)); (try have hm20 : ¬ w2.heap.size = w.heap.size := (by omega)); (try have hz2x1 : w1.heap.size < w2.heap.size := (by have := hb2.size; (try simp at this); omega)); (try have hn2x1 : ¬ w1.heap.size = w2.heap.size := (by omega)); (try have hm2x1 : ¬ w2.heap.size = w1.heap.size := (by omega)); (try have hz2x2 : b < w2.heap.size := (by have := hb2.size; (try simp at this); omega)); (try have hn2x2 : ¬ b = w2.heap.size := (by omega)); (try have hm2x2 : ¬ w2.heap.size = b := (by omega)); (try have c200 := hc2 (w.heap.size) 0 (by first | omega | (simp; done) | (simp; omega))); (try have f200 := hf2 (w.heap.size) 0 (by first | omega | (simp; done) | (simp; omega))); (try have c201 := hc2 (w.heap.size) 1 (by first | omega | (simp; done) | (simp; omega))); (try have f201 := hf2 (w.heap.size) 1 (by first | omega | (simp; done) | (simp; omega))); (try have c2x10 := hc2 (w1.heap.size) 0 (by first | omega | (simp; done) | (simp; omega))); (try have f2x10 := hf2 (w1.heap.size) 0 (by first | omega | (simp; done) | (simp; omega))); (try have c2x11 := hc2 (w1.heap.size) 1 (by first | omega | (simp; done) | (simp; omega))); (try have f2x11 := hf2 (w1.heap.size) 1 (by first | omega | (simp; done) | (simp; omega))); (try have e0 := hc2 b (off + k * 2) (by first | omega | (simp; omega))); (try have e1 := hc2 b (off + k * 2 + 1) (by first | omega | (simp; omega)))))
      all_goals
        go_wp2
        go_roundw
        case rel => exact ⟨k + 1, by omega, by go_num, by rw [ST.out.1]; go_simp, by rw [ST.out.2]; go_simp, by (first | (go_simp; done) | (simp [*]; done) | ((simp [*]) <;> go_simp)), by (first | (go_simp; done) | (simp [*]; done) | ((simp [*]) <;> go_simp)), by (first | (go_simp; done) | (simp [*]; done) | ((simp [*]) <;> go_simp)), by go_simp; try omega, by (repeat' (first | (with_reducible exact Below.refl _ _) | (with_reducible assumption) | (with_reducible refine bStep ?_ (by with_reducible assumption)) | (with_reducible refine bAlloc ?_ _) | (with_reducible refine bDrew ?_) | (with_reducible refine bDrewN ?_ _) | (with_reducible refine Below.setCell ?_ ?_ _) | (with_reducible exact Nat.le_refl _) | (simp; done) | (simp; omega)))⟩
        case measure => simp [intOf]; omega
    · obtain rfl : k = n := by omega
      have EL := Lib.hid (rfl : suL xs k = suL xs k)
      go_wp2_with (first | (go_at_call 74; refine (resS _ _ _).mono ?_; rintro e w3 ⟨rfl, hb3⟩; obtain ⟨hc3, hf3⟩ := bcell hb3; have hs3 := hb3.size; (try simp at hs3); (try have hl3 := Nat.lt_of_succ_le hs3); (try have hz30 : w.heap.size < w3.heap.size := (by have := hb3.size; (try simp at this); omega)); (try have hn30 : ¬ w.heap.size = w3.heap.size := (by omega)); (try have hm30 : ¬ w3.heap.size = w.heap.size := (by omega)); (try have hz31 : w.heap.size + 1 < w3.heap.size := (by have := hb3.size; (try simp at this); omega)); (try have hn31 : ¬ w.heap.size + 1 = w3.heap.size := (by omega)); (try have hm31 : ¬ w3.heap.size = w.heap.size + 1 := (by omega)); (try have c300 := hc3 (w.heap.size) 0 (by first | omega | (simp; done) | (simp; omega))); (try have f300 := hf3 (w.heap.size) 0 (by first | omega | (simp; done) | (simp; omega))); (try have c301 := hc3 (w.heap.size) 1 (by first | omega | (simp; done) | (simp; omega))); (try have f301 := hf3 (w.heap.size) 1 (by first | omega | (simp; done) | (simp; omega))); (try have c310 := hc3 (w.heap.size + 1) 0 (by first | omega | (simp; done) | (simp; omega))); (try have f310 := hf3 (w.heap.size + 1) 0 (by first | omega | (simp; done) | (simp; omega))); (try have c311 := hc3 (w.heap.size + 1) 1 (by first | omega | (simp; done) | (simp; omega))); (try have f311 := hf3 (w.heap.size + 1) 1 (by first | omega | (simp; done) | (simp; omega)))))
      first | go_ret2 | (refine bodyPost_ret (by simp [results, Try.results24, go_sem, *]; try rfl) rfl ?_)
      exact ⟨by simp [smL, smH, smC, V.out, HA.out, HL.out, h2], by (repeat' (first | (with_reducible exact Below.refl _ _) | (with_reducible assumption) | (with_reducible refine bStep ?_ (by with_reducible assumption)) | (with_reducible refine bAlloc ?_ _) | (with_reducible refine bDrew ?_) | (with_reducible refine bDrewN ?_ _) | (with_reducible refine Below.setCell ?_ ?_ _) | (with_reducible exact Nat.le_refl _) | (simp; done) | (simp; omega)))⟩
end Go.Proofs.Ytincelkcbdjcjaa
