/- Bounds of intervals: contracts of the functions that check a result. -/
import Derived.Test.YtincelkcbdjcjaaStruct
namespace Go.Proofs.Ytincelkcbdjcjaa
open Go.RowKit
set_option linter.unusedVariables false

def rsOk (lo hi : Int) : Bool := isV lo && isV hi
def rsL (lo hi : Int) : Int := if rsOk lo hi then lo else 0
def rsH (lo hi : Int) : Int := if rsOk lo hi then hi else 0
def rsC (lo hi c : Int) : Int := if rsOk lo hi then 0 else c
def mnV (a b : Int) : Int := if b < a then b else a
def mxV (a b : Int) : Int := if a < b then b else a
theorem bndI (a b : Int) (w : World) : Calls Try.prog 109 #[.agg #[.int .i64 a, .int .i64 b]] w fun e w' => e = .returned (.bool (rsOk a b)) ∧ Below w.heap.size w w' := by
  rcases h1 : isV a <;> rcases h2 : isV b
  all_goals
    go_enter Try.func109, Try.ntmps109
    go_wp2_with (first | (go_at_call 110; refine (isI _ _).mono ?_; rintro e w' ⟨rfl, rfl⟩))
    go_ret
    exact ⟨ret_b (by simp [rsOk, h1, h2]), by (repeat' (first | (with_reducible exact Below.refl _ _) | (with_reducible assumption) | (with_reducible refine bStep ?_ (by with_reducible assumption)) | (with_reducible refine bAlloc ?_ _) | (with_reducible refine bDrew ?_) | (with_reducible refine bDrewN ?_ _) | (with_reducible refine Below.setCell ?_ ?_ _) | (with_reducible exact Nat.le_refl _) | (simp; done) | (simp; omega)))⟩
theorem chkI (a b c : Int) (w : World) : Calls Try.prog 71 #[.agg #[.int .i64 a, .int .i64 b], .int .i64 c] w fun e w' => e = .returned (.tuple #[.agg #[.int .i64 (rsL a b), .int .i64 (rsH a b)], .int .i64 (rsC a b c)]) ∧ Below w.heap.size w w' := by
  rcases h1 : rsOk a b
  all_goals
    go_enter Try.func71, Try.ntmps71
    go_wp2_with (first | (go_at_call 109; refine (bndI _ _ _).mono ?_; rintro e w1 ⟨rfl, hb1⟩; obtain ⟨hc1, hf1⟩ := bcell hb1; have hs1 := hb1.size; (try simp at hs1); (try have hl1 := Nat.lt_of_succ_le hs1); (try have hz10 : w.heap.size < w1.heap.size := (by have := hb1.size; (try simp at this); omega)); (try have hn10 : ¬ w.heap.size = w1.heap.size := (by omega)); (try have hm10 : ¬ w1.heap.size = w.heap.size := (by omega)); (try have hz11 : w.heap.size + 1 < w1.heap.size := (by have := hb1.size; (try simp at this); omega)); (try have hn11 : ¬ w.heap.size + 1 = w1.heap.size := (by omega)); (try have hm11 : ¬ w1.heap.size = w.heap.size + 1 := (by omega)); (try have c100 := hc1 (w.heap.size) 0 (by first | omega | (simp; done) | (simp; omega))); (try have f100 := hf1 (w.heap.size) 0 (by first | omega | (simp; done) | (simp; omega))); (try have c101 := hc1 (w.heap.size) 1 (by first | omega | (simp; done) | (simp; omega))); (try have f101 := hf1 (w.heap.size) 1 (by first | omega | (simp; done) | (simp; omega))); (try have c110 := hc1 (w.heap.size + 1) 0 (by first | omega | (simp; done) | (simp; omega))); (try have f110 := hf1 (w.heap.size + 1) 0 (by first | omega | (simp; done) | (simp; omega))); (try have c111 := hc1 (w.heap.size + 1) 1 (by first | omega | (simp; done) | (simp; omega))); (try have f111 := hf1 (w.heap.size + 1) 1 (by first | omega | (simp; done) | (simp; omega)))))
    first | go_ret2 | (refine bodyPost_ret (by simp [results, Try.results71, go_sem, *]; try rfl) rfl ?_)
    exact ⟨by simp [rsL, rsH, rsC, h1], by (repeat' (first | (with_reducible exact Below.refl _ _) | (with_reducible assumption) | (with_reducible refine bStep ?_ (by with_reducible assumption)) | (with_reducible refine bAlloc ?_ _) | (with_reducible refine bDrew ?_) | (with_reducible refine bDrewN ?_ _) | (with_reducible refine Below.setCell ?_ ?_ _) | (with_reducible exact Nat.le_refl _) | (simp; done) | (simp; omega)))⟩
theorem resS (a b : Int) (w : World) : Calls Try.prog 74 #[.int .i64 a, .int .i64 b] w fun e w' => e = .returned (.tuple #[.agg #[.int .i64 (rsL a b), .int .i64 (rsH a b)], .int .i64 (rsC a b 2)]) ∧ Below w.heap.size w w' := by
  rcases h1 : isV a <;> rcases h2 : isV b
  all_goals
    go_enter Try.func74, Try.ntmps74
    go_wp2_with (first | (go_at_call 99; refine (isS _ _).mono ?_; rintro e w' ⟨rfl, rfl⟩))
    first | go_ret2 | (refine bodyPost_ret (by simp [results, Try.results74, go_sem, *]; try rfl) rfl ?_)
    exact ⟨by simp [rsL, rsH, rsC, rsOk, h1, h2], by (repeat' (first | (with_reducible exact Below.refl _ _) | (with_reducible assumption) | (with_reducible refine bStep ?_ (by with_reducible assumption)) | (with_reducible refine bAlloc ?_ _) | (with_reducible refine bDrew ?_) | (with_reducible refine bDrewN ?_ _) | (with_reducible refine Below.setCell ?_ ?_ _) | (with_reducible exact Nat.le_refl _) | (simp; done) | (simp; omega)))⟩
end Go.Proofs.Ytincelkcbdjcjaa
