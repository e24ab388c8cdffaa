/- Contracts of functions on lists of intervals: copy, compare, enclose, sum. -/
import Derived.Test.YtincelkcbdjcjaaIvs
import Derived.Test.YtincelkcbdjcjaaBnd
import Derived.Deep.RegionHeld3
namespace Go.Proofs.Ytincelkcbdjcjaa
open Go.RowKit
set_option linter.unusedVariables false

/-- what a copy holds when k elements are copied -/
def flatIv (xs : List Iv) : List Value := xs.flatMap (fun x => [Value.int .i64 x.1, Value.int .i64 x.2])
theorem flatIv_len (xs : List Iv) : (flatIv xs).length = xs.length * 2 := by
  induction xs with
  | nil => rfl
  | cons x r ih => simp only [flatIv, List.flatMap_cons, List.length_append, List.length_cons, List.length_nil] at *; omega
theorem flatIv_append (xs ys : List Iv) : flatIv (xs ++ ys) = flatIv xs ++ flatIv ys := by simp [flatIv]
def partIv (xs : List Iv) (n k : Nat) : List Value := flatIv (xs.take k) ++ List.replicate ((n - k) * 2) (Value.int .i64 0)
theorem partIv_zero (xs : List Iv) (n : Nat) : partIv xs n 0 = (madeCells (Value.agg #[.int .i64 0, .int .i64 0]).cells (n * 2)).toList := by
  show [] ++ List.replicate (n * 2) (Value.int .i64 0) = _
  rw [List.nil_append]
  symm
  rw [List.eq_replicate_iff]
  refine ⟨by simp [madeCells], fun v hv => ?_⟩
  simp only [madeCells, Array.toList_map, List.mem_map] at hv
  obtain ⟨a, _, rfl⟩ := hv
  show (#[Value.int .i64 0, Value.int .i64 0] : Array Value)[a % 2]! = _
  rcases (by omega : a % 2 = 0 ∨ a % 2 = 1) with h | h <;> rw [h] <;> rfl
theorem partIv_set {xs : List Iv} {n k : Nat} {x y : Int} (hl : xs.length = n) (hx : xs[k]? = some (x, y)) (hk : k < n) :
    ((partIv xs n k).set (k * 2) (.int .i64 x)).set (k * 2 + 1) (.int .i64 y) = partIv xs n (k + 1) := by
  have hlen : (flatIv (xs.take k)).length = k * 2 := by rw [flatIv_len, List.length_take]; omega
  unfold partIv
  rw [take_step hx, flatIv_append]
  have e : (n - k) * 2 = (n - (k + 1)) * 2 + 1 + 1 := by omega
  rw [e, List.replicate_succ, List.replicate_succ, List.set_append_right _ _ (by omega), hlen, Nat.sub_self, List.set_cons_zero,
    List.set_append_right _ _ (by omega), hlen, show k * 2 + 1 - k * 2 = 1 by omega, List.set_cons_succ, List.set_cons_zero]
  simp [flatIv]
theorem partIv_end {xs : List Iv} {n : Nat} (hl : xs.length = n) : partIv xs n n = flatIv xs := by
  unfold partIv
  rw [List.take_of_length_le (by omega)]
  simp
theorem flatIv_at (xs : List Iv) : ∀ (j : Nat), j < xs.length → (flatIv xs)[j * 2]? = some (.int .i64 (xs.getD j (0, 0)).1) ∧ (flatIv xs)[j * 2 + 1]? = some (.int .i64 (xs.getD j (0, 0)).2) := by
  induction xs with
  | nil => intro j hj; simp at hj
  | cons x r ih =>
    intro j hj
    cases j with
    | zero => exact ⟨rfl, rfl⟩
    | succ j =>
      have := ih j (by simpa using hj)
      rw [show (j + 1) * 2 = j * 2 + 1 + 1 by omega]
      exact this
theorem Ivs.of_own {w : World} {base g : Nat} {e : TypeId} {c n : Nat} {xs : List Iv} (h : w.ownsRow base e 2 (.slice (some ⟨g, 0, none⟩) n c) n (flatIv xs)) (hl : xs.length = n) (hn : n ≤ 9223372036854775807)
    (hw : ∀ x ∈ xs, (Lit.int .i64 x.1).wf = true ∧ (Lit.int .i64 x.2).wf = true) : Ivs w (some ⟨g, 0, none⟩) n xs := by
  refine ⟨hl, hn, hw, fun hpos => ⟨g, 0, rfl, (h.lt g rfl).2, fun j hj => ?_⟩⟩
  have h1 := flatIv_at xs j (by omega)
  rw [Nat.zero_add, h.cellAt _ (by omega), h.cellAt _ (by omega)]
  exact h1
theorem below_grown {w w' : World} (h : Below w.heap.size w w') : w.grownBy w' none := ⟨h.os, h.tape, h.output, h.size, fun k hk _ => h.block k hk⟩
theorem infoIv : (Try.prog.info? 40).map (fun i => (i.zero, i.size, i.bytes)) = some (some (.agg #[.int .i64 0, .int .i64 0]), 2, 16) := by kernel_rfl
theorem ivAddS (a b c d : Int) (w : World) (ha : -1000000000000000 ≤ a ∧ a ≤ 1000000000000000) (hb : -1000000000000000 ≤ b ∧ b ≤ 1000000000000000) (hc : -1000000000000000 ≤ c ∧ c ≤ 1000000000000000) (hd : -1000000000000000 ≤ d ∧ d ≤ 1000000000000000) :
    Calls Try.prog 73 #[.agg #[.int .i64 a, .int .i64 b], .agg #[.int .i64 c, .int .i64 d]] w fun e w' => e = .returned (.agg #[.int .i64 (a + c), .int .i64 (b + d)]) ∧ Below w.heap.size w w' := by
  go_enter Try.func73, Try.ntmps73
  go_wp2
  go_returns
  exact ⟨rfl, by (repeat' (first | (with_reducible exact Below.refl _ _) | (with_reducible assumption) | (with_reducible refine bStep ?_ (by with_reducible assumption)) | (with_reducible refine bAlloc ?_ _) | (with_reducible refine bDrew ?_) | (with_reducible refine bDrewN ?_ _) | (with_reducible refine Below.setCell ?_ ?_ _) | (with_reducible exact Nat.le_refl _) | (simp; done) | (simp; omega)))⟩
theorem ivAddI (a b c d : Int) (w : World) (ha : -1000000000000000 ≤ a ∧ a ≤ 1000000000000000) (hb : -1000000000000000 ≤ b ∧ b ≤ 1000000000000000) (hc : -1000000000000000 ≤ c ∧ c ≤ 1000000000000000) (hd : -1000000000000000 ≤ d ∧ d ≤ 1000000000000000) :
    Calls Try.prog 70 #[.agg #[.int .i64 a, .int .i64 b], .agg #[.int .i64 c, .int .i64 d]] w fun e w' => e = .returned (.agg #[.int .i64 (a + c), .int .i64 (b + d)]) ∧ Below w.heap.size w w' := by
  go_enter Try.func70, Try.ntmps70
  go_wp2
  go_returns
  exact ⟨rfl, by (repeat' (first | (with_reducible exact Below.refl _ _) | (with_reducible assumption) | (with_reducible refine bStep ?_ (by with_reducible assumption)) | (with_reducible refine bAlloc ?_ _) | (with_reducible refine bDrew ?_) | (with_reducible refine bDrewN ?_ _) | (with_reducible refine Below.setCell ?_ ?_ _) | (with_reducible exact Nat.le_refl _) | (simp; done) | (simp; omega)))⟩
theorem hullS (a b c d : Int) (w : World) : Calls Try.prog 75 #[.agg #[.int .i64 a, .int .i64 b], .agg #[.int .i64 c, .int .i64 d]] w fun e w' => e = .returned (.agg #[.int .i64 (mnV a c), .int .i64 (mxV b d)]) ∧ Below w.heap.size w w' := by
  have k1 : (c < a ∧ mnV a c = c) ∨ (¬ c < a ∧ mnV a c = a) := by unfold mnV; split <;> simp_all
  have k2 : (b < d ∧ mxV b d = d) ∨ (¬ b < d ∧ mxV b d = b) := by unfold mxV; split <;> simp_all
  rcases k1 with ⟨h1, k1⟩ | ⟨h1, k1⟩ <;> rcases k2 with ⟨h2, k2⟩ | ⟨h2, k2⟩ <;> rw [k1, k2] <;> clear k1 k2
  all_goals
    go_enter Try.func75, Try.ntmps75
    go_wp2
    go_returns
    exact ⟨rfl, by (repeat' (first | (with_reducible exact Below.refl _ _) | (with_reducible assumption) | (with_reducible refine bStep ?_ (by with_reducible assumption)) | (with_reducible refine bAlloc ?_ _) | (with_reducible refine bDrew ?_) | (with_reducible refine bDrewN ?_ _) | (with_reducible refine Below.setCell ?_ ?_ _) | (with_reducible exact Nat.le_refl _) | (simp; done) | (simp; omega)))⟩
end Go.Proofs.Ytincelkcbdjcjaa
