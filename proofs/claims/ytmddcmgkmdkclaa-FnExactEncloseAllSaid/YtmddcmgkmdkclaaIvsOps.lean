/- Contracts of functions on lists of intervals: copy, compare, enclose, sum. -/
import Derived.Test.YtmddcmgkmdkclaaIvs
import Derived.Test.YtmddcmgkmdkclaaBnd
import Derived.Deep.RegionHeld3
namespace Go.Proofs.Ytmddcmgkmdkclaa
open Go.RowKit
set_option linter.unusedVariables false

theorem szIv (A : Option Addr) (n c : Nat) (l : Int) (w : World) (hn : n ≤ 9223372036854775807) (h0 : 0 ≤ l) (h1 : l ≤ 9223372036854775807) :
    Calls Try.prog 24 #[.slice A n c, .int .i64 l] w fun e w' => e = .returned (.int .i64 (if l < n then -1 else l - n)) ∧ w = w' := by
  by_cases h : l < n
  · go_enter Try.func24, Try.ntmps24
    go_wp2
    go_ret
    exact ⟨ret_i (by first | rfl | rw [if_pos h]), rfl⟩
  · go_enter Try.func24, Try.ntmps24
    go_wp2
    go_ret
    exact ⟨ret_i (by first | rfl | rw [if_neg (by omega)]), rfl⟩
/-- what a copy holds when k elements are copied -/
def flatIv (xs : List Iv) : List Value := xs.flatMap (fun x => [Value.int .i64 x.1, Value.int .i64 x.2])
theorem flatIv_len (xs : List Iv) : (flatIv xs).length = xs.length * 2 := by
  induction xs with
  | nil => rfl
  | cons x r ih => simp only [flatIv, List.flatMap_cons, List.length_append, List.length_cons, List.length_nil] at *; omega
theorem flatIv_append (xs ys : List Iv) : flatIv (xs ++ ys) = flatIv xs ++ flatIv ys := by simp [flatIv]
def partIv (xs : List Iv) (n k : Nat) : List Value := flatIv (xs.take k) ++ List.replicate ((n - k) * 2) (Value.int .i64 0)
theorem partIv_zero (xs : List Iv) (n : Nat) : partIv xs n 0 = (madeCells (Value.agg #[.int .i64 0, .int .i64 0]).cells (n * 2)).toList := by
  show [] ++ List.replicate (n * 2) (Value.int .i64 0) = _
  rw [List.nil_append]
  symm
  rw [List.eq_replicate_iff]
  refine ⟨by simp [madeCells], fun v hv => ?_⟩
  simp only [madeCells, Array.toList_map, List.mem_map] at hv
  obtain ⟨a, _, rfl⟩ := hv
  show (#[Value.int .i64 0, Value.int .i64 0] : Array Value)[a % 2]! = _
  rcases (by omega : a % 2 = 0 ∨ a % 2 = 1) with h | h <;> rw [h] <;> rfl
theorem partIv_set {xs : List Iv} {n k : Nat} {x y : Int} (hl : xs.length = n) (hx : xs[k]? = some (x, y)) (hk : k < n) :
    ((partIv xs n k).set (k * 2) (.int .i64 x)).set (k * 2 + 1) (.int .i64 y) = partIv xs n (k + 1) := by
  have hlen : (flatIv (xs.take k)).length = k * 2 := by rw [flatIv_len, List.length_take]; omega
  unfold partIv
  rw [take_step hx, flatIv_append]
  have e : (n - k) * 2 = (n - (k + 1)) * 2 + 1 + 1 := by omega
  rw [e, List.replicate_succ, List.replicate_succ, List.set_append_right _ _ (by omega), hlen, Nat.sub_self, List.set_cons_zero,
    List.set_append_right _ _ (by omega), hlen, show k * 2 + 1 - k * 2 = 1 by omega, List.set_cons_succ, List.set_cons_zero]
  simp [flatIv]
theorem partIv_end {xs : List Iv} {n : Nat} (hl : xs.length = n) : partIv xs n n = flatIv xs := by
  unfold partIv
  rw [List.take_of_length_le (by omega)]
  simp
theorem flatIv_at (xs : List Iv) : ∀ (j : Nat), j < xs.length → (flatIv xs)[j * 2]? = some (.int .i64 (xs.getD j (0, 0)).1) ∧ (flatIv xs)[j * 2 + 1]? = some (.int .i64 (xs.getD j (0, 0)).2) := by
  induction xs with
  | nil => intro j hj; simp at hj
  | cons x r ih =>
    intro j hj
    cases j with
    | zero => exact ⟨rfl, rfl⟩
    | succ j =>
      have := ih j (by simpa using hj)
      rw [show (j + 1) * 2 = j * 2 + 1 + 1 by omega]
      exact this
theorem Ivs.of_own {w : World} {base g : Nat} {e : TypeId} {c n : Nat} {xs : List Iv} (h : w.ownsRow base e 2 (.slice (some ⟨g, 0, none⟩) n c) n (flatIv xs)) (hl : xs.length = n) (hn : n ≤ 9223372036854775807)
    (hw : ∀ x ∈ xs, (Lit.int .i64 x.1).wf = true ∧ (Lit.int .i64 x.2).wf = true) : Ivs w (some ⟨g, 0, none⟩) n xs := by
  refine ⟨hl, hn, hw, fun hpos => ⟨g, 0, rfl, (h.lt g rfl).2, fun j hj => ?_⟩⟩
  have h1 := flatIv_at xs j (by omega)
  rw [Nat.zero_add, h.cellAt _ (by omega), h.cellAt _ (by omega)]
  exact h1
theorem below_grown {w w' : World} (h : Below w.heap.size w w') : w.grownBy w' none := ⟨h.os, h.tape, h.output, h.size, fun k hk _ => h.block k hk⟩
theorem infoIv : (Try.prog.info? 35).map (fun i => (i.zero, i.size, i.bytes)) = some (some (.agg #[.int .i64 0, .int .i64 0]), 2, 16) := by kernel_rfl
theorem copyIv {w : World} {A : Option Addr} {n : Nat} {xs : List Iv} (H : Ivs w A n xs) (c : Nat) (hn : n ≤ 1048576) :
    Calls Try.prog 26 #[.slice A n c] w fun e w' => ∃ g, e = .returned (.slice (some ⟨g, 0, none⟩) n n) ∧ w.heap.size ≤ g ∧ Ivs w' (some ⟨g, 0, none⟩) n xs ∧ Below w.heap.size w w' := by
  obtain ⟨i0, hi, hz0, hz1, hz2⟩ := info_parts infoIv
  go_enter Try.func26, Try.ntmps26
  go_wp2_with (at_make; refine wpList_make_full _ rfl _ _ 38 rfl w.heap.size 35 i0 (.agg #[.int .i64 0, .int .i64 0]) 2 Try.underlying38 hi hz0 hz1 .i64 .i64 n n n rfl rfl rfl rfl (by rw [hz2]; omega) (by unfold maxLen; omega) (Nat.le_refl _) ?_; intro w1 hown hgrow)
  have hl := H.len
  have hb1 : Below w.heap.size w w1 := (Below.refl _ _).grown hgrow (Nat.le_refl _) (fun k e => by cases e)
  have ho : w1.ownsRow w.heap.size 35 2 (.slice (some ⟨w.heap.size, 0, none⟩) n n) n (partIv xs n 0) := by
    rw [partIv_zero]
    exact hown
  clear hown hgrow hl hi hz0 hz1 hz2
  go_loopw [4] (fun i wr => ∃ k : Nat, k ≤ n ∧ i = .int .i64 k ∧ wr.ownsRow w.heap.size 35 2 (.slice (some ⟨w.heap.size, 0, none⟩) n n) n (partIv xs n k) ∧ Below w.heap.size w wr) (fun i _ => n - (intOf i).toNat)
  case atStart => exact ⟨0, Nat.zero_le _, rfl, ho, hb1⟩
  case round =>
    obtain ⟨k, hk, rfl, hown, hbel⟩ := hrel
    clear ho hb1
    by_cases hlt : k < n
    · obtain ⟨b, off, x, y, rfl, hb, hc1, hc2, HX, hw⟩ := (H.below hbel).at_ hlt
      go_wp2_with fail
      refine (toIv _ _ _).mono ?_
      rintro e w2 ⟨rfl, hb2⟩
      have hown2 := hown.kept (below_grown hb2) (.inr (by intro e; cases e))
      have hbel2 := bStep hbel hb2
      obtain ⟨hs1, _⟩ := hown2.stored (k * 2) (.int .i64 x)
      obtain ⟨hs2, _⟩ := hs1.stored (k * 2 + 1) (.int .i64 y)
      rw [partIv_set H.len HX.out hlt] at hs2
      have hf1 := hown2.frozenAt (k * 2)
      have hf2 := hown2.frozenAt (k * 2 + 1)
      obtain ⟨u, hu⟩ : ∃ u, w2.cell? ⟨w.heap.size, k * 2, none⟩ = some u := by
        rw [hown2.cellAt _ (by omega)]
        exact ⟨_, List.getElem?_eq_getElem (by rw [hown2.1]; omega)⟩
      obtain ⟨v, hv⟩ : ∃ v, w2.cell? ⟨w.heap.size, k * 2 + 1, none⟩ = some v := by
        rw [hown2.cellAt _ (by omega)]
        exact ⟨_, List.getElem?_eq_getElem (by rw [hown2.1]; omega)⟩
      have S1 := Lib.hid hs2
      have S2 := Lib.hid ((hbel2.setCell (p := ⟨w.heap.size, k * 2, none⟩) (Nat.le_refl _) (.int .i64 x)).setCell (p := ⟨w.heap.size, k * 2 + 1, none⟩) (Nat.le_refl _) (.int .i64 y))
      clear hs1 hs2 hown hown2 hc1 hc2 hbel hbel2 hb2
      go_wp2
      go_roundw
      case rel => exact ⟨k + 1, by omega, by go_num, S1.out, S2.out⟩
      case measure => simp [intOf]; omega
    · obtain rfl : k = n := by omega
      rw [partIv_end H.len] at hown
      have S1 := Lib.hid hown
      clear hown
      go_wp2
      go_ret
      exact ⟨_, rfl, Nat.le_refl _, Ivs.of_own S1.out H.len H.le (fun x hx => H.wf_ hx), hbel⟩
set_option maxHeartbeats 400000 in
theorem eqIvS {w : World} {A B : Option Addr} {n m : Nat} {xs ys : List Iv} (H : Ivs w A n xs) (K : Ivs w B m ys) (c d : Nat) :
    Calls Try.prog 29 #[.slice A n c, .slice B m d] w fun e w' => e = .returned (.bool (xs == ys)) ∧ Below w.heap.size w w' := by
  have hn := H.le
  have hm := K.le
  by_cases hnm : n = m
  · subst hnm
    have h0 : ((n : Int) != (n : Int)) = false := by simp
    go_enter Try.func29, Try.ntmps29
    go_wp2
    go_loopw [5] (fun i wr => ∃ k : Nat, k ≤ n ∧ i = .int .i64 k ∧ Hid (xs.take k = ys.take k) ∧ Below w.heap.size w wr) (fun i _ => n - (intOf i).toNat)
    case atStart => exact ⟨0, Nat.zero_le _, rfl, by simp [Hid], Below.refl _ _⟩
    case round =>
      obtain ⟨k, hk, rfl, HA, hbel⟩ := hrel
      by_cases hlt : k < n
      · obtain ⟨b, off, x, y, rfl, hb, hc1, hc2, HX, hw⟩ := (H.below hbel).at_ hlt
        obtain ⟨b', off', x', y', rfl, hb', hc1', hc2', HY, hw'⟩ := (K.below hbel).at_ hlt
        rcases hd : decide (x = x' ∧ y = y')
        all_goals
          go_wp2_with fail
          go_region_held3 (fun W => W.cell? ⟨b, off + k * 2, none⟩ = some (.int .i64 x) ∧ W.cell? ⟨b, off + k * 2 + 1, none⟩ = some (.int .i64 y) ∧ W.cell? ⟨b', off' + k * 2, none⟩ = some (.int .i64 x') ∧ W.cell? ⟨b', off' + k * 2 + 1, none⟩ = some (.int .i64 y')) (go_keep)
            ((first | (go_at_call 28; refine (eqIv _ _ _ _ _).mono ?_; rintro e w1 ⟨rfl, hb1⟩; obtain ⟨hcq, hfq⟩ := bcell hb1; have hs1 := hb1.size; (try simp at hs1); (try have hl1 := Nat.lt_of_succ_le hs1); (try have hz1x0 : b < w1.heap.size := (by have := hb1.size; (try simp at this); omega)); (try have hn1x0 : ¬ b = w1.heap.size := (by omega)); (try have hm1x0 : ¬ w1.heap.size = b := (by omega)); (try have hz1x1 : b' < w1.heap.size := (by have := hb1.size; (try simp at this); omega)); (try have hn1x1 : ¬ b' = w1.heap.size := (by omega)); (try have hm1x1 : ¬ w1.heap.size = b' := (by omega)); (try have cx1 := hcq b (off + k * 2) (by first | omega | (simp; omega))); (try have cx2 := hcq b (off + k * 2 + 1) (by first | omega | (simp; omega))); (try have cx3 := hcq b' (off' + k * 2) (by first | omega | (simp; omega))); (try have cx4 := hcq b' (off' + k * 2 + 1) (by first | omega | (simp; omega))))))
          go_wp2
        · go_ret
          refine ⟨ret_b ?_, by (repeat' (first | (with_reducible exact Below.refl _ _) | (with_reducible assumption) | (with_reducible refine bStep ?_ (by with_reducible assumption)) | (with_reducible refine bAlloc ?_ _) | (with_reducible refine bDrew ?_) | (with_reducible refine bDrewN ?_ _) | (with_reducible refine Below.setCell ?_ ?_ _) | (with_reducible exact Nat.le_refl _) | (simp; done) | (simp; omega)))⟩
          symm
          rw [beq_eq_false_iff_ne]
          intro e
          have h1 := HX.out
          rw [e, HY.out] at h1
          injection h1 with h1
          injection h1 with h2 h3
          rw [decide_eq_false_iff_not] at hd
          exact hd ⟨h2.symm, h3.symm⟩
        · go_roundw
          case rel =>
            refine ⟨k + 1, by omega, by go_num, ?_, by (repeat' (first | (with_reducible exact Below.refl _ _) | (with_reducible assumption) | (with_reducible refine bStep ?_ (by with_reducible assumption)) | (with_reducible refine bAlloc ?_ _) | (with_reducible refine bDrew ?_) | (with_reducible refine bDrewN ?_ _) | (with_reducible refine Below.setCell ?_ ?_ _) | (with_reducible exact Nat.le_refl _) | (simp; done) | (simp; omega)))⟩
            have hd' := of_decide_eq_true hd
            have hY := HY.out
            rw [← hd'.1, ← hd'.2] at hY
            show xs.take (k + 1) = ys.take (k + 1)
            rw [take_step HX.out, take_step hY, HA.out]
          case measure => simp [intOf]; omega
      · obtain rfl : k = n := by omega
        go_wp2
        go_ret
        exact ⟨ret_b (by
          have h1 := HA.out
          rw [List.take_of_length_le (by rw [H.len]; omega), List.take_of_length_le (by rw [K.len]; omega)] at h1
          simp [h1]), hbel⟩
  · have h0 : ((n : Int) != (m : Int)) = true := by simp; omega
    go_enter Try.func29, Try.ntmps29
    go_wp2
    go_ret
    exact ⟨ret_b (by
      symm
      rw [beq_eq_false_iff_ne]
      intro e
      have h1 := H.len
      rw [e, K.len] at h1
      exact hnm h1.symm), Below.refl _ _⟩
theorem ivAddS (a b c d : Int) (w : World) (ha : -1000000000000000 ≤ a ∧ a ≤ 1000000000000000) (hb : -1000000000000000 ≤ b ∧ b ≤ 1000000000000000) (hc : -1000000000000000 ≤ c ∧ c ≤ 1000000000000000) (hd : -1000000000000000 ≤ d ∧ d ≤ 1000000000000000) :
    Calls Try.prog 60 #[.agg #[.int .i64 a, .int .i64 b], .agg #[.int .i64 c, .int .i64 d]] w fun e w' => e = .returned (.agg #[.int .i64 (a + c), .int .i64 (b + d)]) ∧ Below w.heap.size w w' := by
  go_enter Try.func60, Try.ntmps60
  go_wp2
  go_returns
  exact ⟨rfl, by (repeat' (first | (with_reducible exact Below.refl _ _) | (with_reducible assumption) | (with_reducible refine bStep ?_ (by with_reducible assumption)) | (with_reducible refine bAlloc ?_ _) | (with_reducible refine bDrew ?_) | (with_reducible refine bDrewN ?_ _) | (with_reducible refine Below.setCell ?_ ?_ _) | (with_reducible exact Nat.le_refl _) | (simp; done) | (simp; omega)))⟩
theorem ivAddI (a b c d : Int) (w : World) (ha : -1000000000000000 ≤ a ∧ a ≤ 1000000000000000) (hb : -1000000000000000 ≤ b ∧ b ≤ 1000000000000000) (hc : -1000000000000000 ≤ c ∧ c ≤ 1000000000000000) (hd : -1000000000000000 ≤ d ∧ d ≤ 1000000000000000) :
    Calls Try.prog 62 #[.agg #[.int .i64 a, .int .i64 b], .agg #[.int .i64 c, .int .i64 d]] w fun e w' => e = .returned (.agg #[.int .i64 (a + c), .int .i64 (b + d)]) ∧ Below w.heap.size w w' := by
  go_enter Try.func62, Try.ntmps62
  go_wp2
  go_returns
  exact ⟨rfl, by (repeat' (first | (with_reducible exact Below.refl _ _) | (with_reducible assumption) | (with_reducible refine bStep ?_ (by with_reducible assumption)) | (with_reducible refine bAlloc ?_ _) | (with_reducible refine bDrew ?_) | (with_reducible refine bDrewN ?_ _) | (with_reducible refine Below.setCell ?_ ?_ _) | (with_reducible exact Nat.le_refl _) | (simp; done) | (simp; omega)))⟩
theorem hullS (a b c d : Int) (w : World) : Calls Try.prog 52 #[.agg #[.int .i64 a, .int .i64 b], .agg #[.int .i64 c, .int .i64 d]] w fun e w' => e = .returned (.agg #[.int .i64 (mnV a c), .int .i64 (mxV b d)]) ∧ Below w.heap.size w w' := by
  have k1 : (c < a ∧ mnV a c = c) ∨ (¬ c < a ∧ mnV a c = a) := by unfold mnV; split <;> simp_all
  have k2 : (b < d ∧ mxV b d = d) ∨ (¬ b < d ∧ mxV b d = b) := by unfold mxV; split <;> simp_all
  rcases k1 with ⟨h1, k1⟩ | ⟨h1, k1⟩ <;> rcases k2 with ⟨h2, k2⟩ | ⟨h2, k2⟩ <;> rw [k1, k2] <;> clear k1 k2
  all_goals
    go_enter Try.func52, Try.ntmps52
    go_wp2
    go_returns
    exact ⟨rfl, by (repeat' (first | (with_reducible exact Below.refl _ _) | (with_reducible assumption) | (with_reducible refine bStep ?_ (by with_reducible assumption)) | (with_reducible refine bAlloc ?_ _) | (with_reducible refine bDrew ?_) | (with_reducible refine bDrewN ?_ _) | (with_reducible refine Below.setCell ?_ ?_ _) | (with_reducible exact Nat.le_refl _) | (simp; done) | (simp; omega)))⟩
end Go.Proofs.Ytmddcmgkmdkclaa
