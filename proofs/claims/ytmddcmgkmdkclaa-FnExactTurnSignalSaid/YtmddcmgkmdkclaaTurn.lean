/- The turned list: contracts of the reference and of the program, and the walk of the law. -/
import Derived.Test.YtmddcmgkmdkclaaMark
import Derived.Test.YtmddcmgkmdkclaaSig
import Derived.Test.YtmddcmgkmdkclaaShelf
import Derived.Maps.AppendAt
import Derived.Lib.OwnBridge
namespace Go.Proofs.Ytmddcmgkmdkclaa
open Go.RowKit
set_option linter.unusedVariables false

theorem own_base {w : World} {B : Nat} {e : TypeId} {s : Nat} {v : Value} {n : Nat} {xs : List Value} (h : w.ownsRow B e s v n xs) : ∀ k, v.ownBlock = some k → B ≤ k := by
  intro k hk
  rcases h.2 with ⟨rfl, _⟩ | ⟨g, cap, cur, rfl, hb, _⟩
  · cases hk
  · simp [Value.ownBlock] at hk; omega
theorem own_empty (w : World) (e : TypeId) : (w.alloc (.cells #[] e)).ownsRow w.heap.size e 1 (.slice (some ⟨w.heap.size, 0, none⟩) 0 0) 0 [] :=
  ⟨rfl, .inr ⟨w.heap.size, 0, #[], rfl, Nat.le_refl _, (Array.getElem?_push_size : (w.heap.push _)[w.heap.size]? = _), Nat.le_refl _, by unfold maxLen; omega, rfl, rfl⟩⟩
theorem own_below {w w' : World} {B : Nat} {e : TypeId} {s : Nat} {v : Value} {n : Nat} {xs : List Value} (h : w.ownsRow B e s v n xs) (hb : Below w.heap.size w w') : w'.ownsRow B e s v n xs := by
  refine ⟨h.1, ?_⟩
  rcases h.2 with h2 | ⟨g, cap, cur, rfl, hB, hg, r⟩
  · exact .inl h2
  · exact .inr ⟨g, cap, cur, rfl, hB, (hb.block g (lt_of_block hg)).trans hg, r⟩
theorem own_grown {w w' : World} {B : Nat} {e : TypeId} {s : Nat} {v : Value} {n : Nat} {xs : List Value} {r : Option Nat} (h : w.ownsRow B e s v n xs) (hb : w.grownBy w' r) (hr : ∀ k, r = some k → k < B) : w'.ownsRow B e s v n xs := by
  refine ⟨h.1, ?_⟩
  rcases h.2 with h2 | ⟨g, cap, cur, rfl, hB, hg, q⟩
  · exact .inl h2
  · exact .inr ⟨g, cap, cur, rfl, hB, (hb.block g (lt_of_block hg) (fun e => by have := hr g e.symm; omega)).trans hg, q⟩
theorem below_grown {w w' : World} {B : Nat} {r : Option Nat} (h : w.grownBy w' r) (hB : B ≤ w.heap.size) (hr : ∀ k, r = some k → B ≤ k) : Below B w w' := (Below.refl _ _).grown h hB hr
theorem own_slice {w : World} {B : Nat} {e : TypeId} {s : Nat} {v : Value} {n : Nat} {xs : List Value} (h : w.ownsRow B e s v n xs) : ∃ A c, v = .slice A n c := by
  rcases h.2 with ⟨rfl, rfl⟩ | ⟨g, cap, cur, rfl, _⟩
  · exact ⟨_, _, rfl⟩
  · exact ⟨_, _, rfl⟩

theorem markO {w : World} {B n c k : Nat} {A : Option Addr} {xs : List Int} (O : w.ownsRow B 2 1 (.slice A n c) n (xs.map (Value.int .i64))) (hn : n ≤ 4611686018427387903) (hk : k ≤ 4611686018427387903) :
    Calls Try.prog 22 #[.slice A n c, .int .i64 k] w fun e w' => e = .returned (.int .i64 ((k + n : Nat) : Int)) ∧ w'.ownsRow B 2 1 (.slice A n c) n ((marks k n).map (Value.int .i64)) ∧ w.grownBy w' (Value.ownBlock (.slice A n c)) := by
  rcases h2 : O.2 with ⟨e, rfl⟩ | ⟨g, cap, cur, e, _⟩
  · injection e with e1 e2 e3
    subst e1; subst e3
    go_enter Try.func22, Try.ntmps22
    go_wp2
    go_loopw [1, 5] (fun v i wr => v = .int .i64 k ∧ i = .int .i64 0 ∧ wr = w) (fun _ i _ => 0)
    case atStart => exact ⟨rfl, rfl, rfl⟩
    case round =>
      obtain ⟨rfl, rfl, rfl⟩ := hrel
      go_wp2
      go_ret
      exact ⟨rfl, ⟨by simp [marks], .inl ⟨rfl, rfl⟩⟩, World.grownBy.refl _ _⟩
  · injection e with e1 e2 e3
    subst e1; subst e3
    exact markL O hn hk

def tgV (xs : List Int) : List Int := if sigB xs then xs.reverse else []
def rv (xs : List Int) (n j : Nat) : List Value := (xs.reverse.take (n - j)).map (Value.int .i64)
theorem rv_zero (xs : List Int) (n : Nat) : rv xs n n = [] := by simp [rv]
theorem rv_end {xs : List Int} {n : Nat} (h : xs.length = n) : rv xs n 0 = xs.reverse.map (Value.int .i64) := by
  unfold rv
  rw [List.take_of_length_le (by simp; omega)]
theorem rv_step {xs : List Int} {n j : Nat} {x : Int} (h : xs.length = n) (hx : xs[j]? = some x) (hj : j < n) : rv xs n (j + 1) ++ [.int .i64 x] = rv xs n j := by
  unfold rv
  have e : xs.reverse[n - (j + 1)]? = some x := by
    rw [List.getElem?_reverse (by omega), ← hx]; congr 1; omega
  have e2 : n - j = n - (j + 1) + 1 := by omega
  rw [e2, take_step e, List.map_append]
  rfl
theorem sig_len {xs : List Int} (h : sigB xs = true) : xs.length ≤ 400 := by
  unfold sigB at h
  simp at h
  exact h.2

def Turned (w : World) (xs : List Int) (e : Ending) (w' : World) : Prop :=
  ∃ A m c, e = .returned (.tuple #[.slice A m c, .int .i64 (sgC xs)]) ∧ w'.ownsRow w.heap.size 2 1 (.slice A m c) m ((tgV xs).map (Value.int .i64)) ∧ Below w.heap.size w w'
set_option maxHeartbeats 1600000 in
theorem turnS {w : World} {A : Option Addr} {n : Nat} {xs : List Int} (H : Ints .i64 w A n xs) (c : Nat) : Calls Try.prog 20 #[.slice A n c] w (Turned w xs) := by
  obtain ⟨i0, hi, hz0, hz1, hz2⟩ := info_parts infoI64
  have hlen := Lib.hid H.len
  rcases hs : sigB xs
  · go_enter Try.func20, Try.ntmps20
    go_wp2_with (go_at_call 43; refine (sigS H _).mono ?_; rintro e w1 ⟨rfl, rfl⟩)
    go_ret2
    exact ⟨none, 0, 0, by simp [sgC, hs], by simp only [tgV, hs]; exact World.ownsRow_nil _ _ _ _, Below.refl _ _⟩
  · have h4 : n ≤ 400 := by have := sig_len hs; rw [H.len] at this; exact this
    go_enter Try.func20, Try.ntmps20
    go_wp2_with (go_at_call 43; refine (sigS H _).mono ?_; rintro e w1 ⟨rfl, rfl⟩)
    have hst : (w.alloc (.cells #[] 2)).ownsRow w.heap.size 2 1 (.slice (some ⟨w.heap.size, 0, none⟩) 0 0) 0 [] := own_empty _ _
    go_loopw [4, 5] (fun v i wr => ∃ j : Nat, j ≤ n ∧ i = .int .i64 ((j : Int) - 1) ∧ wr.ownsRow w.heap.size 2 1 v (n - j) (rv xs n j) ∧ Below w.heap.size w wr) (fun _ i _ => (intOf i + 1).toNat)
    case atStart => exact ⟨n, Nat.le_refl _, rfl, by rw [rv_zero, Nat.sub_self]; exact hst, by (repeat' (first | (with_reducible exact Below.refl _ _) | (with_reducible assumption) | (with_reducible refine bStep ?_ (by with_reducible assumption)) | (with_reducible refine bAlloc ?_ _) | (with_reducible refine bDrew ?_) | (with_reducible refine bDrewN ?_ _) | (with_reducible refine Below.setCell ?_ ?_ _) | (with_reducible exact Nat.le_refl _) | (simp; done) | (simp; omega)))⟩
    case round =>
      obtain ⟨j, hj, rfl, hown, hbel⟩ := hrel
      clear hst
      cases j with
      | zero =>
        rw [rv_end hlen.out, Nat.sub_zero] at hown
        obtain ⟨A1, c1, rfl⟩ := own_slice hown
        have S1 := Lib.hid hown
        clear hown
        go_wp2
        go_ret2
        exact ⟨A1, n, c1, by simp [sgC, hs], by simpa [tgV, hs] using S1.out, hbel⟩
      | succ j =>
        have ej : ((j + 1 : Nat) : Int) - 1 = (j : Int) := by omega
        rw [ej]
        obtain ⟨b, off, x, rfl, hb, hc, HX, hw⟩ := H.at_ (i := j) (by omega)
        have hcr : wr.cell? ⟨b, off + j, none⟩ = some (.int .i64 x) := (hbel.cell (p := ⟨b, off + j, none⟩) hb).trans hc
        have hbs := hbel.size
        have hob := own_base hown
        go_wp2_with (at_builtin; refine wpList_append_own _ rfl _ _ 22 rfl w.heap.size 2 i0 (.int .i64 0) 1 8 Try.underlying22 hi hz0 hz1 hz2 rfl (by decide) _ _ _ rfl (hown.alloc _) ⟨wr.heap.size, 0, none⟩ 1 1 [.int .i64 x] rfl rfl (cell_one_new _ _ _) (ints_oneCell .i64 [x]) (by unfold maxLen; omega) (by omega) (by simp; omega) ?_; intro v' w1 hown' hgrow hnil)
        rw [rv_step hlen.out HX.out (by omega), show n - (j + 1) + 1 = n - j from by omega] at hown'
        have hb2 : Below w.heap.size w w1 := (bAlloc hbel _).grown hgrow (by simp; omega) hob
        have S1 := Lib.hid hown'
        have S2 := Lib.hid hb2
        clear hown' hgrow hb2 hown hob hnil
        go_wp2
        go_roundw
        case rel => exact ⟨j, by omega, rfl, S1.out, S2.out⟩
        case measure => simp [intOf]
set_option maxHeartbeats 1600000 in
theorem turnI {w : World} {g n : Nat} {xs : List Int} (H : Ints .i64 w (some ⟨g, 0, none⟩) n xs) (c : Nat) : Calls Try.prog 21 #[.slice (some ⟨g, 0, none⟩) n c] w (Turned w xs) := by
  have hlen := Lib.hid H.len
  rcases hs : sigB xs
  · go_enter Try.func21, Try.ntmps21
    go_wp2_with (go_at_call 45; refine (sigI H _).mono ?_; rintro e w1 ⟨rfl, rfl⟩)
    go_ret2
    exact ⟨none, 0, 0, by simp [sgC, hs], by simp only [tgV, hs]; exact World.ownsRow_nil _ _ _ _, Below.refl _ _⟩
  · have h4 : n ≤ 400 := by have := sig_len hs; rw [H.len] at this; exact this
    rcases Nat.eq_zero_or_pos n with rfl | hpos
    · have hx : xs = [] := List.length_eq_zero_iff.1 hlen.out
      go_enter Try.func21, Try.ntmps21
      go_wp2_with (first | (go_at_call 45; refine (sigI H _).mono ?_; rintro e w1 ⟨rfl, rfl⟩) | (go_at_call 49; refine (Try.slices_Clone_int_zero _ _ _).mono ?_; rintro e w2 ⟨v', rfl, O2, hv2, hb2⟩; obtain ⟨A2, c2, rfl⟩ := own_slice O2) | (go_at_call 50; refine (Try.slices_Reverse_int_empty _ _ _).mono ?_; rintro e w3 ⟨rfl, rfl⟩))
      go_ret2
      exact ⟨A2, 0, c2, by simp [sgC, hs], by subst hx; simpa [tgV, hs] using O2, hb2⟩
    · have hcell : ∀ j, j < xs.length → w.cell? ⟨g, 0 + j, none⟩ = some (.int .i64 (xs.getD j 0)) := by
        obtain ⟨b, off, e, _, hc⟩ := H.2.2.2 hpos
        injection e with e
        injection e with e1 e2
        subst e1; subst e2
        intro j hj
        exact hc j (by rw [← hlen.out]; exact hj)
      have HC := Lib.hid hcell
      clear hcell
      go_enter Try.func21, Try.ntmps21
      go_wp2_with (first | (go_at_call 45; refine (sigI H _).mono ?_; rintro e w1 ⟨rfl, rfl⟩) | (go_at_call 49; refine (Try.slices_Clone_int g 0 n _ xs _ (by rw [hlen.out]; omega) (by omega) HC.out).mono ?_; rintro e w2 ⟨v', rfl, O2, hv2, hb2⟩; rw [List.take_of_length_le (by rw [hlen.out]; omega)] at O2; obtain ⟨g2, c2, rfl, hg2, hg2l, _, _, _, HH⟩ := Go.Lib.holds_of_ownsRow O2 hv2; have R2 := Try.slices_Reverse_int g2 0 c2 xs w2 HH (by rw [hlen.out]; omega); rw [hlen.out] at R2; have S2 := Lib.hid O2; have Q2 := Lib.hid hb2; have K2 := Lib.hid R2; clear O2 hb2 R2 HH hv2) | (go_at_call 50; refine K2.out.mono ?_; rintro e w3 ⟨rfl, q3, rfl⟩; have O3 := Lib.hid (Go.Lib.ownsRow_putRow (k := n) (q := q3) (ys := xs.reverse) S2.out (by simp [hlen.out]) (Nat.le_refl _)); have B3 := Lib.hid (Go.Lib.below_putRow (q := q3) (d := xs.reverse.toArray) (enc := Value.int .i64) Q2.out hg2)))
      go_ret2
      exact ⟨some ⟨g2, 0, none⟩, n, c2, by simp [sgC, hs], by have := O3.out; rw [List.take_of_length_le (by simp [hlen.out])] at this; simpa [tgV, hs] using this, B3.out⟩
theorem tgC_len (xs : List Int) (h : xs.length ≤ 1048576) : (tgV xs).length ≤ 1048576 := by unfold tgV; split <;> simp; exact h
theorem tgV_mem {xs : List Int} {x : Int} (h : x ∈ tgV xs) : x ∈ xs := by unfold tgV at h; split at h <;> simp at h; exact h
set_option maxHeartbeats 3200000 in
theorem wTurnSignal {w : World} (A : Option Addr) (n c : Nat) (xs : List Int) (H : Ints .i64 w A n xs) : 
    Calls Try.prog 6 #[.slice A n c] w fun e w' => e = .returned (.bool true) ∧ Below w.heap.size w w' := by
  have hm := H.le
  by_cases hn : n ≤ 1048576
  · have hwf : Hid (∀ x ∈ tgV xs, (Lit.int .i64 x).wf = true) := fun x hx => H.wf_ (tgV_mem hx)
    have htl : Hid ((tgV xs).length ≤ 1048576) := tgC_len xs (by rw [H.len]; exact hn)
    go_enter Try.func6, Try.ntmps6
    go_wp2_with fail
    refine (copyL H c hn).mono ?_
    rintro e w1 ⟨g1, rfl, hg1, I1, O1, B1⟩
    clear O1
    have hz1 := B1.size
    go_wp2_with fail
    refine (turnS I1 _).mono ?_
    rintro e w2 ⟨A2, m2, c2, rfl, O2, B2⟩
    have hz2 := B2.size
    have hm2 : m2 ≤ 1048576 := by have h := O2.1; have := htl.out; simp at h; omega
    have J2 := Ints.of_own O2 (by omega) hwf.out
    clear O2
    go_wp2_with fail
    refine (copyL (H.below (by (repeat' (first | (with_reducible exact Below.refl _ _) | (with_reducible assumption) | (with_reducible refine bStep ?_ (by with_reducible assumption)) | (with_reducible refine bAlloc ?_ _) | (with_reducible refine bDrew ?_) | (with_reducible refine bDrewN ?_ _) | (with_reducible refine Below.setCell ?_ ?_ _) | (with_reducible exact Nat.le_refl _) | (simp; done) | (simp; omega))))) c hn).mono ?_
    rintro e w3 ⟨g3, rfl, hg3, I3, O3, B3⟩
    have hz3 := B3.size
    have hl3 : g3 < w3.heap.size := by
      rcases O3.2 with ⟨e, _⟩ | ⟨g, cap, cur, e, _, hb, _⟩
      · cases e
      · injection e with e
        injection e with e
        injection e with e
        subst e
        exact lt_of_block hb
    go_wp2_with fail
    refine (turnI I3 _).mono ?_
    rintro e w4 ⟨A4, m4, c4, rfl, O4, B4⟩
    have hz4 := B4.size
    have hm4 : m4 ≤ 1048576 := by have h := O4.1; have := htl.out; simp at h; omega
    have e0 : (xs == xs) = true := by simp
    have e1 : (tgV xs == tgV xs) = true := by simp
    have J4 := Ints.of_own O4 (by omega) hwf.out
    have O3a := own_below O3 B4
    have I3a := I3.below B4
    clear O3 I3
    have O3 := Lib.hid O3a
    have O4a := Lib.hid O4
    have I3 := Lib.hid I3a
    have J2a := Lib.hid J2
    clear O3a O4 I3a J2
    go_wp2_with fail
    refine (eqL J4 (J2a.out.below (by (repeat' (first | (with_reducible exact Below.refl _ _) | (with_reducible assumption) | (with_reducible refine bStep ?_ (by with_reducible assumption)) | (with_reducible refine bAlloc ?_ _) | (with_reducible refine bDrew ?_) | (with_reducible refine bDrewN ?_ _) | (with_reducible refine Below.setCell ?_ ?_ _) | (with_reducible exact Nat.le_refl _) | (simp; done) | (simp; omega))))) _ _).mono ?_
    rintro e w5 ⟨rfl, q5, rfl⟩
    clear J4
    go_wp2_with fail
    refine (copyL (H.below (by (repeat' (first | (with_reducible exact Below.refl _ _) | (with_reducible assumption) | (with_reducible refine bStep ?_ (by with_reducible assumption)) | (with_reducible refine bAlloc ?_ _) | (with_reducible refine bDrew ?_) | (with_reducible refine bDrewN ?_ _) | (with_reducible refine Below.setCell ?_ ?_ _) | (with_reducible exact Nat.le_refl _) | (simp; done) | (simp; omega))))) c hn).mono ?_
    rintro e w6 ⟨g6, rfl, hg6, I6, O6, B6⟩
    clear O6
    have hz6 := B6.size
    simp at hz6
    go_wp2_with fail
    refine (eqL (I3.out.below (by (repeat' (first | (with_reducible exact Below.refl _ _) | (with_reducible assumption) | (with_reducible refine bStep ?_ (by with_reducible assumption)) | (with_reducible refine bAlloc ?_ _) | (with_reducible refine bDrew ?_) | (with_reducible refine bDrewN ?_ _) | (with_reducible refine Below.setCell ?_ ?_ _) | (with_reducible exact Nat.le_refl _) | (simp; done) | (simp; omega))))) I6 _ _).mono ?_
    rintro e w7 ⟨rfl, q7, rfl⟩
    clear I3 I6
    go_wp2_with fail
    have O3b : (w6.drewN q7).ownsRow w2.heap.size 2 1 (.slice (some ⟨g3, 0, none⟩) n n) n (xs.map (Value.int .i64)) := own_below O3.out (by (repeat' (first | (with_reducible exact Below.refl _ _) | (with_reducible assumption) | (with_reducible refine bStep ?_ (by with_reducible assumption)) | (with_reducible refine bAlloc ?_ _) | (with_reducible refine bDrew ?_) | (with_reducible refine bDrewN ?_ _) | (with_reducible refine Below.setCell ?_ ?_ _) | (with_reducible exact Nat.le_refl _) | (simp; done) | (simp; omega))))
    refine (markL (k := 1) O3b (by omega) (by omega)).mono ?_
    rintro e w8 ⟨rfl, O8, G8⟩
    have T8w : Below w.heap.size w w8 := Below.trans (b := w6.drewN q7) (by (repeat' (first | (with_reducible exact Below.refl _ _) | (with_reducible assumption) | (with_reducible refine bStep ?_ (by with_reducible assumption)) | (with_reducible refine bAlloc ?_ _) | (with_reducible refine bDrew ?_) | (with_reducible refine bDrewN ?_ _) | (with_reducible refine Below.setCell ?_ ?_ _) | (with_reducible exact Nat.le_refl _) | (simp; done) | (simp; omega)))) (below_grown G8 (by simp; omega) (by rintro k ⟨⟩; omega))
    have T8 : Below w2.heap.size w2 w8 := Below.trans (b := w6.drewN q7) (by (repeat' (first | (with_reducible exact Below.refl _ _) | (with_reducible assumption) | (with_reducible refine bStep ?_ (by with_reducible assumption)) | (with_reducible refine bAlloc ?_ _) | (with_reducible refine bDrew ?_) | (with_reducible refine bDrewN ?_ _) | (with_reducible refine Below.setCell ?_ ?_ _) | (with_reducible exact Nat.le_refl _) | (simp; done) | (simp; omega)))) (below_grown G8 (by simp; omega) (by rintro k ⟨⟩; omega))
    have O4b := own_grown (own_below (w' := w6.drewN q7) O4a.out (by (repeat' (first | (with_reducible exact Below.refl _ _) | (with_reducible assumption) | (with_reducible refine bStep ?_ (by with_reducible assumption)) | (with_reducible refine bAlloc ?_ _) | (with_reducible refine bDrew ?_) | (with_reducible refine bDrewN ?_ _) | (with_reducible refine Below.setCell ?_ ?_ _) | (with_reducible exact Nat.le_refl _) | (simp; done) | (simp; omega))))) G8 (by rintro k ⟨⟩; omega)
    have hz8 := G8.size
    simp at hz8
    have J4b := Ints.of_own O4b (by omega) hwf.out
    clear G8 O8 O3b O3 O4a
    have O4 := Lib.hid O4b
    clear O4b
    have ng1 : ¬ ((1 + n : Nat) : Int) < 0 := by omega
    go_wp2_with fail
    refine (eqL J4b (J2a.out.below T8) _ _).mono ?_
    rintro e w9 ⟨rfl, q9, rfl⟩
    clear J4b
    go_wp2_with fail
    have O4c := own_below (w' := w8.drewN q9) O4.out (by (repeat' (first | (with_reducible exact Below.refl _ _) | (with_reducible assumption) | (with_reducible refine bStep ?_ (by with_reducible assumption)) | (with_reducible refine bAlloc ?_ _) | (with_reducible refine bDrew ?_) | (with_reducible refine bDrewN ?_ _) | (with_reducible refine Below.setCell ?_ ?_ _) | (with_reducible exact Nat.le_refl _) | (simp; done) | (simp; omega))))
    have hob := own_base O4c
    refine (markO (k := 1) O4c (by omega) (by omega)).mono ?_
    rintro e w10 ⟨rfl, O10, G10⟩
    have T10w : Below w.heap.size w w10 := Below.trans (b := w8.drewN q9) (by (repeat' (first | (with_reducible exact Below.refl _ _) | (with_reducible assumption) | (with_reducible refine bStep ?_ (by with_reducible assumption)) | (with_reducible refine bAlloc ?_ _) | (with_reducible refine bDrew ?_) | (with_reducible refine bDrewN ?_ _) | (with_reducible refine Below.setCell ?_ ?_ _) | (with_reducible exact Nat.le_refl _) | (simp; done) | (simp; omega)))) (below_grown G10 (by simp; omega) (fun k e => by have := hob k e; omega))
    have T10 : Below w2.heap.size w2 w10 := Below.trans (b := w8.drewN q9) (by (repeat' (first | (with_reducible exact Below.refl _ _) | (with_reducible assumption) | (with_reducible refine bStep ?_ (by with_reducible assumption)) | (with_reducible refine bAlloc ?_ _) | (with_reducible refine bDrew ?_) | (with_reducible refine bDrewN ?_ _) | (with_reducible refine Below.setCell ?_ ?_ _) | (with_reducible exact Nat.le_refl _) | (simp; done) | (simp; omega)))) (below_grown G10 (by simp; omega) (fun k e => by have := hob k e; omega))
    have J10 := Ints.of_own O10 (by omega) (marks_wf (by omega))
    clear G10 O4c hob O4 T8 T8w
    have ng2 : ¬ ((1 + m4 : Nat) : Int) < 0 := by omega
    go_wp2_with fail
    refine (heldL (k := 1) J10 (by omega) (by omega)).mono ?_
    rintro e w11 ⟨rfl, q11, rfl⟩
    clear J10
    have J10 := Lib.hid (Ints.of_own O10 (by omega) (marks_wf (by omega)))
    clear O10
    go_wp2_with fail
    refine (copyL (H.below (by (repeat' (first | (with_reducible exact Below.refl _ _) | (with_reducible assumption) | (with_reducible refine bStep ?_ (by with_reducible assumption)) | (with_reducible refine bAlloc ?_ _) | (with_reducible refine bDrew ?_) | (with_reducible refine bDrewN ?_ _) | (with_reducible refine Below.setCell ?_ ?_ _) | (with_reducible exact Nat.le_refl _) | (simp; done) | (simp; omega))))) c hn).mono ?_
    rintro e w12 ⟨g12, rfl, hg12, I12, O12, B12⟩
    clear O12
    have hz12 := B12.size
    simp at hz12
    go_wp2_with fail
    refine (turnI I12 _).mono ?_
    rintro e w13 ⟨A13, m13, c13, rfl, O13, B13⟩
    have hz13 := B13.size
    have hm13 : m13 ≤ 1048576 := by have h := O13.1; have := htl.out; simp at h; omega
    have J13 := Ints.of_own O13 (by omega) hwf.out
    clear O13
    go_wp2_with fail
    refine (eqL J13 (J2a.out.below (by (repeat' (first | (with_reducible exact Below.refl _ _) | (with_reducible assumption) | (with_reducible refine bStep ?_ (by with_reducible assumption)) | (with_reducible refine bAlloc ?_ _) | (with_reducible refine bDrew ?_) | (with_reducible refine bDrewN ?_ _) | (with_reducible refine Below.setCell ?_ ?_ _) | (with_reducible exact Nat.le_refl _) | (simp; done) | (simp; omega))))) _ _).mono ?_
    rintro e w14 ⟨rfl, q14, rfl⟩
    go_wp2_with fail
    refine (heldL (k := 1) (J10.out.below (by (repeat' (first | (with_reducible exact Below.refl _ _) | (with_reducible assumption) | (with_reducible refine bStep ?_ (by with_reducible assumption)) | (with_reducible refine bAlloc ?_ _) | (with_reducible refine bDrew ?_) | (with_reducible refine bDrewN ?_ _) | (with_reducible refine Below.setCell ?_ ?_ _) | (with_reducible exact Nat.le_refl _) | (simp; done) | (simp; omega))))) (by omega) (by omega)).mono ?_
    rintro e w15 ⟨rfl, q15, rfl⟩
    clear J10 J13
    go_wp2
    go_ret
    exact ⟨rfl, by (repeat' (first | (with_reducible exact Below.refl _ _) | (with_reducible assumption) | (with_reducible refine bStep ?_ (by with_reducible assumption)) | (with_reducible refine bAlloc ?_ _) | (with_reducible refine bDrew ?_) | (with_reducible refine bDrewN ?_ _) | (with_reducible refine Below.setCell ?_ ?_ _) | (with_reducible exact Nat.le_refl _) | (simp; done) | (simp; omega)))⟩
  · go_enter Try.func6, Try.ntmps6
    go_wp2
    go_ret
    exact ⟨rfl, Below.refl _ _⟩
end Go.Proofs.Ytmddcmgkmdkclaa
