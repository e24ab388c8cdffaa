/- Contracts of functions on lists of numbers: all within bounds, rising, equal, a copy. -/
import Derived.Test.YtgnpbgknmapejaaDoorNum
import Derived.Test.YtgnpbgknmapejaaDoorInts
import Derived.Deep.QuietTactic
import Derived.BigQuiet
namespace Go.Proofs.YtgnpbgknmapejaaDoor
open Go.RowKit
set_option linter.unusedVariables false

section
variable {α : Type} {xs : List α} {p : α → Bool} {k : Nat} {x : α}
theorem all_no (hx : xs[k]? = some x) (h : p x = false) : xs.all p = false := by
  rw [List.all_eq_false]
  exact ⟨x, List.mem_of_getElem? hx, by simp [h]⟩
theorem all_step (h : (xs.take k).all p = true) (hx : xs[k]? = some x) (hp : p x = true) : (xs.take (k + 1)).all p = true := by
  rw [take_step hx, List.all_append, h]
  simp [hp]
theorem all_end (hl : xs.length = k) (h : (xs.take k).all p = true) : xs.all p = true := by
  rwa [List.take_of_length_le (by omega)] at h
end

def allIn (xs : List Int) (l h : Int) : Bool := xs.all fun x => inB x l h

theorem areWI {w : World} {A : Option Addr} {n : Nat} {xs : List Int} (H : Ints .i64 w A n xs) (c : Nat) (l h : Int) :
    Calls Tryd.prog 84 #[.slice A n c, .int .i64 l, .int .i64 h] w fun e w' => e = .returned (.bool (allIn xs l h)) ∧ w = w' := by
  have hn := H.le
  go_enter Tryd.func84, Tryd.ntmps84
  go_wp2
  go_loop [11] (fun i => ∃ k : Nat, k ≤ n ∧ i = .int .i64 k ∧ Hid ((xs.take k).all (fun x => inB x l h) = true)) (fun i => n - (intOf i).toNat)
  case atStart => exact ⟨0, Nat.zero_le _, rfl, by simp [Hid]⟩
  case round =>
    obtain ⟨k, hk, rfl, HA⟩ := hrel
    by_cases hlt : k < n
    · obtain ⟨b, off, x, rfl, hb, hc, HX, hw⟩ := H.at_ hlt
      rcases hx : inB x l h
      · go_wp2_with (go_at_call 87; refine (inIv hx _).mono ?_; rintro e w' ⟨rfl, rfl⟩)
        go_ret
        exact ⟨ret_b (all_no HX.out hx).symm, rfl⟩
      · go_wp2_with (go_at_call 87; refine (inIv hx _).mono ?_; rintro e w' ⟨rfl, rfl⟩)
        go_round
        case rel => exact ⟨k + 1, by omega, by go_num, all_step HA.out HX.out hx⟩
        case measure => simp [intOf]; omega
    · obtain rfl : k = n := by omega
      go_wp2
      go_ret
      exact ⟨ret_b (all_end H.len HA.out).symm, rfl⟩
theorem withS {w : World} {A : Option Addr} {n : Nat} {xs : List Int} (H : Ints .i64 w A n xs) (c : Nat) (m l h : Int) :
    Calls Tryd.prog 85 #[.slice A n c, .int .i64 m, .int .i64 l, .int .i64 h] w fun e w' => e = .returned (.bool (allIn xs l h && decide ((n : Int) ≤ m))) ∧ w = w' := by
  have hn := H.le
  go_enter Tryd.func85, Tryd.ntmps85
  go_wp2
  go_loop [9] (fun i => ∃ k : Nat, k ≤ n ∧ i = .int .i64 k ∧ Hid ((xs.take k).all (fun x => inB x l h) = true)) (fun i => n - (intOf i).toNat)
  case atStart => exact ⟨0, Nat.zero_le _, rfl, by simp [Hid]⟩
  case round =>
    obtain ⟨k, hk, rfl, HA⟩ := hrel
    by_cases hlt : k < n
    · obtain ⟨b, off, x, rfl, hb, hc, HX, hw⟩ := H.at_ hlt
      rcases hx : inB x l h
      · go_wp2_with (go_at_call 91; refine (inSv hx _).mono ?_; rintro e w' ⟨rfl, rfl⟩)
        go_ret
        exact ⟨ret_b (by rw [allIn, all_no HX.out hx]; rfl), rfl⟩
      · go_wp2_with (go_at_call 91; refine (inSv hx _).mono ?_; rintro e w' ⟨rfl, rfl⟩)
        go_round
        case rel => exact ⟨k + 1, by omega, by go_num, all_step HA.out HX.out hx⟩
        case measure => simp [intOf]; omega
    · obtain rfl : k = n := by omega
      go_wp2
      go_ret
      exact ⟨ret_b (by rw [allIn, all_end H.len HA.out]; rfl), rfl⟩
theorem eqL {w : World} {A B : Option Addr} {n m : Nat} {xs ys : List Int} (H : Ints .i64 w A n xs) (K : Ints .i64 w B m ys) (c d : Nat) :
    Calls Tryd.prog 37 #[.slice A n c, .slice B m d] w fun e w' => e = .returned (.bool (xs == ys)) ∧ ∃ q, w' = w.drewN q := by
  have hn := H.le
  have hm := K.le
  by_cases hnm : n = m
  · subst hnm
    have h0 : ((n : Int) != (n : Int)) = false := by simp
    go_enter Tryd.func37, Tryd.ntmps37
    go_wp2
    go_loopw [5] (fun i wr => ∃ k : Nat, k ≤ n ∧ i = .int .i64 k ∧ Hid (xs.take k = ys.take k) ∧ ∃ q, wr = w.drewN q) (fun i _ => n - (intOf i).toNat)
    case atStart => exact ⟨0, Nat.zero_le _, rfl, by simp [Hid], 0, rfl⟩
    case round =>
      obtain ⟨k, hk, rfl, HA, q, rfl⟩ := hrel
      by_cases hlt : k < n
      · obtain ⟨b, off, x, rfl, hb, hc, HX, hw⟩ := H.at_ hlt
        obtain ⟨b', off', y, rfl, hb', hc', HY, hw'⟩ := K.at_ hlt
        by_cases hxy : x = y
        · subst hxy
          have e1 : (x != x) = false := by simp
          go_wp2
          go_quiet (fail)
          go_wp2
          go_roundw
          case rel => exact ⟨k + 1, by omega, by go_num, (by rw [take_step HX.out, take_step HY.out, HA.out]; exact rfl), q + nq, by first | rfl | exact World.drewN_drewN _ _ _⟩
          case measure => simp [intOf]; omega
        · have HN : Hid (¬ x = y) := hxy
          have e1 : (x != y) = true := by simpa using hxy
          clear hxy
          go_wp2
          go_quiet (fail)
          go_wp2
          go_ret
          exact ⟨ret_b (by
            symm
            rw [beq_eq_false_iff_ne]
            intro e
            have h1 := HX.out
            rw [e, HY.out] at h1
            exact HN.out (by injection h1 with h1; exact h1.symm)), q + nq, by first | rfl | exact World.drewN_drewN _ _ _⟩
      · obtain rfl : k = n := by omega
        go_wp2
        go_ret
        exact ⟨ret_b (by
          have h1 := HA.out
          rw [List.take_of_length_le (by rw [H.len]; omega), List.take_of_length_le (by rw [K.len]; omega)] at h1
          simp [h1]), _, rfl⟩
  · have h0 : ((n : Int) != (m : Int)) = true := by simp; omega
    go_enter Tryd.func37, Tryd.ntmps37
    go_wp2
    go_ret
    exact ⟨ret_b (by
      symm
      rw [beq_eq_false_iff_ne]
      intro e
      have h1 := H.len
      rw [e, K.len] at h1
      exact hnm h1.symm), 0, rfl⟩

/-- rising strictly within 0 .. n - 1, up to place k -/
def okAt (xs : List Int) (n : Int) (i : Nat) : Prop := 0 ≤ xs.getD i 0 ∧ xs.getD i 0 < n ∧ (0 < i → xs.getD (i - 1) 0 < xs.getD i 0)
noncomputable def risesB (xs : List Int) (n : Int) : Bool := @decide (∀ i, i < xs.length → okAt xs n i) (Classical.propDecidable _)
theorem rises_no {xs : List Int} {n : Int} {i : Nat} (hi : i < xs.length) (h : ¬ okAt xs n i) : risesB xs n = false := by
  exact @decide_eq_false _ (Classical.propDecidable _) (fun k => h (k i hi))
theorem rises_yes {xs : List Int} {n : Int} {k : Nat} (hk : xs.length = k) (h : ∀ i, i < k → okAt xs n i) : risesB xs n = true := by
  exact @decide_eq_true _ (Classical.propDecidable _) (fun i hi => h i (by omega))
theorem getD_of {xs : List Int} {i : Nat} {x : Int} (h : xs[i]? = some x) : xs.getD i 0 = x := by rw [List.getD, h]; rfl
set_option maxHeartbeats 400000 in
theorem risI {w : World} {A : Option Addr} {n : Nat} {xs : List Int} (H : Ints .i64 w A n xs) (c : Nat) (m : Int) :
    Calls Tryd.prog 106 #[.slice A n c, .int .i64 m] w fun e w' => e = .returned (.bool (risesB xs m)) ∧ w = w' := by
  have hn := H.le
  go_enter Tryd.func106, Tryd.ntmps106
  go_wp2
  go_loop [9] (fun i => ∃ k : Nat, k ≤ n ∧ i = .int .i64 k ∧ Hid (∀ j, j < k → okAt xs m j)) (fun i => n - (intOf i).toNat)
  case atStart => exact ⟨0, Nat.zero_le _, rfl, fun j hj => absurd hj (Nat.not_lt_zero _)⟩
  case round =>
    obtain ⟨k, hk, rfl, HA⟩ := hrel
    by_cases hlt : k < n
    · obtain ⟨b, off, x, rfl, hb, hc, HX, hw⟩ := H.at_ hlt
      by_cases x0 : x < 0
      · have d0 : decide (x < 0) = true := by simpa using x0
        go_wp2
        go_ret
        exact ⟨ret_b (rises_no (i := k) (by rw [H.len]; omega) (fun o => by have := o.1; rw [getD_of HX.out] at this; omega)).symm, rfl⟩
      · have d0 : decide (x < 0) = false := by simpa using x0
        by_cases x1 : m ≤ x
        · have d1 : decide (m ≤ x) = true := by simpa using x1
          go_wp2
          go_ret
          exact ⟨ret_b (rises_no (i := k) (by rw [H.len]; omega) (fun o => by have := o.2.1; rw [getD_of HX.out] at this; omega)).symm, rfl⟩
        · have d1 : decide (m ≤ x) = false := by simpa using x1
          by_cases k0 : k ≤ 0
          · have dk : decide ((0 : Int) < (k : Int)) = false := by simp; omega
            go_wp2
            go_round
            case rel => exact ⟨k + 1, by omega, by go_num, (fun j hj => by
              rcases Nat.lt_succ_iff_lt_or_eq.1 hj with h | rfl
              · exact HA.out j h
              · exact ⟨by rw [getD_of HX.out]; omega, by rw [getD_of HX.out]; omega, fun h => absurd h (by omega)⟩)⟩
            case measure => simp [intOf]; omega
          · obtain ⟨b2, off2, y, e2, hb2, hc2, HY, hw2⟩ := H.at_ (i := k - 1) (by omega)
            injection e2 with e2
            injection e2 with e3 e4
            subst e3; subst e4
            have dk : decide ((0 : Int) < (k : Int)) = true := by simp; omega
            have dk' : decide (0 < k) = true := by simp; omega
            by_cases yx : x ≤ y
            · have d2 : decide (x ≤ y) = true := by simpa using yx
              go_wp2
              go_ret
              exact ⟨ret_b (rises_no (i := k) (by rw [H.len]; omega) (fun o => by have := o.2.2 (by omega); rw [getD_of HX.out, getD_of HY.out] at this; omega)).symm, rfl⟩
            · have d2 : decide (x ≤ y) = false := by simpa using yx
              go_wp2
              go_round
              case rel => exact ⟨k + 1, by omega, by go_num, (fun j hj => by
                rcases Nat.lt_succ_iff_lt_or_eq.1 hj with h | rfl
                · exact HA.out j h
                · exact ⟨by rw [getD_of HX.out]; omega, by rw [getD_of HX.out]; omega, fun _ => by rw [getD_of HX.out]; rw [getD_of HY.out]; omega⟩)⟩
              case measure => simp [intOf]; omega
    · obtain rfl : k = n := by omega
      go_wp2
      go_ret
      exact ⟨ret_b (rises_yes H.len HA.out).symm, rfl⟩
set_option maxHeartbeats 400000 in
theorem risS {w : World} {A : Option Addr} {n : Nat} {xs : List Int} (H : Ints .i64 w A n xs) (c : Nat) (m : Int) :
    Calls Tryd.prog 103 #[.slice A n c, .int .i64 m] w fun e w' => e = .returned (.bool (risesB xs m)) ∧ ∃ q, w' = w.drewN q := by
  have hn := H.le
  go_enter Tryd.func103, Tryd.ntmps103
  go_wp2
  go_loopw [5] (fun i wr => ∃ k : Nat, k ≤ n ∧ i = .int .i64 k ∧ Hid (∀ j, j < k → okAt xs m j) ∧ ∃ q, wr = w.drewN q) (fun i _ => n - (intOf i).toNat)
  case atStart => exact ⟨0, Nat.zero_le _, rfl, fun j hj => absurd hj (Nat.not_lt_zero _), 0, rfl⟩
  case round =>
    obtain ⟨k, hk, rfl, HA, q, rfl⟩ := hrel
    by_cases hlt : k < n
    · obtain ⟨b, off, x, rfl, hb, hc, HX, hw⟩ := H.at_ hlt
      by_cases x0 : x < 0
      · have d0 : decide (x < 0) = true := by simpa using x0
        go_wp2
        go_quiet (fail)
        go_wp2
        go_ret
        exact ⟨ret_b (rises_no (i := k) (by rw [H.len]; omega) (fun o => by have := o.1; rw [getD_of HX.out] at this; omega)).symm, q + nq, by first | rfl | exact World.drewN_drewN _ _ _⟩
      · have d0 : decide (x < 0) = false := by simpa using x0
        by_cases x1 : m ≤ x
        · have d1 : decide (m ≤ x) = true := by simpa using x1
          go_wp2
          go_quiet (fail)
          go_wp2
          go_ret
          exact ⟨ret_b (rises_no (i := k) (by rw [H.len]; omega) (fun o => by have := o.2.1; rw [getD_of HX.out] at this; omega)).symm, q + nq, by first | rfl | exact World.drewN_drewN _ _ _⟩
        · have d1 : decide (m ≤ x) = false := by simpa using x1
          by_cases k0 : k ≤ 0
          · obtain rfl : k = 0 := by omega
            simp only [Nat.add_zero] at hc
            go_wp2
            go_quiet (fail)
            go_wp2
            go_roundw
            case rel => exact ⟨0 + 1, by omega, by go_num, (fun j hj => by
              rcases Nat.lt_succ_iff_lt_or_eq.1 hj with h | rfl
              · exact HA.out j h
              · exact ⟨by rw [getD_of HX.out]; omega, by rw [getD_of HX.out]; omega, fun h => absurd h (by omega)⟩), q + nq, by first | rfl | exact World.drewN_drewN _ _ _⟩
            case measure => simp [intOf]; omega
          · obtain ⟨b2, off2, y, e2, hb2, hc2, HY, hw2⟩ := H.at_ (i := k - 1) (by omega)
            injection e2 with e2
            injection e2 with e3 e4
            subst e3; subst e4
            have dk : decide ((0 : Int) < (k : Int)) = true := by simp; omega
            have dk' : decide (0 < k) = true := by simp; omega
            by_cases yx : x ≤ y
            · have d2 : decide (x ≤ y) = true := by simpa using yx
              have s2 : (0 : Int) ≤ (k : Int) - 1 := by omega
              have s2' : (1 : Int) ≤ (k : Int) := by omega
              have s4 : (k : Int) - 1 < (n : Int) := by omega
              have s3 : ((k : Int) - 1).toNat = k - 1 := by omega
              have s1 : IntKind.i64.wrap ((k : Int) - 1) = (k : Int) - 1 := IntWalk.i64_in _ (by omega)
              go_wp2
              go_quiet (fail)
              clear s1 s3
              go_wp2
              go_ret
              exact ⟨ret_b (rises_no (i := k) (by rw [H.len]; omega) (fun o => by have := o.2.2 (by omega); rw [getD_of HX.out, getD_of HY.out] at this; omega)).symm, q + nq, by first | rfl | exact World.drewN_drewN _ _ _⟩
            · have d2 : decide (x ≤ y) = false := by simpa using yx
              have s2 : (0 : Int) ≤ (k : Int) - 1 := by omega
              have s2' : (1 : Int) ≤ (k : Int) := by omega
              have s4 : (k : Int) - 1 < (n : Int) := by omega
              have s3 : ((k : Int) - 1).toNat = k - 1 := by omega
              have s1 : IntKind.i64.wrap ((k : Int) - 1) = (k : Int) - 1 := IntWalk.i64_in _ (by omega)
              go_wp2
              go_quiet (fail)
              clear s1 s3
              go_wp2
              go_roundw
              case rel => exact ⟨k + 1, by omega, by go_num, (fun j hj => by
                rcases Nat.lt_succ_iff_lt_or_eq.1 hj with h | rfl
                · exact HA.out j h
                · exact ⟨by rw [getD_of HX.out]; omega, by rw [getD_of HX.out]; omega, fun _ => by rw [getD_of HX.out]; rw [getD_of HY.out]; omega⟩), q + nq, by first | rfl | exact World.drewN_drewN _ _ _⟩
              case measure => simp [intOf]; omega
    · obtain rfl : k = n := by omega
      go_wp2
      go_ret
      exact ⟨ret_b (rises_yes H.len HA.out).symm, _, rfl⟩
end Go.Proofs.YtgnpbgknmapejaaDoor
