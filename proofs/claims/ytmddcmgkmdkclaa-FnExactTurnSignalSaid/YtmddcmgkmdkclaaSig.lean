/- Contracts of functions on signals: validity, correlation, energy, sidelobe. -/
import Derived.Test.YtmddcmgkmdkclaaCopy
namespace Go.Proofs.Ytmddcmgkmdkclaa
open Go.RowKit
set_option linter.unusedVariables false

def absW (x : Int) : Int := if x < wrap64 (-x) then wrap64 (-x) else x
def maxW (a b : Int) : Int := if a < b then b else a
def sigB (xs : List Int) : Bool := allIn xs (-1000) 1000 && decide (xs.length ≤ 400)
def corrUp (xs : List Int) (s : Nat) : Nat → Int
  | 0 => 0
  | k + 1 => wrap64 (corrUp xs s k + wrap64 (xs.getD k 0 * xs.getD (k + s) 0))
def corr (xs : List Int) (s : Nat) : Int := corrUp xs s (xs.length - s)
def sideUp (xs : List Int) : Nat → Int
  | 0 => 0
  | k + 1 => maxW (sideUp xs k) (absW (corr xs (k + 1)))

def enV (xs : List Int) : Int := if sigB xs then corr xs 0 else 0
def sdV (xs : List Int) : Int := if sigB xs then sideUp xs (xs.length - 1) else 0
def sgC (xs : List Int) : Int := if sigB xs then 0 else 1
theorem sigS {w : World} {A : Option Addr} {n : Nat} {xs : List Int} (H : Ints .i64 w A n xs) (c : Nat) :
    Calls Try.prog 43 #[.slice A n c] w fun e w' => e = .returned (.bool (sigB xs)) ∧ w = w' := by
  go_enter Try.func43, Try.ntmps43
  go_wp2_with (go_at_call 41; refine (withS H _ _ _ _).mono ?_; rintro e w' ⟨rfl, rfl⟩)
  go_ret
  exact ⟨ret_b (by unfold sigB; rw [H.len]; congr 1; simp; omega), rfl⟩
theorem sigI {w : World} {A : Option Addr} {n : Nat} {xs : List Int} (H : Ints .i64 w A n xs) (c : Nat) :
    Calls Try.prog 45 #[.slice A n c] w fun e w' => e = .returned (.bool (sigB xs)) ∧ w = w' := by
  have hn := H.le
  have hl := Lib.hid H.len
  by_cases h : n ≤ 400
  · go_enter Try.func45, Try.ntmps45
    go_wp2_with (go_at_call 42; refine (areWI H _ _ _).mono ?_; rintro e w' ⟨rfl, rfl⟩)
    go_ret
    exact ⟨ret_b (by unfold sigB; rw [hl.out]; simp [h]), rfl⟩
  · go_enter Try.func45, Try.ntmps45
    go_wp2_with (go_at_call 42; refine (areWI H _ _ _).mono ?_; rintro e w' ⟨rfl, rfl⟩)
    go_ret
    exact ⟨ret_b (by unfold sigB; rw [hl.out]; simp; omega), rfl⟩
theorem absWS (x : Int) (w : World) : Calls Try.prog 71 #[.int .i64 x] w fun e w' => e = .returned (.int .i64 (absW x)) ∧ w = w' := by
  go_enter Try.func71, Try.ntmps71
  go_wp2
  · go_ret
    exact ⟨ret_i (by unfold absW; rw [if_pos (by assumption)]), rfl⟩
  · go_ret
    exact ⟨ret_i (by unfold absW; rw [if_neg (by omega)]), rfl⟩
theorem absWI (x : Int) (w : World) : Calls Try.prog 72 #[.int .i64 x] w fun e w' => e = .returned (.int .i64 (absW x)) ∧ w = w' := by
  go_enter Try.func72, Try.ntmps72
  go_wp2
  · go_ret
    exact ⟨ret_i (by unfold absW; rw [if_pos (by assumption)]), rfl⟩
  · go_ret
    exact ⟨ret_i (by unfold absW; rw [if_neg (by omega)]), rfl⟩
theorem corrS {w : World} {A : Option Addr} {n : Nat} {xs : List Int} (H : Ints .i64 w A n xs) (c s : Nat) (hs : s ≤ 1000000) (hn : n ≤ 1000000) :
    Calls Try.prog 44 #[.slice A n c, .int .i64 s] w fun e w' => e = .returned (.int .i64 (corr xs s)) ∧ ∃ q, w' = w.drewN q := by
  go_enter Try.func44, Try.ntmps44
  go_wp2
  go_loopw [5, 6] (fun v i wr => ∃ (k : Nat) (S : Int), k ≤ n - s ∧ i = .int .i64 k ∧ v = .int .i64 S ∧ Hid (S = corrUp xs s k) ∧ ∃ q, wr = w.drewN q) (fun _ i _ => n - (intOf i).toNat)
  case atStart => exact ⟨0, 0, Nat.zero_le _, rfl, rfl, rfl, 0, rfl⟩
  case round =>
    obtain ⟨k, S, hk, rfl, rfl, HS, q, rfl⟩ := hrel
    by_cases hlt : k + s < n
    · obtain ⟨b, off, x, rfl, hb, hc, HX, hw⟩ := H.at_ (i := k) (by omega)
      obtain ⟨b2, off2, y, e2, hb2, hc2, HY, hw2⟩ := H.at_ (i := k + s) hlt
      injection e2 with e2
      injection e2 with e3 e4
      subst e3; subst e4
      have t1 : (k : Int) < (n : Int) := by omega
      have t2 : (k : Int) + (s : Int) < (n : Int) := by omega
      have t3 : (0 : Int) ≤ (k : Int) + (s : Int) := by omega
      have t4 : ((k : Int) + (s : Int)).toNat = k + s := by omega
      have t5 : IntKind.i64.wrap ((k : Int) + (s : Int)) = (k : Int) + (s : Int) := IntWalk.i64_in _ (by omega)
      go_wp2
      go_quiet (fail)
      clear t4 t5
      go_wp2
      go_roundw
      case rel => exact ⟨k + 1, _, by omega, by go_num, rfl, (by
        show _ = wrap64 (corrUp xs s k + wrap64 (xs.getD k 0 * xs.getD (k + s) 0))
        rw [getD_of HX.out, getD_of HY.out, ← HS.out]; try simp only [IntWalk.i64_left]), q + nq, by first | rfl | exact World.drewN_drewN _ _ _⟩
      case measure => simp [intOf]; omega
    · go_wp2
      go_ret
      exact ⟨ret_i (by rw [HS.out, corr, H.len, show k = n - s by omega]), _, rfl⟩
theorem corrI {w : World} {A : Option Addr} {n : Nat} {xs : List Int} (H : Ints .i64 w A n xs) (c s : Nat) (hs : s ≤ 1000000) (hn : n ≤ 1000000) :
    Calls Try.prog 46 #[.slice A n c, .int .i64 s] w fun e w' => e = .returned (.int .i64 (corr xs s)) ∧ ∃ q, w' = w.drewN q := by
  go_enter Try.func46, Try.ntmps46
  go_wp2
  go_loopw [5, 6] (fun v i wr => ∃ (k : Nat) (S : Int), k ≤ n - s ∧ i = .int .i64 k ∧ v = .int .i64 S ∧ Hid (S = corrUp xs s k) ∧ ∃ q, wr = w.drewN q) (fun _ i _ => n - (intOf i).toNat)
  case atStart => exact ⟨0, 0, Nat.zero_le _, rfl, rfl, rfl, 0, rfl⟩
  case round =>
    obtain ⟨k, S, hk, rfl, rfl, HS, q, rfl⟩ := hrel
    by_cases hlt : k + s < n
    · obtain ⟨b, off, x, rfl, hb, hc, HX, hw⟩ := H.at_ (i := k) (by omega)
      obtain ⟨b2, off2, y, e2, hb2, hc2, HY, hw2⟩ := H.at_ (i := k + s) hlt
      injection e2 with e2
      injection e2 with e3 e4
      subst e3; subst e4
      have t1 : (k : Int) < (n : Int) := by omega
      have t2 : (k : Int) + (s : Int) < (n : Int) := by omega
      have t3 : (0 : Int) ≤ (k : Int) + (s : Int) := by omega
      have t4 : ((k : Int) + (s : Int)).toNat = k + s := by omega
      have t5 : IntKind.i64.wrap ((k : Int) + (s : Int)) = (k : Int) + (s : Int) := IntWalk.i64_in _ (by omega)
      go_wp2
      go_quiet (fail)
      clear t4 t5
      go_wp2
      go_roundw
      case rel => exact ⟨k + 1, _, by omega, by go_num, rfl, (by
        show _ = wrap64 (corrUp xs s k + wrap64 (xs.getD k 0 * xs.getD (k + s) 0))
        rw [getD_of HX.out, getD_of HY.out, ← HS.out]; try simp only [IntWalk.i64_left]), q + nq, by first | rfl | exact World.drewN_drewN _ _ _⟩
      case measure => simp [intOf]; omega
    · go_wp2
      go_ret
      exact ⟨ret_i (by rw [HS.out, corr, H.len, show k = n - s by omega]), _, rfl⟩
theorem enS {w : World} {A : Option Addr} {n : Nat} {xs : List Int} (H : Ints .i64 w A n xs) (c : Nat) :
    Calls Try.prog 16 #[.slice A n c] w fun e w' => e = .returned (.tuple #[.int .i64 (enV xs), .int .i64 (sgC xs)]) ∧ ∃ q, w' = w.drewN q := by
  rcases hg : sigB xs
  · go_enter Try.func16, Try.ntmps16
    go_wp2_with (first | (go_at_call 43; refine (sigS H _).mono ?_; rintro e w' ⟨rfl, rfl⟩))
    go_ret2
    exact ⟨by simp [enV, sgC, hg], 0, rfl⟩
  · have hl : n ≤ 400 := by have h := H.len; unfold sigB at hg; simp at hg; omega
    go_enter Try.func16, Try.ntmps16
    go_wp2_with (first | (go_at_call 43; refine (sigS H _).mono ?_; rintro e w' ⟨rfl, rfl⟩) | (go_at_call 44; refine (corrS H _ 0 (by omega) (by omega)).mono ?_; rintro e w' ⟨rfl, q, rfl⟩))
    go_ret2
    exact ⟨by simp [enV, sgC, hg], _, rfl⟩
theorem enI {w : World} {A : Option Addr} {n : Nat} {xs : List Int} (H : Ints .i64 w A n xs) (c : Nat) :
    Calls Try.prog 17 #[.slice A n c] w fun e w' => e = .returned (.tuple #[.int .i64 (enV xs), .int .i64 (sgC xs)]) ∧ ∃ q, w' = w.drewN q := by
  rcases hg : sigB xs
  · go_enter Try.func17, Try.ntmps17
    go_wp2_with (first | (go_at_call 45; refine (sigI H _).mono ?_; rintro e w' ⟨rfl, rfl⟩))
    go_ret2
    exact ⟨by simp [enV, sgC, hg], 0, rfl⟩
  · have hl : n ≤ 400 := by have h := H.len; unfold sigB at hg; simp at hg; omega
    go_enter Try.func17, Try.ntmps17
    go_wp2_with (first | (go_at_call 45; refine (sigI H _).mono ?_; rintro e w' ⟨rfl, rfl⟩) | (go_at_call 46; refine (corrI H _ 0 (by omega) (by omega)).mono ?_; rintro e w' ⟨rfl, q, rfl⟩))
    go_ret2
    exact ⟨by simp [enV, sgC, hg], _, rfl⟩
theorem sideS {w : World} {A : Option Addr} {n : Nat} {xs : List Int} (H : Ints .i64 w A n xs) (c : Nat) (hn : n ≤ 400) :
    Calls Try.prog 47 #[.slice A n c] w fun e w' => e = .returned (.int .i64 (sideUp xs (n - 1))) ∧ ∃ q, w' = w.drewN q := by
  go_enter Try.func47, Try.ntmps47
  go_wp2
  go_loopw [3, 4] (fun v i wr => ∃ (k : Nat) (S : Int), k ≤ n - 1 ∧ i = .int .i64 ((k : Int) + 1) ∧ v = .int .i64 S ∧ Hid (S = sideUp xs k) ∧ ∃ q, wr = w.drewN q) (fun _ i _ => n + 1 - (intOf i).toNat)
  case atStart => exact ⟨0, 0, Nat.zero_le _, rfl, rfl, rfl, 0, rfl⟩
  case round =>
    obtain ⟨k, S, hk, rfl, rfl, HS, q, rfl⟩ := hrel
    by_cases hlt : k + 1 < n
    · have K := corrS (w := w.drewN q) (H.drewN q) c (k + 1) (by omega) (by omega)
      obtain ⟨C, hC⟩ : ∃ C, corr xs (k + 1) = C := ⟨_, rfl⟩
      rw [hC] at K
      have HC := Lib.hid hC
      have KK := Lib.hid K
      clear K hC
      go_wp2_with (first | (go_at_call 44; refine (KK.out).mono ?_; rintro e w' ⟨rfl, q2, rfl⟩) | (go_at_call 71; refine (absWS _ _).mono ?_; rintro e w' ⟨rfl, rfl⟩))
      go_roundw
      case rel => exact ⟨k + 1, _, by omega, by go_num, rfl, (by show _ = maxW (sideUp xs k) (absW (corr xs (k + 1))); rw [HC.out, ← HS.out]; unfold maxW; rfl), q + q2, by first | rfl | exact World.drewN_drewN _ _ _⟩
      case measure => simp [intOf]; omega
    · go_wp2
      go_ret
      exact ⟨ret_i (by rw [HS.out, show k = n - 1 by omega]), _, rfl⟩
theorem sideI {w : World} {A : Option Addr} {n : Nat} {xs : List Int} (H : Ints .i64 w A n xs) (c : Nat) (hn : n ≤ 400) :
    Calls Try.prog 48 #[.slice A n c] w fun e w' => e = .returned (.int .i64 (sideUp xs (n - 1))) ∧ ∃ q, w' = w.drewN q := by
  go_enter Try.func48, Try.ntmps48
  go_wp2
  go_loopw [3, 4] (fun v i wr => ∃ (k : Nat) (S : Int), k ≤ n - 1 ∧ i = .int .i64 ((k : Int) + 1) ∧ v = .int .i64 S ∧ Hid (S = sideUp xs k) ∧ ∃ q, wr = w.drewN q) (fun _ i _ => n + 1 - (intOf i).toNat)
  case atStart => exact ⟨0, 0, Nat.zero_le _, rfl, rfl, rfl, 0, rfl⟩
  case round =>
    obtain ⟨k, S, hk, rfl, rfl, HS, q, rfl⟩ := hrel
    by_cases hlt : k + 1 < n
    · have K := corrI (w := w.drewN q) (H.drewN q) c (k + 1) (by omega) (by omega)
      obtain ⟨C, hC⟩ : ∃ C, corr xs (k + 1) = C := ⟨_, rfl⟩
      rw [hC] at K
      have HC := Lib.hid hC
      have KK := Lib.hid K
      clear K hC
      go_wp2_with (first | (go_at_call 46; refine (KK.out).mono ?_; rintro e w' ⟨rfl, q2, rfl⟩) | (go_at_call 72; refine (absWI _ _).mono ?_; rintro e w' ⟨rfl, rfl⟩))
      go_roundw
      case rel => exact ⟨k + 1, _, by omega, by go_num, rfl, (by show _ = maxW (sideUp xs k) (absW (corr xs (k + 1))); rw [HC.out, ← HS.out]; unfold maxW; rfl), q + q2, by first | rfl | exact World.drewN_drewN _ _ _⟩
      case measure => simp [intOf]; omega
    · go_wp2
      go_ret
      exact ⟨ret_i (by rw [HS.out, show k = n - 1 by omega]), _, rfl⟩
theorem sideOfS {w : World} {A : Option Addr} {n : Nat} {xs : List Int} (H : Ints .i64 w A n xs) (c : Nat) :
    Calls Try.prog 18 #[.slice A n c] w fun e w' => e = .returned (.tuple #[.int .i64 (sdV xs), .int .i64 (sgC xs)]) ∧ ∃ q, w' = w.drewN q := by
  rcases hg : sigB xs
  · go_enter Try.func18, Try.ntmps18
    go_wp2_with (first | (go_at_call 43; refine (sigS H _).mono ?_; rintro e w' ⟨rfl, rfl⟩))
    go_ret2
    exact ⟨by simp [sdV, sgC, hg], 0, rfl⟩
  · have hl : n ≤ 400 := by have h := H.len; unfold sigB at hg; simp at hg; omega
    go_enter Try.func18, Try.ntmps18
    go_wp2_with (first | (go_at_call 43; refine (sigS H _).mono ?_; rintro e w' ⟨rfl, rfl⟩) | (go_at_call 47; refine (sideS H _ hl).mono ?_; rintro e w' ⟨rfl, q, rfl⟩))
    go_ret2
    exact ⟨by simp [sdV, sgC, hg, H.len], _, rfl⟩
theorem sideOfI {w : World} {A : Option Addr} {n : Nat} {xs : List Int} (H : Ints .i64 w A n xs) (c : Nat) :
    Calls Try.prog 19 #[.slice A n c] w fun e w' => e = .returned (.tuple #[.int .i64 (sdV xs), .int .i64 (sgC xs)]) ∧ ∃ q, w' = w.drewN q := by
  rcases hg : sigB xs
  · go_enter Try.func19, Try.ntmps19
    go_wp2_with (first | (go_at_call 45; refine (sigI H _).mono ?_; rintro e w' ⟨rfl, rfl⟩))
    go_ret2
    exact ⟨by simp [sdV, sgC, hg], 0, rfl⟩
  · have hl : n ≤ 400 := by have h := H.len; unfold sigB at hg; simp at hg; omega
    go_enter Try.func19, Try.ntmps19
    go_wp2_with (first | (go_at_call 45; refine (sigI H _).mono ?_; rintro e w' ⟨rfl, rfl⟩) | (go_at_call 48; refine (sideI H _ hl).mono ?_; rintro e w' ⟨rfl, q, rfl⟩))
    go_ret2
    exact ⟨by simp [sdV, sgC, hg, H.len], _, rfl⟩
end Go.Proofs.Ytmddcmgkmdkclaa
