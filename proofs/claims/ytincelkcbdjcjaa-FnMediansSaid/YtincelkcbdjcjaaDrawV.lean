/- The draw of a list of values: each gives some values, and leaves all but the source as it was. -/
import Derived.Test.YtincelkcbdjcjaaDraw
import Derived.Test.YtincelkcbdjcjaaDrawL
import Derived.Test.YtincelkcbdjcjaaCopy
namespace Go.Proofs.Ytincelkcbdjcjaa
open Go.RowKit
set_option linter.unusedVariables false

theorem own_empty {w : World} {t : TypeId} : (w.alloc (.cells #[] t)).ownsRow w.heap.size t 1 (.slice (some ⟨w.heap.size, 0, none⟩) 0 0) 0 (([] : List Int).map (Value.int .i64)) :=
  ⟨rfl, .inr ⟨w.heap.size, 0, #[], rfl, Nat.le_refl _, (Array.getElem?_push_size : (w.heap.push _)[w.heap.size]? = _), Nat.le_refl _, by unfold maxLen; omega, rfl, rfl⟩⟩
theorem own_zero {w : World} {B : Nat} {t : TypeId} {v : Value} {n : Nat} (h : w.ownsRow B t 1 v n (madeCells (Value.int .i64 0).cells (n * 1)).toList) : w.ownsRow B t 1 v n ((List.replicate n (0 : Int)).map (Value.int .i64)) := by
  rw [Nat.mul_one, show (Value.int .i64 0).cells = #[Value.int .i64 0] from rfl, toList_madeCells_one] at h
  rw [List.map_replicate]
  exact h
theorem own_snoc {w : World} {B : Nat} {t : TypeId} {v : Value} {n : Nat} {xs : List Int} {x : Int} (h : w.ownsRow B t 1 v (n + 1) (xs.map (Value.int .i64) ++ [.int .i64 x])) : w.ownsRow B t 1 v (n + 1) ((xs ++ [x]).map (Value.int .i64)) := by
  rw [List.map_append]
  exact h
theorem Ints.of_own2 {w : World} {base : Nat} {A : Option Addr} {e : TypeId} {c n : Nat} {xs : List Int} (h : w.ownsRow base e 1 (.slice A n c) n (xs.map (Value.int .i64))) (hn : n ≤ 9223372036854775807) (hw : ∀ x ∈ xs, I64 x) : Ints .i64 w A n xs := Ints.of_own h hn (fun x hx => (hw x hx).wf)
def DV (g : Nat) (w : World) (e : Ending) (w' : World) : Prop := ∃ (A : Option Addr) (n c : Nat) (xs : List Int), e = .returned (.slice A n c) ∧ (n ≤ 1000 ∧ Ints .i64 w' A n xs) ∧ Src w' g ∧ Gr g w w'
def DVF (w : World) (e : Ending) (w' : World) : Prop := ∃ (A : Option Addr) (n c : Nat) (xs : List Int), e = .returned (.slice A n c) ∧ (n ≤ 1000 ∧ Ints .i64 w' A n xs) ∧ Below w.heap.size w w'
def DVN (w : World) (e : Ending) (w' : World) : Prop := ∃ (A : Option Addr) (n c : Nat) (xs : List Int) (m : Int), e = .returned (.tuple #[.slice A n c, .int .i64 m]) ∧ (n ≤ 1000 ∧ Ints .i64 w' A n xs ∧ 0 ≤ m ∧ m ≤ 20) ∧ Below w.heap.size w w'
set_option maxHeartbeats 1600000 in
set_option maxRecDepth 20000 in
theorem anyDrS {w : World} {g : Nat} (hS : Src w g) : Calls Try.prog 96 #[.pointer (some ⟨g, 0, none⟩)] w (DV g w) := by
  obtain ⟨i0, hi, hz0, hz1, hz2⟩ := info_parts infoI64
  have hL0 := hS.lt
  have hL := hS.lt
  have O := Lib.hid (own_empty (w := w) (t := 2))
  have GG := Lib.hid ((Gr.refl g w).alloc (.cells #[] 2))
  go_enter Try.func96, Try.ntmps96
  go_wp2_with (go_at_call 59; refine (nextS (Src.keep hS (by (repeat' (first | (with_reducible exact Below.refl _ _) | (with_reducible assumption) | (with_reducible refine kStep ?_ (by with_reducible assumption) ?_) | (with_reducible refine kAlloc ?_ _ ?_) | (with_reducible refine kDrew ?_) | (with_reducible refine kDrewN ?_ _) | (with_reducible refine kSet ?_ _ ?_) | (simp; done) | (simp; omega) | omega)))) _).mono ?_; rintro e w1 ⟨x, rfl, ⟨hx0, hx1⟩, hS, hG⟩; have hL := hS.lt; have hsz := hG.size; (try simp at hsz); have O := Lib.hid (dl_keep O.out hG (by omega)); have GG := Lib.hid (GG.out.trans hG))
  go_loopw [3, 4] (fun v i wr => ∃ (k m : Nat) (xs : List Int), i = .int .i64 (m : Int) ∧ k + m ≤ 9 ∧ wr.ownsRow w.heap.size 2 1 v k (xs.map (Value.int .i64)) ∧ xs.length = k ∧ Hid (∀ x ∈ xs, I64 x) ∧ Src wr g ∧ Gr g w wr) (fun _ i _ => (intOf i).toNat)
  case atStart => exact ⟨0, x.toNat, [], by congr 1; omega, by omega, O.out, rfl, (fun x hx => by cases hx), hS, GG.out⟩
  case round =>
    obtain ⟨k, m, xs, rfl, hkm, hown, hlen, hwf, hS, hgr⟩ := hrel
    clear O GG
    have hL := hS.lt
    have hsr := hgr.size
    have O := Lib.hid hown
    have GG := Lib.hid hgr
    clear hown hgr
    cases m with
    | zero =>
      obtain ⟨A1, c1, rfl⟩ := dl_slice O.out
      go_wp2_with (first | (go_at_call 59; refine (nextS (Src.keep hS (by (repeat' (first | (with_reducible exact Below.refl _ _) | (with_reducible assumption) | (with_reducible refine kStep ?_ (by with_reducible assumption) ?_) | (with_reducible refine kAlloc ?_ _ ?_) | (with_reducible refine kDrew ?_) | (with_reducible refine kDrewN ?_ _) | (with_reducible refine kSet ?_ _ ?_) | (simp; done) | (simp; omega) | omega)))) _).mono ?_; rintro e w1 ⟨x, rfl, ⟨hx0, hx1⟩, hS, hG⟩; have hL := hS.lt; have hsz := hG.size; (try simp at hsz); have O := Lib.hid (dl_keep O.out hG (by omega)); have GG := Lib.hid (GG.out.trans hG)) | (at_make; obtain ⟨y, hy⟩ : ∃ y : Nat, x = (y : Int) := ⟨x.toNat, by omega⟩; refine wpList_make_full _ rfl _ _ 64 rfl w.heap.size 2 i0 (.int .i64 0) 1 Try.underlying64 hi hz0 hz1 .i64 .i64 _ _ (200 + y) rfl rfl (by omega) (by omega) (by rw [hz2]; omega) (by unfold maxLen; omega) (by omega) ?_; intro w4 hown4 hgrow4; have O4 := Lib.hid (own_zero hown4); have G4 := Lib.hid (GG.out.grown hgrow4 (fun k e => by cases e)); have S4 := Lib.hid (Src.keep hS ((Below.refl _ _).grown hgrow4 (by omega) (fun k e => by cases e))); clear hown4 hgrow4))
      · go_ret
        exact ⟨_, _, _, _, rfl, ⟨by omega, Ints.of_own2 O4.out (by omega) (fun x hx => by have := List.eq_of_mem_replicate hx; subst this; exact I64.mk (by omega))⟩, S4.out, G4.out⟩
      · go_ret
        exact ⟨_, _, _, _, rfl, ⟨by omega, Ints.of_own2 O.out (by omega) hwf.out⟩, hS, GG.out⟩
    | succ m =>
      have em : ((m + 1 : Nat) : Int) = (m : Int) + 1 := by omega
      rw [em]
      go_wp2_with (first | (go_at_call 111; refine (valS (Src.keep hS (by (repeat' (first | (with_reducible exact Below.refl _ _) | (with_reducible assumption) | (with_reducible refine kStep ?_ (by with_reducible assumption) ?_) | (with_reducible refine kAlloc ?_ _ ?_) | (with_reducible refine kDrew ?_) | (with_reducible refine kDrewN ?_ _) | (with_reducible refine kSet ?_ _ ?_) | (simp; done) | (simp; omega) | omega))))).mono ?_; rintro e w1 ⟨x, rfl, hx, hS, hG⟩; have hL := hS.lt; have hsz := hG.size; (try simp at hsz); have O := Lib.hid (dl_keep O.out hG (by omega)); have GG := Lib.hid (GG.out.trans hG)) | (at_builtin; refine wpList_append_own _ rfl _ _ 64 rfl w.heap.size 2 i0 (.int .i64 0) 1 8 Try.underlying64 hi hz0 hz1 hz2 rfl (by decide) _ _ _ rfl (O.out.alloc _) ⟨w1.heap.size, 0, none⟩ 1 1 [.int .i64 x] rfl rfl (cell_one_new _ _ _) (by simp [Value.oneCell']) (by unfold maxLen; omega) (by omega) (by simp; omega) ?_; intro v' w3 hown' hgrow hnil; have OB := dl_base O.out; have O3 := Lib.hid hown'; have S3 := Lib.hid (Src.keep hS (((Below.refl _ _).alloc (by omega) _).grown hgrow (by simp; omega) (fun k e => by have := OB k e; omega))); have G3 := Lib.hid ((GG.out.alloc _).grown hgrow (fun k e => by have := OB k e; omega)); clear hown' hgrow hnil OB))
      go_roundw
      case rel => exact ⟨k + 1, m, xs ++ [x], by first | rfl | (congr 1; omega), by omega, own_snoc O3.out, by simp [hlen], (fun z hz => by rcases List.mem_append.1 hz with h | h; exact hwf.out z h; rw [List.mem_singleton.1 h]; exact hx), S3.out, G3.out⟩
      case measure => simp [intOf] <;> omega
set_option maxHeartbeats 3200000 in
set_option maxRecDepth 20000 in
theorem incDrS {w : World} {g : Nat} (hS : Src w g) (N : Int) (hN : 0 ≤ N ∧ N ≤ 20) : Calls Try.prog 101 #[.pointer (some ⟨g, 0, none⟩), .int .i64 N, .int .i64 6] w (DV g w) := by
  obtain ⟨i0, hi, hz0, hz1, hz2⟩ := info_parts infoI64
  have hL0 := hS.lt
  have hL := hS.lt
  have O := Lib.hid (own_empty (w := w) (t := 2))
  have GG := Lib.hid ((Gr.refl g w).alloc (.cells #[] 2))
  go_enter Try.func101, Try.ntmps101
  go_wp2_with (go_at_call 59; refine (nextS (Src.keep hS (by (repeat' (first | (with_reducible exact Below.refl _ _) | (with_reducible assumption) | (with_reducible refine kStep ?_ (by with_reducible assumption) ?_) | (with_reducible refine kAlloc ?_ _ ?_) | (with_reducible refine kDrew ?_) | (with_reducible refine kDrewN ?_ _) | (with_reducible refine kSet ?_ _ ?_) | (simp; done) | (simp; omega) | omega)))) _).mono ?_; rintro e w1 ⟨x, rfl, ⟨hx0, hx1⟩, hS, hG⟩; have hL := hS.lt; have hsz := hG.size; (try simp at hsz); have O := Lib.hid (dl_keep O.out hG (by omega)); have GG := Lib.hid (GG.out.trans hG))
  all_goals
    go_loopw [7, 8, 9] (fun v i j wr => ∃ (k m : Nat) (a : Int) (xs : List Int), i = .int .i64 a ∧ j = .int .i64 (m : Int) ∧ 0 ≤ a ∧ a ≤ 30 ∧ k + m ≤ 7 ∧ wr.ownsRow w.heap.size 2 1 v k (xs.map (Value.int .i64)) ∧ xs.length = k ∧ Hid (∀ x ∈ xs, I64 x) ∧ Src wr g ∧ Gr g w wr) (fun _ _ j _ => (intOf j).toNat)
    case atStart => exact ⟨0, x.toNat, _, [], rfl, by congr 1; omega, by omega, by omega, by omega, O.out, rfl, (fun x hx => by cases hx), hS, GG.out⟩
    case round =>
      obtain ⟨k, m, a, xs, rfl, rfl, ha0, ha1, hkm, hown, hlen, hwf, hS, hgr⟩ := hrel
      clear hx0 hx1
      clear O GG
      have hL := hS.lt
      have hsr := hgr.size
      have O := Lib.hid hown
      have GG := Lib.hid hgr
      clear hown hgr
      cases m with
      | zero =>
        obtain ⟨A1, c1, rfl⟩ := dl_slice O.out
        go_wp2_with (first | (go_at_call 59; refine (nextS (Src.keep hS (by (repeat' (first | (with_reducible exact Below.refl _ _) | (with_reducible assumption) | (with_reducible refine kStep ?_ (by with_reducible assumption) ?_) | (with_reducible refine kAlloc ?_ _ ?_) | (with_reducible refine kDrew ?_) | (with_reducible refine kDrewN ?_ _) | (with_reducible refine kSet ?_ _ ?_) | (simp; done) | (simp; omega) | omega)))) _).mono ?_; rintro e w1 ⟨x, rfl, ⟨hx0, hx1⟩, hS, hG⟩; have hL := hS.lt; have hsz := hG.size; (try simp at hsz); have O := Lib.hid (dl_keep O.out hG (by omega)); have GG := Lib.hid (GG.out.trans hG)) | (at_builtin; refine wpList_append_own _ rfl _ _ 64 rfl w.heap.size 2 i0 (.int .i64 0) 1 8 Try.underlying64 hi hz0 hz1 hz2 rfl (by decide) _ _ _ rfl (O.out.alloc _) ⟨w1.heap.size, 0, none⟩ 1 1 [.int .i64 _] rfl rfl (cell_one_new _ _ _) (by simp [Value.oneCell']) (by unfold maxLen; omega) (by omega) (by simp; omega) ?_; intro v' w3 hown' hgrow hnil; have OB := dl_base O.out; have O3 := Lib.hid hown'; have S3 := Lib.hid (Src.keep hS (((Below.refl _ _).alloc (by omega) _).grown hgrow (by simp; omega) (fun k e => by have := OB k e; omega))); have G3 := Lib.hid ((GG.out.alloc _).grown hgrow (fun k e => by have := OB k e; omega)); clear hown' hgrow hnil OB))
        · obtain ⟨A2, c2, rfl⟩ := dl_slice O3.out
          go_wp2_with fail
          go_ret
          exact ⟨_, _, _, _, rfl, ⟨by omega, Ints.of_own2 (own_snoc O3.out) (by omega) (fun z hz => by rcases List.mem_append.1 hz with h | h; exact hwf.out z h; rw [List.mem_singleton.1 h]; exact I64.mk (by omega))⟩, S3.out, G3.out⟩
        · obtain ⟨A2, c2, rfl⟩ := dl_slice O3.out
          go_wp2_with fail
          go_ret
          exact ⟨_, _, _, _, rfl, ⟨by omega, Ints.of_own2 (own_snoc O3.out) (by omega) (fun z hz => by rcases List.mem_append.1 hz with h | h; exact hwf.out z h; rw [List.mem_singleton.1 h]; exact I64.mk (by omega))⟩, S3.out, G3.out⟩
        · go_ret
          exact ⟨_, _, _, _, rfl, ⟨by omega, Ints.of_own2 O.out (by omega) hwf.out⟩, hS, GG.out⟩
      | succ m =>
        have em : ((m + 1 : Nat) : Int) = (m : Int) + 1 := by omega
        rw [em]
        by_cases haN : a < N
        · go_wp2_with (first | (go_at_call 59; refine (nextS S3.out _).mono ?_; rintro e w4 ⟨y, rfl, ⟨hy0, hy1⟩, hS4, hG4⟩; have O4 := Lib.hid (dl_keep O3.out hG4 (by omega)); have G4 := Lib.hid (G3.out.trans hG4); have S4 := Lib.hid hS4; clear hS4 hG4) | (at_builtin; refine wpList_append_own _ rfl _ _ 64 rfl w.heap.size 2 i0 (.int .i64 0) 1 8 Try.underlying64 hi hz0 hz1 hz2 rfl (by decide) _ _ _ rfl (O.out.alloc _) ⟨wr.heap.size, 0, none⟩ 1 1 [.int .i64 a] rfl rfl (cell_one_new _ _ _) (by simp [Value.oneCell']) (by unfold maxLen; omega) (by omega) (by simp; omega) ?_; intro v' w3 hown' hgrow hnil; have OB := dl_base O.out; have O3 := Lib.hid hown'; have S3 := Lib.hid (Src.keep hS (((Below.refl _ _).alloc (by omega) _).grown hgrow (by simp; omega) (fun k e => by have := OB k e; omega))); have G3 := Lib.hid ((GG.out.alloc _).grown hgrow (fun k e => by have := OB k e; omega)); clear hown' hgrow hnil OB))
          all_goals go_roundw
          all_goals first
            | exact ⟨k + 1, m, _, xs ++ [a], rfl, (by first | rfl | (congr 1; omega)), by omega, by omega, by omega, own_snoc O4.out, by simp [hlen], (fun z hz => by rcases List.mem_append.1 hz with h | h; exact hwf.out z h; rw [List.mem_singleton.1 h]; exact I64.mk (by omega)), S4.out, G4.out⟩
            | (simp [intOf]; done)
            | (simp [intOf] <;> omega)
        · obtain ⟨A1, c1, rfl⟩ := dl_slice O.out
          go_wp2_with (first | (go_at_call 59; refine (nextS (Src.keep hS (by (repeat' (first | (with_reducible exact Below.refl _ _) | (with_reducible assumption) | (with_reducible refine kStep ?_ (by with_reducible assumption) ?_) | (with_reducible refine kAlloc ?_ _ ?_) | (with_reducible refine kDrew ?_) | (with_reducible refine kDrewN ?_ _) | (with_reducible refine kSet ?_ _ ?_) | (simp; done) | (simp; omega) | omega)))) _).mono ?_; rintro e w1 ⟨x, rfl, ⟨hx0, hx1⟩, hS, hG⟩; have hL := hS.lt; have hsz := hG.size; (try simp at hsz); have O := Lib.hid (dl_keep O.out hG (by omega)); have GG := Lib.hid (GG.out.trans hG)) | (at_builtin; refine wpList_append_own _ rfl _ _ 64 rfl w.heap.size 2 i0 (.int .i64 0) 1 8 Try.underlying64 hi hz0 hz1 hz2 rfl (by decide) _ _ _ rfl (O.out.alloc _) ⟨w1.heap.size, 0, none⟩ 1 1 [.int .i64 _] rfl rfl (cell_one_new _ _ _) (by simp [Value.oneCell']) (by unfold maxLen; omega) (by omega) (by simp; omega) ?_; intro v' w3 hown' hgrow hnil; have OB := dl_base O.out; have O3 := Lib.hid hown'; have S3 := Lib.hid (Src.keep hS (((Below.refl _ _).alloc (by omega) _).grown hgrow (by simp; omega) (fun k e => by have := OB k e; omega))); have G3 := Lib.hid ((GG.out.alloc _).grown hgrow (fun k e => by have := OB k e; omega)); clear hown' hgrow hnil OB))
          · obtain ⟨A2, c2, rfl⟩ := dl_slice O3.out
            go_wp2_with fail
            go_ret
            exact ⟨_, _, _, _, rfl, ⟨by omega, Ints.of_own2 (own_snoc O3.out) (by omega) (fun z hz => by rcases List.mem_append.1 hz with h | h; exact hwf.out z h; rw [List.mem_singleton.1 h]; exact I64.mk (by omega))⟩, S3.out, G3.out⟩
          · obtain ⟨A2, c2, rfl⟩ := dl_slice O3.out
            go_wp2_with fail
            go_ret
            exact ⟨_, _, _, _, rfl, ⟨by omega, Ints.of_own2 (own_snoc O3.out) (by omega) (fun z hz => by rcases List.mem_append.1 hz with h | h; exact hwf.out z h; rw [List.mem_singleton.1 h]; exact I64.mk (by omega))⟩, S3.out, G3.out⟩
          · go_ret
            exact ⟨_, _, _, _, rfl, ⟨by omega, Ints.of_own2 O.out (by omega) hwf.out⟩, hS, GG.out⟩
theorem drMedianOf {w : World} {A : Option Addr} {n : Nat} {zs : List Int} (H : Ints .u8 w A n zs) (c : Nat) : Calls Try.prog 46 #[.slice A n c] w (DVF w) := by
  go_enter Try.func46, Try.ntmps46
  go_wp2_with (first | (go_at_call 58; refine (fromS (H.below (by (repeat' (first | (with_reducible exact Below.refl _ _) | (with_reducible assumption) | (with_reducible refine bStep ?_ (by with_reducible assumption)) | (with_reducible refine bAlloc ?_ _) | (with_reducible refine bDrew ?_) | (with_reducible refine bDrewN ?_ _) | (with_reducible refine Below.setCell ?_ ?_ _) | (with_reducible exact Nat.le_refl _) | (simp; done) | (simp; omega))))) _).mono ?_; rintro e w1 ⟨g, rfl, hg, hS, hB⟩; have hL := hS.lt; obtain ⟨hcF, hfF⟩ := bcell hB; have hszF := hB.size; (try simp at hszF); (try simp at hg)) | (go_at_call 96; refine (anyDrS (Src.keep hS (by (repeat' (first | (with_reducible exact Below.refl _ _) | (with_reducible assumption) | (with_reducible refine kStep ?_ (by with_reducible assumption) ?_) | (with_reducible refine kAlloc ?_ _ ?_) | (with_reducible refine kDrew ?_) | (with_reducible refine kDrewN ?_ _) | (with_reducible refine kSet ?_ _ ?_) | (simp; done) | (simp; omega) | omega))))).mono ?_; rintro e w1 ⟨A1, n1, c1, xs, rfl, hI, hS, hG⟩))
  go_ret
  exact ⟨_, _, _, _, rfl, hI, by (repeat' (first | (with_reducible exact Below.refl _ _) | (with_reducible assumption) | (with_reducible refine Gr.bel (by with_reducible assumption) ?_ ?_) | (with_reducible refine bStep ?_ (by with_reducible assumption)) | (with_reducible refine bAlloc ?_ _) | (with_reducible refine bDrew ?_) | (with_reducible refine bDrewN ?_ _) | (with_reducible refine Below.setCell ?_ ?_ _) | (with_reducible exact Nat.le_refl _) | omega | (simp; done) | (simp; omega)))⟩
theorem drIsRising {w : World} {A : Option Addr} {n : Nat} {zs : List Int} (H : Ints .u8 w A n zs) (c : Nat) : Calls Try.prog 49 #[.slice A n c] w (DVN w) := by
  go_enter Try.func49, Try.ntmps49
  go_wp2_with (first | (go_at_call 58; refine (fromS (H.below (by (repeat' (first | (with_reducible exact Below.refl _ _) | (with_reducible assumption) | (with_reducible refine bStep ?_ (by with_reducible assumption)) | (with_reducible refine bAlloc ?_ _) | (with_reducible refine bDrew ?_) | (with_reducible refine bDrewN ?_ _) | (with_reducible refine Below.setCell ?_ ?_ _) | (with_reducible exact Nat.le_refl _) | (simp; done) | (simp; omega))))) _).mono ?_; rintro e w1 ⟨g, rfl, hg, hS, hB⟩; have hL := hS.lt; obtain ⟨hcF, hfF⟩ := bcell hB; have hszF := hB.size; (try simp at hszF); (try simp at hg)) | (go_at_call 59; refine (nextS (Src.keep hS (by (repeat' (first | (with_reducible exact Below.refl _ _) | (with_reducible assumption) | (with_reducible refine kStep ?_ (by with_reducible assumption) ?_) | (with_reducible refine kAlloc ?_ _ ?_) | (with_reducible refine kDrew ?_) | (with_reducible refine kDrewN ?_ _) | (with_reducible refine kSet ?_ _ ?_) | (simp; done) | (simp; omega) | omega)))) _).mono ?_; rintro e w1 ⟨x, rfl, ⟨hx0, hx1⟩, hS, hG⟩; have hL := hS.lt; have hsz := hG.size; (try simp at hsz)) | (go_at_call 101; refine (incDrS (Src.keep hS (by (repeat' (first | (with_reducible exact Below.refl _ _) | (with_reducible assumption) | (with_reducible refine kStep ?_ (by with_reducible assumption) ?_) | (with_reducible refine kAlloc ?_ _ ?_) | (with_reducible refine kDrew ?_) | (with_reducible refine kDrewN ?_ _) | (with_reducible refine kSet ?_ _ ?_) | (simp; done) | (simp; omega) | omega)))) _ ⟨by omega, by omega⟩).mono ?_; rintro e w1 ⟨A1, n1, c1, xs, rfl, hI, hS, hG⟩))
  first | go_ret2 | (refine bodyPost_ret (by simp [results, Try.results49, go_sem, *]; try rfl) rfl ?_)
  exact ⟨_, _, _, _, _, rfl, ⟨hI.1, hI.2, by omega, by omega⟩, by (repeat' (first | (with_reducible exact Below.refl _ _) | (with_reducible assumption) | (with_reducible refine Gr.bel (by with_reducible assumption) ?_ ?_) | (with_reducible refine bStep ?_ (by with_reducible assumption)) | (with_reducible refine bAlloc ?_ _) | (with_reducible refine bDrew ?_) | (with_reducible refine bDrewN ?_ _) | (with_reducible refine Below.setCell ?_ ?_ _) | (with_reducible exact Nat.le_refl _) | omega | (simp; done) | (simp; omega)))⟩
end Go.Proofs.Ytincelkcbdjcjaa
