/- The draw of a list of intervals: each gives some values, and leaves all but the source as it was. -/
import Derived.Test.YtincelkcbdjcjaaDraw
import Derived.Test.YtincelkcbdjcjaaIvsOps
import Derived.Deep.RegionHeld3
import Derived.Maps.AppendAt
namespace Go.Proofs.Ytincelkcbdjcjaa
open Go.RowKit
set_option linter.unusedVariables false

theorem Gr.grown {g : Nat} {W w w' : World} {r : Option Nat} (h : Gr g W w) (hb : w.grownBy w' r) (hr : ∀ k, r = some k → W.heap.size ≤ k) : Gr g W w' :=
  ⟨(World.grownBy.os hb).trans (World.grownBy.os h), (World.grownBy.tape hb).trans (World.grownBy.tape h), (World.grownBy.output hb).trans (World.grownBy.output h), Nat.le_trans h.size (World.grownBy.size hb), fun i hi hne => (World.grownBy.block hb i (Nat.lt_of_lt_of_le hi h.size) (fun e => by have := hr i e.symm; omega)).trans (World.grownBy.block h i hi hne)⟩
theorem dl_base {w : World} {B : Nat} {e : TypeId} {s : Nat} {v : Value} {n : Nat} {xs : List Value} (h : w.ownsRow B e s v n xs) : ∀ k, v.ownBlock = some k → B ≤ k := by
  intro k hk
  rcases h.2 with ⟨rfl, _⟩ | ⟨g, cap, cur, rfl, hb, _⟩
  · cases hk
  · simp [Value.ownBlock] at hk; omega
theorem dl_keep {w w' : World} {B g : Nat} {e : TypeId} {s : Nat} {v : Value} {n : Nat} {xs : List Value} (h : w.ownsRow B e s v n xs) (hG : Gr g w w') (hg : g < B) : w'.ownsRow B e s v n xs :=
  h.kept hG (by
    rcases hv : v.ownBlock with _ | k
    · exact .inl rfl
    · exact .inr (by have := dl_base h k hv; intro e; injection e with e; omega))
theorem flatIv_zero : ∀ n : Nat, flatIv (List.replicate n (0, 0)) = List.replicate (n * 2) (Value.int .i64 0)
  | 0 => rfl
  | n + 1 => by
    rw [List.replicate_succ, show (n + 1) * 2 = n * 2 + 1 + 1 from by omega, List.replicate_succ, List.replicate_succ, ← flatIv_zero n]
    rfl
theorem made_zero (n : Nat) : (madeCells (Value.agg #[.int .i64 0, .int .i64 0]).cells (n * 2)).toList = flatIv (List.replicate n (0, 0)) := by
  rw [← partIv_zero [] n, flatIv_zero]
  simp [partIv, flatIv]
theorem Ivs.of_own2 {w : World} {base : Nat} {A : Option Addr} {e : TypeId} {c n : Nat} {xs : List Iv} (h : w.ownsRow base e 2 (.slice A n c) n (flatIv xs)) (hl : xs.length = n) (hn : n ≤ 9223372036854775807)
    (hw : ∀ x ∈ xs, I64 x.1 ∧ I64 x.2) : Ivs w A n xs := by
  rcases h2 : h.2 with ⟨e1, _⟩ | ⟨g, cap, cur, e1, _⟩
  · injection e1 with e1 e2 e3
    subst e2
    obtain rfl : xs = [] := List.length_eq_zero_iff.1 hl
    exact Ivs.nil_
  · injection e1 with e1 e2 e3
    subst e1
    exact Ivs.of_own h hl hn (fun x hx => ⟨(hw x hx).1.wf, (hw x hx).2.wf⟩)
theorem dl_slice {w : World} {B : Nat} {e : TypeId} {s : Nat} {v : Value} {n : Nat} {xs : List Value} (h : w.ownsRow B e s v n xs) : ∃ A c, v = .slice A n c := by
  rcases h.2 with ⟨rfl, rfl⟩ | ⟨g, cap, cur, rfl, _⟩
  · exact ⟨_, _, rfl⟩
  · exact ⟨_, _, rfl⟩
theorem cell_two (w : World) (a b : Int) (t : TypeId) : ∀ j u, ([.int .i64 a, .int .i64 b] : List Value)[j]? = some u → (w.alloc (.cells #[.int .i64 a, .int .i64 b] t)).cell? ((⟨w.heap.size, 0, none⟩ : Addr).add j) = some u := by
  intro j u hj
  match j, hj with
  | 0, hj => simp at hj; subst hj; simp [Addr.add]
  | 1, hj => simp at hj; subst hj; simp [Addr.add]
  | j + 2, hj => simp at hj
def DL (g : Nat) (w : World) (e : Ending) (w' : World) : Prop := ∃ (A : Option Addr) (n c : Nat) (xs : List Iv), e = .returned (.slice A n c) ∧ (n ≤ 1000 ∧ Ivs w' A n xs) ∧ Src w' g ∧ Gr g w w'
def DLF (w : World) (e : Ending) (w' : World) : Prop := ∃ (A : Option Addr) (n c : Nat) (xs : List Iv), e = .returned (.slice A n c) ∧ (n ≤ 1000 ∧ Ivs w' A n xs) ∧ Below w.heap.size w w'
set_option maxHeartbeats 1600000 in
set_option maxRecDepth 20000 in
theorem listDrS {w : World} {g : Nat} (hS : Src w g) : Calls Try.prog 68 #[.pointer (some ⟨g, 0, none⟩)] w (DL g w) := by
  obtain ⟨i0, hi, hz0, hz1, hz2⟩ := info_parts infoIv
  have hL0 := hS.lt
  have hL := hS.lt
  have hst : (w.alloc (.cells #[] 40)).ownsRow w.heap.size 40 2 (.slice (some ⟨w.heap.size, 0, none⟩) 0 0) 0 [] :=
    ⟨rfl, .inr ⟨w.heap.size, 0, #[], rfl, Nat.le_refl _, (Array.getElem?_push_size : (w.heap.push _)[w.heap.size]? = _), Nat.le_refl _, by unfold maxLen; omega, rfl, rfl⟩⟩
  have O := Lib.hid hst
  have GG := Lib.hid ((Gr.refl g w).alloc (.cells #[] 40))
  clear hst
  go_enter Try.func68, Try.ntmps68
  go_wp2_with (first | (go_at_call 59; refine (nextS (Src.keep hS (by (repeat' (first | (with_reducible exact Below.refl _ _) | (with_reducible assumption) | (with_reducible refine kStep ?_ (by with_reducible assumption) ?_) | (with_reducible refine kAlloc ?_ _ ?_) | (with_reducible refine kDrew ?_) | (with_reducible refine kDrewN ?_ _) | (with_reducible refine kSet ?_ _ ?_) | (simp; done) | (simp; omega) | omega)))) _).mono ?_; rintro e w1 ⟨x, rfl, ⟨hx0, hx1⟩, hS, hG⟩; have hL := hS.lt; have hsz := hG.size; (try simp at hsz); have O := Lib.hid (dl_keep O.out hG (by omega)); have GG := Lib.hid (GG.out.trans hG)))
  go_loopw [3, 4] (fun v i wr => ∃ (k m : Nat) (xs : List Iv), i = .int .i64 (m : Int) ∧ k + m ≤ 6 ∧ wr.ownsRow w.heap.size 40 2 v k (flatIv xs) ∧ xs.length = k ∧ Hid (∀ x ∈ xs, I64 x.1 ∧ I64 x.2) ∧ Src wr g ∧ Gr g w wr) (fun _ i _ => (intOf i).toNat)
  case atStart => exact ⟨0, x.toNat, [], by congr 1; omega, by omega, O.out, rfl, (fun x hx => by cases hx), hS, GG.out⟩
  case round =>
    obtain ⟨k, m, xs, rfl, hkm, hown, hlen, hwf, hS, hgr⟩ := hrel
    clear O GG
    have hL := hS.lt
    have hsr := hgr.size
    have O := Lib.hid hown
    have GG := Lib.hid hgr
    clear hown hgr
    cases m with
    | zero =>
      obtain ⟨A1, c1, rfl⟩ := dl_slice O.out
      go_wp2_with (first | (go_at_call 59; refine (nextS (Src.keep hS (by (repeat' (first | (with_reducible exact Below.refl _ _) | (with_reducible assumption) | (with_reducible refine kStep ?_ (by with_reducible assumption) ?_) | (with_reducible refine kAlloc ?_ _ ?_) | (with_reducible refine kDrew ?_) | (with_reducible refine kDrewN ?_ _) | (with_reducible refine kSet ?_ _ ?_) | (simp; done) | (simp; omega) | omega)))) _).mono ?_; rintro e w1 ⟨x, rfl, ⟨hx0, hx1⟩, hS, hG⟩; have hL := hS.lt; have hsz := hG.size; (try simp at hsz); have O := Lib.hid (dl_keep O.out hG (by omega)); have GG := Lib.hid (GG.out.trans hG)) | (at_make; obtain ⟨y, hy⟩ : ∃ y : Nat, x = (y : Int) := ⟨x.toNat, by omega⟩; refine wpList_make_full _ rfl _ _ 37 rfl w.heap.size 40 i0 (.agg #[.int .i64 0, .int .i64 0]) 2 Try.underlying37 hi hz0 hz1 .i64 .i64 _ _ (200 + y) rfl rfl (by omega) (by omega) (by rw [hz2]; omega) (by unfold maxLen; omega) (by omega) ?_; intro w4 hown4 hgrow4; rw [made_zero] at hown4; have O4 := Lib.hid hown4; have G4 := Lib.hid (GG.out.grown hgrow4 (fun k e => by cases e)); have S4 := Lib.hid (Src.keep hS ((Below.refl _ _).grown hgrow4 (by omega) (fun k e => by cases e))); clear hown4 hgrow4))
      · go_ret
        exact ⟨_, _, _, _, rfl, ⟨by omega, Ivs.of_own2 O4.out (by simp) (by omega) (fun x hx => by have := List.eq_of_mem_replicate hx; subst this; exact ⟨I64.mk (by omega), I64.mk (by omega)⟩)⟩, S4.out, G4.out⟩
      · go_ret
        exact ⟨_, _, _, _, rfl, ⟨by omega, Ivs.of_own2 O.out hlen (by omega) hwf.out⟩, hS, GG.out⟩
    | succ m =>
      have em : ((m + 1 : Nat) : Int) = (m : Int) + 1 := by omega
      rw [em]
      go_wp2_with (first | (go_at_call 59; refine (nextS (Src.keep hS (by (repeat' (first | (with_reducible exact Below.refl _ _) | (with_reducible assumption) | (with_reducible refine kStep ?_ (by with_reducible assumption) ?_) | (with_reducible refine kAlloc ?_ _ ?_) | (with_reducible refine kDrew ?_) | (with_reducible refine kDrewN ?_ _) | (with_reducible refine kSet ?_ _ ?_) | (simp; done) | (simp; omega) | omega)))) _).mono ?_; rintro e w1 ⟨x, rfl, ⟨hx0, hx1⟩, hS, hG⟩; have hL := hS.lt; have hsz := hG.size; (try simp at hsz); have O := Lib.hid (dl_keep O.out hG (by omega)); have GG := Lib.hid (GG.out.trans hG)) | (go_at_call 108; refine (smallS (Src.keep hS (by (repeat' (first | (with_reducible exact Below.refl _ _) | (with_reducible assumption) | (with_reducible refine kStep ?_ (by with_reducible assumption) ?_) | (with_reducible refine kAlloc ?_ _ ?_) | (with_reducible refine kDrew ?_) | (with_reducible refine kDrewN ?_ _) | (with_reducible refine kSet ?_ _ ?_) | (simp; done) | (simp; omega) | omega))))).mono ?_; rintro e w1 ⟨x, y, rfl, ⟨hx, hy⟩, hS, hG⟩; have hL := hS.lt; have hsz := hG.size; (try simp at hsz); have O := Lib.hid (dl_keep O.out hG (by omega)); have GG := Lib.hid (GG.out.trans hG)) | (go_at_call 107; refine (ivDrS (Src.keep hS (by (repeat' (first | (with_reducible exact Below.refl _ _) | (with_reducible assumption) | (with_reducible refine kStep ?_ (by with_reducible assumption) ?_) | (with_reducible refine kAlloc ?_ _ ?_) | (with_reducible refine kDrew ?_) | (with_reducible refine kDrewN ?_ _) | (with_reducible refine kSet ?_ _ ?_) | (simp; done) | (simp; omega) | omega))))).mono ?_; rintro e w1 ⟨x, y, rfl, ⟨hx, hy⟩, hS, hG⟩; have hL := hS.lt; have hsz := hG.size; (try simp at hsz); have O := Lib.hid (dl_keep O.out hG (by omega)); have GG := Lib.hid (GG.out.trans hG)) | (at_builtin; refine wpList_append_own _ rfl _ _ 37 rfl w.heap.size 40 i0 (.agg #[.int .i64 0, .int .i64 0]) 2 16 Try.underlying37 hi hz0 hz1 hz2 rfl (by decide) _ _ _ rfl (O.out.alloc _) ⟨w1.heap.size, 0, none⟩ 1 1 [.int .i64 x, .int .i64 y] rfl rfl (cell_two _ _ _ _) (by intro u hu; simp only [List.mem_cons, List.not_mem_nil, or_false] at hu; rcases hu with rfl | rfl <;> rfl) (by unfold maxLen; omega) (by omega) (by simp; omega) ?_; intro v' w3 hown' hgrow hnil; have OB := dl_base O.out; have O3 := Lib.hid hown'; have S3 := Lib.hid (Src.keep hS (((Below.refl _ _).alloc (by omega) _).grown hgrow (by simp; omega) (fun k e => by have := OB k e; omega))); have G3 := Lib.hid ((GG.out.alloc _).grown hgrow (fun k e => by have := OB k e; omega)); clear hown' hgrow hnil OB))
      all_goals go_roundw
      case rel => exact ⟨k + 1, m, xs ++ [(x, y)], by first | rfl | (congr 1; omega), by omega, by rw [flatIv_append]; exact O3.out, by simp [hlen], (fun z hz => by rcases List.mem_append.1 hz with h | h; exact hwf.out z h; rw [List.mem_singleton.1 h]; exact ⟨hx, hy⟩), S3.out, G3.out⟩
      case measure => simp [intOf] <;> omega
      case rel => exact ⟨k + 1, m, xs ++ [(x, y)], by first | rfl | (congr 1; omega), by omega, by rw [flatIv_append]; exact O3.out, by simp [hlen], (fun z hz => by rcases List.mem_append.1 hz with h | h; exact hwf.out z h; rw [List.mem_singleton.1 h]; exact ⟨hx, hy⟩), S3.out, G3.out⟩
      case measure => simp [intOf] <;> omega
theorem drSumIntervals {w : World} {A : Option Addr} {n : Nat} {zs : List Int} (H : Ints .u8 w A n zs) (c : Nat) : Calls Try.prog 22 #[.slice A n c] w (DLF w) := by
  go_enter Try.func22, Try.ntmps22
  go_wp2_with (first | (go_at_call 58; refine (fromS (H.below (by (repeat' (first | (with_reducible exact Below.refl _ _) | (with_reducible assumption) | (with_reducible refine bStep ?_ (by with_reducible assumption)) | (with_reducible refine bAlloc ?_ _) | (with_reducible refine bDrew ?_) | (with_reducible refine bDrewN ?_ _) | (with_reducible refine Below.setCell ?_ ?_ _) | (with_reducible exact Nat.le_refl _) | (simp; done) | (simp; omega))))) _).mono ?_; rintro e w1 ⟨g, rfl, hg, hS, hB⟩; have hL := hS.lt; obtain ⟨hcF, hfF⟩ := bcell hB; have hszF := hB.size; (try simp at hszF); (try simp at hg)) | (go_at_call 68; refine (listDrS (Src.keep hS (by (repeat' (first | (with_reducible exact Below.refl _ _) | (with_reducible assumption) | (with_reducible refine kStep ?_ (by with_reducible assumption) ?_) | (with_reducible refine kAlloc ?_ _ ?_) | (with_reducible refine kDrew ?_) | (with_reducible refine kDrewN ?_ _) | (with_reducible refine kSet ?_ _ ?_) | (simp; done) | (simp; omega) | omega))))).mono ?_; rintro e w1 ⟨A1, n1, c1, xs, rfl, hI, hS, hG⟩))
  go_ret
  exact ⟨_, _, _, _, rfl, hI, by (repeat' (first | (with_reducible exact Below.refl _ _) | (with_reducible assumption) | (with_reducible refine Gr.bel (by with_reducible assumption) ?_ ?_) | (with_reducible refine bStep ?_ (by with_reducible assumption)) | (with_reducible refine bAlloc ?_ _) | (with_reducible refine bDrew ?_) | (with_reducible refine bDrewN ?_ _) | (with_reducible refine Below.setCell ?_ ?_ _) | (with_reducible exact Nat.le_refl _) | omega | (simp; done) | (simp; omega)))⟩
end Go.Proofs.Ytincelkcbdjcjaa
