/- The draws of histories and of their texts. -/
import Derived.Test.YtgnpbgknmapejaaDoorDraw
import Derived.Test.YtgnpbgknmapejaaDoorDmg
import Derived.Test.YtgnpbgknmapejaaDoorSpl
import Derived.Test.YtgnpbgknmapejaaDoorHist
import Derived.Maps.AppendAt
namespace Go.Proofs.YtgnpbgknmapejaaDoor
open Go.RowKit
set_option linter.unusedVariables false

theorem Gr.hgrown {g : Nat} {W w w' : World} {r : Option Nat} (h : Gr g W w) (hb : w.grownBy w' r) (hr : ∀ k, r = some k → W.heap.size ≤ k) : Gr g W w' :=
  ⟨(World.grownBy.os hb).trans (World.grownBy.os h), (World.grownBy.tape hb).trans (World.grownBy.tape h), (World.grownBy.output hb).trans (World.grownBy.output h), Nat.le_trans h.size (World.grownBy.size hb), fun i hi hne => (World.grownBy.block hb i (Nat.lt_of_lt_of_le hi h.size) (fun e => by have := hr i e.symm; omega)).trans (World.grownBy.block h i hi hne)⟩
theorem hl_base {w : World} {B : Nat} {e : TypeId} {s : Nat} {v : Value} {n : Nat} {xs : List Value} (h : w.ownsRow B e s v n xs) : ∀ k, v.ownBlock = some k → B ≤ k := by
  intro k hk
  rcases h.2 with ⟨rfl, _⟩ | ⟨g, cap, cur, rfl, hb, _⟩
  · cases hk
  · simp [Value.ownBlock] at hk; omega
theorem hl_keep {w w' : World} {B g : Nat} {e : TypeId} {s : Nat} {v : Value} {n : Nat} {xs : List Value} (h : w.ownsRow B e s v n xs) (hG : Gr g w w') (hg : g < B) : w'.ownsRow B e s v n xs :=
  h.kept hG (by
    rcases hv : v.ownBlock with _ | k
    · exact .inl rfl
    · exact .inr (by have := hl_base h k hv; intro e; injection e with e; omega))
theorem hl_slice {w : World} {B : Nat} {e : TypeId} {s : Nat} {v : Value} {n : Nat} {xs : List Value} (h : w.ownsRow B e s v n xs) : ∃ A c, v = .slice A n c := by
  rcases h.2 with ⟨rfl, rfl⟩ | ⟨g, cap, cur, rfl, _⟩
  · exact ⟨_, _, rfl⟩
  · exact ⟨_, _, rfl⟩
theorem hl_empty {w : World} {t : TypeId} : (w.alloc (.cells #[] t)).ownsRow w.heap.size t 1 (.slice (some ⟨w.heap.size, 0, none⟩) 0 0) 0 (([] : List Int).map (Value.int .i64)) :=
  ⟨rfl, .inr ⟨w.heap.size, 0, #[], rfl, Nat.le_refl _, (Array.getElem?_push_size : (w.heap.push _)[w.heap.size]? = _), Nat.le_refl _, by unfold maxLen; omega, rfl, rfl⟩⟩
theorem hl_zero {w : World} {B : Nat} {t : TypeId} {v : Value} {n : Nat} (h : w.ownsRow B t 1 v n (madeCells (Value.int .i64 0).cells (n * 1)).toList) : w.ownsRow B t 1 v n ((List.replicate n (0 : Int)).map (Value.int .i64)) := by
  rw [Nat.mul_one, show (Value.int .i64 0).cells = #[Value.int .i64 0] from rfl, toList_madeCells_one] at h
  rw [List.map_replicate]
  exact h
theorem hl_snoc {w : World} {B : Nat} {t : TypeId} {v : Value} {n : Nat} {xs : List Int} {x : Int} (h : w.ownsRow B t 1 v (n + 1) (xs.map (Value.int .i64) ++ [.int .i64 x])) : w.ownsRow B t 1 v (n + 1) ((xs ++ [x]).map (Value.int .i64)) := by
  rw [List.map_append]
  exact h
theorem hl_ints {w : World} {base : Nat} {A : Option Addr} {e : TypeId} {c n : Nat} {xs : List Int} (h : w.ownsRow base e 1 (.slice A n c) n (xs.map (Value.int .i64))) (hn : n ≤ 9223372036854775807) (hw : ∀ x ∈ xs, I64 x) : Ints .i64 w A n xs := Ints.of_own h hn (fun x hx => (hw x hx).wf)
theorem hl_app {xs : List Int} {x : Int} (h : ∀ y ∈ xs, I64 y) (hx : I64 x) : ∀ y ∈ xs ++ [x], I64 y := by
  intro y hy
  rcases List.mem_append.1 hy with h1 | h1
  · exact h y h1
  · rw [List.mem_singleton.1 h1]; exact hx
theorem hl_set {xs : List Int} {j : Nat} {x : Int} (h : ∀ y ∈ xs, I64 y) (hx : I64 x) : ∀ y ∈ xs.set j x, I64 y := by
  intro y hy
  rcases List.mem_or_eq_of_mem_set hy with h1 | h1
  · exact h y h1
  · rw [h1]; exact hx
def DH (w : World) (e : Ending) (w' : World) : Prop := ∃ (A : Option Addr) (n c : Nat) (xs : List Int), e = .returned (.slice A n c) ∧ (n ≤ 1000 ∧ Ints .i64 w' A n xs) ∧ Below w.heap.size w w'
set_option maxHeartbeats 3200000 in
set_option maxRecDepth 20000 in
theorem drHistoryText {w0 : World} {A : Option Addr} {n : Nat} {zs : List Int} (H : Ints .u8 w0 A n zs) (c : Nat) : Calls Tryd.prog 45 #[.slice A n c] w0 (DH w0) := by
  obtain ⟨i0, hi, hz0, hz1, hz2⟩ := info_parts infoI64
  go_enter Tryd.func45, Tryd.ntmps45
  go_wp2_with fail
  refine (fromS H _).mono ?_
  rintro e w ⟨g, rfl, hg, hS, hB⟩
  have hBW := Lib.hid hB
  have hszF := hB.size
  clear hB H
  have hL0 := hS.lt
  have hL := hS.lt
  have O := Lib.hid (hl_empty (w := w) (t := 2))
  have GG := Lib.hid ((Gr.refl g w).alloc (.cells #[] 2))
  go_wp2_with (go_at_call 56; refine (nextS (Src.keep hS (by (repeat' (first | (with_reducible exact Below.refl _ _) | (with_reducible assumption) | (with_reducible refine kStep ?_ (by with_reducible assumption) ?_) | (with_reducible refine kAlloc ?_ _ ?_) | (with_reducible refine kDrew ?_) | (with_reducible refine kDrewN ?_ _) | (with_reducible refine kSet ?_ _ ?_) | (simp; done) | (simp; omega) | omega)))) _).mono ?_; rintro e w1 ⟨x, rfl, ⟨hx0, hx1⟩, hS, hG⟩; have hL := hS.lt; have hsz := hG.size; (try simp at hsz); have O := Lib.hid (hl_keep O.out hG (by omega)); have GG := Lib.hid (GG.out.trans hG))
  go_loopw [4, 5] (fun v i wr => ∃ (k m : Nat) (xs : List Int), i = .int .i64 (m : Int) ∧ k + m ≤ 12 ∧ wr.ownsRow w.heap.size 2 1 v k (xs.map (Value.int .i64)) ∧ xs.length = k ∧ Hid (∀ x ∈ xs, I64 x) ∧ Src wr g ∧ Gr g w wr) (fun _ i _ => (intOf i).toNat)
  case atStart => exact ⟨0, x.toNat, [], by congr 1; omega, by omega, O.out, rfl, (fun x hx => by cases hx), hS, GG.out⟩
  case round =>
    obtain ⟨k, m, xs, rfl, hkm, hown, hlen, hwf, hS, hgr⟩ := hrel
    clear O GG hx0 hx1
    have hL := hS.lt
    have hsr := hgr.size
    have O := Lib.hid hown
    have GG := Lib.hid hgr
    clear hown hgr
    cases m with
    | zero =>
      obtain ⟨A1, c1, rfl⟩ := hl_slice O.out
      go_wp2_with (first | (go_at_call 56; refine (nextS (Src.keep hS (by (repeat' (first | (with_reducible exact Below.refl _ _) | (with_reducible assumption) | (with_reducible refine kStep ?_ (by with_reducible assumption) ?_) | (with_reducible refine kAlloc ?_ _ ?_) | (with_reducible refine kDrew ?_) | (with_reducible refine kDrewN ?_ _) | (with_reducible refine kSet ?_ _ ?_) | (simp; done) | (simp; omega) | omega)))) _).mono ?_; rintro e w1 ⟨x, rfl, ⟨hx0, hx1⟩, hS, hG⟩; have hL := hS.lt; have hsz := hG.size; (try simp at hsz); have O := Lib.hid (hl_keep O.out hG (by omega)); have GG := Lib.hid (GG.out.trans hG)) | (go_at_call 83; refine (pickS (Src.keep hS (by (repeat' (first | (with_reducible exact Below.refl _ _) | (with_reducible assumption) | (with_reducible refine kStep ?_ (by with_reducible assumption) ?_) | (with_reducible refine kAlloc ?_ _ ?_) | (with_reducible refine kDrew ?_) | (with_reducible refine kDrewN ?_ _) | (with_reducible refine kSet ?_ _ ?_) | (simp; done) | (simp; omega) | omega)))) _ (by omega) (by first | exact (lit2 _ _ (by first | rfl | (simp; done)) (by (first | assumption | exact I64.wrap _ | exact I64.mk (by omega) | exact I64.wrapK _ | (simp only [Int.reduceNeg]; exact I64.mk (by omega)))) (by (first | assumption | exact I64.wrap _ | exact I64.mk (by omega) | exact I64.wrapK _ | (simp only [Int.reduceNeg]; exact I64.mk (by omega))))) | exact (lit2 _ _ (by first | rfl | (simp; done)) (by (first | assumption | exact I64.wrap _ | exact I64.mk (by omega) | exact I64.wrapK _ | (simp only [Int.reduceNeg]; exact I64.mk (by omega)))) (by (first | assumption | exact I64.wrap _ | exact I64.mk (by omega) | exact I64.wrapK _ | (simp only [Int.reduceNeg]; exact I64.mk (by omega))))).drew_ | exact ((lit2 _ _ (by first | rfl | (simp; done)) (by (first | assumption | exact I64.wrap _ | exact I64.mk (by omega) | exact I64.wrapK _ | (simp only [Int.reduceNeg]; exact I64.mk (by omega)))) (by (first | assumption | exact I64.wrap _ | exact I64.mk (by omega) | exact I64.wrapK _ | (simp only [Int.reduceNeg]; exact I64.mk (by omega))))).drewN _)) (by first | omega | (simp; omega))).mono ?_; rintro e w2 ⟨y, rfl, hy, hS, hG⟩; have hL := hS.lt; have hsz := hG.size; (try simp at hsz); have O := Lib.hid (hl_keep (O.out.alloc _) hG (by omega)); have GG := Lib.hid ((GG.out.alloc _).trans hG)) | (at_builtin; refine wpList_append_own _ rfl _ _ 39 rfl w.heap.size 2 i0 (.int .i64 0) 1 8 Tryd.underlying39 hi hz0 hz1 hz2 rfl (by decide) _ _ _ rfl (O.out.alloc _) ⟨w2.heap.size, 0, none⟩ 1 1 [.int .i64 y] rfl rfl (cell_one_new _ _ _) (by simp [Value.oneCell']) (by unfold maxLen; omega) (by omega) (by simp; omega) ?_; intro v' w3 hown' hgrow hnil; have OB := hl_base O.out; have O3 := Lib.hid hown'; have S3 := Lib.hid (Src.keep hS (((Below.refl _ _).alloc (by omega) _).grown hgrow (by simp; omega) (fun k e => by have := OB k e; omega))); have G3 := Lib.hid ((GG.out.alloc _).hgrown hgrow (fun k e => by have := OB k e; omega)); clear hown' hgrow hnil OB) | (at_make; obtain ⟨y, hy⟩ : ∃ y : Nat, x = (y : Int) := ⟨x.toNat, by omega⟩; refine wpList_make_full _ rfl _ _ 39 rfl w.heap.size 2 i0 (.int .i64 0) 1 Tryd.underlying39 hi hz0 hz1 .i64 .i64 _ _ (100 + y) rfl rfl (by omega) (by omega) (by rw [hz2]; omega) (by unfold maxLen; omega) (by omega) ?_; intro w4 hown4 hgrow4; have O4 := Lib.hid (hl_zero hown4); have G4 := Lib.hid (GG.out.hgrown hgrow4 (fun k e => by cases e)); have S4 := Lib.hid (Src.keep hS ((Below.refl _ _).grown hgrow4 (by omega) (fun k e => by cases e))); clear hown4 hgrow4))
      · obtain ⟨A2, c2, rfl⟩ := hl_slice O3.out
        go_wp2_with fail
        go_ret
        exact ⟨_, _, _, _, rfl, ⟨by omega, hl_ints (hl_snoc O3.out) (by omega) (hl_app hwf.out hy)⟩, Gr.bel G3.out hBW.out (by omega)⟩
      · go_loopw [6] (fun i wr => ∃ (j : Nat) (ys : List Int), j ≤ 100 + y ∧ i = .int .i64 (j : Int) ∧ wr.ownsRow w.heap.size 2 1 (.slice (some ⟨w1.heap.size, 0, none⟩) (100 + y) (100 + y)) (100 + y) (ys.map (Value.int .i64)) ∧ ys.length = 100 + y ∧ Hid (∀ x ∈ ys, I64 x) ∧ Src wr g ∧ Gr g w wr) (fun i _ => 100 + y - (intOf i).toNat)
        case atStart => exact ⟨0, List.replicate (100 + y) 0, by omega, rfl, O4.out, by simp, (fun x hx => by have := List.eq_of_mem_replicate hx; subst this; exact I64.mk (by omega)), S4.out, G4.out⟩
        case round =>
          obtain ⟨j, ys, hj, rfl, hown5, hyl, hyw, hS5, hG5⟩ := hrel
          by_cases hlt : j < 100 + y
          · obtain ⟨hs1, hs2⟩ := hown5.stored j (.int .i64 1)
            have hfr := hown5.frozenAt j
            have hlI : (j : Int) < ((100 + y : Nat) : Int) := by omega
            obtain ⟨u, hu⟩ : ∃ u, wr.cell? ⟨w1.heap.size, j, none⟩ = some u := by
              rw [hown5.cellAt j (by omega)]
              exact ⟨_, List.getElem?_eq_getElem (by rw [hown5.1]; omega)⟩
            have hL5 := hS5.lt
            have O6 := Lib.hid hs1
            have S6 := Lib.hid (Src.keep hS5 ((Below.refl _ _).grown hs2 (by omega) (by rintro k ⟨⟩; omega)))
            have G6 := Lib.hid (hG5.hgrown hs2 (by rintro k ⟨⟩; omega))
            clear hs1 hs2 hown5 hS5 hG5
            go_wp2_with fail
            go_roundw
            case rel => exact ⟨j + 1, ys.set j 1, by omega, by first | rfl | go_num, by rw [List.map_set]; exact O6.out, by simp [hyl], hl_set hyw.out (I64.mk (by omega)), S6.out, G6.out⟩
            case measure => simp [intOf] <;> omega
          · have hlI : ¬ (j : Int) < ((100 + y : Nat) : Int) := by omega
            have HO5 := Lib.hid hown5
            clear hown5
            go_wp2_with fail
            go_ret
            exact ⟨_, _, _, _, rfl, ⟨by omega, hl_ints HO5.out (by omega) hyw.out⟩, Gr.bel hG5 hBW.out (by omega)⟩
      · go_ret
        exact ⟨_, _, _, _, rfl, ⟨by omega, hl_ints O.out (by omega) hwf.out⟩, Gr.bel GG.out hBW.out (by omega)⟩
    | succ m =>
      have em : ((m + 1 : Nat) : Int) = (m : Int) + 1 := by omega
      rw [em]
      go_wp2_with (first | (go_at_call 56; refine (nextS (Src.keep hS (by (repeat' (first | (with_reducible exact Below.refl _ _) | (with_reducible assumption) | (with_reducible refine kStep ?_ (by with_reducible assumption) ?_) | (with_reducible refine kAlloc ?_ _ ?_) | (with_reducible refine kDrew ?_) | (with_reducible refine kDrewN ?_ _) | (with_reducible refine kSet ?_ _ ?_) | (simp; done) | (simp; omega) | omega)))) _).mono ?_; rintro e w1 ⟨x, rfl, ⟨hx0, hx1⟩, hS, hG⟩; have hL := hS.lt; have hsz := hG.size; (try simp at hsz); have O := Lib.hid (hl_keep O.out hG (by omega)); have GG := Lib.hid (GG.out.trans hG)) | (at_builtin; refine wpList_append_own _ rfl _ _ 39 rfl w.heap.size 2 i0 (.int .i64 0) 1 8 Tryd.underlying39 hi hz0 hz1 hz2 rfl (by decide) _ _ _ rfl (O.out.alloc _) ⟨w1.heap.size, 0, none⟩ 1 1 [.int .i64 (1 + x)] rfl rfl (cell_one_new _ _ _) (by simp [Value.oneCell']) (by unfold maxLen; omega) (by omega) (by simp; omega) ?_; intro v' w3 hown' hgrow hnil; have OB := hl_base O.out; have O3 := Lib.hid hown'; have S3 := Lib.hid (Src.keep hS (((Below.refl _ _).alloc (by omega) _).grown hgrow (by simp; omega) (fun k e => by have := OB k e; omega))); have G3 := Lib.hid ((GG.out.alloc _).hgrown hgrow (fun k e => by have := OB k e; omega)); clear hown' hgrow hnil OB))
      go_roundw
      case rel => exact ⟨k + 1, m, xs ++ [1 + x], by first | rfl | (congr 1; omega), by omega, hl_snoc O3.out, by simp [hlen], hl_app hwf.out (I64.mk (by omega)), S3.out, G3.out⟩
      case measure => simp [intOf] <;> omega
theorem htV_sz (xs : List Int) : (htV xs).size ≤ 400 := by
  unfold htV
  split
  · rename_i h
    have := htx_size xs xs.length
    unfold htB at h
    rw [Bool.and_eq_true] at h
    have := of_decide_eq_true h.2
    omega
  · simp [ByteArray.size]
set_option maxHeartbeats 1600000 in
theorem drReadHistory {w : World} {A : Option Addr} {n : Nat} {zs : List Int} (H : Ints .u8 w A n zs) (c : Nat) : Calls Tryd.prog 47 #[.slice A n c] w (DStrF 1000 w) := by
  go_enter Tryd.func47, Tryd.ntmps47
  go_wp2_with (first | (go_at_call 51; refine (fromS (H.below (by (repeat' (first | (with_reducible exact Below.refl _ _) | (with_reducible assumption) | (with_reducible refine bStep ?_ (by with_reducible assumption)) | (with_reducible refine bAlloc ?_ _) | (with_reducible refine bDrew ?_) | (with_reducible refine bDrewN ?_ _) | (with_reducible refine Below.setCell ?_ ?_ _) | (with_reducible exact Nat.le_refl _) | (simp; done) | (simp; omega))))) _).mono ?_; rintro e w1 ⟨g, rfl, hg, hS, hB⟩; have hL := hS.lt; obtain ⟨hcF, hfF⟩ := bcell hB; have hszF := hB.size; (try simp at hszF); (try simp at hg)) | (go_at_call 45; refine (drHistoryText (H.below (by (repeat' (first | (with_reducible exact Below.refl _ _) | (with_reducible assumption) | (with_reducible refine bStep ?_ (by with_reducible assumption)) | (with_reducible refine bAlloc ?_ _) | (with_reducible refine bDrew ?_) | (with_reducible refine bDrewN ?_ _) | (with_reducible refine Below.setCell ?_ ?_ _) | (with_reducible exact Nat.le_refl _) | (simp; done) | (simp; omega))))) c).mono ?_; rintro e w2 ⟨A1, n1, c1, xs, rfl, ⟨hn1, I1⟩, hb2⟩; have hsz2 := hb2.size) | (go_at_call 48; refine (htS_ I1 _).mono ?_; rintro e w3 ⟨rfl, q3, rfl⟩; have szM := htV_sz xs; generalize htV xs = tt at *) | (go_at_call 56; refine (nextS (Src.keep hS (by (repeat' (first | (with_reducible exact Below.refl _ _) | (with_reducible assumption) | (with_reducible refine kStep ?_ (by with_reducible assumption) ?_) | (with_reducible refine kAlloc ?_ _ ?_) | (with_reducible refine kDrew ?_) | (with_reducible refine kDrewN ?_ _) | (with_reducible refine kSet ?_ _ ?_) | (simp; done) | (simp; omega) | omega)))) _).mono ?_; rintro e w1 ⟨z, rfl, ⟨hz0, hz1⟩, hS, hG⟩; have hL := hS.lt; have hsz := hG.size; (try simp at hsz)) | (go_at_call 57; refine (dmgS (Src.keep hS (by (repeat' (first | (with_reducible exact Below.refl _ _) | (with_reducible assumption) | (with_reducible refine kStep ?_ (by with_reducible assumption) ?_) | (with_reducible refine kAlloc ?_ _ ?_) | (with_reducible refine kDrew ?_) | (with_reducible refine kDrewN ?_ _) | (with_reducible refine kSet ?_ _ ?_) | (simp; done) | (simp; omega) | omega)))) _ 1000 (by omega) (by omega)).mono ?_; rintro e w1 ⟨r, rfl, hr, hS, hG⟩; have hL := hS.lt; have hsz := hG.size; (try simp at hsz)))
  all_goals (first | go_ret | go_ret2 | go_ret3 | go_returns | (refine bodyPost_ret (by simp [results, Tryd.results47, go_sem, *]; try rfl) rfl ?_))
  all_goals first | exact ⟨_, rfl, hr, by (repeat' (first | (with_reducible exact Below.refl _ _) | (with_reducible assumption) | (with_reducible refine Gr.bel (by with_reducible assumption) ?_ ?_) | (with_reducible refine bStep ?_ (by with_reducible assumption)) | (with_reducible refine bAlloc ?_ _) | (with_reducible refine bDrew ?_) | (with_reducible refine bDrewN ?_ _) | (with_reducible refine Below.setCell ?_ ?_ _) | (with_reducible exact Nat.le_refl _) | omega | (simp; done) | (simp; omega)))⟩ | exact ⟨_, rfl, by omega, by (repeat' (first | (with_reducible exact Below.refl _ _) | (with_reducible assumption) | (with_reducible refine Gr.bel (by with_reducible assumption) ?_ ?_) | (with_reducible refine bStep ?_ (by with_reducible assumption)) | (with_reducible refine bAlloc ?_ _) | (with_reducible refine bDrew ?_) | (with_reducible refine bDrewN ?_ _) | (with_reducible refine Below.setCell ?_ ?_ _) | (with_reducible exact Nat.le_refl _) | omega | (simp; done) | (simp; omega)))⟩
end Go.Proofs.YtgnpbgknmapejaaDoor
