/- The text of a profile: the program's contract. -/
import Derived.Test.YtgnpbgknmapejaaDoorPfT
namespace Go.Proofs.YtgnpbgknmapejaaDoor
open Go.RowKit
set_option linter.unusedVariables false

theorem str_own0 {w : World} {B : Nat} {t : TypeId} : w.ownsRow B t 1 (.slice none 0 0) 0 (([] : List ByteArray).map Value.string) := World.ownsRow_nil _ _ _ _
theorem str_cell {w : World} {G : Nat} {u : ByteArray} {t : TypeId} (h : w.heap.size = G) : ∀ j z, ([Value.string u] : List Value)[j]? = some z → (w.alloc (.cells #[.string u] t)).cell? ((⟨G, 0, none⟩ : Addr).add j) = some z := by
  subst h
  intro j z hz
  rcases j with _ | j
  · simp at hz; subst hz; simp [Addr.add]
  · simp at hz
theorem str_form {w : World} {B : Nat} {t : TypeId} {v : Value} {n : Nat} {l : List Value} (h : w.ownsRow B t 1 v n l) (hn : 0 < n) : ∃ g cap, v = .slice (some ⟨g, 0, none⟩) n cap ∧ n ≤ cap ∧ g < w.heap.size := by
  rcases h.2 with ⟨_, h0⟩ | ⟨g, cap, cur, hv, _, hg, hc, _⟩
  · omega
  · exact ⟨g, cap, hv, hc, lt_of_block hg⟩
theorem join_bytes {xs ys : List Int} (h : pfB xs ys = true) : (⟨(Lib.join ((pws xs ys xs.length).map (·.data.toList)) ({ data := #[44] } : ByteArray).data.toList).toArray⟩ : ByteArray) = ptV xs ys := by
  have e : ({ data := #[44] } : ByteArray).data.toList = [44] := rfl
  rw [e, ptx_join, ptV, if_pos h]
theorem join_len {xs ys : List Int} (h : pfB xs ys = true) : (Lib.join ((pws xs ys xs.length).map (·.data.toList)) ({ data := #[44] } : ByteArray).data.toList).length ≤ 140737488355328 := by
  have e : ({ data := #[44] } : ByteArray).data.toList = [44] := rfl
  rw [e, ptx_join]
  have h1 := ptx_sz h xs.length (Nat.le_refl _)
  have h2 := (pf_len h).1.2
  have h3 : (ptx xs ys xs.length).data.toList.length = (ptx xs ys xs.length).size := rfl
  omega
set_option maxHeartbeats 3200000 in
set_option maxRecDepth 20000 in
theorem ptI {w : World} {A B : Option Addr} {n m : Nat} {xs ys : List Int} (H : Ints .i64 w A n xs) (K : Ints .i64 w B m ys) (c d : Nat) (T : Tab w) :
    Calls Tryd.prog 43 #[.agg #[.slice A n c, .slice B m d]] w fun e w' => e = .returned (.string (ptV xs ys)) ∧ Below w.heap.size w w' := by
  have hn := H.le
  have hm := K.le
  have T := Lib.hid T
  rcases hp : pfB xs ys
  · go_enter Tryd.func43, Tryd.ntmps43
    go_wp2_with (go_at_call 76; refine (isPfI (H.below (by (repeat' (first | (with_reducible exact Below.refl _ _) | (with_reducible assumption) | (with_reducible refine bStep ?_ (by with_reducible assumption)) | (with_reducible refine bAlloc ?_ _) | (with_reducible refine bDrew ?_) | (with_reducible refine bDrewN ?_ _) | (with_reducible refine Below.setCell ?_ ?_ _) | (with_reducible exact Nat.le_refl _) | (simp; done) | (simp; omega))))) (K.below (by (repeat' (first | (with_reducible exact Below.refl _ _) | (with_reducible assumption) | (with_reducible refine bStep ?_ (by with_reducible assumption)) | (with_reducible refine bAlloc ?_ _) | (with_reducible refine bDrew ?_) | (with_reducible refine bDrewN ?_ _) | (with_reducible refine Below.setCell ?_ ?_ _) | (with_reducible exact Nat.le_refl _) | (simp; done) | (simp; omega))))) _ _).mono ?_; rintro e w1 ⟨rfl, hb1⟩; rw [hp])
    go_ret
    exact ⟨by simp [ptV, hp], by (repeat' (first | (with_reducible exact Below.refl _ _) | (with_reducible assumption) | (with_reducible refine bStep ?_ (by with_reducible assumption)) | (with_reducible refine bAlloc ?_ _) | (with_reducible refine bDrew ?_) | (with_reducible refine bDrewN ?_ _) | (with_reducible refine Below.setCell ?_ ?_ _) | (with_reducible exact Nat.le_refl _) | (simp; done) | (simp; omega)))⟩
  · have HN := H.len
    have KN := K.len
    have HP := Lib.hid (pf_len hp)
    have hnm : m = n := by have := HP.out.2; omega
    subst hnm
    have hn12 : m ≤ 12 := by have := HP.out.1.2; omega
    have hn2 : 2 ≤ m := by have := HP.out.1.1; omega
    have PI := Lib.hid (pf_in hp)
    have JB := Lib.hid (join_bytes hp)
    have JL := Lib.hid (join_len hp)
    go_enter Tryd.func43, Tryd.ntmps43
    go_wp2_with (go_at_call 76; refine (isPfI (H.below (by (repeat' (first | (with_reducible exact Below.refl _ _) | (with_reducible assumption) | (with_reducible refine bStep ?_ (by with_reducible assumption)) | (with_reducible refine bAlloc ?_ _) | (with_reducible refine bDrew ?_) | (with_reducible refine bDrewN ?_ _) | (with_reducible refine Below.setCell ?_ ?_ _) | (with_reducible exact Nat.le_refl _) | (simp; done) | (simp; omega))))) (K.below (by (repeat' (first | (with_reducible exact Below.refl _ _) | (with_reducible assumption) | (with_reducible refine bStep ?_ (by with_reducible assumption)) | (with_reducible refine bAlloc ?_ _) | (with_reducible refine bDrew ?_) | (with_reducible refine bDrewN ?_ _) | (with_reducible refine Below.setCell ?_ ?_ _) | (with_reducible exact Nat.le_refl _) | (simp; done) | (simp; omega))))) _ _).mono ?_; rintro e w1 ⟨rfl, hb1⟩; rw [hp]; obtain ⟨hc1, hf1⟩ := bcell hb1; have hs1 := hb1.size; (try simp at hs1); have k10 := hc1 w.heap.size 0 (by simp); have k11 := hc1 w.heap.size 1 (by simp))
    go_loopw [3, 12] (fun v i wr => ∃ k : Nat, k ≤ m ∧ i = .int .i64 (k : Int) ∧ wr.ownsRow w1.heap.size 9 1 v k ((pws xs ys k).map Value.string) ∧ Below w1.heap.size w1 wr) (fun _ i _ => m - (intOf i).toNat)
    case atStart => exact ⟨0, by omega, rfl, str_own0, Below.refl _ _⟩
    case round =>
      obtain ⟨k, hk, rfl, hown, hbel⟩ := hrel
      have hsz := hbel.size
      have HO := Lib.hid hown
      clear hown
      by_cases hlt : k < m
      · obtain ⟨b, off, x, rfl, hb, hcx, HX, hwx⟩ := (H.below (w' := w1) (by (repeat' (first | (with_reducible exact Below.refl _ _) | (with_reducible assumption) | (with_reducible refine bStep ?_ (by with_reducible assumption)) | (with_reducible refine bAlloc ?_ _) | (with_reducible refine bDrew ?_) | (with_reducible refine bDrewN ?_ _) | (with_reducible refine Below.setCell ?_ ?_ _) | (with_reducible exact Nat.le_refl _) | (simp; done) | (simp; omega))))).at_ hlt
        obtain ⟨b', off', y, rfl, hb', hcy, HY, hwy⟩ := (K.below (w' := w1) (by (repeat' (first | (with_reducible exact Below.refl _ _) | (with_reducible assumption) | (with_reducible refine bStep ?_ (by with_reducible assumption)) | (with_reducible refine bAlloc ?_ _) | (with_reducible refine bDrew ?_) | (with_reducible refine bDrewN ?_ _) | (with_reducible refine Below.setCell ?_ ?_ _) | (with_reducible exact Nat.le_refl _) | (simp; done) | (simp; omega))))).at_ hlt
        have hx1 := PI.out.1 k x HX.out
        have hy1 := PI.out.2 k y HY.out
        obtain ⟨x', rfl⟩ : ∃ x' : Nat, x = (x' : Int) := ⟨x.toNat, by omega⟩
        obtain ⟨y', rfl⟩ : ∃ y' : Nat, y = (y' : Int) := ⟨y.toNat, by omega⟩
        have sx := dg_sz7 (k := x') (by omega)
        have sy := dg_sz7 (k := y') (by omega)
        have C4 : Hid (∀ w', Below w1.heap.size w1 w' → w'.cell? ⟨w.heap.size, 1, none⟩ = some (.slice (some ⟨b', off', none⟩) m d) ∧ w'.cell? ⟨b', off' + k, none⟩ = some (.int .i64 (y' : Int))) :=
          fun w' h => ⟨(h.cell (p := ⟨w.heap.size, 1, none⟩) (by show w.heap.size < _; omega)).trans (k11.trans (by simp)), (h.cell (p := ⟨b', off' + k, none⟩) hb').trans hcy⟩
        have p2 : wr.cell? ⟨b, off + k, none⟩ = some (.int .i64 (x' : Int)) := (hbel.cell (p := ⟨b, off + k, none⟩) hb).trans hcx
        have t1 := sz1 58
        clear hcx hcy
        obtain ⟨p1, p3⟩ := C4.out wr hbel
        have EQ : Hid (pws xs ys k ++ [(dg x' ++ ⟨#[58]⟩) ++ dg y'] = pws xs ys (k + 1)) := by
          show _ = _
          rw [pws_succ, getD_of HX.out, getD_of HY.out, pWord, Int.toNat_natCast, Int.toNat_natCast]
        have hlI : (k : Int) < (m : Int) := by omega
        have v1 : ¬ 9223372036854775807 < (dg x').size + 1 := by omega
        have v2 : ¬ 9223372036854775807 < (dg x').size + (⟨#[58]⟩ : ByteArray).size := by omega
        have v4 : ¬ 9223372036854775807 < (dg x' ++ ⟨#[58]⟩).size + (dg y').size := by rw [ByteArray.size_append]; omega
        have v5 : ¬ 9223372036854775807 < (dg x').size + 1 + (dg y').size := by omega
        go_wp2_with fail
        go_region_held3 (fun w' => w'.cell? ⟨w.heap.size, 1, none⟩ = some (.slice (some ⟨b', off', none⟩) m d) ∧ w'.cell? ⟨b', off' + k, none⟩ = some (.int .i64 (y' : Int))) (exact C4.out _ (by (repeat' (first | (with_reducible exact Below.refl _ _) | (with_reducible assumption) | (with_reducible refine bStep ?_ (by with_reducible assumption)) | (with_reducible refine bAlloc ?_ _) | (with_reducible refine bDrew ?_) | (with_reducible refine bDrewN ?_ _) | (with_reducible refine Below.setCell ?_ ?_ _) | (with_reducible exact Nat.le_refl _) | (simp; done) | (simp; omega)))))
          (first | (go_at_call 81; with_reducible refine (decIn x' _ (by omega) (T.out.below (by (repeat' (first | (with_reducible exact Below.refl _ _) | (with_reducible assumption) | (with_reducible refine bStep ?_ (by with_reducible assumption)) | (with_reducible refine bAlloc ?_ _) | (with_reducible refine bDrew ?_) | (with_reducible refine bDrewN ?_ _) | (with_reducible refine Below.setCell ?_ ?_ _) | (with_reducible exact Nat.le_refl _) | (simp; done) | (simp; omega)))))).mono ?_; rintro e w3 ⟨rfl, hb3⟩) | (go_at_call 81; with_reducible refine (decIn y' _ (by omega) (T.out.below (by (repeat' (first | (with_reducible exact Below.refl _ _) | (with_reducible assumption) | (with_reducible refine bStep ?_ (by with_reducible assumption)) | (with_reducible refine bAlloc ?_ _) | (with_reducible refine bDrew ?_) | (with_reducible refine bDrewN ?_ _) | (with_reducible refine Below.setCell ?_ ?_ _) | (with_reducible exact Nat.le_refl _) | (simp; done) | (simp; omega)))))).mono ?_; rintro e w4 ⟨rfl, hb4⟩) | (refine str_step rfl (.tmp 17) (.tmp 28) rfl _ rfl _ _ rfl w1.heap.size k (pws xs ys k) _ (own_below HO.out (by (repeat' (first | (with_reducible exact Below.refl _ _) | (with_reducible assumption) | (with_reducible refine bStep ?_ (by with_reducible assumption)) | (with_reducible refine bAlloc ?_ _) | (with_reducible refine bDrew ?_) | (with_reducible refine bDrewN ?_ _) | (with_reducible refine Below.setCell ?_ ?_ _) | (with_reducible exact Nat.le_refl _) | (simp; done) | (simp; omega))))) (str_cell rfl) (by omega) w1 (Nat.le_refl _) (by (repeat' (first | (with_reducible exact Below.refl _ _) | (with_reducible assumption) | (with_reducible refine bStep ?_ (by with_reducible assumption)) | (with_reducible refine bAlloc ?_ _) | (with_reducible refine bDrew ?_) | (with_reducible refine bDrewN ?_ _) | (with_reducible refine Below.setCell ?_ ?_ _) | (with_reducible exact Nat.le_refl _) | (simp; done) | (simp; omega)))) ?_; intro v5 w5 hO5 hB5; have O5 := Lib.hid hO5; clear hO5))
        all_goals go_wp2_with fail
        all_goals go_roundw
        all_goals first
          | exact ⟨k + 1, by omega, by first | rfl | go_num, by have h := O5.out; rw [← EQ.out]; exact h, by (repeat' (first | (with_reducible exact Below.refl _ _) | (with_reducible assumption) | (with_reducible refine bStep ?_ (by with_reducible assumption)) | (with_reducible refine bAlloc ?_ _) | (with_reducible refine bDrew ?_) | (with_reducible refine bDrewN ?_ _) | (with_reducible refine Below.setCell ?_ ?_ _) | (with_reducible exact Nat.le_refl _) | (simp; done) | (simp; omega)))⟩
          | (simp [intOf]; done)
          | (simp [intOf] <;> omega)
      · obtain rfl : k = m := by omega
        obtain ⟨g, cap, rfl, hcap, hg⟩ := str_form HO.out (by omega)
        have JN : Hid (Calls Tryd.prog 82 #[.slice (some ⟨g, 0, none⟩) k cap, .string { data := #[44] }] wr fun e w' => e = .returned (.string (ptV xs ys)) ∧ Below wr.heap.size wr w') := by
          have J := Tryd.strings_Join g 0 cap (pws xs ys k) { data := #[44] } wr (fun j x hx => by
            have := HO.out.cells (g := g) rfl j (.string x) (by rw [List.getElem?_map, hx]; rfl)
            rw [addr_add] at this
            exact this) hg (by rw [pws_len]; omega) (by rw [pws_len]; omega) (by have h := JL.out; rw [HN] at h; exact h)
          have h := JB.out
          rw [HN] at h
          rw [h, pws_len] at J
          exact J
        clear HO
        go_wp2_with (go_at_call 82; refine JN.out.mono ?_; rintro e w6 ⟨rfl, hb6⟩)
        go_ret
        exact ⟨rfl, by (repeat' (first | (with_reducible exact Below.refl _ _) | (with_reducible assumption) | (with_reducible refine bStep ?_ (by with_reducible assumption)) | (with_reducible refine bAlloc ?_ _) | (with_reducible refine bDrew ?_) | (with_reducible refine bDrewN ?_ _) | (with_reducible refine Below.setCell ?_ ?_ _) | (with_reducible exact Nat.le_refl _) | (simp; done) | (simp; omega)))⟩
end Go.Proofs.YtgnpbgknmapejaaDoor
