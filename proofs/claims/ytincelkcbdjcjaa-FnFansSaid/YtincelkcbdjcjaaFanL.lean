/- Lists of directions: equal ones, marking their numbers, and looking for the marks. -/
import Derived.Test.YtincelkcbdjcjaaFan
import Derived.Test.YtincelkcbdjcjaaDirOps
import Derived.Deep.RegionHeld3
import Derived.Deep.QuietTactic
import Derived.BigQuiet
namespace Go.Proofs.Ytincelkcbdjcjaa
open Go.RowKit
set_option linter.unusedVariables false

/-- The cells of n structs of three numbers. -/
def triL (f g h : Nat → Int) : Nat → List Value
  | 0 => []
  | k + 1 => triL f g h k ++ tri (f k) (g k) (h k)
theorem triL_len (f g h : Nat → Int) : ∀ n, (triL f g h n).length = n * 3
  | 0 => rfl
  | k + 1 => by simp only [triL, List.length_append, triL_len f g h k, tri, List.length_cons, List.length_nil]; omega
theorem triL_at (f g h : Nat → Int) : ∀ n j, j < n → (triL f g h n)[j * 3]? = some (.int .i64 (f j)) ∧ (triL f g h n)[j * 3 + 1]? = some (.int .i64 (g j)) ∧ (triL f g h n)[j * 3 + 2]? = some (.int .i64 (h j))
  | 0, j, hj => absurd hj (Nat.not_lt_zero _)
  | k + 1, j, hj => by
    have hl := triL_len f g h k
    simp only [triL]
    rcases Nat.lt_or_ge j k with h1 | h1
    · rw [List.getElem?_append_left (by omega), List.getElem?_append_left (by omega), List.getElem?_append_left (by omega)]
      exact triL_at f g h k j h1
    · obtain rfl : j = k := by omega
      rw [List.getElem?_append_right (by omega), List.getElem?_append_right (by omega), List.getElem?_append_right (by omega), hl]
      rw [show j * 3 - j * 3 = 0 by omega, show j * 3 + 1 - j * 3 = 1 by omega, show j * 3 + 2 - j * 3 = 2 by omega]
      exact ⟨rfl, rfl, rfl⟩
theorem triL_get (f g h : Nat → Int) (n m : Nat) : (triL f g h n)[m]? = if m < n * 3 then (if m % 3 = 0 then some (.int .i64 (f (m / 3))) else if m % 3 = 1 then some (.int .i64 (g (m / 3))) else some (.int .i64 (h (m / 3)))) else none := by
  by_cases hm : m < n * 3
  · rw [if_pos hm]
    obtain ⟨h0, h1, h2⟩ := triL_at f g h n (m / 3) (by omega)
    rcases (by omega : m % 3 = 0 ∨ m % 3 = 1 ∨ m % 3 = 2) with e | e | e
    · rw [if_pos e, ← h0]; congr 1; omega
    · rw [if_neg (by omega), if_pos e, ← h1]; congr 1; omega
    · rw [if_neg (by omega), if_neg (by omega), ← h2]; congr 1; omega
  · rw [if_neg hm, List.getElem?_eq_none]
    rw [triL_len]; omega
theorem fanC_eq (n l : Int) (q : Bool) : ∀ k, fanC n l q k = triL (fun i => dC (l + (i : Nat)) n) (fun i => dS (l + (i : Nat)) n q) (fun i => dH (l + (i : Nat)) n) k
  | 0 => rfl
  | k + 1 => by simp only [fanC, triL, fanC_eq n l q k]
def mk3 (k : Nat) (r : Int) (j : Nat) (f : Nat → Int) : Nat → Int := fun i => if i < j then (k : Int) + 3 * (i : Int) + r else f i
theorem mk3_zero (k : Nat) (r : Int) (f : Nat → Int) : mk3 k r 0 f = f := by funext i; simp [mk3]
def ups (k : Nat) (r : Int) : Nat → Int := fun i => (k : Int) + 3 * (i : Int) + r
theorem triL_same {f g h f' g' h' : Nat → Int} {n : Nat} (e : ∀ i, i < n → f i = f' i ∧ g i = g' i ∧ h i = h' i) : triL f g h n = triL f' g' h' n := by
  apply List.ext_getElem?
  intro m
  rw [triL_get, triL_get]
  by_cases hm : m < n * 3
  · obtain ⟨e0, e1, e2⟩ := e (m / 3) (by omega)
    rw [e0, e1, e2]
  · rw [if_neg hm, if_neg hm]
theorem mk3_end (k : Nat) (f g h : Nat → Int) (n : Nat) : triL (mk3 k 0 n f) (mk3 k 1 n g) (mk3 k 2 n h) n = triL (ups k 0) (ups k 1) (ups k 2) n :=
  triL_same fun i hi => by simp [mk3, ups, hi]
theorem mk3_set (k : Nat) (f g h : Nat → Int) {n j : Nat} (hj : j < n) {x : Int} (hx : x = (k : Int) + 3 * (j : Int)) :
    (((triL (mk3 k 0 j f) (mk3 k 1 j g) (mk3 k 2 j h) n).set (j * 3) (.int .i64 x)).set (j * 3 + 1) (.int .i64 (x + 1))).set (j * 3 + 2) (.int .i64 (x + 1 + 1)) = triL (mk3 k 0 (j + 1) f) (mk3 k 1 (j + 1) g) (mk3 k 2 (j + 1) h) n := by
  subst hx
  apply List.ext_getElem?
  intro m
  rw [List.getElem?_set, List.getElem?_set, List.getElem?_set, triL_get, triL_get]
  simp only [List.length_set, triL_len]
  have up : ∀ (r : Int) (p : Nat → Int), ¬ m / 3 = j → mk3 k r j p (m / 3) = mk3 k r (j + 1) p (m / 3) := by
    intro r p hne
    unfold mk3
    by_cases h1 : m / 3 < j
    · rw [if_pos h1, if_pos (by omega)]
    · rw [if_neg h1, if_neg (by omega)]
  by_cases h2 : j * 3 + 2 = m
  · subst h2
    rw [if_pos rfl, if_pos (by omega), if_pos (by omega), if_neg (by omega), if_neg (by omega)]
    have : (j * 3 + 2) / 3 = j := by omega
    rw [this]; unfold mk3; rw [if_pos (by omega)]; (congr 2 <;> omega)
  rw [if_neg h2]
  by_cases h1 : j * 3 + 1 = m
  · subst h1
    rw [if_pos rfl, if_pos (by omega), if_pos (by omega), if_neg (by omega), if_pos (by omega)]
    have : (j * 3 + 1) / 3 = j := by omega
    rw [this]; unfold mk3; rw [if_pos (by omega)]
  rw [if_neg h1]
  by_cases h0 : j * 3 = m
  · subst h0
    rw [if_pos rfl, if_pos (by omega), if_pos (by omega), if_pos (by omega)]
    have : (j * 3) / 3 = j := by omega
    rw [this]; unfold mk3; rw [if_pos (by omega)]; (congr 2 <;> omega)
  rw [if_neg h0, up 0 f (by omega), up 1 g (by omega), up 2 h (by omega)]

/-- The slice reads as n structs of three numbers. -/
def Tris (w : World) (A : Option Addr) (n : Nat) (f g h : Nat → Int) : Prop :=
  n ≤ 1048576 ∧ (0 < n → ∃ b, A = some ⟨b, 0, none⟩ ∧ b < w.heap.size ∧ ∀ j, j < n → w.cell? ⟨b, j * 3, none⟩ = some (.int .i64 (f j)) ∧ w.cell? ⟨b, j * 3 + 1, none⟩ = some (.int .i64 (g j)) ∧ w.cell? ⟨b, j * 3 + 2, none⟩ = some (.int .i64 (h j)))
theorem Tris.below {w w' : World} {A : Option Addr} {n : Nat} {f g h : Nat → Int} (H : Tris w A n f g h) (hb : Below w.heap.size w w') : Tris w' A n f g h := by
  refine ⟨H.1, fun hn => ?_⟩
  obtain ⟨b, e, hlt, hc⟩ := H.2 hn
  exact ⟨b, e, Nat.lt_of_lt_of_le hlt hb.size, fun j hj => ⟨(hb.cell (p := ⟨b, j * 3, none⟩) hlt).trans (hc j hj).1, (hb.cell (p := ⟨b, j * 3 + 1, none⟩) hlt).trans (hc j hj).2.1, (hb.cell (p := ⟨b, j * 3 + 2, none⟩) hlt).trans (hc j hj).2.2⟩⟩
theorem Tris.of_own {w : World} {base : Nat} {A : Option Addr} {e : TypeId} {c n : Nat} {f g h : Nat → Int} (O : w.ownsRow base e 3 (.slice A n c) n (triL f g h n)) (hn : n ≤ 1048576) : Tris w A n f g h := by
  refine ⟨hn, fun hpos => ?_⟩
  rcases O.2 with ⟨e1, e2⟩ | ⟨b, cap, cur, e1, hB, hb, r⟩
  · injection e1 with e1 e3 e4
    omega
  · injection e1 with e1 e3 e4
    subst e1; subst e4
    refine ⟨b, rfl, lt_of_block hb, fun j hj => ?_⟩
    have h1 := triL_at f g h n j hj
    rw [O.cellAt _ (by omega), O.cellAt _ (by omega), O.cellAt _ (by omega)]
    exact h1
theorem eqDirT (a b c : Int) (w : World) : Calls Try.prog 103 #[.agg #[.int .i64 a, .int .i64 b, .int .i64 c], .agg #[.int .i64 a, .int .i64 b, .int .i64 c]] w fun o w' => o = .returned (.bool true) ∧ Below w.heap.size w w' :=
  (eqDir a b c a b c w).mono fun o w' h => ⟨by simpa using h.1, h.2⟩
set_option maxHeartbeats 1600000 in
theorem eqDS {w : World} {A B : Option Addr} {n : Nat} {f g h : Nat → Int} (H : Tris w A n f g h) (K : Tris w B n f g h) (c d : Nat) :
    Calls Try.prog 55 #[.slice A n c, .slice B n d] w fun e w' => e = .returned (.bool true) ∧ Below w.heap.size w w' := by
  have hn := H.1
  have h0 : ((n : Int) != (n : Int)) = false := by simp
  go_enter Try.func55, Try.ntmps55
  go_wp2
  go_loopw [5] (fun i wr => ∃ k : Nat, k ≤ n ∧ i = .int .i64 k ∧ Below w.heap.size w wr) (fun i _ => n - (intOf i).toNat)
  case atStart => exact ⟨0, Nat.zero_le _, rfl, Below.refl _ _⟩
  case round =>
    obtain ⟨k, hk, rfl, hbel⟩ := hrel
    by_cases hlt : k < n
    · obtain ⟨b, rfl, hb, hcb⟩ := (H.below hbel).2 (by omega)
      obtain ⟨b', rfl, hb', hcb'⟩ := (K.below hbel).2 (by omega)
      obtain ⟨p0, p1, p2⟩ := hcb k hlt
      obtain ⟨q0, q1, q2⟩ := hcb' k hlt
      clear hcb hcb'
      generalize f k = x at *
      generalize g k = y at *
      generalize h k = z at *
      go_wp2_with fail
      go_region_held3 (fun W => (W.cell? ⟨b, k * 3, none⟩ = some (.int .i64 x) ∧ W.cell? ⟨b, k * 3 + 1, none⟩ = some (.int .i64 y) ∧ W.cell? ⟨b, k * 3 + 2, none⟩ = some (.int .i64 z)) ∧ W.cell? ⟨b', k * 3, none⟩ = some (.int .i64 x) ∧ W.cell? ⟨b', k * 3 + 1, none⟩ = some (.int .i64 y) ∧ W.cell? ⟨b', k * 3 + 2, none⟩ = some (.int .i64 z)) (go_keep)
        ((first | (go_at_call 103; refine (eqDirT _ _ _ _).mono ?_; rintro e w1 ⟨rfl, hb1⟩; obtain ⟨hcq, hfq⟩ := bcell hb1; have hs1 := hb1.size; (try simp at hs1); (try have hl1 := Nat.lt_of_succ_le hs1); (try have hz1x0 : b < w1.heap.size := (by have := hb1.size; (try simp at this); omega)); (try have hn1x0 : ¬ b = w1.heap.size := (by omega)); (try have hm1x0 : ¬ w1.heap.size = b := (by omega)); (try have hz1x1 : b' < w1.heap.size := (by have := hb1.size; (try simp at this); omega)); (try have hn1x1 : ¬ b' = w1.heap.size := (by omega)); (try have hm1x1 : ¬ w1.heap.size = b' := (by omega)); (try have cx0 := hcq b (k * 3) (by first | omega | (simp; omega))); (try have cx1 := hcq b (k * 3 + 1) (by first | omega | (simp; omega))); (try have cx2 := hcq b (k * 3 + 2) (by first | omega | (simp; omega))); (try have cx3 := hcq b' (k * 3) (by first | omega | (simp; omega))); (try have cx4 := hcq b' (k * 3 + 1) (by first | omega | (simp; omega))); (try have cx5 := hcq b' (k * 3 + 2) (by first | omega | (simp; omega))))))
      all_goals go_wp2
      all_goals go_roundw
      all_goals first
        | (case rel => exact ⟨k + 1, by omega, by go_num, by (repeat' (first | (with_reducible exact Below.refl _ _) | (with_reducible assumption) | (with_reducible refine bStep ?_ (by with_reducible assumption)) | (with_reducible refine bAlloc ?_ _) | (with_reducible refine bDrew ?_) | (with_reducible refine bDrewN ?_ _) | (with_reducible refine Below.setCell ?_ ?_ _) | (with_reducible exact Nat.le_refl _) | (simp; done) | (simp; omega)))⟩)
        | skip
      all_goals (simp [intOf]; omega)
    · obtain rfl : k = n := by omega
      go_wp2
      go_ret
      exact ⟨rfl, hbel⟩
set_option maxHeartbeats 1600000 in
theorem markD {w : World} {B b n c k : Nat} {f g h : Nat → Int} (O : w.ownsRow B 27 3 (.slice (some ⟨b, 0, none⟩) n c) n (triL f g h n)) (hn : n ≤ 1048576) (hk : k ≤ 1048576) :
    Calls Try.prog 56 #[.slice (some ⟨b, 0, none⟩) n c, .int .i64 k] w fun e w' => e = .returned (.int .i64 ((k + 3 * n : Nat) : Int)) ∧ w'.ownsRow B 27 3 (.slice (some ⟨b, 0, none⟩) n c) n (triL (ups k 0) (ups k 1) (ups k 2) n) ∧ w.grownBy w' (some b) := by
  have O0 : w.ownsRow B 27 3 (.slice (some ⟨b, 0, none⟩) n c) n (triL (mk3 k 0 0 f) (mk3 k 1 0 g) (mk3 k 2 0 h) n) := by rw [mk3_zero, mk3_zero, mk3_zero]; exact O
  clear O
  go_enter Try.func56, Try.ntmps56
  go_wp2
  go_loopw [1, 5] (fun v i wr => ∃ j : Nat, j ≤ n ∧ i = .int .i64 j ∧ v = .int .i64 ((k : Int) + 3 * (j : Int)) ∧ wr.ownsRow B 27 3 (.slice (some ⟨b, 0, none⟩) n c) n (triL (mk3 k 0 j f) (mk3 k 1 j g) (mk3 k 2 j h) n) ∧ w.grownBy wr (some b)) (fun _ i _ => n - (intOf i).toNat)
  case atStart => exact ⟨0, Nat.zero_le _, rfl, by simp, O0, World.grownBy.refl _ _⟩
  case round =>
    obtain ⟨j, hj, rfl, rfl, hown, hgr⟩ := hrel
    clear O0
    obtain ⟨x, hx⟩ : ∃ x : Int, (k : Int) + 3 * (j : Int) = x := ⟨_, rfl⟩
    rw [hx]
    by_cases hlt : j < n
    · obtain ⟨hs1, hg1⟩ := hown.stored (j * 3) (.int .i64 x)
      obtain ⟨hs2, hg2⟩ := hs1.stored (j * 3 + 1) (.int .i64 (x + 1))
      obtain ⟨hs3, hg3⟩ := hs2.stored (j * 3 + 2) (.int .i64 (x + 1 + 1))
      have hf1 := hown.frozenAt (j * 3)
      have hf2 := hown.frozenAt (j * 3 + 1)
      have hf3 := hown.frozenAt (j * 3 + 2)
      obtain ⟨u, hu⟩ : ∃ u, wr.cell? ⟨b, j * 3, none⟩ = some u := by
        rw [hown.cellAt _ (by omega)]
        exact ⟨_, List.getElem?_eq_getElem (by rw [hown.1]; omega)⟩
      obtain ⟨u1, hu1⟩ : ∃ u, wr.cell? ⟨b, j * 3 + 1, none⟩ = some u := by
        rw [hown.cellAt _ (by omega)]
        exact ⟨_, List.getElem?_eq_getElem (by rw [hown.1]; omega)⟩
      obtain ⟨u2, hu2⟩ : ∃ u, wr.cell? ⟨b, j * 3 + 2, none⟩ = some u := by
        rw [hown.cellAt _ (by omega)]
        exact ⟨_, List.getElem?_eq_getElem (by rw [hown.1]; omega)⟩
      rw [mk3_set k f g h hlt hx.symm] at hs3
      have S1 := Lib.hid hs3
      have S2 := Lib.hid (((hgr.trans hg1).trans hg2).trans hg3)
      clear hs1 hs2 hs3 hg1 hg2 hg3 hgr hown
      go_wp2
      go_roundw
      case rel => exact ⟨j + 1, by omega, by go_num, by first | (rw [← hx]; congr 1; omega) | (congr 1; omega), by first | exact S1.out | (have := S1.out; simpa using this), by first | exact S2.out | (have := S2.out; simpa using this)⟩
      case measure => simp [intOf]; omega
    · obtain rfl : j = n := by omega
      rw [mk3_end] at hown
      have S1 := Lib.hid hown
      have S2 := Lib.hid hgr
      clear hown hgr
      go_wp2
      go_ret
      exact ⟨ret_i (by omega), S1.out, S2.out⟩
theorem markDO {w : World} {B n c k : Nat} {A : Option Addr} {f g h : Nat → Int} (O : w.ownsRow B 27 3 (.slice A n c) n (triL f g h n)) (hn : n ≤ 1048576) (hk : k ≤ 1048576) :
    Calls Try.prog 56 #[.slice A n c, .int .i64 k] w fun e w' => e = .returned (.int .i64 ((k + 3 * n : Nat) : Int)) ∧ w'.ownsRow B 27 3 (.slice A n c) n (triL (ups k 0) (ups k 1) (ups k 2) n) ∧ w.grownBy w' (Value.ownBlock (.slice A n c)) := by
  rcases h2 : O.2 with ⟨e, _⟩ | ⟨b, cap, cur, e, _⟩
  · injection e with e1 e2 e3
    subst e1; subst e2; subst e3
    go_enter Try.func56, Try.ntmps56
    go_wp2
    go_loopw [1, 5] (fun v i wr => v = .int .i64 k ∧ i = .int .i64 0 ∧ wr = w) (fun _ i _ => 0)
    case atStart => exact ⟨rfl, rfl, rfl⟩
    case round =>
      obtain ⟨rfl, rfl, rfl⟩ := hrel
      go_wp2
      go_ret
      exact ⟨rfl, ⟨by simp [triL], .inl ⟨rfl, rfl⟩⟩, World.grownBy.refl _ _⟩
  · injection e with e1 e2 e3
    subst e1; subst e3
    exact markD O hn hk
set_option maxHeartbeats 1600000 in
theorem heldD {w : World} {A : Option Addr} {n c k : Nat} (H : Tris w A n (ups k 0) (ups k 1) (ups k 2)) (hk : k ≤ 1048576) :
    Calls Try.prog 57 #[.slice A n c, .int .i64 k] w fun e w' => e = .returned (.int .i64 ((k + 3 * n : Nat) : Int)) ∧ Below w.heap.size w w' := by
  have hn := H.1
  go_enter Try.func57, Try.ntmps57
  go_wp2
  go_loopw [1, 5] (fun v i wr => ∃ j : Nat, j ≤ n ∧ i = .int .i64 j ∧ v = .int .i64 ((k : Int) + 3 * (j : Int)) ∧ Below w.heap.size w wr) (fun _ i _ => n - (intOf i).toNat)
  case atStart => exact ⟨0, Nat.zero_le _, rfl, by simp, Below.refl _ _⟩
  case round =>
    obtain ⟨j, hj, rfl, rfl, hbel⟩ := hrel
    by_cases hlt : j < n
    · obtain ⟨b, rfl, hb, hcb⟩ := (H.below hbel).2 (by omega)
      obtain ⟨p0, p1, p2⟩ := hcb j hlt
      clear hcb
      obtain ⟨x, hx⟩ : ∃ x : Int, (k : Int) + 3 * (j : Int) = x := ⟨_, rfl⟩
      have e0 : ups k 0 j = x := by simp only [ups]; omega
      have e1 : ups k 1 j = x + 1 := by simp only [ups]; omega
      have e2 : ups k 2 j = x + 1 + 1 := by simp only [ups]; omega
      rw [e0] at p0
      rw [e1] at p1
      rw [e2] at p2
      rw [hx]
      clear e0 e1 e2
      have b0 : (x != x) = false := by simp
      have b1 : (x + 1 != x + 1) = false := by simp
      have b2 : (x + 1 + 1 != x + 1 + 1) = false := by simp
      go_wp2
      all_goals (try go_quiet (fail))
      all_goals go_wp2
      all_goals (try go_quiet (fail))
      all_goals go_wp2
      all_goals (try go_quiet (fail))
      all_goals go_wp2
      go_roundw
      case rel => exact ⟨j + 1, by omega, by go_num, by first | (rw [← hx]; congr 1; omega) | (congr 1; omega), by (repeat' (first | (with_reducible exact Below.refl _ _) | (with_reducible assumption) | (with_reducible refine bStep ?_ (by with_reducible assumption)) | (with_reducible refine bAlloc ?_ _) | (with_reducible refine bDrew ?_) | (with_reducible refine bDrewN ?_ _) | (with_reducible refine Below.setCell ?_ ?_ _) | (with_reducible exact Nat.le_refl _) | (simp; done) | (simp; omega)))⟩
      case measure => simp [intOf]; omega
    · obtain rfl : j = n := by omega
      go_wp2
      go_ret
      exact ⟨ret_i (by omega), hbel⟩
end Go.Proofs.Ytincelkcbdjcjaa
