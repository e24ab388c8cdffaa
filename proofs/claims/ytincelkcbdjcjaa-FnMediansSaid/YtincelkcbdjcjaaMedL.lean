/- Plain laws on sorted lists of numbers and on the median. No program in sight. -/
import Derived.Test.YtincelkcbdjcjaaMath
namespace Go.Proofs.Ytincelkcbdjcjaa
set_option linter.unusedVariables false

def srt (xs : List Int) : List Int := xs.mergeSort fun x y => decide (x ≤ y)
theorem srt_pw (xs : List Int) : (srt xs).Pairwise (fun x y => x ≤ y) := by
  have h := List.pairwise_mergeSort (le := fun x y : Int => decide (x ≤ y)) (fun a b c h1 h2 => by simp only [decide_eq_true_eq] at *; omega) (fun a b => by simp only [Bool.or_eq_true, decide_eq_true_eq]; omega) xs
  exact h.imp fun h => by simpa using h
theorem srt_perm (xs : List Int) : (srt xs).Perm xs := List.mergeSort_perm xs _
theorem srt_len (xs : List Int) : (srt xs).length = xs.length := (srt_perm xs).length_eq
theorem srt_eq {xs ys : List Int} (h : ys.Pairwise (fun x y => x ≤ y)) (p : ys.Perm xs) : ys = srt xs :=
  List.Perm.eq_of_pairwise (le := fun a b : Int => a ≤ b) (fun a b _ _ h1 h2 => by omega) h (srt_pw xs) (p.trans (srt_perm xs).symm)
def ins (x : Int) (p : Nat) (l : List Int) : List Int := l.take p ++ x :: l.drop p
theorem ins_perm (x : Int) (p : Nat) (l : List Int) : (ins x p l).Perm (x :: l) := by
  unfold ins
  refine List.perm_middle.trans ?_
  rw [List.take_append_drop]
theorem ins_len (x : Int) (p : Nat) (l : List Int) : (ins x p l).length = l.length + 1 := by
  have := (ins_perm x p l).length_eq
  simpa using this
theorem ins_pw {x : Int} {p : Nat} {l : List Int} (h : l.Pairwise (fun x y => x ≤ y)) (h1 : ∀ y ∈ l.take p, y ≤ x) (h2 : ∀ y ∈ l.drop p, x ≤ y) : (ins x p l).Pairwise (fun x y => x ≤ y) := by
  unfold ins
  have hs : (l.take p ++ l.drop p).Pairwise (fun x y => x ≤ y) := by rw [List.take_append_drop]; exact h
  rw [List.pairwise_append] at hs ⊢
  refine ⟨hs.1, ?_, ?_⟩
  · rw [List.pairwise_cons]; exact ⟨h2, hs.2.1⟩
  · intro a ha b hb
    rcases List.mem_cons.1 hb with rfl | hb
    · exact h1 a ha
    · exact hs.2.2 a ha b hb
/-- the inner loop's way down: from place p on all are greater; the one before is not (or there is none) -/
theorem stop_take {x : Int} {p : Nat} {l : List Int} (h : l.Pairwise (fun x y => x ≤ y)) (hp : p = 0 ∨ ∃ y, l[p - 1]? = some y ∧ 0 < p ∧ y ≤ x) : ∀ y ∈ l.take p, y ≤ x := by
  intro y hy
  rcases hp with rfl | ⟨z, hz, h0, hle⟩
  · simp at hy
  · obtain ⟨i, hi, e⟩ := List.mem_iff_getElem.1 hy
    rw [List.length_take] at hi
    rw [List.getElem_take] at e
    have hlt : p - 1 < l.length := by
      rcases Nat.lt_or_ge (p - 1) l.length with k | k
      · exact k
      · rw [List.getElem?_eq_none k] at hz; cases hz
    rw [List.getElem?_eq_getElem hlt] at hz
    injection hz with hz
    rw [List.pairwise_iff_getElem] at h
    rcases Nat.lt_or_ge i (p - 1) with k | k
    · have := h i (p - 1) (by omega) hlt k
      omega
    · have : i = p - 1 := by omega
      subst this
      omega
theorem drop_step {x y : Int} {p : Nat} {l : List Int} (h : ∀ z ∈ l.drop (p + 1), x ≤ z) (hy : l[p]? = some y) (hxy : x ≤ y) : ∀ z ∈ l.drop p, x ≤ z := by
  intro z hz
  have hlt : p < l.length := by
    rcases Nat.lt_or_ge p l.length with k | k
    · exact k
    · rw [List.getElem?_eq_none k] at hy; cases hy
  rw [List.drop_eq_getElem_cons hlt] at hz
  rw [List.getElem?_eq_getElem hlt] at hy
  injection hy with hy
  rcases List.mem_cons.1 hz with rfl | hz
  · omega
  · exact h z hz
/-- how many are at most x; how many are at least x -/
def cLe (x : Int) (xs : List Int) : Nat := xs.countP fun y => decide (y ≤ x)
def cGe (x : Int) (xs : List Int) : Nat := xs.countP fun y => decide (x ≤ y)
theorem cLe_step {xs : List Int} {k : Nat} {y : Int} (x : Int) (h : xs[k]? = some y) : cLe x (xs.take (k + 1)) = cLe x (xs.take k) + if y ≤ x then 1 else 0 := by
  unfold cLe
  rw [List.take_add_one, h, List.countP_append]
  simp [List.countP_cons]
theorem cGe_step {xs : List Int} {k : Nat} {y : Int} (x : Int) (h : xs[k]? = some y) : cGe x (xs.take (k + 1)) = cGe x (xs.take k) + if x ≤ y then 1 else 0 := by
  unfold cGe
  rw [List.take_add_one, h, List.countP_append]
  simp [List.countP_cons]
theorem med_mem {xs : List Int} {m : Int} (h : (srt xs)[(xs.length - 1) / 2]? = some m) : m ∈ xs := (srt_perm xs).mem_iff.1 (List.mem_of_getElem? h)
theorem med_le {xs : List Int} {m : Int} (h : (srt xs)[(xs.length - 1) / 2]? = some m) : xs.length ≤ 2 * cLe m xs := by
  have hl := srt_len xs
  have hp : cLe m (srt xs) = cLe m xs := (srt_perm xs).countP_eq _
  rcases Nat.eq_zero_or_pos xs.length with h0 | h0
  · omega
  have hk : (xs.length - 1) / 2 < (srt xs).length := by omega
  rw [List.getElem?_eq_getElem hk] at h
  injection h with h
  have hs := srt_pw xs
  rw [List.pairwise_iff_getElem] at hs
  have key : cLe m ((srt xs).take ((xs.length - 1) / 2 + 1)) = (xs.length - 1) / 2 + 1 := by
    unfold cLe
    rw [List.countP_eq_length.2, List.length_take]
    · omega
    · intro y hy
      obtain ⟨i, hi, e⟩ := List.mem_iff_getElem.1 hy
      rw [List.length_take] at hi
      rw [List.getElem_take] at e
      simp only [decide_eq_true_eq]
      rcases Nat.lt_or_ge i ((xs.length - 1) / 2) with k | k
      · have := hs i _ (by omega) hk k
        omega
      · have : i = (xs.length - 1) / 2 := by omega
        subst this
        omega
  have hle : cLe m ((srt xs).take ((xs.length - 1) / 2 + 1)) ≤ cLe m (srt xs) := (List.take_sublist _ _).countP_le
  omega
theorem med_ge {xs : List Int} {m : Int} (h : (srt xs)[(xs.length - 1) / 2]? = some m) : xs.length ≤ 2 * cGe m xs := by
  have hl := srt_len xs
  have hp : cGe m (srt xs) = cGe m xs := (srt_perm xs).countP_eq _
  rcases Nat.eq_zero_or_pos xs.length with h0 | h0
  · omega
  have hk : (xs.length - 1) / 2 < (srt xs).length := by omega
  rw [List.getElem?_eq_getElem hk] at h
  injection h with h
  have hs := srt_pw xs
  rw [List.pairwise_iff_getElem] at hs
  have key : cGe m ((srt xs).drop ((xs.length - 1) / 2)) = xs.length - (xs.length - 1) / 2 := by
    unfold cGe
    rw [List.countP_eq_length.2, List.length_drop]
    · omega
    · intro y hy
      obtain ⟨i, hi, e⟩ := List.mem_iff_getElem.1 hy
      rw [List.length_drop] at hi
      rw [List.getElem_drop] at e
      simp only [decide_eq_true_eq]
      rcases Nat.eq_zero_or_pos i with rfl | k
      · simp only [Nat.add_zero] at e; omega
      · have := hs _ ((xs.length - 1) / 2 + i) hk (by omega) (by omega)
        omega
  have hle : cGe m ((srt xs).drop ((xs.length - 1) / 2)) ≤ cGe m (srt xs) := (List.drop_sublist _ _).countP_le
  omega
end Go.Proofs.Ytincelkcbdjcjaa
