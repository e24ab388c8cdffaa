/- Plain laws on the texts of ratios: both readings give the same. No program in sight. -/
import Derived.Test.YtgnpbgknmapejaaDoorStruct
import Derived.Test.YtgnpbgknmapejaaDoorMetL
import Derived.Test.YtgnpbgknmapejaaDoorMath
import Derived.Lib.IndexMore
import Derived.Lib.IndexBytes
namespace Go.Proofs.YtgnpbgknmapejaaDoor
set_option linter.unusedVariables false

/-- the pieces of a text between the bytes c; cur: what has come since the last one -/
def spl (c : UInt8) : List UInt8 → List UInt8 → List (List UInt8)
  | [], cur => [cur]
  | x :: r, cur => if x = c then cur :: spl c r [] else spl c r (cur ++ [x])
theorem spl_no {c : UInt8} : ∀ (l cur : List UInt8), c ∉ l → spl c l cur = [cur ++ l]
  | [], cur, _ => by simp [spl]
  | x :: r, cur, h => by
    have hx : ¬ x = c := fun e => h (by rw [e]; exact List.mem_cons_self ..)
    rw [spl, if_neg hx, spl_no r _ (fun hm => h (List.mem_cons_of_mem _ hm))]
    simp
theorem spl_at {c : UInt8} : ∀ (a b cur : List UInt8), c ∉ a → spl c (a ++ c :: b) cur = (cur ++ a) :: spl c b []
  | [], b, cur, _ => by simp [spl]
  | x :: a, b, cur, h => by
    have hx : ¬ x = c := fun e => h (by rw [e]; exact List.mem_cons_self ..)
    rw [List.cons_append, spl, if_neg hx, spl_at a b _ (fun hm => h (List.mem_cons_of_mem _ hm))]
    simp
theorem spl_ne (c : UInt8) : ∀ (l cur : List UInt8), spl c l cur ≠ []
  | [], cur => by simp [spl]
  | x :: r, cur => by
    rw [spl]
    split
    · simp
    · exact spl_ne c r _
theorem spl_one {c : UInt8} : ∀ (l cur w : List UInt8), spl c l cur = [w] → c ∉ l ∧ w = cur ++ l
  | [], cur, w, h => by simp [spl] at h; exact ⟨by simp, by rw [← h]; simp⟩
  | x :: r, cur, w, h => by
    rw [spl] at h
    split at h
    · exact absurd (List.cons.inj h).2 (spl_ne c r [])
    · rename_i hx
      have ih := spl_one r _ w h
      refine ⟨fun hm => ?_, by rw [ih.2]; simp⟩
      rcases List.mem_cons.1 hm with e | e
      · exact hx e.symm
      · exact ih.1 e
theorem spl_two {c : UInt8} : ∀ (l cur u v : List UInt8), spl c l cur = [u, v] → ∃ a, u = cur ++ a ∧ l = a ++ c :: v ∧ c ∉ a ∧ c ∉ v
  | [], cur, u, v, h => by simp [spl] at h
  | x :: r, cur, u, v, h => by
    rw [spl] at h
    split at h
    · rename_i hx
      injection h with h1 h2
      have h3 := spl_one r [] v h2
      refine ⟨[], by rw [h1]; simp, by rw [hx, h3.2]; simp, by simp, by rw [h3.2]; simpa using h3.1⟩
    · rename_i hx
      obtain ⟨a, e1, e2, e3, e4⟩ := spl_two r _ u v h
      refine ⟨x :: a, by rw [e1]; simp, by rw [e2]; simp, fun hm => ?_, e4⟩
      rcases List.mem_cons.1 hm with e | e
      · exact hx e.symm
      · exact e3 e
/-- the program's cut at the first byte c -/
theorem cut_at {c : UInt8} {a b : List UInt8} (h : c ∉ a) : Lib.cut (a ++ c :: b) [c] = (a, b, true) := by
  have hi : Lib.index (a ++ c :: b) [c] = ((a.length : Nat) : Int) := by rw [Lib.index_one]; exact idx_at c a b h
  unfold Lib.cut
  rw [hi, if_pos (by omega)]
  simp
theorem cut_no {c : UInt8} {l : List UInt8} (h : c ∉ l) : Lib.cut l [c] = (l, [], false) := by
  have hi : Lib.index l [c] = -1 := by rw [Lib.index_one]; exact idx_no c l h
  unfold Lib.cut
  rw [hi, if_neg (by omega)]
theorem rat_bdl {a b : Int} (h : isRat a b = true) : (-1000000000 ≤ a ∧ a ≤ 1000000000) ∧ 1 ≤ b ∧ b ≤ 1000000000 := by
  unfold isRat at h
  simp only [Bool.and_eq_true] at h
  have h1 := inB_t h.1.1
  have h2 := inB_t h.1.2
  omega
/-- the text of a ratio -/
def rtL (a b : Int) : List UInt8 := Lib.itoa a ++ 47 :: Lib.itoa b
theorem no47 (n : Int) : (47 : UInt8) ∉ Lib.itoa n := by
  intro h
  rcases itoa_bytes n 47 h with k | k
  · unfold isDig at k; revert k; decide
  · revert k; decide
/-- reading as the reference reads: two pieces, each a number of at most twelve digits -/
def rr (l : List UInt8) : Option (Int × Int) := match spl 47 l [] with
  | [u, v] => (match sg u, sg v with
    | some a, some b => if isRat a b then some (a, b) else none
    | _, _ => none)
  | _ => none
theorem rr_iff {l : List UInt8} {a b : Int} : rr l = some (a, b) ↔ l = rtL a b ∧ isRat a b = true := by
  constructor
  · intro h
    unfold rr at h
    split at h
    · rename_i u v he
      obtain ⟨x, e1, e2, e3, e4⟩ := spl_two l [] u v he
      split at h
      · rename_i p q hp hq
        split at h
        · rename_i hr
          injection h with h
          injection h with h1 h2
          subst h1 h2
          have k1 := (sg_iff.1 hp).1
          have k2 := (sg_iff.1 hq).1
          rw [List.nil_append] at e1
          exact ⟨by rw [e2, ← e1, k1, k2]; rfl, hr⟩
        · cases h
      · cases h
    · cases h
  · rintro ⟨rfl, hr⟩
    have bd := rat_bdl hr
    unfold rr rtL
    rw [spl_at _ _ _ (no47 a), spl_no _ _ (no47 b), List.nil_append, List.nil_append]
    simp only
    rw [sg_iff.2 ⟨rfl, by omega, by omega⟩, sg_iff.2 ⟨rfl, by omega, by omega⟩]
    simp only
    rw [if_pos hr]
/-- reading as the program reads: cut at the first bar -/
def ri (l : List UInt8) : Option (Int × Int) := match rd (Lib.cut l [47]).1, rd (Lib.cut l [47]).2.1 with
  | some a, some b => if isRat a b then some (a, b) else none
  | _, _ => none
theorem rd_nil : rd [] = none := by
  unfold rd
  have : Lib.parseIntB 64 [] = .«syntax» := rfl
  rw [this]
theorem ri_iff {l : List UInt8} {a b : Int} : ri l = some (a, b) ↔ l = rtL a b ∧ isRat a b = true := by
  constructor
  · intro h
    by_cases hm : (47 : UInt8) ∈ l
    · obtain ⟨x, y, rfl, hn⟩ := List.eq_append_cons_of_mem hm
      unfold ri at h
      rw [cut_at hn] at h
      simp only at h
      split at h
      · rename_i p q hp hq
        split at h
        · rename_i hr
          injection h with h
          injection h with h1 h2
          subst h1 h2
          exact ⟨by rw [(rd_iff.1 hp).1, (rd_iff.1 hq).1]; rfl, hr⟩
        · cases h
      · cases h
    · unfold ri at h
      rw [cut_no hm] at h
      simp only [rd_nil] at h
      split at h
      · rename_i hq; cases hq
      · cases h
  · rintro ⟨rfl, hr⟩
    have bd := rat_bdl hr
    unfold ri rtL
    rw [cut_at (no47 a)]
    simp only
    rw [rd_iff.2 ⟨rfl, by omega, by omega⟩, rd_iff.2 ⟨rfl, by omega, by omega⟩]
    simp only
    rw [if_pos hr]
theorem ri_eq (l : List UInt8) : ri l = rr l := by
  apply Option.ext
  rintro ⟨a, b⟩
  rw [ri_iff, rr_iff]
end Go.Proofs.YtgnpbgknmapejaaDoor
