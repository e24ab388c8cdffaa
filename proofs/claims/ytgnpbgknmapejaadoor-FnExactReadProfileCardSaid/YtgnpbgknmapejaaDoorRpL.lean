/- Plain laws on texts of profiles: a word of two numbers, read as the reference reads it and as the program reads it. No program in sight. -/
import Derived.Test.YtgnpbgknmapejaaDoorRatL
namespace Go.Proofs.YtgnpbgknmapejaaDoor
set_option linter.unusedVariables false

def wL (a b : Int) : List UInt8 := Lib.itoa a ++ 58 :: Lib.itoa b
theorem no58 (n : Int) : (58 : UInt8) ∉ Lib.itoa n := by
  intro h
  rcases itoa_bytes n 58 h with k | k
  · unfold isDig at k; revert k; decide
  · revert k; decide
/-- as the reference reads a word -/
def wS (l : List UInt8) : Option (Int × Int) := match spl 58 l [] with
  | [u, v] => (match sg u, sg v with
    | some a, some b => some (a, b)
    | _, _ => none)
  | _ => none
/-- as the program reads a word -/
def wP (l : List UInt8) : Option (Int × Int) := match rd (Lib.cut l [58]).1, rd (Lib.cut l [58]).2.1 with
  | some a, some b => some (a, b)
  | _, _ => none
theorem wS_iff {l : List UInt8} {a b : Int} : wS l = some (a, b) ↔ l = wL a b ∧ (-1000000000000 < a ∧ a < 1000000000000) ∧ -1000000000000 < b ∧ b < 1000000000000 := by
  constructor
  · intro h
    unfold wS at h
    split at h
    · rename_i u v huv
      split at h
      · rename_i p q hp hq
        injection h with h
        injection h with h1 h2
        subst h1 h2
        obtain ⟨x, hu, hl, _, _⟩ := spl_two _ _ _ _ huv
        have hp := sg_iff.1 hp
        have hq := sg_iff.1 hq
        rw [List.nil_append] at hu
        subst hu
        refine ⟨?_, ⟨hp.2.1, hp.2.2⟩, hq.2.1, hq.2.2⟩
        rw [hl, hp.1, hq.1]
        rfl
      · cases h
    · cases h
  · rintro ⟨rfl, h1, h2⟩
    unfold wS wL
    rw [spl_at _ _ _ (no58 a), spl_no _ _ (no58 b), List.nil_append, List.nil_append]
    simp only
    rw [sg_iff.2 ⟨rfl, h1.1, h1.2⟩, sg_iff.2 ⟨rfl, h2.1, h2.2⟩]
theorem wP_iff {l : List UInt8} {a b : Int} : wP l = some (a, b) ↔ l = wL a b ∧ (-9223372036854775808 ≤ a ∧ a ≤ 9223372036854775807) ∧ -9223372036854775808 ≤ b ∧ b ≤ 9223372036854775807 := by
  constructor
  · intro h
    by_cases hm : (58 : UInt8) ∈ l
    · obtain ⟨x, y, rfl, hn⟩ := List.eq_append_cons_of_mem hm
      unfold wP at h
      rw [cut_at hn] at h
      simp only at h
      split at h
      · rename_i p q hp hq
        injection h with h
        injection h with h1 h2
        subst h1 h2
        have hp := rd_iff.1 hp
        have hq := rd_iff.1 hq
        refine ⟨?_, hp.2, hq.2⟩
        rw [hp.1, hq.1]
        rfl
      · cases h
    · unfold wP at h
      rw [cut_no hm] at h
      simp only [rd_nil] at h
      split at h
      · rename_i hq; cases hq
      · cases h
  · rintro ⟨rfl, h1, h2⟩
    unfold wP wL
    rw [cut_at (no58 a)]
    simp only
    rw [rd_iff.2 ⟨rfl, h1⟩, rd_iff.2 ⟨rfl, h2⟩]
/-- all words, in order -/
def all2 (f : List UInt8 → Option (Int × Int)) : List (List UInt8) → Option (List (Int × Int))
  | [] => some []
  | w :: r => match f w, all2 f r with
    | some p, some ps => some (p :: ps)
    | _, _ => none
theorem all2_cons {f : List UInt8 → Option (Int × Int)} {w : List UInt8} {r : List (List UInt8)} {qs : List (Int × Int)} : all2 f (w :: r) = some qs ↔ ∃ p ps, f w = some p ∧ all2 f r = some ps ∧ qs = p :: ps := by
  constructor
  · intro h
    simp only [all2] at h
    split at h
    · rename_i p ps hp hps
      injection h with h
      exact ⟨p, ps, hp, hps, h.symm⟩
    · cases h
  · rintro ⟨p, ps, hp, hps, rfl⟩
    simp only [all2, hp, hps]
theorem all2_snoc {f : List UInt8 → Option (Int × Int)} {w : List UInt8} {p : Int × Int} : ∀ {r : List (List UInt8)} {ps : List (Int × Int)}, all2 f r = some ps → f w = some p → all2 f (r ++ [w]) = some (ps ++ [p])
  | [], ps, h, hp => by
    simp only [all2] at h
    injection h with h
    subst h
    simp [all2, hp]
  | v :: r, ps, h, hp => by
    obtain ⟨q, qs, h1, h2, rfl⟩ := all2_cons.1 h
    exact all2_cons.2 ⟨q, qs ++ [p], h1, all2_snoc h2 hp, rfl⟩
theorem all2_bad {f : List UInt8 → Option (Int × Int)} {w : List UInt8} : ∀ {r : List (List UInt8)}, w ∈ r → f w = none → all2 f r = none
  | [], h, _ => by cases h
  | v :: r, h, hw => by
    rw [← Option.not_isSome_iff_eq_none, Option.isSome_iff_exists]
    rintro ⟨qs, hq⟩
    obtain ⟨p, ps, h1, h2, _⟩ := all2_cons.1 hq
    rcases List.mem_cons.1 h with rfl | h
    · rw [hw] at h1; cases h1
    · rw [all2_bad h hw] at h2; cases h2
/-- what the reference reads, the program reads; and the other way where the numbers are small -/
theorem all2_SP : ∀ {r : List (List UInt8)} {ps : List (Int × Int)}, all2 wS r = some ps → all2 wP r = some ps
  | [], ps, h => h
  | v :: r, ps, h => by
    obtain ⟨⟨a, b⟩, qs, h1, h2, rfl⟩ := all2_cons.1 h
    have h1 := wS_iff.1 h1
    exact all2_cons.2 ⟨(a, b), qs, wP_iff.2 ⟨h1.1, by omega, by omega⟩, all2_SP h2, rfl⟩
theorem all2_PS : ∀ {r : List (List UInt8)} {ps : List (Int × Int)}, (∀ p ∈ ps, (-1000000000000 < p.1 ∧ p.1 < 1000000000000) ∧ -1000000000000 < p.2 ∧ p.2 < 1000000000000) → all2 wP r = some ps → all2 wS r = some ps
  | [], ps, _, h => h
  | v :: r, ps, hb, h => by
    obtain ⟨⟨a, b⟩, qs, h1, h2, rfl⟩ := all2_cons.1 h
    have h1 := wP_iff.1 h1
    have hb1 := hb (a, b) List.mem_cons_self
    exact all2_cons.2 ⟨(a, b), qs, wS_iff.2 ⟨h1.1, hb1.1, hb1.2⟩, all2_PS (fun p hp => hb p (List.mem_cons_of_mem _ hp)) h2, rfl⟩
end Go.Proofs.YtgnpbgknmapejaaDoor
