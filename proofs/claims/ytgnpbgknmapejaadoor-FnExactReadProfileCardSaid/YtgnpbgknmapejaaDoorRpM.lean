/- Plain laws on texts of profiles: the pieces of a text between commas, and the two readings of a whole text. No program in sight. -/
import Derived.Test.YtgnpbgknmapejaaDoorRpL
import Derived.Test.YtgnpbgknmapejaaDoorRdN
import Derived.Test.YtgnpbgknmapejaaDoorPfT
import Derived.Lib.SplitLaws
namespace Go.Proofs.YtgnpbgknmapejaaDoor
set_option linter.unusedVariables false

theorem spl_split (c : UInt8) : ∀ (n : Nat) (l : List UInt8), l.length ≤ n → Lib.splitK [c] 0 (Lib.count l [c]) l = spl c l []
  | n, l, hl => by
    by_cases hm : c ∈ l
    · obtain ⟨a, b, rfl, hn⟩ := List.eq_append_cons_of_mem hm
      have hi : Lib.index (a ++ c :: b) [c] = ((a.length : Nat) : Int) := by rw [Lib.index_one]; exact idx_at c a b hn
      have hc : Lib.count (a ++ c :: b) [c] = Lib.count b [c] + 1 := by
        rw [Lib.count_one, Lib.count_one, List.count_append, List.count_eq_zero.2 hn, List.count_cons_self]; omega
      cases n with
      | zero => simp at hl
      | succ n =>
        have ih := spl_split c n b (by simp at hl; omega)
        rw [hc, Lib.splitK, hi, if_neg (by rw [beq_iff_eq]; omega), spl_at _ _ _ hn, Int.toNat_natCast, ← ih]
        simp
    · have hc : Lib.count l [c] = 0 := by rw [Lib.count_one]; exact List.count_eq_zero.2 hm
      rw [hc, Lib.splitK, spl_no _ _ hm]
      rfl
theorem split_pieces (s : ByteArray) (c : UInt8) : (Lib.splitB ⟨#[c]⟩ 0 (Lib.countB s ⟨#[c]⟩) s).map bl = spl c (bl s) [] := by
  have h := Lib.splitB_data ⟨#[c]⟩ 0 (Lib.countB s ⟨#[c]⟩) s
  have h2 := spl_split c _ (bl s) (Nat.le_refl _)
  rw [← h2]
  exact h
/-- a whole text, read word by word -/
noncomputable def rpO (f : List UInt8 → Option (Int × Int)) (l : List UInt8) : Option (List (Int × Int)) := match all2 f (spl 44 l []) with
  | some ps => if pfB (ps.map Prod.fst) (ps.map Prod.snd) then some ps else none
  | none => none
theorem rpO_bad {f : List UInt8 → Option (Int × Int)} {l w : List UInt8} (h : w ∈ spl 44 l []) (hw : f w = none) : rpO f l = none := by
  unfold rpO
  rw [all2_bad h hw]
theorem rpO_all {f : List UInt8 → Option (Int × Int)} {l : List UInt8} {ps : List (Int × Int)} (h : all2 f (spl 44 l []) = some ps) : rpO f l = if pfB (ps.map Prod.fst) (ps.map Prod.snd) then some ps else none := by
  unfold rpO
  rw [h]
theorem pf_small {ps : List (Int × Int)} (h : pfB (ps.map Prod.fst) (ps.map Prod.snd) = true) : ∀ p ∈ ps, (-1000000000000 < p.1 ∧ p.1 < 1000000000000) ∧ -1000000000000 < p.2 ∧ p.2 < 1000000000000 := by
  intro p hp
  obtain ⟨k, hk⟩ := List.getElem?_of_mem hp
  have h1 := (pf_in h).1 k p.1 (by rw [List.getElem?_map, hk]; rfl)
  have h2 := (pf_in h).2 k p.2 (by rw [List.getElem?_map, hk]; rfl)
  omega
/-- both sides read the same -/
theorem rpO_eq (l : List UInt8) : rpO wS l = rpO wP l := by
  cases hS : all2 wS (spl 44 l []) with
  | some ps => rw [rpO_all hS, rpO_all (all2_SP hS)]
  | none =>
    have e : rpO wS l = none := by unfold rpO; rw [hS]
    rw [e]
    cases hP : all2 wP (spl 44 l []) with
    | none => unfold rpO; rw [hP]
    | some ps =>
      rw [rpO_all hP]
      rcases hq : pfB (ps.map Prod.fst) (ps.map Prod.snd)
      · rfl
      · have := all2_PS (pf_small hq) hP
        rw [hS] at this
        cases this
def rpX (o : Option (List (Int × Int))) : List Int := match o with | some ps => ps.map Prod.fst | none => []
def rpY (o : Option (List (Int × Int))) : List Int := match o with | some ps => ps.map Prod.snd | none => []
theorem rp_lens (f : List UInt8 → Option (Int × Int)) (l : List UInt8) : (rpX (rpO f l)).length ≤ 12 ∧ (rpY (rpO f l)).length ≤ 12 := by
  unfold rpO
  split
  · rename_i ps h
    split
    · rename_i hp
      have := pf_len hp
      show (ps.map Prod.fst).length ≤ 12 ∧ (ps.map Prod.snd).length ≤ 12
      omega
    · exact ⟨Nat.zero_le _, Nat.zero_le _⟩
  · exact ⟨Nat.zero_le _, Nat.zero_le _⟩
theorem rp_wf (f : List UInt8 → Option (Int × Int)) (l : List UInt8) : (∀ x ∈ rpX (rpO f l), (Lit.int .i64 x).wf = true) ∧ ∀ x ∈ rpY (rpO f l), (Lit.int .i64 x).wf = true := by
  unfold rpO
  split
  · rename_i ps h
    split
    · rename_i hp
      have hs := pf_small hp
      refine ⟨?_, ?_⟩
      · intro x hx
        obtain ⟨p, hp, rfl⟩ := List.mem_map.1 (show x ∈ ps.map Prod.fst from hx)
        have := hs p hp
        exact WalkArith.wf_i64 (by omega)
      · intro x hx
        obtain ⟨p, hp, rfl⟩ := List.mem_map.1 (show x ∈ ps.map Prod.snd from hx)
        have := hs p hp
        exact WalkArith.wf_i64 (by omega)
    · exact ⟨fun x hx => (by cases hx), fun x hx => (by cases hx)⟩
  · exact ⟨fun x hx => (by cases hx), fun x hx => (by cases hx)⟩
theorem wS_sg {l u v : List UInt8} (h : spl 58 l [] = [u, v]) (hu : sgB u = true) (hv : sgB v = true) : wS l = some (sgN u, sgN v) := by
  unfold wS
  rw [h]
  simp only [sg_eq, hu, hv, if_true]
theorem wS_bad {l x : List UInt8} (hx : x ∈ spl 58 l []) (hq : sgB x = false) : wS l = none := by
  unfold wS
  split
  · rename_i u v h
    rw [h] at hx
    rcases List.mem_cons.1 hx with e | e
    · subst e; rw [sg_eq x, hq]; rfl
    · have e := List.mem_singleton.1 e
      subst e
      rw [sg_eq x, hq]
      cases sg u <;> rfl
  · rfl
theorem wS_len {l : List UInt8} (h : ¬ (spl 58 l []).length = 2) : wS l = none := by
  unfold wS
  split
  · rename_i u v e
    rw [e] at h
    exact absurd rfl h
  · rfl
theorem all2_take {f : List UInt8 → Option (Int × Int)} {L : List (List UInt8)} {k : Nat} {w : List UInt8} {ps : List (Int × Int)} {p : Int × Int} (h : all2 f (L.take k) = some ps) (hw : L[k]? = some w) (hp : f w = some p) : all2 f (L.take (k + 1)) = some (ps ++ [p]) := by
  rw [List.take_add_one, hw]
  exact all2_snoc h hp
end Go.Proofs.YtgnpbgknmapejaaDoor
