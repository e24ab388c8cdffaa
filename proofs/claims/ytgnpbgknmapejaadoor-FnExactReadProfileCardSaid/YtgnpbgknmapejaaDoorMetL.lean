/- Plain laws on the texts of lengths: both readings give the same. No program in sight. -/
import Derived.Test.YtgnpbgknmapejaaDoorNumL
import Derived.Test.YtgnpbgknmapejaaDoorMath
import Derived.Lib.Replace
import Derived.Lib.IndexBytes
namespace Go.Proofs.YtgnpbgknmapejaaDoor
set_option linter.unusedVariables false

theorem idx_at (c : UInt8) : ∀ (a b : List UInt8), c ∉ a → Lib.indexByte (a ++ c :: b) c = (a.length : Int)
  | [], b, _ => by simp [Lib.indexByte]
  | x :: a, b, h => by
    have ih := idx_at c a b (fun hm => h (List.mem_cons_of_mem _ hm))
    have hx : (x == c) = false := by
      rw [beq_eq_false_iff_ne]
      intro e; exact h (by rw [e]; exact List.mem_cons_self ..)
    rw [List.cons_append, Lib.indexByte, hx, ih]
    have : (((a.length : Int)) == -1) = false := by rw [beq_eq_false_iff_ne]; omega
    rw [this]
    simp
theorem idx_no (c : UInt8) : ∀ (a : List UInt8), c ∉ a → Lib.indexByte a c = -1
  | [], _ => rfl
  | x :: a, h => by
    have ih := idx_no c a (fun hm => h (List.mem_cons_of_mem _ hm))
    have hx : (x == c) = false := by
      rw [beq_eq_false_iff_ne]
      intro e; exact h (by rw [e]; exact List.mem_cons_self ..)
    rw [Lib.indexByte, hx, ih]
    rfl
theorem rep_at {a b : List UInt8} (h : (46 : UInt8) ∉ a) : Lib.replace (a ++ 46 :: b) [46] [] 1 = a ++ b := by
  have hi : Lib.index (a ++ 46 :: b) [46] = ((a.length : Nat) : Int) := by rw [Lib.index_one]; exact idx_at 46 a b h
  unfold Lib.replace
  have e1 : (([46] : List UInt8) == []) = false := rfl
  rw [e1]
  have hn : Lib.replaceNum (a ++ 46 :: b) [46] 1 = 1 := by
    unfold Lib.replaceNum
    have hc : 1 ≤ Lib.count (a ++ 46 :: b) [46] := by
      unfold Lib.count
      rw [Lib.countFrom, hi]
      have : (((a.length : Nat) : Int) == -1) = false := by rw [beq_eq_false_iff_ne]; omega
      rw [this]
      simp
    rw [if_neg (by omega)]
    rfl
  rw [hn]
  simp only [Bool.false_eq_true, if_false]
  rw [Lib.replaceK_hit _ _ 0 _ a.length hi]
  simp [Lib.replaceK]
theorem pub_digs {D : List UInt8} (hd : ∀ c ∈ D, isDig c) (hne : D ≠ []) (hs : spell 0 D ≤ 18446744073709551615) : Lib.parseUintB 64 D = .ok (spell 0 D) := by
  unfold Lib.parseUintB
  rw [if_neg hne]
  exact pum_spell (2 ^ 64 - 1) (by decide) D 0 hd (by omega)
theorem parse_neg {D : List UInt8} (hd : ∀ c ∈ D, isDig c) (hne : D ≠ []) (hs : spell 0 D ≤ 9223372036854775807) : Lib.parseIntB 64 (45 :: D) = .ok (-(spell 0 D : Int)) := by
  unfold Lib.parseIntB
  have e45 : (45 : UInt8).toNat = 45 := rfl
  simp only [e45, or_true, if_true, pub_digs hd hne (by omega), not_true_eq_false, false_and, if_false, true_and]
  rw [if_neg (by omega)]
theorem parse_pos {D : List UInt8} (hd : ∀ c ∈ D, isDig c) (hne : D ≠ []) (hs : spell 0 D ≤ 9223372036854775807) : Lib.parseIntB 64 D = .ok (spell 0 D : Int) := by
  cases hl : D with
  | nil => exact absurd hl hne
  | cons c r =>
    have hc := hd c (by rw [hl]; exact List.mem_cons_self ..)
    unfold isDig at hc
    have p := pub_digs hd hne (by omega)
    rw [hl] at p hs
    unfold Lib.parseIntB
    simp only
    rw [if_neg (by omega), p]
    have p63 : (2 : Nat) ^ (64 - 1) = 9223372036854775808 := by decide
    simp only [p63]
    rw [if_neg (by omega), if_neg (by omega), if_neg (by omega)]
/-- the digits of a length's text -/
def mD (k : Nat) : List UInt8 := Lib.decDigits (k / 100) ++ (Lib.decDigits (k / 10 % 10) ++ Lib.decDigits (k % 10))
def mL (n : Int) : List UInt8 := (if n < 0 then [45] else []) ++ (Lib.decDigits (n.natAbs / 100) ++ 46 :: (Lib.decDigits (n.natAbs / 10 % 10) ++ Lib.decDigits (n.natAbs % 10)))
theorem dec_one {d : Nat} (h : d < 10) : Lib.decDigits d = [UInt8.ofNat (48 + d)] := by rw [Lib.decDigits, dif_pos h]
theorem spell_one (acc : Nat) {d : Nat} (h : d < 10) : spell acc (Lib.decDigits d) = acc * 10 + d := by
  rw [dec_one h]
  simp only [spell, List.foldl_cons, List.foldl_nil]
  rw [digit_nat h]; omega
theorem mD_spell (k : Nat) : spell 0 (mD k) = k := by
  unfold mD
  rw [spell_append, dec_spell, spell_append, spell_one _ (by omega), spell_one _ (by omega)]
  omega
theorem mD_dig (k : Nat) : ∀ c ∈ mD k, isDig c := by
  intro c hc
  unfold mD at hc
  rcases List.mem_append.1 hc with h | h
  · exact dec_dig _ c h
  · rcases List.mem_append.1 h with h | h
    · exact dec_dig _ c h
    · exact dec_dig _ c h
theorem mD_ne (k : Nat) : mD k ≠ [] := by unfold mD; intro h; exact dec_ne _ (List.append_eq_nil_iff.1 h).1
theorem mL_parse {n : Int} (h : n.natAbs ≤ 9223372036854775807) : Lib.parseIntB 64 (Lib.replace (mL n) [46] [] 1) = .ok n := by
  have no46 : ∀ m : Nat, (46 : UInt8) ∉ Lib.decDigits m := fun m hm => by have := dec_dig m 46 hm; unfold isDig at this; revert this; decide
  unfold mL
  by_cases hn : n < 0
  · rw [if_pos hn, ← List.append_assoc, rep_at (by
      intro hm
      rcases List.mem_append.1 hm with h | h
      · simp at h
      · exact no46 _ h)]
    have e : ([45] ++ Lib.decDigits (n.natAbs / 100)) ++ (Lib.decDigits (n.natAbs / 10 % 10) ++ Lib.decDigits (n.natAbs % 10)) = 45 :: mD n.natAbs := by simp [mD]
    rw [e, parse_neg (mD_dig _) (mD_ne _) (by rw [mD_spell]; exact h), mD_spell]
    congr 1
    omega
  · rw [if_neg hn, List.nil_append, rep_at (no46 _)]
    have e : Lib.decDigits (n.natAbs / 100) ++ (Lib.decDigits (n.natAbs / 10 % 10) ++ Lib.decDigits (n.natAbs % 10)) = mD n.natAbs := rfl
    rw [e, parse_pos (mD_dig _) (mD_ne _) (by rw [mD_spell]; exact h), mD_spell]
    congr 1
    omega
/-- the reference's loop: at most fourteen digits -/
def stp (p : Nat × Nat) (c : UInt8) : Nat × Nat := if p.2 < 14 then (if 48 ≤ c.toNat ∧ c.toNat ≤ 57 then (10 * p.1 + (c.toNat - 48), p.2 + 1) else p) else p
def fl (l : List UInt8) : Nat × Nat := l.foldl stp (0, 0)
theorem fold_full (l : List UInt8) : ∀ n d, ¬ d < 14 → l.foldl stp (n, d) = (n, d) := by
  induction l with
  | nil => intro n d _; rfl
  | cons c r ih => intro n d h; rw [List.foldl_cons, show stp (n, d) c = (n, d) by unfold stp; rw [if_neg h]]; exact ih n d h
theorem fold_digs (D : List UInt8) : ∀ acc d, (∀ c ∈ D, isDig c) → d + D.length ≤ 14 → D.foldl stp (acc, d) = (spell acc D, d + D.length) := by
  induction D with
  | nil => intro acc d _ _; rfl
  | cons c r ih =>
    intro acc d hd hl
    have hc := hd c (List.mem_cons_self ..)
    unfold isDig at hc
    rw [List.length_cons] at hl
    rw [List.foldl_cons, show stp (acc, d) c = (10 * acc + (c.toNat - 48), d + 1) by unfold stp; rw [if_pos (by simp only; omega), if_pos hc]]
    rw [ih _ _ (fun x hx => hd x (List.mem_cons_of_mem _ hx)) (by omega)]
    simp only [spell, List.foldl_cons, List.length_cons, Prod.mk.injEq]
    exact ⟨by rw [Nat.mul_comm], by omega⟩
theorem stp_bd {p : Nat × Nat} (c : UInt8) (h : p.1 < 10 ^ p.2 ∧ p.2 ≤ 14) : (stp p c).1 < 10 ^ (stp p c).2 ∧ (stp p c).2 ≤ 14 := by
  unfold stp
  split
  · split
    · rename_i h1 h2
      refine ⟨?_, by simp only; omega⟩
      simp only [Nat.pow_succ]
      omega
    · exact h
  · exact h
theorem fl_bd (l : List UInt8) : (fl l).1 < 10 ^ (fl l).2 ∧ (fl l).2 ≤ 14 := by
  unfold fl
  suffices ∀ p : Nat × Nat, p.1 < 10 ^ p.2 ∧ p.2 ≤ 14 → (l.foldl stp p).1 < 10 ^ (l.foldl stp p).2 ∧ (l.foldl stp p).2 ≤ 14 from this (0, 0) (by simp)
  induction l with
  | nil => intro p h; exact h
  | cons c r ih => intro p h; exact ih _ (stp_bd c h)
theorem fl_lt (l : List UInt8) : (fl l).1 < 100000000000000 := by
  have h := fl_bd l
  have p : (10 : Nat) ^ (fl l).2 ≤ 10 ^ 14 := Nat.pow_le_pow_right (by omega) h.2
  have e : (10 : Nat) ^ 14 = 100000000000000 := by decide
  omega
theorem fl_step {l : List UInt8} {k : Nat} {c : UInt8} (h : l[k]? = some c) : fl (l.take (k + 1)) = stp (fl (l.take k)) c := by
  unfold fl
  rw [List.take_add_one, h, List.foldl_append]
  rfl
theorem fl_stop {l : List UInt8} {k : Nat} (h : ¬ (fl (l.take k)).2 < 14) : fl l = fl (l.take k) := by
  have e : fl l = (l.drop k).foldl stp (fl (l.take k)) := by
    unfold fl
    rw [← List.foldl_append, List.take_append_drop]
  rw [e]
  exact fold_full _ _ _ h
def dn (l : List UInt8) : Int := if l.head?.map (·.toNat) = some 45 then -((fl l).1 : Int) else ((fl l).1 : Int)
theorem mL_dn {n : Int} (h : n.natAbs ≤ 1000000000000) : dn (mL n) = n := by
  have hl1 := dec_len 10 (n.natAbs / 100) (by have e : (10 : Nat) ^ (10 + 1) = 100000000000 := (by decide); omega)
  have hl2 : (Lib.decDigits (n.natAbs / 10 % 10)).length = 1 := by rw [dec_one (by omega)]; rfl
  have hl3 : (Lib.decDigits (n.natAbs % 10)).length = 1 := by rw [dec_one (by omega)]; rfl
  have core : ∀ p : Nat × Nat, p = (0, 0) → (Lib.decDigits (n.natAbs / 100) ++ 46 :: (Lib.decDigits (n.natAbs / 10 % 10) ++ Lib.decDigits (n.natAbs % 10))).foldl stp p = (n.natAbs, (Lib.decDigits (n.natAbs / 100)).length + 2) := by
    rintro p rfl
    rw [List.foldl_append, fold_digs _ _ _ (dec_dig _) (by omega), List.foldl_cons]
    have s46 : stp (spell 0 (Lib.decDigits (n.natAbs / 100)), 0 + (Lib.decDigits (n.natAbs / 100)).length) 46 = (spell 0 (Lib.decDigits (n.natAbs / 100)), 0 + (Lib.decDigits (n.natAbs / 100)).length) := by
      have e46 : (46 : UInt8).toNat = 46 := rfl
      unfold stp
      rw [e46]
      simp
    rw [s46, List.foldl_append, fold_digs (Lib.decDigits (n.natAbs / 10 % 10)) _ _ (dec_dig _) (by omega), fold_digs (Lib.decDigits (n.natAbs % 10)) _ _ (dec_dig _) (by omega)]
    rw [dec_spell, spell_one _ (by omega), spell_one _ (by omega), hl2, hl3]
    exact Prod.ext (by simp only; omega) (by simp only; omega)
  unfold dn mL fl
  by_cases hn : n < 0
  · rw [if_pos hn]
    have s45 : stp (0, 0) 45 = (0, 0) := by decide
    simp only [List.cons_append, List.nil_append, List.head?_cons, Option.map_some, List.foldl_cons, s45]
    have e45 : some (UInt8.toNat 45) = some 45 := rfl
    rw [core _ rfl, if_pos e45]
    simp only
    omega
  · rw [if_neg hn, List.nil_append, core _ rfl]
    have hne : ¬ ((Lib.decDigits (n.natAbs / 100) ++ 46 :: (Lib.decDigits (n.natAbs / 10 % 10) ++ Lib.decDigits (n.natAbs % 10))).head?.map (·.toNat) = some 45) := by
      cases hd : Lib.decDigits (n.natAbs / 100) with
      | nil => exact absurd hd (dec_ne _)
      | cons c r =>
        have := dec_dig (n.natAbs / 100) c (by rw [hd]; exact List.mem_cons_self ..)
        unfold isDig at this
        simp only [List.cons_append, List.head?_cons, Option.map_some, Option.some.injEq]
        omega
    rw [if_neg hne]
    simp only
    omega
theorem mL_ne (n : Int) : mL n ≠ [] := by unfold mL; simp
def mVL (n : Int) : List UInt8 := if isV n then mL n else []
/-- what reading a length's text gives: the number and whether it is one -/
def rmB (l : List UInt8) : Bool := decide (l ≠ [] ∧ mVL (dn l) = l)
def rmN (l : List UInt8) : Int := if rmB l then dn l else 0
theorem rm_yes {l : List UInt8} {v : Int} (hv : isV v = true) (h : mL v = l) : rmB l = true ∧ rmN l = v := by
  have bd := isV_t hv
  have e := mL_dn (n := v) (by omega)
  rw [h] at e
  have hb : rmB l = true := by
    unfold rmB mVL
    rw [e, hv]
    simp only [if_true]
    exact decide_eq_true ⟨by rw [← h]; exact mL_ne v, h⟩
  exact ⟨hb, by unfold rmN; rw [if_pos hb, e]⟩
theorem rm_no {l : List UInt8} (h : ∀ v, isV v = true → mL v ≠ l) : rmB l = false ∧ rmN l = 0 := by
  have hb : rmB l = false := by
    unfold rmB mVL
    apply decide_eq_false
    rintro ⟨h1, h2⟩
    split at h2
    · rename_i hv; exact h _ hv h2
    · exact h1 h2.symm
  exact ⟨hb, by unfold rmN; rw [hb]; rfl⟩
/-- reading as the program reads -/
theorem rm_parse {l : List UInt8} {v : Int} (h : Lib.parseIntB 64 (Lib.replace l [46] [] 1) = .ok v) : (isV v = true ∧ mL v = l ∧ rmB l = true ∧ rmN l = v) ∨ ((isV v = false ∨ mL v ≠ l) ∧ rmB l = false ∧ rmN l = 0) := by
  by_cases hv : isV v = true ∧ mL v = l
  · left
    have := rm_yes hv.1 hv.2
    exact ⟨hv.1, hv.2, this.1, this.2⟩
  · right
    have hno : ∀ u, isV u = true → mL u ≠ l := by
      intro u hu e
      have bd := isV_t hu
      have := mL_parse (n := u) (by omega)
      rw [e, h] at this
      injection this with this
      subst this
      exact hv ⟨hu, e⟩
    refine ⟨?_, rm_no hno⟩
    rcases hx : isV v
    · left; rfl
    · right; exact hno v hx
theorem rm_fail {l : List UInt8} (h : ∀ v, Lib.parseIntB 64 (Lib.replace l [46] [] 1) ≠ .ok v) : rmB l = false ∧ rmN l = 0 := by
  apply rm_no
  intro u hu e
  have bd := isV_t hu
  have := mL_parse (n := u) (by omega)
  rw [e] at this
  exact h u this
end Go.Proofs.YtgnpbgknmapejaaDoor
