/- Plain laws on decimal texts of numbers. No program in sight. -/
import Derived.Lib.ItoaNum
import Derived.Lib.ParseIntBTie
import Derived.Lib.AtoiTie
namespace Go.Proofs.YtgnpbgknmapejaaDoor
set_option linter.unusedVariables false

theorem digit_nat {d : Nat} (h : d < 10) : (UInt8.ofNat (48 + d)).toNat = 48 + d := by
  rw [UInt8.toNat_ofNat']; omega
/-- what the digits of a text spell, behind acc -/
def spell (acc : Nat) (l : List UInt8) : Nat := l.foldl (fun a c => a * 10 + (c.toNat - 48)) acc
def isDig (c : UInt8) : Prop := 48 ≤ c.toNat ∧ c.toNat ≤ 57
theorem spell_append (acc : Nat) (l m : List UInt8) : spell acc (l ++ m) = spell (spell acc l) m := by simp [spell, List.foldl_append]
theorem dec_dig (n : Nat) : ∀ c ∈ Lib.decDigits n, isDig c := by
  induction n using Nat.strongRecOn with
  | ind n ih =>
    intro c hc
    rw [Lib.decDigits] at hc
    split at hc
    · simp only [List.mem_singleton] at hc
      subst hc
      unfold isDig
      rw [digit_nat (by omega)]; omega
    · rcases List.mem_append.1 hc with h | h
      · exact ih (n / 10) (by omega) c h
      · simp only [List.mem_singleton] at h
        subst h
        unfold isDig
        rw [digit_nat (Nat.mod_lt _ (by omega))]; omega
theorem dec_ne (n : Nat) : Lib.decDigits n ≠ [] := by
  rw [Lib.decDigits]
  split <;> simp
theorem dec_spell (n : Nat) : spell 0 (Lib.decDigits n) = n := by
  induction n using Nat.strongRecOn with
  | ind n ih =>
    rw [Lib.decDigits]
    split
    · rename_i h
      simp only [spell, List.foldl_cons, List.foldl_nil]
      rw [digit_nat h]; omega
    · rename_i h
      rw [spell_append, ih (n / 10) (by omega)]
      simp only [spell, List.foldl_cons, List.foldl_nil]
      rw [digit_nat (Nat.mod_lt _ (by omega))]; omega
theorem spell_le (l : List UInt8) : ∀ acc, acc ≤ spell acc l := by
  induction l with
  | nil => intro acc; exact Nat.le_refl _
  | cons c r ih =>
    intro acc
    have := ih (acc * 10 + (c.toNat - 48))
    simp only [spell, List.foldl_cons] at this ⊢
    omega
theorem pum_spell (M : Nat) (hM : M ≤ 18446744073709551615) : ∀ (l : List UInt8) (acc : Nat), (∀ c ∈ l, isDig c) → spell acc l ≤ M → Lib.parseUintM M acc l = .ok (spell acc l)
  | [], acc, _, _ => rfl
  | c :: r, acc, hd, hs => by
    have hc := hd c (List.mem_cons_self ..)
    have hs' : spell (acc * 10 + (c.toNat - 48)) r ≤ M := by simpa [spell] using hs
    have h1 := spell_le r (acc * 10 + (c.toNat - 48))
    unfold Lib.parseUintM
    unfold isDig at hc
    rw [if_pos hc, if_neg (by omega), if_neg (by omega)]
    have := pum_spell M hM r (acc * 10 + (c.toNat - 48)) (fun x hx => hd x (List.mem_cons_of_mem _ hx)) hs'
    rw [this]
    simp [spell]
theorem pub_dec {n : Nat} (h : n ≤ 18446744073709551615) : Lib.parseUintB 64 (Lib.decDigits n) = .ok n := by
  unfold Lib.parseUintB
  rw [if_neg (dec_ne n)]
  have := pum_spell (2 ^ 64 - 1) (by decide) (Lib.decDigits n) 0 (dec_dig n) (by rw [dec_spell]; omega)
  rw [this, dec_spell]
/-- the text of a number reads as the number -/
theorem parse_itoa {n : Int} (h0 : -9223372036854775808 ≤ n) (h1 : n ≤ 9223372036854775807) : Lib.parseIntB 64 (Lib.itoa n) = .ok n := by
  unfold Lib.itoa
  by_cases hn : n < 0
  · rw [if_pos hn]
    unfold Lib.parseIntB
    have e45 : (45 : UInt8).toNat = 45 := rfl
    simp only [e45, or_true, if_true, pub_dec (n := n.natAbs) (by omega), not_true_eq_false, false_and, if_false, true_and]
    rw [if_neg (by omega)]
    congr 1
    omega
  · rw [if_neg hn]
    cases hl : Lib.decDigits n.toNat with
    | nil => exact absurd hl (dec_ne _)
    | cons c r =>
      have hc := dec_dig n.toNat c (by rw [hl]; exact List.mem_cons_self ..)
      unfold isDig at hc
      unfold Lib.parseIntB
      have p := pub_dec (n := n.toNat) (by omega)
      rw [hl] at p
      simp only
      rw [if_neg (by omega), p]
      have p63 : (2 : Nat) ^ (64 - 1) = 9223372036854775808 := by decide
      simp only [p63]
      rw [if_neg (by omega), if_neg (by omega), if_neg (by omega)]
      congr 1
      omega
/-- reading as the program reads: a text is the number whose text it is -/
def rd (l : List UInt8) : Option Int := match Lib.parseIntB 64 l with
  | .ok v => if Lib.itoa v = l then some v else none
  | _ => none
theorem rd_iff {l : List UInt8} {v : Int} : rd l = some v ↔ l = Lib.itoa v ∧ -9223372036854775808 ≤ v ∧ v ≤ 9223372036854775807 := by
  constructor
  · intro h
    unfold rd at h
    split at h
    · rename_i u hu
      split at h
      · rename_i e
        injection h with h
        subst h
        have := Lib.parseIntB_bounds hu
        have p63 : (2 : Nat) ^ (64 - 1) = 9223372036854775808 := by decide
        rw [p63] at this
        exact ⟨e.symm, by omega, by omega⟩
      · cases h
    · cases h
  · rintro ⟨rfl, h0, h1⟩
    unfold rd
    rw [parse_itoa h0 h1]
    simp
theorem spell_lt (l : List UInt8) : ∀ acc, (∀ c ∈ l, isDig c) → spell acc l < (acc + 1) * 10 ^ l.length := by
  induction l with
  | nil => intro acc _; simp [spell]
  | cons c r ih =>
    intro acc hd
    have hc := hd c (List.mem_cons_self ..)
    unfold isDig at hc
    have := ih (acc * 10 + (c.toNat - 48)) (fun x hx => hd x (List.mem_cons_of_mem _ hx))
    have e : spell acc (c :: r) = spell (acc * 10 + (c.toNat - 48)) r := by simp [spell]
    rw [e, List.length_cons, Nat.pow_succ]
    have h2 : (acc * 10 + (c.toNat - 48) + 1) * 10 ^ r.length ≤ ((acc + 1) * 10) * 10 ^ r.length := Nat.mul_le_mul_right _ (by omega)
    have e2 : (acc + 1) * (10 ^ r.length * 10) = ((acc + 1) * 10) * 10 ^ r.length := by rw [Nat.mul_comm (10 ^ r.length) 10, Nat.mul_assoc]
    omega
theorem dec_len (b : Nat) : ∀ n, n < 10 ^ (b + 1) → (Lib.decDigits n).length ≤ b + 1 := by
  induction b with
  | zero => intro n h; rw [Lib.decDigits, dif_pos (by omega)]; simp
  | succ b ih =>
    intro n h
    rw [Lib.decDigits]
    split
    · simp
    · rw [List.length_append]
      have := ih (n / 10) (by rw [Nat.pow_succ] at h; omega)
      simp only [List.length_cons, List.length_nil]
      omega
/-- reading as the reference reads a number of at most twelve digits -/
def allDig (l : List UInt8) : Bool := l.all fun c => decide (48 ≤ c.toNat ∧ c.toNat ≤ 57)
def vl (l : List UInt8) : Option Nat := if (1 ≤ l.length ∧ l.length ≤ 12) ∧ allDig l = true then (if Lib.decDigits (spell 0 l) = l then some (spell 0 l) else none) else none
theorem allDig_iff {l : List UInt8} : allDig l = true ↔ ∀ c ∈ l, isDig c := by
  unfold allDig isDig
  rw [List.all_eq_true]
  simp only [decide_eq_true_eq]
theorem vl_iff {l : List UInt8} {n : Nat} : vl l = some n ↔ l = Lib.decDigits n ∧ n < 1000000000000 := by
  constructor
  · intro h
    unfold vl at h
    split at h
    · rename_i hc
      split at h
      · rename_i e
        injection h with h
        subst h
        have := spell_lt l 0 (allDig_iff.1 hc.2)
        have p : (10 : Nat) ^ l.length ≤ 10 ^ 12 := Nat.pow_le_pow_right (by omega) hc.1.2
        exact ⟨e.symm, by omega⟩
      · cases h
    · cases h
  · rintro ⟨rfl, h⟩
    unfold vl
    have hl := dec_len 11 n (by have e : (10 : Nat) ^ (11 + 1) = 1000000000000 := (by decide); omega)
    have h1 : 1 ≤ (Lib.decDigits n).length := List.length_pos_iff.2 (dec_ne n)
    rw [if_pos ⟨⟨h1, by omega⟩, allDig_iff.2 (dec_dig n)⟩, dec_spell]
    simp
def sg (l : List UInt8) : Option Int := match l with
  | c :: r => if c.toNat = 45 then (match vl r with
    | some n => if 0 < n then some (-(n : Int)) else none
    | none => none) else (match vl (c :: r) with
    | some n => some (n : Int)
    | none => none)
  | [] => none
theorem sg_cons (c : UInt8) (r : List UInt8) : sg (c :: r) = if c.toNat = 45 then (match vl r with
    | some n => if 0 < n then some (-(n : Int)) else none
    | none => none) else (match vl (c :: r) with
    | some n => some (n : Int)
    | none => none) := rfl
theorem sg_iff {l : List UInt8} {v : Int} : sg l = some v ↔ l = Lib.itoa v ∧ -1000000000000 < v ∧ v < 1000000000000 := by
  constructor
  · intro h
    cases l with
    | nil => cases h
    | cons c r =>
      rw [sg_cons] at h
      split at h
      · rename_i hc
        cases hv : vl r with
        | none => rw [hv] at h; cases h
        | some n =>
          rw [hv] at h
          simp only at h
          split at h
          · rename_i h0
            injection h with h
            subst h
            obtain ⟨e, hb⟩ := vl_iff.1 hv
            have ec : c = 45 := UInt8.toNat_inj.1 (by rw [hc]; rfl)
            unfold Lib.itoa
            rw [if_pos (by omega), ec, e]
            exact ⟨by congr 2; omega, by omega, by omega⟩
          · cases h
      · cases hv : vl (c :: r) with
        | none => rw [hv] at h; cases h
        | some n =>
          rw [hv] at h
          simp only at h
          injection h with h
          subst h
          obtain ⟨e, hb⟩ := vl_iff.1 hv
          unfold Lib.itoa
          rw [if_neg (by omega), e]
          exact ⟨by congr 1, by omega, by omega⟩
  · rintro ⟨rfl, h0, h1⟩
    unfold Lib.itoa
    by_cases hn : v < 0
    · rw [if_pos hn]
      rw [sg_cons]
      have e45 : (45 : UInt8).toNat = 45 := rfl
      simp only [e45, if_true, vl_iff.2 ⟨rfl, show v.natAbs < 1000000000000 by omega⟩]
      rw [if_pos (by omega)]
      congr 1
      omega
    · rw [if_neg hn]
      have hv := vl_iff.2 ⟨rfl, show v.toNat < 1000000000000 by omega⟩
      cases hl : Lib.decDigits v.toNat with
      | nil => exact absurd hl (dec_ne _)
      | cons c r =>
        have hc := dec_dig v.toNat c (by rw [hl]; exact List.mem_cons_self ..)
        unfold isDig at hc
        rw [hl] at hv
        rw [sg_cons, if_neg (by omega), hv]
        simp only
        congr 1
        omega
theorem itoa_inj {a b : Int} (ha : -9223372036854775808 ≤ a ∧ a ≤ 9223372036854775807) (hb : -9223372036854775808 ≤ b ∧ b ≤ 9223372036854775807) (h : Lib.itoa a = Lib.itoa b) : a = b := by
  have h1 := rd_iff.2 ⟨rfl, ha.1, ha.2⟩
  have h3 := rd_iff (l := Lib.itoa a) (v := b) |>.2 ⟨h, hb.1, hb.2⟩
  rw [h1] at h3
  injection h3
/-- a number's text holds no byte but digits and, ahead, the sign -/
theorem itoa_bytes (n : Int) : ∀ c ∈ Lib.itoa n, isDig c ∨ c.toNat = 45 := by
  intro c hc
  unfold Lib.itoa at hc
  split at hc
  · rcases List.mem_cons.1 hc with rfl | h
    · right; rfl
    · left; exact dec_dig _ c h
  · left; exact dec_dig _ c hc
end Go.Proofs.YtgnpbgknmapejaaDoor
