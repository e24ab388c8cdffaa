/- The reference's reading of one number, of a list of numbers, of a ratio: contracts. -/
import Derived.Test.YtgnpbgknmapejaaDoorSpl
import Derived.Deep.RegionHeld3
import Derived.Deep.QuietTactic
import Derived.BigQuiet
namespace Go.Proofs.YtgnpbgknmapejaaDoor
open Go.RowKit
set_option linter.unusedVariables false

def vOk (l : List UInt8) : Bool := decide (1 ≤ l.length ∧ l.length ≤ 12) && allDig l
def vN (l : List UInt8) : Int := if vOk l then (spell 0 l : Int) else 0
def vB (l : List UInt8) : Bool := (vl l).isSome
theorem vl_ok {l : List UInt8} (h : vOk l = true) : vl l = if Lib.decDigits (spell 0 l) = l then some (spell 0 l) else none := by
  unfold vOk at h
  simp only [Bool.and_eq_true, decide_eq_true_eq] at h
  unfold vl
  rw [if_pos h]
theorem vl_bad {l : List UInt8} (h : vOk l = false) : vl l = none := by
  unfold vl
  rw [if_neg]
  intro k
  have : vOk l = true := by unfold vOk; simp only [Bool.and_eq_true, decide_eq_true_eq]; exact k
  rw [h] at this; cases this
theorem vl_some {l : List UInt8} {n : Nat} (h : vl l = some n) : vB l = true ∧ vN l = (n : Int) := by
  refine ⟨by unfold vB; rw [h]; rfl, ?_⟩
  rcases hk : vOk l
  · rw [vl_bad hk] at h; cases h
  · rw [vl_ok hk] at h
    split at h
    · injection h with h; unfold vN; rw [if_pos hk, h]
    · cases h
theorem vN_bd (l : List UInt8) : 0 ≤ vN l ∧ vN l < 1000000000000 := by
  unfold vN
  rcases hk : vOk l
  · simp
  · unfold vOk at hk
    simp only [Bool.and_eq_true, decide_eq_true_eq] at hk
    have h1 := spell_lt l 0 (allDig_iff.1 hk.2)
    have p : (10 : Nat) ^ l.length ≤ 10 ^ 12 := Nat.pow_le_pow_right (by omega) hk.1.2
    simp only [if_true]
    omega
theorem allDig_take {l : List UInt8} {k : Nat} {b : UInt8} (h : l[k]? = some b) (hd : ∀ c ∈ l.take k, isDig c) (hb : isDig b) : ∀ c ∈ l.take (k + 1), isDig c := by
  intro c hc
  rw [List.take_add_one, h] at hc
  rcases List.mem_append.1 hc with k1 | k1
  · exact hd c k1
  · simp at k1; subst k1; exact hb
theorem spell_take {l : List UInt8} {k : Nat} {b : UInt8} (h : l[k]? = some b) : spell 0 (l.take (k + 1)) = spell 0 (l.take k) * 10 + (b.toNat - 48) := by
  rw [List.take_add_one, h, spell_append]
  simp [spell]
theorem dg_list (k : Nat) : bl (dg k) = Lib.decDigits k := by unfold bl dg; simp
set_option maxHeartbeats 1600000 in
theorem valueS (s : ByteArray) (w : World) (hs : s.size ≤ 2097152) : Calls Tryd.prog 118 #[.string s] w fun e w' => e = .returned (.tuple #[.int .i64 (vN (bl s)), .bool (vB (bl s))]) ∧ Below w.heap.size w w' := by
  have hlen : (bl s).length = s.size := size_list s
  by_cases hsz : 1 ≤ s.size ∧ s.size ≤ 12
  case neg =>
    have hk : vOk (bl s) = false := by
      unfold vOk
      rw [hlen, decide_eq_false hsz, Bool.false_and]
    have fin : Hid (vN (bl s) = 0 ∧ vB (bl s) = false) := ⟨by unfold vN; rw [hk]; rfl, by unfold vB; rw [vl_bad hk]; rfl⟩
    rcases (by omega : s.size < 1 ∨ (¬ s.size < 1 ∧ 12 < s.size)) with h | ⟨h, h'⟩
    · have g1 : (s.size : Int) < 1 := by omega
      go_enter Tryd.func118, Tryd.ntmps118
      go_wp2_with fail
      go_ret2
      exact ⟨by rw [fin.out.1, fin.out.2]; first | done | rfl, by (repeat' (first | (with_reducible exact Below.refl _ _) | (with_reducible assumption) | (with_reducible refine bStep ?_ (by with_reducible assumption)) | (with_reducible refine bAlloc ?_ _) | (with_reducible refine bDrew ?_) | (with_reducible refine bDrewN ?_ _) | (with_reducible refine Below.setCell ?_ ?_ _) | (with_reducible exact Nat.le_refl _) | (simp; done) | (simp; omega)))⟩
    · have g1 : ¬ (s.size : Int) < 1 := by omega
      have g2 : (12 : Int) < (s.size : Int) := by omega
      go_enter Tryd.func118, Tryd.ntmps118
      go_wp2_with fail
      go_ret2
      exact ⟨by rw [fin.out.1, fin.out.2]; first | done | rfl, by (repeat' (first | (with_reducible exact Below.refl _ _) | (with_reducible assumption) | (with_reducible refine bStep ?_ (by with_reducible assumption)) | (with_reducible refine bAlloc ?_ _) | (with_reducible refine bDrew ?_) | (with_reducible refine bDrewN ?_ _) | (with_reducible refine Below.setCell ?_ ?_ _) | (with_reducible exact Nat.le_refl _) | (simp; done) | (simp; omega)))⟩
  have g1 : ¬ (s.size : Int) < 1 := by omega
  have g2 : ¬ (12 : Int) < (s.size : Int) := by omega
  have HL := Lib.hid hlen
  clear hlen
  go_enter Tryd.func118, Tryd.ntmps118
  go_wp2_with fail
  go_loopw [4, 5] (fun a i wr => ∃ k : Nat, k ≤ s.size ∧ i = .int .i64 k ∧ a = .int .i64 (spell 0 ((bl s).take k) : Nat) ∧ Hid (∀ c ∈ (bl s).take k, isDig c) ∧ wr = w) (fun _ i _ => s.size - (intOf i).toNat)
  case atStart => exact ⟨0, Nat.zero_le _, rfl, by simp [spell], by intro c hc; simp at hc, rfl⟩
  case round =>
    obtain ⟨k, hk, rfl, rfl, HD, rfl⟩ := hrel
    by_cases hlt : k < s.size
    · have hl1 : (k : Int) < (s.size : Int) := by omega
      obtain ⟨c, hc⟩ : ∃ c : Nat, (s[k]'hlt).toNat = c := ⟨_, rfl⟩
      have hx := at_list hlt
      have hc8 : c < 256 := by rw [← hc]; exact UInt8.toNat_lt _
      have hsp := spell_lt ((bl s).take k) 0 HD.out
      have hpw : (10 : Nat) ^ ((bl s).take k).length ≤ 10 ^ 12 := Nat.pow_le_pow_right (by omega) (by rw [List.length_take]; omega)
      have hst := Lib.hid (spell_take hx)
      obtain ⟨n, hn⟩ : ∃ n, spell 0 ((bl s).take k) = n := ⟨_, rfl⟩
      have hnb : n < 1000000000000 := by omega
      have hst : Hid (spell 0 ((bl s).take (k + 1)) = n * 10 + (c - 48)) := by show _ = _; rw [← hn, ← hc]; exact hst.out
      rw [hn]
      clear hsp hpw hn
      by_cases hcd : 48 ≤ c ∧ c ≤ 57
      · have c1 : ¬ (c : Int) < 48 := by omega
        have c2 : ¬ (57 : Int) < (c : Int) := by omega
        have W1 : IntKind.u8.wrap ((c : Int) - 48) = (c : Int) - 48 := by rw [IntKind.wrap_u8]; omega
        have W2 : IntKind.i64.wrap ((c : Int) - 48) = (c : Int) - 48 := IntWalk.i64_in _ (by omega)
        have W3 : IntKind.i64.wrap (10 * (n : Int)) = 10 * (n : Int) := IntWalk.i64_in _ (by omega)
        have W4 : IntKind.i64.wrap (10 * (n : Int) + ((c : Int) - 48)) = 10 * (n : Int) + ((c : Int) - 48) := IntWalk.i64_in _ (by omega)
        have HD2 : Hid (∀ c ∈ (bl s).take (k + 1), isDig c) := allDig_take hx HD.out (by unfold isDig; omega)
        clear hx HD
        go_wp2_with fail
        go_roundw
        case rel => exact ⟨k + 1, by omega, by first | rfl | go_num, by rw [hst.out]; congr 1; omega, HD2, by first | rfl | trivial⟩
        case measure => simp [intOf] <;> omega
      · have hk : vOk (bl s) = false := by
          rcases hv : vOk (bl s)
          · rfl
          · unfold vOk at hv
            simp only [Bool.and_eq_true] at hv
            have := allDig_iff.1 hv.2 _ (List.mem_of_getElem? hx)
            unfold isDig at this
            omega
        have fin : Hid (vN (bl s) = 0 ∧ vB (bl s) = false) := ⟨by unfold vN; rw [hk]; rfl, by unfold vB; rw [vl_bad hk]; rfl⟩
        clear hk hx
        rcases (by omega : c < 48 ∨ (¬ c < 48 ∧ 57 < c)) with h48 | ⟨h48, h57⟩
        · have c1 : (c : Int) < 48 := by omega
          go_wp2_with fail
          go_ret2
          exact ⟨by rw [fin.out.1, fin.out.2]; first | done | rfl, by (repeat' (first | (with_reducible exact Below.refl _ _) | (with_reducible assumption) | (with_reducible refine bStep ?_ (by with_reducible assumption)) | (with_reducible refine bAlloc ?_ _) | (with_reducible refine bDrew ?_) | (with_reducible refine bDrewN ?_ _) | (with_reducible refine Below.setCell ?_ ?_ _) | (with_reducible exact Nat.le_refl _) | (simp; done) | (simp; omega)))⟩
        · have c1 : ¬ (c : Int) < 48 := by omega
          have c2 : (57 : Int) < (c : Int) := by omega
          go_wp2_with fail
          go_ret2
          exact ⟨by rw [fin.out.1, fin.out.2]; first | done | rfl, by (repeat' (first | (with_reducible exact Below.refl _ _) | (with_reducible assumption) | (with_reducible refine bStep ?_ (by with_reducible assumption)) | (with_reducible refine bAlloc ?_ _) | (with_reducible refine bDrew ?_) | (with_reducible refine bDrewN ?_ _) | (with_reducible refine Below.setCell ?_ ?_ _) | (with_reducible exact Nat.le_refl _) | (simp; done) | (simp; omega)))⟩
    · have hkz : k = s.size := by omega
      have hl1 : ¬ (k : Int) < (s.size : Int) := by omega
      have et : (bl s).take k = bl s := List.take_of_length_le (by rw [HL.out]; omega)
      rw [et] at HD ⊢
      have hok : vOk (bl s) = true := by
        unfold vOk
        rw [HL.out, decide_eq_true hsz, Bool.true_and]
        exact allDig_iff.2 HD.out
      obtain ⟨n, hn⟩ : ∃ n, spell 0 (bl s) = n := ⟨_, rfl⟩
      have hnb : n < 1000000000000 := by have := vN_bd (bl s); unfold vN at this; rw [if_pos hok, hn] at this; omega
      have hfin : (dg n = s ∧ Hid (vN (bl s) = (n : Int) ∧ vB (bl s) = true)) ∨ (¬ dg n = s ∧ Hid (vN (bl s) = (n : Int) ∧ vB (bl s) = false)) := by
        have hN : vN (bl s) = (n : Int) := by unfold vN; rw [if_pos hok, hn]
        by_cases he : dg n = s
        · left
          refine ⟨he, hN, ?_⟩
          unfold vB
          rw [vl_ok hok, hn, if_pos (by rw [← he]; exact (dg_list n).symm.trans (by rw [he]))]
          rfl
        · right
          refine ⟨he, hN, ?_⟩
          unfold vB
          rw [vl_ok hok, hn, if_neg (fun e => he (bytes_eq.2 (by rw [← dg_list n] at e; exact e)))]
          rfl
      rw [hn]
      clear hok hn et HD
      rcases hfin with ⟨he, fin⟩ | ⟨he, fin⟩
      · have b1 := beq_yes he
        go_wp2_with (go_at_call 66; refine (decSn n _ (by omega)).mono ?_; rintro e w1 ⟨rfl, hb1⟩)
        go_ret2
        exact ⟨by rw [fin.out.1, fin.out.2]; first | done | rfl, by (repeat' (first | (with_reducible exact Below.refl _ _) | (with_reducible assumption) | (with_reducible refine bStep ?_ (by with_reducible assumption)) | (with_reducible refine bAlloc ?_ _) | (with_reducible refine bDrew ?_) | (with_reducible refine bDrewN ?_ _) | (with_reducible refine Below.setCell ?_ ?_ _) | (with_reducible exact Nat.le_refl _) | (simp; done) | (simp; omega)))⟩
      · have b1 := beq_no he
        go_wp2_with (go_at_call 66; refine (decSn n _ (by omega)).mono ?_; rintro e w1 ⟨rfl, hb1⟩)
        go_ret2
        exact ⟨by rw [fin.out.1, fin.out.2]; first | done | rfl, by (repeat' (first | (with_reducible exact Below.refl _ _) | (with_reducible assumption) | (with_reducible refine bStep ?_ (by with_reducible assumption)) | (with_reducible refine bAlloc ?_ _) | (with_reducible refine bDrew ?_) | (with_reducible refine bDrewN ?_ _) | (with_reducible refine Below.setCell ?_ ?_ _) | (with_reducible exact Nat.le_refl _) | (simp; done) | (simp; omega)))⟩
def sgN (l : List UInt8) : Int := match l with
  | c :: r => if c.toNat = 45 then -(vN r) else vN (c :: r)
  | [] => 0
def sgB (l : List UInt8) : Bool := match l with
  | c :: r => if c.toNat = 45 then vB r && decide (0 < vN r) else vB (c :: r)
  | [] => false
theorem sgN_bd (l : List UInt8) : -1000000000000 ≤ sgN l ∧ sgN l ≤ 1000000000000 := by
  cases l with
  | nil => simp [sgN]
  | cons c r =>
    have h1 := vN_bd r
    have h2 := vN_bd (c :: r)
    simp only [sgN]
    split <;> omega
theorem sg_eq (l : List UInt8) : sg l = if sgB l then some (sgN l) else none := by
  cases l with
  | nil => rfl
  | cons c r =>
    rw [sg_cons]
    simp only [sgB, sgN]
    split
    · cases hv : vl r with
      | none =>
        have : vB r = false := by unfold vB; rw [hv]; rfl
        simp [this]
      | some n =>
        have := vl_some hv
        simp only [this.1, this.2, Bool.true_and]
        by_cases h0 : 0 < n
        · rw [if_pos h0, decide_eq_true (by omega)]; rfl
        · rw [if_neg h0, decide_eq_false (by omega)]; rfl
    · cases hv : vl (c :: r) with
      | none =>
        have : vB (c :: r) = false := by unfold vB; rw [hv]; rfl
        simp [this]
      | some n =>
        have := vl_some hv
        simp only [this.1, this.2]
        rfl
set_option maxHeartbeats 1600000 in
theorem signedS (s : ByteArray) (w : World) (hs : s.size ≤ 2097152) : Calls Tryd.prog 90 #[.string s] w fun e w' => e = .returned (.tuple #[.int .i64 (sgN (bl s)), .bool (sgB (bl s))]) ∧ Below w.heap.size w w' := by
  have hlen : (bl s).length = s.size := size_list s
  rcases Nat.eq_zero_or_pos s.size with h0 | h0
  · have hnil : bl s = [] := List.length_eq_zero_iff.1 (by omega)
    have hse : s = ⟨#[]⟩ := bytes_eq.2 (by show bl s = _; rw [hnil])
    subst hse
    have fin : Hid (vN (bl ⟨#[]⟩) = sgN (bl ⟨#[]⟩) ∧ vB (bl ⟨#[]⟩) = sgB (bl ⟨#[]⟩)) := ⟨rfl, rfl⟩
    clear hlen hnil h0
    go_enter Tryd.func90, Tryd.ntmps90
    go_wp2_with (go_at_call 118; refine (valueS _ _ hs).mono ?_; rintro e w1 ⟨rfl, hb1⟩)
    go_ret2
    exact ⟨by rw [← fin.out.1, ← fin.out.2]; first | done | rfl, by (repeat' (first | (with_reducible exact Below.refl _ _) | (with_reducible assumption) | (with_reducible refine bStep ?_ (by with_reducible assumption)) | (with_reducible refine bAlloc ?_ _) | (with_reducible refine bDrew ?_) | (with_reducible refine bDrewN ?_ _) | (with_reducible refine Below.setCell ?_ ?_ _) | (with_reducible exact Nat.le_refl _) | (simp; done) | (simp; omega)))⟩
  · have z0 : (0 : Int) < (s.size : Int) := by omega
    obtain ⟨c, hc⟩ : ∃ c : Nat, (s[0]'h0).toNat = c := ⟨_, rfl⟩
    obtain ⟨b, r, hbr⟩ : ∃ b r, bl s = b :: r := by
      cases h : bl s with
      | nil => rw [h] at hlen; simp at hlen; omega
      | cons b r => exact ⟨b, r, rfl⟩
    have hb : b.toNat = c := by
      have := at_list h0
      rw [show s.data.toList = b :: r from hbr] at this
      simp at this
      rw [this, hc]
    have hext : bl (s.extract 1 s.size) = r := by
      rw [bl_extract, hbr]
      have : r.length + 1 = s.size := by rw [hbr] at hlen; simpa using hlen
      rw [← this]
      simp
    rcases (Decidable.em (c = 45)) with h45 | h45
    · have c45 : (c : Int) = 45 := by omega
      have c46 : ((c : Int) == 45) = true := by rw [c45]; rfl
      have g1 : (1 : Int) ≤ (s.size : Int) := by omega
      have bd := vN_bd r
      obtain ⟨v, hv⟩ : ∃ v, vN r = v := ⟨_, rfl⟩
      obtain ⟨q, hq⟩ : ∃ q, vB r = q := ⟨_, rfl⟩
      have fin : Hid (sgN (bl s) = -v ∧ sgB (bl s) = (q && decide (0 < v))) := by
        rw [hbr]
        simp only [sgN, sgB]
        rw [hb, if_pos h45, if_pos h45, hv, hq]
        exact ⟨rfl, rfl⟩
      rw [hv] at bd
      have Wv : IntKind.i64.wrap (-v) = -v := IntWalk.i64_in _ (by omega)
      have HE := Lib.hid hext
      have sz : (s.extract 1 s.size).size ≤ 2097152 := by rw [ByteArray.size_extract]; omega
      clear hext hbr hlen
      rcases q
      · go_enter Tryd.func90, Tryd.ntmps90
        go_wp2_with (go_at_call 118; refine (valueS _ _ sz).mono ?_; rintro e w1 ⟨rfl, hb1⟩; rw [HE.out, hv, hq])
        go_ret2
        exact ⟨by rw [fin.out.1, fin.out.2]; first | done | rfl | simp, by (repeat' (first | (with_reducible exact Below.refl _ _) | (with_reducible assumption) | (with_reducible refine bStep ?_ (by with_reducible assumption)) | (with_reducible refine bAlloc ?_ _) | (with_reducible refine bDrew ?_) | (with_reducible refine bDrewN ?_ _) | (with_reducible refine Below.setCell ?_ ?_ _) | (with_reducible exact Nat.le_refl _) | (simp; done) | (simp; omega)))⟩
      · rcases h0v : decide (0 < v)
        · have k0 : ¬ 0 < v := by simpa using h0v
          go_enter Tryd.func90, Tryd.ntmps90
          go_wp2_with (go_at_call 118; refine (valueS _ _ sz).mono ?_; rintro e w1 ⟨rfl, hb1⟩; rw [HE.out, hv, hq])
          go_ret2
          exact ⟨by rw [fin.out.1, fin.out.2]; first | done | rfl | simp [h0v, k0] | (simp; omega), by (repeat' (first | (with_reducible exact Below.refl _ _) | (with_reducible assumption) | (with_reducible refine bStep ?_ (by with_reducible assumption)) | (with_reducible refine bAlloc ?_ _) | (with_reducible refine bDrew ?_) | (with_reducible refine bDrewN ?_ _) | (with_reducible refine Below.setCell ?_ ?_ _) | (with_reducible exact Nat.le_refl _) | (simp; done) | (simp; omega)))⟩
        · have k0 : 0 < v := by simpa using h0v
          go_enter Tryd.func90, Tryd.ntmps90
          go_wp2_with (go_at_call 118; refine (valueS _ _ sz).mono ?_; rintro e w1 ⟨rfl, hb1⟩; rw [HE.out, hv, hq])
          go_ret2
          exact ⟨by rw [fin.out.1, fin.out.2]; first | done | rfl | simp [h0v, k0] | (simp; omega), by (repeat' (first | (with_reducible exact Below.refl _ _) | (with_reducible assumption) | (with_reducible refine bStep ?_ (by with_reducible assumption)) | (with_reducible refine bAlloc ?_ _) | (with_reducible refine bDrew ?_) | (with_reducible refine bDrewN ?_ _) | (with_reducible refine Below.setCell ?_ ?_ _) | (with_reducible exact Nat.le_refl _) | (simp; done) | (simp; omega)))⟩
    · have c45 : ¬ (c : Int) = 45 := by omega
      have c46 : ((c : Int) == 45) = false := by rw [beq_eq_false_iff_ne]; exact c45
      have fin : Hid (vN (bl s) = sgN (bl s) ∧ vB (bl s) = sgB (bl s)) := by
        rw [hbr]
        simp only [sgN, sgB]
        rw [hb, if_neg h45, if_neg h45]
        exact ⟨rfl, rfl⟩
      clear hext hbr hlen
      go_enter Tryd.func90, Tryd.ntmps90
      go_wp2_with (go_at_call 118; refine (valueS _ _ hs).mono ?_; rintro e w1 ⟨rfl, hb1⟩)
      go_ret2
      exact ⟨by rw [← fin.out.1, ← fin.out.2]; first | done | rfl, by (repeat' (first | (with_reducible exact Below.refl _ _) | (with_reducible assumption) | (with_reducible refine bStep ?_ (by with_reducible assumption)) | (with_reducible refine bAlloc ?_ _) | (with_reducible refine bDrew ?_) | (with_reducible refine bDrewN ?_ _) | (with_reducible refine Below.setCell ?_ ?_ _) | (with_reducible exact Nat.le_refl _) | (simp; done) | (simp; omega)))⟩
end Go.Proofs.YtgnpbgknmapejaaDoor
