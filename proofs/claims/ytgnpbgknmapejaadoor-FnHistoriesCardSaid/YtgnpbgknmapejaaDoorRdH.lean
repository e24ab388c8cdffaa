/- Reading a history from its letters: contracts. -/
import Derived.Test.YtgnpbgknmapejaaDoorRdN
import Derived.Test.YtgnpbgknmapejaaDoorTurn
import Derived.Test.YtgnpbgknmapejaaDoorShelf
import Derived.Shelf.Strings.SlTrimAscii
import Derived.BigQuiet
import Derived.Deep.QuietTactic
namespace Go.Proofs.YtgnpbgknmapejaaDoor
open Go.RowKit
set_option linter.unusedVariables false

def hd (b : UInt8) : Int := if b.toNat = 99 then 1 else if b.toNat = 116 then 2 else if b.toNat = 115 then 3 else if b.toNat = 98 then 4 else 0
def hdu (b : UInt8) (m : Nat) : Int := if hd b < (m : Int) then hd b else 0
theorem hd_rng (b : UInt8) : 0 ≤ hd b ∧ hd b ≤ 4 := by unfold hd; (repeat' split) <;> omega
theorem hdu_one (b : UInt8) : hdu b 1 = 0 := by have := hd_rng b; unfold hdu; split <;> omega
theorem hdu_five (b : UInt8) : hdu b 5 = hd b := by have := hd_rng b; unfold hdu; split <;> omega
theorem hdu_yes {b : UInt8} {m : Nat} (h : hd b = (m : Int)) : hdu b (m + 1) = (m : Int) := by unfold hdu; rw [if_pos (by omega)]; exact h
theorem hdu_no {b : UInt8} {m : Nat} (h : ¬ hd b = (m : Int)) : hdu b (m + 1) = hdu b m := by
  unfold hdu
  by_cases h2 : hd b < (m : Int)
  · rw [if_pos h2, if_pos (by omega)]
  · rw [if_neg h2, if_neg (by omega)]
def hOk (l : List UInt8) : Bool := (l.all fun b => decide (¬ hd b = 0)) && decide (l.length ≤ 100)
def rhL (l : List UInt8) : List Int := if hOk l then l.map hd else []
def RH (l : List UInt8) (w : World) (e : Ending) (w' : World) : Prop := ∃ A n c, e = .returned (.tuple #[.slice A n c, .bool (hOk l)]) ∧ w'.ownsRow w.heap.size 2 1 (.slice A n c) n ((rhL l).map (Value.int .i64)) ∧ Below w.heap.size w w'
theorem hOk_no {l : List UInt8} {k : Nat} {b : UInt8} (h : l[k]? = some b) (h0 : hd b = 0) : hOk l = false := by
  unfold hOk
  rw [Bool.and_eq_false_iff]
  left
  rw [List.all_eq_false]
  exact ⟨b, List.mem_of_getElem? h, by simp [h0]⟩
theorem hOk_len {l : List UInt8} (h : 100 < l.length) : hOk l = false := by
  unfold hOk
  rw [Bool.and_eq_false_iff]
  right
  simp; omega
theorem hOk_yes {l : List UInt8} (h : ∀ b ∈ l, ¬ hd b = 0) (hl : l.length ≤ 100) : hOk l = true := by
  unfold hOk
  rw [Bool.and_eq_true]
  refine ⟨List.all_eq_true.2 fun b hb => decide_eq_true (h b hb), decide_eq_true hl⟩
theorem hOk_step {l : List UInt8} {k : Nat} {b : UInt8} (h : ∀ b ∈ l.take k, ¬ hd b = 0) (hx : l[k]? = some b) (h0 : ¬ hd b = 0) : ∀ b ∈ l.take (k + 1), ¬ hd b = 0 := by
  intro z hz
  rw [take_step hx] at hz
  rcases List.mem_append.1 hz with h1 | h1
  · exact h z h1
  · rw [List.mem_singleton.1 h1]; exact h0
set_option maxHeartbeats 3200000 in
set_option maxRecDepth 20000 in
theorem rhS (s : ByteArray) (w : World) (hs : s.size ≤ 2097152) : Calls Tryd.prog 35 #[.string s] w (RH (bl s) w) := by
  obtain ⟨i0, hi, hz0, hz1, hz2⟩ := info_parts infoI64
  have hlen : (bl s).length = s.size := rfl
  have HL := Lib.hid hlen
  clear hlen
  have hst : (w.alloc (.cells #[] 2)).ownsRow w.heap.size 2 1 (.slice (some ⟨w.heap.size, 0, none⟩) 0 0) 0 (([] : List Int).map (Value.int .i64)) :=
    ⟨rfl, .inr ⟨w.heap.size, 0, #[], rfl, Nat.le_refl _, (Array.getElem?_push_size : (w.heap.push _)[w.heap.size]? = _), Nat.le_refl _, by unfold maxLen; omega, rfl, rfl⟩⟩
  have O := Lib.hid hst
  clear hst
  go_enter Tryd.func35, Tryd.ntmps35
  go_wp2_with fail
  go_loopw [4, 5] (fun v i wr => ∃ k : Nat, k ≤ s.size ∧ i = .int .i64 k ∧ wr.ownsRow w.heap.size 2 1 v k ((((bl s).take k).map hd).map (Value.int .i64)) ∧ Hid (∀ b ∈ (bl s).take k, ¬ hd b = 0) ∧ Below w.heap.size w wr) (fun _ i _ => s.size - (intOf i).toNat)
  case atStart => exact ⟨0, Nat.zero_le _, rfl, by simpa using O.out, by intro b hb; simp at hb, by (repeat' (first | (with_reducible exact Below.refl _ _) | (with_reducible assumption) | (with_reducible refine bStep ?_ (by with_reducible assumption)) | (with_reducible refine bAlloc ?_ _) | (with_reducible refine bDrew ?_) | (with_reducible refine bDrewN ?_ _) | (with_reducible refine Below.setCell ?_ ?_ _) | (with_reducible exact Nat.le_refl _) | (simp; done) | (simp; omega)))⟩
  case round =>
    obtain ⟨k, hk, rfl, hown, HD, hbel⟩ := hrel
    clear O
    have hbs := hbel.size
    have HO := Lib.hid hown
    have HB := Lib.hid hbel
    clear hown hbel
    by_cases hlt : k < s.size
    · have hl1 : (k : Int) < (s.size : Int) := by omega
      have hx := at_list hlt
      obtain ⟨b, hb⟩ : ∃ b : UInt8, (s[k]'hlt) = b := ⟨_, rfl⟩
      have hbN : (s[k]'hlt).toNat = b.toNat := by rw [hb]
      rw [hb] at hx
      have HX : Hid ((bl s)[k]? = some b) := hx
      clear hb hx
      obtain ⟨c, hc⟩ : ∃ c : Nat, b.toNat = c := ⟨_, rfl⟩
      rw [hc] at hbN
      have hc8 : c < 256 := by rw [← hc]; exact UInt8.toNat_lt _
      have HC := Lib.hid hc
      clear hc
      go_wp2_with fail
      go_loopw [6, 7] (fun f j w' => ∃ m : Nat, 1 ≤ m ∧ m ≤ 5 ∧ j = .int .i64 (m : Int) ∧ f = .int .i64 (hdu b m) ∧ ∃ q, w' = wr.drewN q) (fun _ j _ => 5 - (intOf j).toNat)
      case atStart => exact ⟨1, by omega, by omega, rfl, by rw [hdu_one], 0, rfl⟩
      case round =>
        obtain ⟨m, hm1, hm5, rfl, rfl, q, rfl⟩ := hrel
        rcases (by omega : m = 5 ∨ m = 1 ∨ m = 2 ∨ m = 3 ∨ m = 4) with rfl | rfl | rfl | rfl | rfl
        · rw [hdu_five]
          have hr := hd_rng b
          obtain ⟨d, hdd⟩ : ∃ d, hd b = d := ⟨_, rfl⟩
          rw [hdd] at hr ⊢
          have HDD := Lib.hid hdd
          clear hdd
          by_cases h0 : d = 0
          · have hF : Hid (hOk (bl s) = false) := hOk_no HX.out (by rw [HDD.out]; exact h0)
            have h0b : (d == 0) = true := by simpa using h0
            go_wp2_with fail
            go_ret2
            exact ⟨none, 0, 0, by rw [hF.out]; rfl, by rw [rhL, hF.out]; exact World.ownsRow_nil _ _ _ _, by have HB := HB.out; (repeat' (first | (with_reducible exact Below.refl _ _) | (with_reducible assumption) | (with_reducible refine bStep ?_ (by with_reducible assumption)) | (with_reducible refine bAlloc ?_ _) | (with_reducible refine bDrew ?_) | (with_reducible refine bDrewN ?_ _) | (with_reducible refine Below.setCell ?_ ?_ _) | (with_reducible exact Nat.le_refl _) | (simp; done) | (simp; omega)))⟩
          · have h0b : (d == 0) = false := by rw [beq_eq_false_iff_ne]; exact h0
            have HO2 := Lib.hid (own_below (w' := wr.drewN q) HO.out (by (repeat' (first | (with_reducible exact Below.refl _ _) | (with_reducible assumption) | (with_reducible refine bStep ?_ (by with_reducible assumption)) | (with_reducible refine bAlloc ?_ _) | (with_reducible refine bDrew ?_) | (with_reducible refine bDrewN ?_ _) | (with_reducible refine Below.setCell ?_ ?_ _) | (with_reducible exact Nat.le_refl _) | (simp; done) | (simp; omega)))))
            go_wp2_with (at_builtin; refine wpList_append_own _ rfl _ _ 39 rfl w.heap.size 2 i0 (.int .i64 0) 1 8 Tryd.underlying39 hi hz0 hz1 hz2 rfl (by decide) _ _ _ rfl (HO2.out.alloc _) ⟨wr.heap.size, 0, none⟩ 1 1 [.int .i64 d] rfl rfl (cell_one_new _ _ _) (by simp [Value.oneCell']) (by unfold maxLen; omega) (by omega) (by simp; omega) ?_; intro v' w3 hown' hgrow hnil; have OB := own_base HO2.out; have O3 := Lib.hid hown'; have B3 := Lib.hid ((bAlloc (bDrewN HB.out q) _).grown hgrow (by simp; omega) OB); clear hown' hgrow hnil OB)
            go_roundw
            case rel => exact ⟨k + 1, by omega, by first | rfl | go_num, by rw [take_step HX.out]; simp only [List.map_append, List.map_cons, List.map_nil, HDD.out]; simpa using O3.out, hOk_step HD.out HX.out (by rw [HDD.out]; exact h0), B3.out⟩
            case measure => simp [intOf] <;> omega
        · by_cases hq : c = 99
          · have e : hd b = (1 : Int) := by unfold hd; rw [HC.out, hq]; rfl
            have hU : Hid (hdu b (1 + 1) = (1 : Int)) := hdu_yes (m := 1) e
            have hq2 : (c : Int) = 99 := by omega
            go_wp2_with fail
            go_quiet (fail)
            all_goals go_wp2_with fail
            go_roundw
            case rel => exact ⟨1 + 1, by omega, by omega, by first | rfl | go_num, by rw [hU.out]; first | rfl | trivial, _, rfl⟩
            case measure => simp [intOf]
          · have e : ¬ hd b = (1 : Int) := by unfold hd; rw [HC.out]; (repeat' split) <;> omega
            have hU : Hid (hdu b (1 + 1) = hdu b 1) := hdu_no (m := 1) e
            have hq2 : ¬ (c : Int) = 99 := by omega
            have hq3 : ((c : Int) == ((({ data := #[99, 116, 115, 98] } : ByteArray)[0]'(by decide)).toNat : Int)) = false := by show ((c : Int) == 99) = false; rw [beq_eq_false_iff_ne]; exact hq2
            go_wp2_with fail
            go_quiet (fail)
            all_goals go_wp2_with fail
            go_roundw
            case rel => exact ⟨1 + 1, by omega, by omega, by first | rfl | go_num, by rw [hU.out], _, rfl⟩
            case measure => simp [intOf]
        · by_cases hq : c = 116
          · have e : hd b = (2 : Int) := by unfold hd; rw [HC.out, hq]; rfl
            have hU : Hid (hdu b (2 + 1) = (2 : Int)) := hdu_yes (m := 2) e
            have hq2 : (c : Int) = 116 := by omega
            go_wp2_with fail
            go_quiet (fail)
            all_goals go_wp2_with fail
            go_roundw
            case rel => exact ⟨2 + 1, by omega, by omega, by first | rfl | go_num, by rw [hU.out]; first | rfl | trivial, _, rfl⟩
            case measure => simp [intOf]
          · have e : ¬ hd b = (2 : Int) := by unfold hd; rw [HC.out]; (repeat' split) <;> omega
            have hU : Hid (hdu b (2 + 1) = hdu b 2) := hdu_no (m := 2) e
            have hq2 : ¬ (c : Int) = 116 := by omega
            have hq3 : ((c : Int) == ((({ data := #[99, 116, 115, 98] } : ByteArray)[1]'(by decide)).toNat : Int)) = false := by show ((c : Int) == 116) = false; rw [beq_eq_false_iff_ne]; exact hq2
            go_wp2_with fail
            go_quiet (fail)
            all_goals go_wp2_with fail
            go_roundw
            case rel => exact ⟨2 + 1, by omega, by omega, by first | rfl | go_num, by rw [hU.out], _, rfl⟩
            case measure => simp [intOf]
        · by_cases hq : c = 115
          · have e : hd b = (3 : Int) := by unfold hd; rw [HC.out, hq]; rfl
            have hU : Hid (hdu b (3 + 1) = (3 : Int)) := hdu_yes (m := 3) e
            have hq2 : (c : Int) = 115 := by omega
            go_wp2_with fail
            go_quiet (fail)
            all_goals go_wp2_with fail
            go_roundw
            case rel => exact ⟨3 + 1, by omega, by omega, by first | rfl | go_num, by rw [hU.out]; first | rfl | trivial, _, rfl⟩
            case measure => simp [intOf]
          · have e : ¬ hd b = (3 : Int) := by unfold hd; rw [HC.out]; (repeat' split) <;> omega
            have hU : Hid (hdu b (3 + 1) = hdu b 3) := hdu_no (m := 3) e
            have hq2 : ¬ (c : Int) = 115 := by omega
            have hq3 : ((c : Int) == ((({ data := #[99, 116, 115, 98] } : ByteArray)[2]'(by decide)).toNat : Int)) = false := by show ((c : Int) == 115) = false; rw [beq_eq_false_iff_ne]; exact hq2
            go_wp2_with fail
            go_quiet (fail)
            all_goals go_wp2_with fail
            go_roundw
            case rel => exact ⟨3 + 1, by omega, by omega, by first | rfl | go_num, by rw [hU.out], _, rfl⟩
            case measure => simp [intOf]
        · by_cases hq : c = 98
          · have e : hd b = (4 : Int) := by unfold hd; rw [HC.out, hq]; rfl
            have hU : Hid (hdu b (4 + 1) = (4 : Int)) := hdu_yes (m := 4) e
            have hq2 : (c : Int) = 98 := by omega
            go_wp2_with fail
            go_quiet (fail)
            all_goals go_wp2_with fail
            go_roundw
            case rel => exact ⟨4 + 1, by omega, by omega, by first | rfl | go_num, by rw [hU.out]; first | rfl | trivial, _, rfl⟩
            case measure => simp [intOf]
          · have e : ¬ hd b = (4 : Int) := by unfold hd; rw [HC.out]; (repeat' split) <;> omega
            have hU : Hid (hdu b (4 + 1) = hdu b 4) := hdu_no (m := 4) e
            have hq2 : ¬ (c : Int) = 98 := by omega
            have hq3 : ((c : Int) == ((({ data := #[99, 116, 115, 98] } : ByteArray)[3]'(by decide)).toNat : Int)) = false := by show ((c : Int) == 98) = false; rw [beq_eq_false_iff_ne]; exact hq2
            go_wp2_with fail
            go_quiet (fail)
            all_goals go_wp2_with fail
            go_roundw
            case rel => exact ⟨4 + 1, by omega, by omega, by first | rfl | go_num, by rw [hU.out], _, rfl⟩
            case measure => simp [intOf]
    · obtain rfl : k = s.size := by omega
      obtain ⟨A1, c1, rfl⟩ := own_slice HO.out
      have hT : (bl s).take s.size = bl s := List.take_of_length_le (by rw [HL.out]; omega)
      have hA : Hid (∀ b ∈ bl s, ¬ hd b = 0) := fun b hb => HD.out b (by rw [hT]; exact hb)
      have HO3 : Hid (wr.ownsRow w.heap.size 2 1 (.slice A1 s.size c1) s.size (((bl s).map hd).map (Value.int .i64))) := by
        have h := HO.out
        rw [hT] at h
        exact h
      clear hT
      by_cases h100 : (100 : Int) < (s.size : Int)
      · have hF : Hid (hOk (bl s) = false) := hOk_len (by rw [HL.out]; omega)
        go_wp2_with fail
        go_ret2
        exact ⟨none, 0, 0, by rw [hF.out]; rfl, by rw [rhL, hF.out]; exact World.ownsRow_nil _ _ _ _, by have HB := HB.out; (repeat' (first | (with_reducible exact Below.refl _ _) | (with_reducible assumption) | (with_reducible refine bStep ?_ (by with_reducible assumption)) | (with_reducible refine bAlloc ?_ _) | (with_reducible refine bDrew ?_) | (with_reducible refine bDrewN ?_ _) | (with_reducible refine Below.setCell ?_ ?_ _) | (with_reducible exact Nat.le_refl _) | (simp; done) | (simp; omega)))⟩
      · have hF : Hid (hOk (bl s) = true) := hOk_yes hA.out (by rw [HL.out]; omega)
        go_wp2_with fail
        go_ret2
        exact ⟨A1, s.size, c1, by rw [hF.out]; rfl, by rw [rhL, hF.out]; exact HO3.out, by have HB := HB.out; (repeat' (first | (with_reducible exact Below.refl _ _) | (with_reducible assumption) | (with_reducible refine bStep ?_ (by with_reducible assumption)) | (with_reducible refine bAlloc ?_ _) | (with_reducible refine bDrew ?_) | (with_reducible refine bDrewN ?_ _) | (with_reducible refine Below.setCell ?_ ?_ _) | (with_reducible exact Nat.le_refl _) | (simp; done) | (simp; omega)))⟩
end Go.Proofs.YtgnpbgknmapejaaDoor
