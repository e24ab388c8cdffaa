/- The reference's decimals. -/
import Derived.Test.YtgnpbgknmapejaaDoorStruct
import Derived.Deep.QuietTactic
import Derived.BigQuiet
import Derived.Deep.RegionHeld3
import Derived.Deep.RegionWith
import Derived.Laws.IdiomStrings
import Derived.Laws.DeepStrings4
import Derived.Lib.ItoaNum
import Derived.Lib.ItoaLen
namespace Go.Proofs.YtgnpbgknmapejaaDoor
open Go.RowKit
set_option linter.unusedVariables false

def dg (k : Nat) : ByteArray := ⟨(Lib.decDigits k).toArray⟩
theorem conv_one (c : Nat) (hc : c < 256) : ∀ (W : World) (g cap : Nat), W.cell? ⟨g, 0, none⟩ = some (.int .u8 (c : Int)) → (convert 22 9 (.slice (some ⟨g, 0, none⟩) 1 cap)).run Tryd.prog W = .ok (.string ⟨#[UInt8.ofNat c]⟩) W := by
  intro W g cap h
  have := run_convert_bytes_back (P := Tryd.prog) W 22 9 5 ⟨g, 0, none⟩ cap [UInt8.ofNat c] Tryd.underlying22 Tryd.underlying5 Tryd.underlying9 (fun j hj => by
    have : j = 0 := by simpa using hj
    subst this
    have e : ((⟨g, 0, none⟩ : Addr).add 0) = ⟨g, 0, none⟩ := rfl
    rw [e, h]
    simp only [List.getElem_cons_zero, UInt8.toNat_ofNat']
    rw [Nat.mod_eq_of_lt (by omega)])
  exact this
theorem dg_small {k : Nat} (h : k < 10) : dg k = ⟨#[UInt8.ofNat (48 + k)]⟩ := by unfold dg; rw [Lib.decDigits, dif_pos h]
theorem dg_big {k : Nat} (h : ¬ k < 10) : dg k = dg (k / 10) ++ ⟨#[UInt8.ofNat (48 + k % 10)]⟩ := by
  unfold dg
  rw [Lib.decDigits, dif_neg h]
  apply ByteArray.ext
  simp [ByteArray.data_append]
theorem dg_size (k : Nat) (b : Nat) (h : k < 10 ^ (b + 1)) : (dg k).size ≤ b + 1 := by
  induction b generalizing k with
  | zero => rw [dg_small (by omega)]; simp [ByteArray.size]
  | succ b ih =>
    by_cases hk : k < 10
    · rw [dg_small hk]; simp [ByteArray.size]
    · rw [dg_big hk, ByteArray.size_append]
      have := ih (k / 10) (by rw [Nat.pow_succ] at h; omega)
      have e : (⟨#[UInt8.ofNat (48 + k % 10)]⟩ : ByteArray).size = 1 := rfl
      rw [e]
      omega
set_option maxHeartbeats 1600000 in
theorem decS (b : Nat) : ∀ (k : Nat) (w : World), k < 10 ^ (b + 1) → b < 18 → Calls Tryd.prog 66 #[.int .i64 k] w fun e w' => e = .returned (.string (dg k)) ∧ Below w.heap.size w w' := by
  induction b with
  | zero =>
    intro k w h _
    have hk : (k : Int) < 10 := by omega
    obtain ⟨c, hc⟩ : ∃ c : Nat, 48 + k = c := ⟨_, rfl⟩
    have e1 : (48 : Int) + (k : Int) = (c : Int) := by omega
    have W1 : IntKind.i64.wrap (c : Int) = (c : Int) := IntWalk.i64_in _ (by omega)
    have W2 : IntKind.u8.wrap (c : Int) = (c : Int) := by rw [IntKind.wrap_u8]; omega
    have cv := conv_one c (by omega)
    have ed := Lib.hid (dg_small (k := k) (by omega))
    rw [hc] at ed
    go_enter Tryd.func66, Tryd.ntmps66
    go_wp2_with fail
    go_ret
    exact ⟨by rw [ed.out]; first | done | rfl, by (repeat' (first | (with_reducible exact Below.refl _ _) | (with_reducible assumption) | (with_reducible refine bStep ?_ (by with_reducible assumption)) | (with_reducible refine bAlloc ?_ _) | (with_reducible refine bDrew ?_) | (with_reducible refine bDrewN ?_ _) | (with_reducible refine Below.setCell ?_ ?_ _) | (with_reducible exact Nat.le_refl _) | (simp; done) | (simp; omega)))⟩
  | succ b ih =>
    intro k w h hb
    by_cases hk10 : k < 10
    · have hk : (k : Int) < 10 := by omega
      obtain ⟨c, hc⟩ : ∃ c : Nat, 48 + k = c := ⟨_, rfl⟩
      have e1 : (48 : Int) + (k : Int) = (c : Int) := by omega
      have W1 : IntKind.i64.wrap (c : Int) = (c : Int) := IntWalk.i64_in _ (by omega)
      have W2 : IntKind.u8.wrap (c : Int) = (c : Int) := by rw [IntKind.wrap_u8]; omega
      have cv := conv_one c (by omega)
      have ed := Lib.hid (dg_small hk10)
      rw [hc] at ed
      go_enter Tryd.func66, Tryd.ntmps66
      go_wp2_with fail
      go_ret
      exact ⟨by rw [ed.out]; first | done | rfl, by (repeat' (first | (with_reducible exact Below.refl _ _) | (with_reducible assumption) | (with_reducible refine bStep ?_ (by with_reducible assumption)) | (with_reducible refine bAlloc ?_ _) | (with_reducible refine bDrew ?_) | (with_reducible refine bDrewN ?_ _) | (with_reducible refine Below.setCell ?_ ?_ _) | (with_reducible exact Nat.le_refl _) | (simp; done) | (simp; omega)))⟩
    · have hk : ¬ (k : Int) < 10 := by omega
      have pw : (10 : Nat) ^ (b + 1 + 1) ≤ 10 ^ 18 := Nat.pow_le_pow_right (by omega) (by omega)
      have hlt : k < 1000000000000000000 := by omega
      have hd := Lib.hid (show k / 10 < 10 ^ (b + 1) by rw [Nat.pow_succ] at h; omega)
      have sz := dg_size (k / 10) b hd.out
      obtain ⟨c, hc⟩ : ∃ c : Nat, 48 + k % 10 = c := ⟨_, rfl⟩
      obtain ⟨q, hq⟩ : ∃ q : Nat, k / 10 = q := ⟨_, rfl⟩
      have e1 : (48 : Int) + (k : Int).tmod 10 = (c : Int) := by rw [Int.tmod_eq_emod_of_nonneg (by omega)]; omega
      have e2 : (k : Int).tdiv 10 = (q : Int) := by rw [Int.tdiv_eq_ediv_of_nonneg (by omega)]; omega
      have W1 : IntKind.i64.wrap (c : Int) = (c : Int) := IntWalk.i64_in _ (by omega)
      have W2 : IntKind.u8.wrap (c : Int) = (c : Int) := by rw [IntKind.wrap_u8]; omega
      have W3 : IntKind.i64.wrap (q : Int) = (q : Int) := IntWalk.i64_in _ (by omega)
      have cv := conv_one c (by omega)
      have ed := Lib.hid (dg_big hk10)
      rw [hc, hq] at ed
      rw [hq] at sz hd
      have sz2 : (dg q).size + 1 ≤ 9223372036854775807 := by omega
      clear pw h
      go_enter Tryd.func66, Tryd.ntmps66
      go_wp2_with fail
      go_region_with ((first | (go_at_call 66; refine (ih q _ hd.out (by omega)).mono ?_; rintro e w1 ⟨rfl, hb1⟩; obtain ⟨hcq, hfq⟩ := bcell hb1; have hs1 := hb1.size; (try simp at hs1); (try have hz1 : w.heap.size < w1.heap.size := (by omega)); (try have kc1 := hcq w.heap.size 0 (by first | omega | (simp; omega))))))
      all_goals go_wp2
      all_goals go_ret
      all_goals exact ⟨by rw [ed.out]; first | done | rfl, by (repeat' (first | (with_reducible exact Below.refl _ _) | (with_reducible assumption) | (with_reducible refine bStep ?_ (by with_reducible assumption)) | (with_reducible refine bAlloc ?_ _) | (with_reducible refine bDrew ?_) | (with_reducible refine bDrewN ?_ _) | (with_reducible refine Below.setCell ?_ ?_ _) | (with_reducible exact Nat.le_refl _) | (simp; done) | (simp; omega)))⟩
end Go.Proofs.YtgnpbgknmapejaaDoor
