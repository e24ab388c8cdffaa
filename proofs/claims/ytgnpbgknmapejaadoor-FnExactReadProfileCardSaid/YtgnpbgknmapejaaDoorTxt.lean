/- Texts of numbers, lengths and ratios: contracts of both sides. -/
import Derived.Test.YtgnpbgknmapejaaDoorDec
import Derived.Test.YtgnpbgknmapejaaDoorShelf
import Derived.Lib.SmallJoins
namespace Go.Proofs.YtgnpbgknmapejaaDoor
open Go.RowKit
set_option linter.unusedVariables false

/-- The library's table of powers of ten reads as its text lays it. -/
def Tab (w : World) : Prop := Lib.TabIs Tryd.prog w "internal/strconv.uint64pow10" .u64 Lib.pow10Tab
theorem Tab.below {w w' : World} (h : Tab w) (hb : Below w.heap.size w w') : Tab w' := Go.Joins.tab_stays (g := 5) (by kernel_rfl) h hb (Nat.le_refl _)
theorem bGrow (w : World) (k : Nat) (os : Array Obj) : Below w.heap.size w (Go.Sort.grow (w.drewN k) os) :=
  ⟨rfl, rfl, rfl, by show w.heap.size ≤ (w.heap ++ os).size; rw [Array.size_append]; omega, fun j hj => by show (w.heap ++ os)[j]? = w.heap[j]?; exact Array.getElem?_append_left hj⟩
def nm (n : Int) : ByteArray := ⟨(Lib.itoa n).toArray⟩
theorem nm_pos {n : Int} (h : ¬ n < 0) : nm n = dg n.toNat := by unfold nm dg Lib.itoa; rw [if_neg h]
theorem nm_neg {n : Int} (h : n < 0) : nm n = ⟨#[45]⟩ ++ dg n.natAbs := by
  unfold nm dg Lib.itoa
  rw [if_pos h]
  apply ByteArray.ext
  simp [ByteArray.data_append]
theorem dg_sz {k : Nat} (h : k < 1000000000000000000) : (dg k).size ≤ 18 := dg_size k 17 (by have e : (10 : Nat) ^ (17 + 1) = 1000000000000000000 := (by decide); omega)
theorem nm_sz {n : Int} (h : n.natAbs < 1000000000000000000) : (nm n).size ≤ 19 := by
  by_cases hn : n < 0
  · rw [nm_neg hn, ByteArray.size_append]
    have := dg_sz h
    have e : (⟨#[45]⟩ : ByteArray).size = 1 := rfl
    omega
  · rw [nm_pos hn]
    have := dg_sz (k := n.toNat) (by omega)
    omega
theorem decI (n : Int) (w : World) (h0 : -9223372036854775808 ≤ n) (h1 : n ≤ 9223372036854775807) (T : Tab w) : Calls Tryd.prog 81 #[.int .i64 n] w fun e w' => e = .returned (.string (nm n)) ∧ Below w.heap.size w w' := by
  go_enter Tryd.func81, Tryd.ntmps81
  go_wp2_with (go_at_call 115; refine (Tryd.strconv_FormatInt_10 n h0 h1 _ T).mono ?_; rintro e w1 ⟨rfl, k, os, rfl⟩)
  go_ret
  exact ⟨rfl, bGrow _ _ _⟩
theorem decIn (k : Nat) (w : World) (h1 : k ≤ 9223372036854775807) (T : Tab w) : Calls Tryd.prog 81 #[.int .i64 k] w fun e w' => e = .returned (.string (dg k)) ∧ Below w.heap.size w w' := by
  have := decI (k : Int) w (by omega) (by omega) T
  rw [nm_pos (by omega), Int.toNat_natCast] at this
  exact this
theorem decSn (k : Nat) (w : World) (h : k < 1000000000000000000) : Calls Tryd.prog 66 #[.int .i64 k] w fun e w' => e = .returned (.string (dg k)) ∧ Below w.heap.size w w' :=
  decS 17 k w (by have e : (10 : Nat) ^ (17 + 1) = 1000000000000000000 := (by decide); omega) (by omega)
theorem numS (n : Int) (w : World) (h : n.natAbs < 1000000000000000000) : Calls Tryd.prog 65 #[.int .i64 n] w fun e w' => e = .returned (.string (nm n)) ∧ Below w.heap.size w w' := by
  obtain ⟨k, hk⟩ : ∃ k : Nat, n.natAbs = k := ⟨_, rfl⟩
  rw [hk] at h
  have sz := dg_sz h
  by_cases hn : n < 0
  · obtain rfl : n = -(k : Int) := by omega
    have E := Lib.hid (nm_neg hn)
    have W1 : IntKind.i64.wrap (k : Int) = (k : Int) := IntWalk.i64_in _ (by omega)
    have e1 : - -(k : Int) = (k : Int) := by omega
    have hc : (⟨#[45]⟩ : ByteArray).size + (dg k).size ≤ 9223372036854775807 := (by have e : (⟨#[45]⟩ : ByteArray).size = 1 := rfl; omega)
    go_enter Tryd.func65, Tryd.ntmps65
    go_wp2_with (go_at_call 66; refine (decSn k _ h).mono ?_; rintro e w1 ⟨rfl, hb1⟩)
    go_ret
    exact ⟨by rw [E.out, show (-(k : Int)).natAbs = k by omega]; first | done | rfl, by (repeat' (first | (with_reducible exact Below.refl _ _) | (with_reducible assumption) | (with_reducible refine bStep ?_ (by with_reducible assumption)) | (with_reducible refine bAlloc ?_ _) | (with_reducible refine bDrew ?_) | (with_reducible refine bDrewN ?_ _) | (with_reducible refine Below.setCell ?_ ?_ _) | (with_reducible exact Nat.le_refl _) | (simp; done) | (simp; omega)))⟩
  · obtain rfl : n = (k : Int) := by omega
    have E := Lib.hid (nm_pos hn)
    go_enter Tryd.func65, Tryd.ntmps65
    go_wp2_with (go_at_call 66; refine (decSn k _ h).mono ?_; rintro e w1 ⟨rfl, hb1⟩)
    go_ret
    exact ⟨by rw [E.out, Int.toNat_natCast]; first | done | rfl, by (repeat' (first | (with_reducible exact Below.refl _ _) | (with_reducible assumption) | (with_reducible refine bStep ?_ (by with_reducible assumption)) | (with_reducible refine bAlloc ?_ _) | (with_reducible refine bDrew ?_) | (with_reducible refine bDrewN ?_ _) | (with_reducible refine Below.setCell ?_ ?_ _) | (with_reducible exact Nat.le_refl _) | (simp; done) | (simp; omega)))⟩
def mtP (k : Nat) : ByteArray := dg (k / 100) ++ ⟨#[46]⟩ ++ dg (k / 10 % 10) ++ dg (k % 10)
def mtx (n : Int) : ByteArray := if n < 0 then ⟨#[45]⟩ ++ dg (n.natAbs / 100) ++ ⟨#[46]⟩ ++ dg (n.natAbs / 10 % 10) ++ dg (n.natAbs % 10) else ⟨#[]⟩ ++ dg (n.natAbs / 100) ++ ⟨#[46]⟩ ++ dg (n.natAbs / 10 % 10) ++ dg (n.natAbs % 10)
theorem mtx_eq (n : Int) : mtx n = if n < 0 then ⟨#[45]⟩ ++ dg (n.natAbs / 100) ++ ⟨#[46]⟩ ++ dg (n.natAbs / 10 % 10) ++ dg (n.natAbs % 10) else ⟨#[]⟩ ++ dg (n.natAbs / 100) ++ ⟨#[46]⟩ ++ dg (n.natAbs / 10 % 10) ++ dg (n.natAbs % 10) := rfl
def mtV (n : Int) : ByteArray := if isV n then mtx n else ⟨#[]⟩
theorem sz1 (b : UInt8) : (⟨#[b]⟩ : ByteArray).size = 1 := rfl
theorem sz0 : (⟨#[]⟩ : ByteArray).size = 0 := rfl
set_option maxHeartbeats 800000 in
theorem mtS (n : Int) (w : World) : Calls Tryd.prog 28 #[.int .i64 n] w fun e w' => e = .returned (.string (mtV n)) ∧ Below w.heap.size w w' := by
  rcases hv : isV n
  · go_enter Tryd.func28, Tryd.ntmps28
    go_wp2_with (go_at_call 72; refine (isS _ _).mono ?_; rintro e w1 ⟨rfl, rfl⟩)
    go_ret
    exact ⟨by simp [mtV, hv], Below.refl _ _⟩
  · have bd := isV_t hv
    obtain ⟨k, hk⟩ : ∃ k : Nat, n.natAbs = k := ⟨_, rfl⟩
    have hkb : k ≤ 1000000000000 := by omega
    have ea : iabs n = (k : Int) := by have := iabs_bd n; omega
    have E := Lib.hid (show mtV n = mtx n by simp [mtV, hv])
    have E2 := mtx_eq n
    rw [hk] at E2
    obtain ⟨a, ha⟩ : ∃ a : Nat, k / 100 = a := ⟨_, rfl⟩
    obtain ⟨b, hb⟩ : ∃ b : Nat, k / 10 % 10 = b := ⟨_, rfl⟩
    obtain ⟨c, hc⟩ : ∃ c : Nat, k % 10 = c := ⟨_, rfl⟩
    have q1 : (k : Int).tdiv 100 = (a : Int) := by rw [Int.tdiv_eq_ediv_of_nonneg (by omega)]; omega
    have q2 : ((k : Int).tdiv 10).tmod 10 = (b : Int) := by rw [Int.tdiv_eq_ediv_of_nonneg (by omega), Int.tmod_eq_emod_of_nonneg (by omega)]; omega
    have q3 : (k : Int).tmod 10 = (c : Int) := by rw [Int.tmod_eq_emod_of_nonneg (by omega)]; omega
    have q4 : IntKind.i64.wrap ((k : Int).tdiv 10) = (k : Int).tdiv 10 := IntWalk.i64_in _ (by rw [Int.tdiv_eq_ediv_of_nonneg (by omega)]; omega)
    have q5 : IntKind.i64.wrap (a : Int) = (a : Int) := IntWalk.i64_in _ (by omega)
    have r1 : (k : Int) / 100 = (a : Int) := by omega
    have r2 : (k : Int) / 10 % 10 = (b : Int) := by omega
    have r3 : (k : Int) % 10 = (c : Int) := by omega
    rw [ha, hb, hc] at E2
    have E2 := Lib.hid E2
    have s1 := dg_sz (k := a) (by omega)
    have s2 := dg_sz (k := b) (by omega)
    have s3 := dg_sz (k := c) (by omega)
    have t1 := sz1 45
    have t2 := sz1 46
    have t0 := sz0
    have ba : a ≤ 1000000000000000 := by omega
    have bb : b < 10 := by omega
    have bc : c < 10 := by omega
    clear hk ha hb hc
    rcases (Decidable.em (n < 0)) with hn | hn
    all_goals
      have E3 := E2.out
      simp only [hn, if_true, if_false] at E3
      have E3 := Lib.hid E3
      clear E2
      go_enter Tryd.func28, Tryd.ntmps28
      go_wp2_with (first | (go_at_call 72; refine (isS _ _).mono ?_; rintro e w1 ⟨rfl, rfl⟩) | (go_at_call 73; refine (absS _ _ (by omega) (by omega)).mono ?_; rintro e w1 ⟨rfl, rfl⟩; try rw [ea]) | (go_at_call 66; refine (decSn _ _ (by omega)).mono ?_; rintro e w1 ⟨rfl, hb1⟩))
      go_ret
      exact ⟨by rw [E.out, E3.out]; first | done | rfl, by (repeat' (first | (with_reducible exact Below.refl _ _) | (with_reducible assumption) | (with_reducible refine bStep ?_ (by with_reducible assumption)) | (with_reducible refine bAlloc ?_ _) | (with_reducible refine bDrew ?_) | (with_reducible refine bDrewN ?_ _) | (with_reducible refine Below.setCell ?_ ?_ _) | (with_reducible exact Nat.le_refl _) | (simp; done) | (simp; omega)))⟩
set_option maxHeartbeats 800000 in
theorem mtxI (n : Int) (w : World) (T : Tab w) (bd : -1000000000000000 ≤ n ∧ n ≤ 1000000000000000) : Calls Tryd.prog 69 #[.int .i64 n] w fun e w' => e = .returned (.string (mtx n)) ∧ Below w.heap.size w w' := by
  have T := Lib.hid T
  obtain ⟨k, hk⟩ : ∃ k : Nat, n.natAbs = k := ⟨_, rfl⟩
  have hkb : k ≤ 1000000000000000 := by omega
  have ea : iabs n = (k : Int) := by have := iabs_bd n; omega
  have E2 := mtx_eq n
  rw [hk] at E2
  obtain ⟨r, hr⟩ : ∃ r : Nat, k % 100 = r := ⟨_, rfl⟩
  obtain ⟨a, ha⟩ : ∃ a : Nat, k / 100 = a := ⟨_, rfl⟩
  obtain ⟨b, hb⟩ : ∃ b : Nat, k / 10 % 10 = b := ⟨_, rfl⟩
  obtain ⟨c, hc⟩ : ∃ c : Nat, k % 10 = c := ⟨_, rfl⟩
  have q0 : (k : Int).tmod 100 = (r : Int) := by rw [Int.tmod_eq_emod_of_nonneg (by omega)]; omega
  have q1 : (k : Int).tdiv 100 = (a : Int) := by rw [Int.tdiv_eq_ediv_of_nonneg (by omega)]; omega
  have q2 : (r : Int).tdiv 10 = (b : Int) := by rw [Int.tdiv_eq_ediv_of_nonneg (by omega)]; omega
  have q3 : (r : Int).tmod 10 = (c : Int) := by rw [Int.tmod_eq_emod_of_nonneg (by omega)]; omega
  have q5 : IntKind.i64.wrap (a : Int) = (a : Int) := IntWalk.i64_in _ (by omega)
  have q6 : IntKind.i64.wrap (b : Int) = (b : Int) := IntWalk.i64_in _ (by omega)
  rw [ha, hb, hc] at E2
  have E2 := Lib.hid E2
  have s1 := dg_sz (k := a) (by omega)
  have s2 := dg_sz (k := b) (by omega)
  have s3 := dg_sz (k := c) (by omega)
  have t1 := sz1 45
  have t2 := sz1 46
  have t0 := sz0
  have ba : a ≤ 1000000000000000 := by omega
  have bb : b < 10 := by omega
  have bc : c < 10 := by omega
  clear hk ha hb hc hr
  rcases (Decidable.em (n < 0)) with hn | hn
  all_goals
    have E3 := E2.out
    simp only [hn, if_true, if_false] at E3
    have E3 := Lib.hid E3
    clear E2
    go_enter Tryd.func69, Tryd.ntmps69
    go_wp2_with (first | (go_at_call 94; refine (absI _ _ (by omega) (by omega)).mono ?_; rintro e w1 ⟨rfl, rfl⟩; try rw [ea]) | (go_at_call 81; refine (decIn _ _ (by omega) (T.out.below (by (repeat' (first | (with_reducible exact Below.refl _ _) | (with_reducible assumption) | (with_reducible refine bStep ?_ (by with_reducible assumption)) | (with_reducible refine bAlloc ?_ _) | (with_reducible refine bDrew ?_) | (with_reducible refine bDrewN ?_ _) | (with_reducible refine Below.setCell ?_ ?_ _) | (with_reducible exact Nat.le_refl _) | (simp; done) | (simp; omega)))))).mono ?_; rintro e w1 ⟨rfl, hb1⟩))
    go_ret
    exact ⟨by rw [E3.out]; first | done | rfl, by (repeat' (first | (with_reducible exact Below.refl _ _) | (with_reducible assumption) | (with_reducible refine bStep ?_ (by with_reducible assumption)) | (with_reducible refine bAlloc ?_ _) | (with_reducible refine bDrew ?_) | (with_reducible refine bDrewN ?_ _) | (with_reducible refine Below.setCell ?_ ?_ _) | (with_reducible exact Nat.le_refl _) | (simp; done) | (simp; omega)))⟩
theorem mtI (n : Int) (w : World) (T : Tab w) : Calls Tryd.prog 24 #[.int .i64 n] w fun e w' => e = .returned (.string (mtV n)) ∧ Below w.heap.size w w' := by
  rcases hv : isV n
  · go_enter Tryd.func24, Tryd.ntmps24
    go_wp2_with (go_at_call 68; refine (isI _ _).mono ?_; rintro e w1 ⟨rfl, rfl⟩)
    go_ret
    exact ⟨by simp [mtV, hv], Below.refl _ _⟩
  · have bd := isV_t hv
    have E := Lib.hid (show mtV n = mtx n by simp [mtV, hv])
    go_enter Tryd.func24, Tryd.ntmps24
    go_wp2_with (first | (go_at_call 68; refine (isI _ _).mono ?_; rintro e w1 ⟨rfl, rfl⟩) | (go_at_call 69; refine (mtxI n _ T (by omega)).mono ?_; rintro e w1 ⟨rfl, hb1⟩))
    go_ret
    exact ⟨by rw [E.out]; first | done | rfl, by (repeat' (first | (with_reducible exact Below.refl _ _) | (with_reducible assumption) | (with_reducible refine bStep ?_ (by with_reducible assumption)) | (with_reducible refine bAlloc ?_ _) | (with_reducible refine bDrew ?_) | (with_reducible refine bDrewN ?_ _) | (with_reducible refine Below.setCell ?_ ?_ _) | (with_reducible exact Nat.le_refl _) | (simp; done) | (simp; omega)))⟩
theorem wMetresText {w : World} (a : Int) (_ : -9223372036854775808 ≤ a ∧ a ≤ 9223372036854775807) (T : Tab w) : Calls Tryd.prog 6 #[.int .i64 a] w fun e w' => e = .returned (.bool true) ∧ Below w.heap.size w w' := by
  have T := Lib.hid T
  go_enter Tryd.func6, Tryd.ntmps6
  go_wp2_with (first | (go_at_call 28; refine (mtS _ _).mono ?_; rintro e w1 ⟨rfl, hb1⟩) | (go_at_call 24; refine (mtI _ _ (T.out.below (by (repeat' (first | (with_reducible exact Below.refl _ _) | (with_reducible assumption) | (with_reducible refine bStep ?_ (by with_reducible assumption)) | (with_reducible refine bAlloc ?_ _) | (with_reducible refine bDrew ?_) | (with_reducible refine bDrewN ?_ _) | (with_reducible refine Below.setCell ?_ ?_ _) | (with_reducible exact Nat.le_refl _) | (simp; done) | (simp; omega)))))).mono ?_; rintro e w2 ⟨rfl, hb2⟩))
  go_ret
  exact ⟨rfl, by (repeat' (first | (with_reducible exact Below.refl _ _) | (with_reducible assumption) | (with_reducible refine bStep ?_ (by with_reducible assumption)) | (with_reducible refine bAlloc ?_ _) | (with_reducible refine bDrew ?_) | (with_reducible refine bDrewN ?_ _) | (with_reducible refine Below.setCell ?_ ?_ _) | (with_reducible exact Nat.le_refl _) | (simp; done) | (simp; omega)))⟩
def rtV (a b : Int) : ByteArray := if isRat a b then nm a ++ ⟨#[47]⟩ ++ nm b else ⟨#[]⟩
theorem rat_bd {a b : Int} (h : isRat a b = true) : (-1000000000 ≤ a ∧ a ≤ 1000000000) ∧ 1 ≤ b ∧ b ≤ 1000000000 := by
  unfold isRat at h
  simp only [Bool.and_eq_true] at h
  have h1 := inB_t h.1.1
  have h2 := inB_t h.1.2
  omega
set_option maxHeartbeats 800000 in
theorem rtS (a b : Int) (w : World) : Calls Tryd.prog 22 #[.agg #[.int .i64 a, .int .i64 b]] w fun e w' => e = .returned (.string (rtV a b)) ∧ Below w.heap.size w w' := by
  rcases hv : isRat a b
  · go_enter Tryd.func22, Tryd.ntmps22
    go_wp2_with (first | (go_at_call 60; refine (isRatS _ _ _).mono ?_; rintro e w1 ⟨rfl, hb1⟩; obtain ⟨hc1, hf1⟩ := bcell hb1; have hs1 := hb1.size; (try simp at hs1); (try have hl1 := Nat.lt_of_succ_le hs1); (try have hz1x0 : w.heap.size < w1.heap.size := (by have := hb1.size; (try simp at this); omega)); (try have hn1x0 : ¬ w.heap.size = w1.heap.size := (by omega)); (try have hm1x0 : ¬ w1.heap.size = w.heap.size := (by omega)); (try have c1x00 := hc1 (w.heap.size) 0 (by first | omega | (simp; done) | (simp; omega))); (try have f1x00 := hf1 (w.heap.size) 0 (by first | omega | (simp; done) | (simp; omega))); (try have c1x01 := hc1 (w.heap.size) 1 (by first | omega | (simp; done) | (simp; omega))); (try have f1x01 := hf1 (w.heap.size) 1 (by first | omega | (simp; done) | (simp; omega)))))
    go_ret
    exact ⟨by simp [rtV, hv], by (repeat' (first | (with_reducible exact Below.refl _ _) | (with_reducible assumption) | (with_reducible refine bStep ?_ (by with_reducible assumption)) | (with_reducible refine bAlloc ?_ _) | (with_reducible refine bDrew ?_) | (with_reducible refine bDrewN ?_ _) | (with_reducible refine Below.setCell ?_ ?_ _) | (with_reducible exact Nat.le_refl _) | (simp; done) | (simp; omega)))⟩
  · have bd := rat_bd hv
    have E := Lib.hid (show rtV a b = nm a ++ ⟨#[47]⟩ ++ nm b by simp [rtV, hv])
    obtain ⟨k, rfl⟩ : ∃ k : Nat, b = (k : Int) := ⟨b.toNat, by omega⟩
    have e2 : nm (k : Int) = dg k := by rw [nm_pos (by omega), Int.toNat_natCast]
    rw [e2] at E
    have s1 := nm_sz (n := a) (by omega)
    have s2 := dg_sz (k := k) (by omega)
    have t1 := sz1 47
    have u1 : (nm a).size + (⟨#[47]⟩ : ByteArray).size ≤ 9223372036854775807 := by omega
    have u2 : (nm a ++ ⟨#[47]⟩).size + (dg k).size ≤ 9223372036854775807 := by rw [ByteArray.size_append]; omega
    have u3 : (nm a).size + 1 ≤ 9223372036854775807 := by omega
    have u4 : (nm a).size + 1 + (dg k).size ≤ 9223372036854775807 := by omega
    go_enter Tryd.func22, Tryd.ntmps22
    go_wp2_with (first | (go_at_call 60; refine (isRatS _ _ _).mono ?_; rintro e w1 ⟨rfl, hb1⟩; obtain ⟨hc1, hf1⟩ := bcell hb1; have hs1 := hb1.size; (try simp at hs1); (try have hl1 := Nat.lt_of_succ_le hs1); (try have hz1x0 : w.heap.size < w1.heap.size := (by have := hb1.size; (try simp at this); omega)); (try have hn1x0 : ¬ w.heap.size = w1.heap.size := (by omega)); (try have hm1x0 : ¬ w1.heap.size = w.heap.size := (by omega)); (try have c1x00 := hc1 (w.heap.size) 0 (by first | omega | (simp; done) | (simp; omega))); (try have f1x00 := hf1 (w.heap.size) 0 (by first | omega | (simp; done) | (simp; omega))); (try have c1x01 := hc1 (w.heap.size) 1 (by first | omega | (simp; done) | (simp; omega))); (try have f1x01 := hf1 (w.heap.size) 1 (by first | omega | (simp; done) | (simp; omega)))))
    go_region_with ((first | (go_at_call 65; refine (numS _ _ (by omega)).mono ?_; rintro e w2 ⟨rfl, hb2⟩; obtain ⟨hc2, hf2⟩ := bcell hb2; have hs2 := hb2.size; (try simp at hs2); (try have hl2 := Nat.lt_of_succ_le hs2); (try have hz2x0 : w.heap.size < w2.heap.size := (by have := hb2.size; (try simp at this); omega)); (try have hn2x0 : ¬ w.heap.size = w2.heap.size := (by omega)); (try have hm2x0 : ¬ w2.heap.size = w.heap.size := (by omega)); (try have c2x00 := hc2 (w.heap.size) 0 (by first | omega | (simp; done) | (simp; omega))); (try have f2x00 := hf2 (w.heap.size) 0 (by first | omega | (simp; done) | (simp; omega))); (try have c2x01 := hc2 (w.heap.size) 1 (by first | omega | (simp; done) | (simp; omega))); (try have f2x01 := hf2 (w.heap.size) 1 (by first | omega | (simp; done) | (simp; omega)))) | (go_at_call 66; refine (decSn _ _ (by omega)).mono ?_; rintro e w3 ⟨rfl, hb3⟩; obtain ⟨hc3, hf3⟩ := bcell hb3; have hs3 := hb3.size; (try simp at hs3); (try have hl3 := Nat.lt_of_succ_le hs3); (try have hz3x0 : w.heap.size < w3.heap.size := (by have := hb3.size; (try simp at this); omega)); (try have hn3x0 : ¬ w.heap.size = w3.heap.size := (by omega)); (try have hm3x0 : ¬ w3.heap.size = w.heap.size := (by omega)); (try have c3x00 := hc3 (w.heap.size) 0 (by first | omega | (simp; done) | (simp; omega))); (try have f3x00 := hf3 (w.heap.size) 0 (by first | omega | (simp; done) | (simp; omega))); (try have c3x01 := hc3 (w.heap.size) 1 (by first | omega | (simp; done) | (simp; omega))); (try have f3x01 := hf3 (w.heap.size) 1 (by first | omega | (simp; done) | (simp; omega))))))
    all_goals go_wp2
    all_goals go_ret
    all_goals exact ⟨by rw [E.out]; first | done | rfl, by (repeat' (first | (with_reducible exact Below.refl _ _) | (with_reducible assumption) | (with_reducible refine bStep ?_ (by with_reducible assumption)) | (with_reducible refine bAlloc ?_ _) | (with_reducible refine bDrew ?_) | (with_reducible refine bDrewN ?_ _) | (with_reducible refine Below.setCell ?_ ?_ _) | (with_reducible exact Nat.le_refl _) | (simp; done) | (simp; omega)))⟩
set_option maxHeartbeats 800000 in
theorem rtxI (a b : Int) (w : World) (T : Tab w) (bd : (-1000000000 ≤ a ∧ a ≤ 1000000000) ∧ 1 ≤ b ∧ b ≤ 1000000000) : Calls Tryd.prog 53 #[.agg #[.int .i64 a, .int .i64 b]] w fun e w' => e = .returned (.string (nm a ++ ⟨#[47]⟩ ++ nm b)) ∧ Below w.heap.size w w' := by
  have T := Lib.hid T
  have s1 := nm_sz (n := a) (by omega)
  have s2 := nm_sz (n := b) (by omega)
  have t1 := sz1 47
  have u1 : (nm a).size + (⟨#[47]⟩ : ByteArray).size ≤ 9223372036854775807 := by omega
  have u2 : (nm a ++ ⟨#[47]⟩).size + (nm b).size ≤ 9223372036854775807 := by rw [ByteArray.size_append]; omega
  have u3 : (nm a).size + 1 ≤ 9223372036854775807 := by omega
  have u4 : (nm a).size + 1 + (nm b).size ≤ 9223372036854775807 := by omega
  go_enter Tryd.func53, Tryd.ntmps53
  go_wp2_with fail
  go_region_with ((first | (go_at_call 81; refine (decI _ _ (by omega) (by omega) (T.out.below (by (repeat' (first | (with_reducible exact Below.refl _ _) | (with_reducible assumption) | (with_reducible refine bStep ?_ (by with_reducible assumption)) | (with_reducible refine bAlloc ?_ _) | (with_reducible refine bDrew ?_) | (with_reducible refine bDrewN ?_ _) | (with_reducible refine Below.setCell ?_ ?_ _) | (with_reducible exact Nat.le_refl _) | (simp; done) | (simp; omega)))))).mono ?_; rintro e w2 ⟨rfl, hb2⟩; obtain ⟨hc2, hf2⟩ := bcell hb2; have hs2 := hb2.size; (try simp at hs2); (try have hl2 := Nat.lt_of_succ_le hs2); (try have hz2x0 : w.heap.size < w2.heap.size := (by have := hb2.size; (try simp at this); omega)); (try have hn2x0 : ¬ w.heap.size = w2.heap.size := (by omega)); (try have hm2x0 : ¬ w2.heap.size = w.heap.size := (by omega)); (try have c2x00 := hc2 (w.heap.size) 0 (by first | omega | (simp; done) | (simp; omega))); (try have f2x00 := hf2 (w.heap.size) 0 (by first | omega | (simp; done) | (simp; omega))); (try have c2x01 := hc2 (w.heap.size) 1 (by first | omega | (simp; done) | (simp; omega))); (try have f2x01 := hf2 (w.heap.size) 1 (by first | omega | (simp; done) | (simp; omega))))))
  all_goals go_wp2
  all_goals go_ret
  all_goals exact ⟨rfl, by (repeat' (first | (with_reducible exact Below.refl _ _) | (with_reducible assumption) | (with_reducible refine bStep ?_ (by with_reducible assumption)) | (with_reducible refine bAlloc ?_ _) | (with_reducible refine bDrew ?_) | (with_reducible refine bDrewN ?_ _) | (with_reducible refine Below.setCell ?_ ?_ _) | (with_reducible exact Nat.le_refl _) | (simp; done) | (simp; omega)))⟩
set_option maxHeartbeats 800000 in
theorem rtI (a b : Int) (w : World) (T : Tab w) : Calls Tryd.prog 15 #[.agg #[.int .i64 a, .int .i64 b]] w fun e w' => e = .returned (.string (rtV a b)) ∧ Below w.heap.size w w' := by
  have T := Lib.hid T
  rcases hv : isRat a b
  · go_enter Tryd.func15, Tryd.ntmps15
    go_wp2_with (first | (go_at_call 52; refine (isRatI _ _ _).mono ?_; rintro e w1 ⟨rfl, hb1⟩; obtain ⟨hc1, hf1⟩ := bcell hb1; have hs1 := hb1.size; (try simp at hs1); (try have hl1 := Nat.lt_of_succ_le hs1); (try have hz1x0 : w.heap.size < w1.heap.size := (by have := hb1.size; (try simp at this); omega)); (try have hn1x0 : ¬ w.heap.size = w1.heap.size := (by omega)); (try have hm1x0 : ¬ w1.heap.size = w.heap.size := (by omega)); (try have c1x00 := hc1 (w.heap.size) 0 (by first | omega | (simp; done) | (simp; omega))); (try have f1x00 := hf1 (w.heap.size) 0 (by first | omega | (simp; done) | (simp; omega))); (try have c1x01 := hc1 (w.heap.size) 1 (by first | omega | (simp; done) | (simp; omega))); (try have f1x01 := hf1 (w.heap.size) 1 (by first | omega | (simp; done) | (simp; omega)))))
    go_ret
    exact ⟨by simp [rtV, hv], by (repeat' (first | (with_reducible exact Below.refl _ _) | (with_reducible assumption) | (with_reducible refine bStep ?_ (by with_reducible assumption)) | (with_reducible refine bAlloc ?_ _) | (with_reducible refine bDrew ?_) | (with_reducible refine bDrewN ?_ _) | (with_reducible refine Below.setCell ?_ ?_ _) | (with_reducible exact Nat.le_refl _) | (simp; done) | (simp; omega)))⟩
  · have bd := rat_bd hv
    have E := Lib.hid (show rtV a b = nm a ++ ⟨#[47]⟩ ++ nm b by simp [rtV, hv])
    go_enter Tryd.func15, Tryd.ntmps15
    go_wp2_with (first | (go_at_call 52; refine (isRatI _ _ _).mono ?_; rintro e w1 ⟨rfl, hb1⟩; obtain ⟨hc1, hf1⟩ := bcell hb1; have hs1 := hb1.size; (try simp at hs1); (try have hl1 := Nat.lt_of_succ_le hs1); (try have hz1x0 : w.heap.size < w1.heap.size := (by have := hb1.size; (try simp at this); omega)); (try have hn1x0 : ¬ w.heap.size = w1.heap.size := (by omega)); (try have hm1x0 : ¬ w1.heap.size = w.heap.size := (by omega)); (try have c1x00 := hc1 (w.heap.size) 0 (by first | omega | (simp; done) | (simp; omega))); (try have f1x00 := hf1 (w.heap.size) 0 (by first | omega | (simp; done) | (simp; omega))); (try have c1x01 := hc1 (w.heap.size) 1 (by first | omega | (simp; done) | (simp; omega))); (try have f1x01 := hf1 (w.heap.size) 1 (by first | omega | (simp; done) | (simp; omega)))) | (go_at_call 53; refine (rtxI a b _ (T.out.below (by (repeat' (first | (with_reducible exact Below.refl _ _) | (with_reducible assumption) | (with_reducible refine bStep ?_ (by with_reducible assumption)) | (with_reducible refine bAlloc ?_ _) | (with_reducible refine bDrew ?_) | (with_reducible refine bDrewN ?_ _) | (with_reducible refine Below.setCell ?_ ?_ _) | (with_reducible exact Nat.le_refl _) | (simp; done) | (simp; omega))))) bd).mono ?_; rintro e w2 ⟨rfl, hb2⟩; obtain ⟨hc2, hf2⟩ := bcell hb2; have hs2 := hb2.size; (try simp at hs2); (try have hl2 := Nat.lt_of_succ_le hs2); (try have hz2x0 : w.heap.size < w2.heap.size := (by have := hb2.size; (try simp at this); omega)); (try have hn2x0 : ¬ w.heap.size = w2.heap.size := (by omega)); (try have hm2x0 : ¬ w2.heap.size = w.heap.size := (by omega)); (try have c2x00 := hc2 (w.heap.size) 0 (by first | omega | (simp; done) | (simp; omega))); (try have f2x00 := hf2 (w.heap.size) 0 (by first | omega | (simp; done) | (simp; omega))); (try have c2x01 := hc2 (w.heap.size) 1 (by first | omega | (simp; done) | (simp; omega))); (try have f2x01 := hf2 (w.heap.size) 1 (by first | omega | (simp; done) | (simp; omega)))))
    go_ret
    exact ⟨by rw [E.out]; first | done | rfl, by (repeat' (first | (with_reducible exact Below.refl _ _) | (with_reducible assumption) | (with_reducible refine bStep ?_ (by with_reducible assumption)) | (with_reducible refine bAlloc ?_ _) | (with_reducible refine bDrew ?_) | (with_reducible refine bDrewN ?_ _) | (with_reducible refine Below.setCell ?_ ?_ _) | (with_reducible exact Nat.le_refl _) | (simp; done) | (simp; omega)))⟩
set_option maxHeartbeats 800000 in
theorem wRatioText {w : World} (a b : Int) (_ : -9223372036854775808 ≤ a ∧ a ≤ 9223372036854775807) (_ : -9223372036854775808 ≤ b ∧ b ≤ 9223372036854775807) (T : Tab w) : Calls Tryd.prog 7 #[.agg #[.int .i64 a, .int .i64 b]] w fun e w' => e = .returned (.bool true) ∧ Below w.heap.size w w' := by
  have T := Lib.hid T
  go_enter Tryd.func7, Tryd.ntmps7
  go_wp2_with (first | (go_at_call 34; refine (toRat _ _ _).mono ?_; rintro e w1 ⟨rfl, hb1⟩; obtain ⟨hc1, hf1⟩ := bcell hb1; have hs1 := hb1.size; (try simp at hs1); (try have hl1 := Nat.lt_of_succ_le hs1); (try have hz1x0 : w.heap.size < w1.heap.size := (by have := hb1.size; (try simp at this); omega)); (try have hn1x0 : ¬ w.heap.size = w1.heap.size := (by omega)); (try have hm1x0 : ¬ w1.heap.size = w.heap.size := (by omega)); (try have c1x00 := hc1 (w.heap.size) 0 (by first | omega | (simp; done) | (simp; omega))); (try have f1x00 := hf1 (w.heap.size) 0 (by first | omega | (simp; done) | (simp; omega))); (try have c1x01 := hc1 (w.heap.size) 1 (by first | omega | (simp; done) | (simp; omega))); (try have f1x01 := hf1 (w.heap.size) 1 (by first | omega | (simp; done) | (simp; omega)))) | (go_at_call 22; refine (rtS _ _ _).mono ?_; rintro e w2 ⟨rfl, hb2⟩; obtain ⟨hc2, hf2⟩ := bcell hb2; have hs2 := hb2.size; (try simp at hs2); (try have hl2 := Nat.lt_of_succ_le hs2); (try have hz2x0 : w.heap.size < w2.heap.size := (by have := hb2.size; (try simp at this); omega)); (try have hn2x0 : ¬ w.heap.size = w2.heap.size := (by omega)); (try have hm2x0 : ¬ w2.heap.size = w.heap.size := (by omega)); (try have c2x00 := hc2 (w.heap.size) 0 (by first | omega | (simp; done) | (simp; omega))); (try have f2x00 := hf2 (w.heap.size) 0 (by first | omega | (simp; done) | (simp; omega))); (try have c2x01 := hc2 (w.heap.size) 1 (by first | omega | (simp; done) | (simp; omega))); (try have f2x01 := hf2 (w.heap.size) 1 (by first | omega | (simp; done) | (simp; omega)))) | (go_at_call 15; refine (rtI _ _ _ (T.out.below (by (repeat' (first | (with_reducible exact Below.refl _ _) | (with_reducible assumption) | (with_reducible refine bStep ?_ (by with_reducible assumption)) | (with_reducible refine bAlloc ?_ _) | (with_reducible refine bDrew ?_) | (with_reducible refine bDrewN ?_ _) | (with_reducible refine Below.setCell ?_ ?_ _) | (with_reducible exact Nat.le_refl _) | (simp; done) | (simp; omega)))))).mono ?_; rintro e w3 ⟨rfl, hb3⟩; obtain ⟨hc3, hf3⟩ := bcell hb3; have hs3 := hb3.size; (try simp at hs3); (try have hl3 := Nat.lt_of_succ_le hs3); (try have hz3x0 : w.heap.size < w3.heap.size := (by have := hb3.size; (try simp at this); omega)); (try have hn3x0 : ¬ w.heap.size = w3.heap.size := (by omega)); (try have hm3x0 : ¬ w3.heap.size = w.heap.size := (by omega)); (try have c3x00 := hc3 (w.heap.size) 0 (by first | omega | (simp; done) | (simp; omega))); (try have f3x00 := hf3 (w.heap.size) 0 (by first | omega | (simp; done) | (simp; omega))); (try have c3x01 := hc3 (w.heap.size) 1 (by first | omega | (simp; done) | (simp; omega))); (try have f3x01 := hf3 (w.heap.size) 1 (by first | omega | (simp; done) | (simp; omega)))))
  go_ret
  exact ⟨rfl, by (repeat' (first | (with_reducible exact Below.refl _ _) | (with_reducible assumption) | (with_reducible refine bStep ?_ (by with_reducible assumption)) | (with_reducible refine bAlloc ?_ _) | (with_reducible refine bDrew ?_) | (with_reducible refine bDrewN ?_ _) | (with_reducible refine Below.setCell ?_ ?_ _) | (with_reducible exact Nat.le_refl _) | (simp; done) | (simp; omega)))⟩
end Go.Proofs.YtgnpbgknmapejaaDoor
