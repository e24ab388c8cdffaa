/- The law on histories. -/
import Derived.Test.YtgnpbgknmapejaaDoorDrawH
import Derived.Test.YtgnpbgknmapejaaDoorWRdH
import Derived.Test.YtgnpbgknmapejaaDoorHist
import Derived.Test.YtgnpbgknmapejaaDoorDice
namespace Go.Proofs.YtgnpbgknmapejaaDoor
open Go.RowKit
set_option linter.unusedVariables false

theorem bl_append (a b : ByteArray) : bl (a ++ b) = bl a ++ bl b := by unfold bl; rw [ByteArray.data_append, Array.toList_append]
theorem piece_hd {x : Int} (h : 1 ≤ x ∧ x ≤ 4) : (bl (piece x)).map hd = [x] := by
  rcases (by omega : x = 1 ∨ x = 2 ∨ x = 3 ∨ x = 4) with rfl | rfl | rfl | rfl <;> decide
theorem hd_piece {b : UInt8} (h : ¬ hd b = 0) : bl (piece (hd b)) = [b] := by
  by_cases h1 : b = 99
  · subst h1; decide
  by_cases h2 : b = 116
  · subst h2; decide
  by_cases h3 : b = 115
  · subst h3; decide
  by_cases h4 : b = 98
  · subst h4; decide
  have n1 : ¬ b.toNat = 99 := fun h => h1 (UInt8.toNat_inj.1 h)
  have n2 : ¬ b.toNat = 116 := fun h => h2 (UInt8.toNat_inj.1 h)
  have n3 : ¬ b.toNat = 115 := fun h => h3 (UInt8.toNat_inj.1 h)
  have n4 : ¬ b.toNat = 98 := fun h => h4 (UInt8.toNat_inj.1 h)
  exact absurd (by unfold hd; rw [if_neg n1, if_neg n2, if_neg n3, if_neg n4]) h
theorem htB_in {xs : List Int} (h : htB xs = true) : ∀ x ∈ xs, 1 ≤ x ∧ x ≤ 4 := by
  intro x hx
  unfold htB at h
  rw [Bool.and_eq_true] at h
  have := List.all_eq_true.1 h.1 x hx
  exact inB_t this
theorem htx_hd {xs : List Int} (h : ∀ x ∈ xs, 1 ≤ x ∧ x ≤ 4) : ∀ k, k ≤ xs.length → (bl (htx xs k)).map hd = xs.take k
  | 0, _ => by simp [htx, bl]
  | k + 1, hk => by
    have hx : xs[k]? = some (xs[k]'(by omega)) := List.getElem?_eq_getElem (by omega)
    rw [htx_step hx, bl_append, List.map_append, htx_hd h k (by omega), piece_hd (h _ (List.getElem_mem _)), take_step hx]
theorem htx_bl {l : List UInt8} (h : ∀ b ∈ l, ¬ hd b = 0) : ∀ k, k ≤ l.length → bl (htx (l.map hd) k) = l.take k
  | 0, _ => by simp [htx, bl]
  | k + 1, hk => by
    have hx : l[k]? = some (l[k]'(by omega)) := List.getElem?_eq_getElem (by omega)
    have hy : (l.map hd)[k]? = some (hd (l[k]'(by omega))) := by rw [List.getElem?_map, hx]; rfl
    rw [htx_step hy, bl_append, htx_bl h k (by omega), hd_piece (h _ (List.getElem_mem _)), take_step hx]
theorem ht_round (xs : List Int) : hOk (bl (htV xs)) = true ∧ ((htV xs).toList.isEmpty = false → rhL (bl (htV xs)) = xs) := by
  rcases hB : htB xs
  · have e : htV xs = { data := #[] } := by simp [htV, hB]
    rw [e]
    refine ⟨rfl, fun h => ?_⟩
    rw [ByteArray.toList_eq] at h
    cases h
  · have e : htV xs = htx xs xs.length := by simp [htV, hB]
    have hl : xs.length ≤ 100 := by
      have h := hB
      unfold htB at h
      rw [Bool.and_eq_true] at h
      have := of_decide_eq_true h.2
      omega
    have hm := htx_hd (htB_in hB) xs.length (Nat.le_refl _)
    rw [List.take_length] at hm
    rw [e]
    have ho : hOk (bl (htx xs xs.length)) = true := by
      refine hOk_yes (fun b hb h0 => ?_) ?_
      · have : hd b ∈ xs := by rw [← hm]; exact List.mem_map_of_mem hb
        have := htB_in hB _ this
        omega
      · have := congrArg List.length hm
        rw [List.length_map] at this
        omega
    refine ⟨ho, fun _ => ?_⟩
    rw [rhL, if_pos ho]
    exact hm
theorem rh_round {s : ByteArray} (h : hOk (bl s) = true) : htV (rhL (bl s)) = s := by
  have h' := h
  unfold hOk at h'
  rw [Bool.and_eq_true] at h'
  have hA : ∀ b ∈ bl s, ¬ hd b = 0 := fun b hb => by simpa using List.all_eq_true.1 h'.1 b hb
  have hl : (bl s).length ≤ 100 := of_decide_eq_true h'.2
  have hB : htB ((bl s).map hd) = true := by
    unfold htB
    rw [Bool.and_eq_true]
    refine ⟨List.all_eq_true.2 fun x hx => ?_, decide_eq_true (by rw [List.length_map]; omega)⟩
    obtain ⟨b, hb, rfl⟩ := List.mem_map.1 hx
    have := hd_rng b
    have := hA b hb
    exact inB_mk (by omega)
  rw [rhL, if_pos h, htV, if_pos hB]
  refine bytes_eq.2 ?_
  have := htx_bl hA (bl s).length (Nat.le_refl _)
  rw [List.take_length] at this
  rw [List.length_map]
  exact this
theorem likeIL {w : World} {A B : Option Addr} {n m : Nat} {xs ys : List Int} (H : Ints .i64 w A n xs) (K : Ints .i64 w B m ys) (c d : Nat) :
    Calls Tryd.prog 49 #[.slice A n c, .slice B m d] w fun e w' => e = .returned (.bool (xs == ys)) ∧ ∃ q, w' = w.drewN q := by
  have hn := H.le
  have hm := K.le
  by_cases hnm : n = m
  · subst hnm
    have h0 : ((n : Int) != (n : Int)) = false := by simp
    go_enter Tryd.func49, Tryd.ntmps49
    go_wp2
    go_loopw [5] (fun i wr => ∃ k : Nat, k ≤ n ∧ i = .int .i64 k ∧ Hid (xs.take k = ys.take k) ∧ ∃ q, wr = w.drewN q) (fun i _ => n - (intOf i).toNat)
    case atStart => exact ⟨0, Nat.zero_le _, rfl, by simp [Hid], 0, rfl⟩
    case round =>
      obtain ⟨k, hk, rfl, HA, q, rfl⟩ := hrel
      by_cases hlt : k < n
      · obtain ⟨b, off, x, rfl, hb, hc, HX, hw⟩ := H.at_ hlt
        obtain ⟨b', off', y, rfl, hb', hc', HY, hw'⟩ := K.at_ hlt
        by_cases hxy : x = y
        · subst hxy
          have e1 : (x != x) = false := by simp
          go_wp2
          go_quiet (fail)
          go_wp2
          go_roundw
          case rel => exact ⟨k + 1, by omega, by go_num, (by rw [take_step HX.out, take_step HY.out, HA.out]; exact rfl), q + nq, by first | rfl | exact World.drewN_drewN _ _ _⟩
          case measure => simp [intOf]; omega
        · have HN : Hid (¬ x = y) := hxy
          have e1 : (x != y) = true := by simpa using hxy
          clear hxy
          go_wp2
          go_quiet (fail)
          go_wp2
          go_ret
          exact ⟨ret_b (by
            symm
            rw [beq_eq_false_iff_ne]
            intro e
            have h1 := HX.out
            rw [e, HY.out] at h1
            exact HN.out (by injection h1 with h1; exact h1.symm)), q + nq, by first | rfl | exact World.drewN_drewN _ _ _⟩
      · obtain rfl : k = n := by omega
        go_wp2
        go_ret
        exact ⟨ret_b (by
          have h1 := HA.out
          rw [List.take_of_length_le (by rw [H.len]; omega), List.take_of_length_le (by rw [K.len]; omega)] at h1
          simp [h1]), _, rfl⟩
  · have h0 : ((n : Int) != (m : Int)) = true := by simp; omega
    go_enter Tryd.func49, Tryd.ntmps49
    go_wp2
    go_ret
    exact ⟨ret_b (by
      symm
      rw [beq_eq_false_iff_ne]
      intro e
      have h1 := H.len
      rw [e, K.len] at h1
      exact hnm h1.symm), 0, rfl⟩
set_option maxHeartbeats 800000 in
set_option maxRecDepth 20000 in
theorem wHistories {w : World} (A : Option Addr) (n c : Nat) (zs : List Int) (H : Ints .u8 w A n zs) (E : True) :
    Calls Tryd.prog 12 #[.slice A n c] w fun e w' => e = .returned (.bool true) ∧ Below w.heap.size w w' := by
  have hn := H.le
  by_cases hb : (4096 : Int) < (n : Int)
  · go_enter Tryd.func12, Tryd.ntmps12
    go_wp2_with (first | (go_at_call 13; refine (bigL _ _ _ _).mono ?_; rintro e w' ⟨rfl, rfl⟩))
    go_ret
    exact ⟨rfl, Below.refl _ _⟩
  go_enter Tryd.func12, Tryd.ntmps12
  go_wp2_with (first | (go_at_call 13; refine (bigL _ _ _ _).mono ?_; rintro e w' ⟨rfl, rfl⟩))
  refine (drHistoryText H c).mono ?_
  rintro e w1 ⟨A1, n1, c1, xs, rfl, ⟨hn1, I1⟩, hb1⟩
  have sz := htV_sz xs
  have RD := Lib.hid (ht_round xs)
  have HS : Hid (∀ w0 : World, Below w1.heap.size w1 w0 → Calls Tryd.prog 48 #[.slice A1 n1 c1] w0 fun e w' => e = .returned (.string (htV xs)) ∧ ∃ q, w' = w0.drewN q) := fun w0 h => htS_ (I1.below h) c1
  have HI : Hid (∀ w0 : World, Below w1.heap.size w1 w0 → Calls Tryd.prog 46 #[.slice A1 n1 c1] w0 fun e w' => e = .returned (.string (htV xs)) ∧ ∃ q, w' = w0.drewN q) := fun w0 h => htI_ (I1.below h) c1
  obtain ⟨t, ht⟩ : ∃ t, htV xs = t := ⟨_, rfl⟩
  rw [ht] at sz RD HS HI
  clear ht
  go_wp2_with fail
  refine (HI.out _ (Below.refl _ _)).mono ?_
  rintro e w2 ⟨rfl, q2, rfl⟩
  go_wp2_with fail
  refine (rhI t _ (by omega)).mono ?_
  rintro e w3 ⟨A3, n3, c3, rfl, O3, hb3⟩
  have hs3 := hb3.size
  have J3 := Lib.hid (Ints.of_own O3 (by have h := O3.1; have := rhL_len (bl t); simp at h; omega) (rhL_wf (bl t)))
  clear O3
  have HK := RD.out.1
  rw [HK]
  have HX := Lib.hid RD.out.2
  obtain ⟨L1, hL1⟩ : ∃ L, rhL (bl t) = L := ⟨_, rfl⟩
  rw [hL1] at J3 HX
  clear hL1 HK RD
  go_wp2_with fail
  refine (drReadHistory (H.below (by (repeat' (first | (with_reducible exact Below.refl _ _) | (with_reducible assumption) | (with_reducible refine bStep ?_ (by with_reducible assumption)) | (with_reducible refine bAlloc ?_ _) | (with_reducible refine bDrew ?_) | (with_reducible refine bDrewN ?_ _) | (with_reducible refine Below.setCell ?_ ?_ _) | (with_reducible exact Nat.le_refl _) | (simp; done) | (simp; omega))))) c).mono ?_
  rintro e w4 ⟨r, rfl, hr, hb4⟩
  have RR := Lib.hid (rh_round (s := r))
  have KI := Lib.hid (fun w0 => rhI r w0 (by omega))
  have KS := Lib.hid (fun w0 => rhS r w0 (by omega))
  have hl5 := Lib.hid (rhL_len (bl r))
  have hw5 := Lib.hid (rhL_wf (bl r))
  unfold RH at KI KS
  obtain ⟨L2, hL2⟩ : ∃ L, rhL (bl r) = L := ⟨_, rfl⟩
  obtain ⟨q, hq⟩ : ∃ q, hOk (bl r) = q := ⟨_, rfl⟩
  rw [hL2, hq] at RR
  rw [hL2] at hl5 hw5
  simp only [hL2, hq] at KI KS
  clear hL2 hq
  have q0 : (q != q) = false := by simp
  go_wp2_with fail
  refine (KI.out _).mono ?_
  rintro e w5 ⟨A5, n5, c5, rfl, O5, hb5⟩
  have hs5 := hb5.size
  have J5 := Lib.hid (Ints.of_own O5 (by have h := O5.1; have := hl5.out; simp at h; omega) hw5.out)
  clear O5
  go_wp2_with fail
  refine (KS.out _).mono ?_
  rintro e w6 ⟨A6, n6, c6, rfl, O6, hb6⟩
  have hs6 := hb6.size
  have J6 := Lib.hid (Ints.of_own O6 (by have h := O6.1; have := hl5.out; simp at h; omega) hw5.out)
  clear O6 KI KS
  have E0 := beq_yes (rfl : t = t)
  have E1 := beq_yes (rfl : r = r)
  have l2 : (L2 == L2) = true := by simp
  have l1 : (xs == xs) = true := by simp
  rcases hT : t.toList.isEmpty <;> rcases q
  · have eL := HX.out hT
    subst eL
    clear HX RR
    go_wp2_with fail
    refine (HS.out _ (by (repeat' (first | (with_reducible exact Below.refl _ _) | (with_reducible assumption) | (with_reducible refine bStep ?_ (by with_reducible assumption)) | (with_reducible refine bAlloc ?_ _) | (with_reducible refine bDrew ?_) | (with_reducible refine bDrewN ?_ _) | (with_reducible refine Below.setCell ?_ ?_ _) | (with_reducible exact Nat.le_refl _) | (simp; done) | (simp; omega))))).mono ?_
    rintro e w7 ⟨rfl, q7, rfl⟩
    go_wp2_with fail
    refine (likeIL (J3.out.below (by (repeat' (first | (with_reducible exact Below.refl _ _) | (with_reducible assumption) | (with_reducible refine bStep ?_ (by with_reducible assumption)) | (with_reducible refine bAlloc ?_ _) | (with_reducible refine bDrew ?_) | (with_reducible refine bDrewN ?_ _) | (with_reducible refine Below.setCell ?_ ?_ _) | (with_reducible exact Nat.le_refl _) | (simp; done) | (simp; omega))))) (I1.below (by (repeat' (first | (with_reducible exact Below.refl _ _) | (with_reducible assumption) | (with_reducible refine bStep ?_ (by with_reducible assumption)) | (with_reducible refine bAlloc ?_ _) | (with_reducible refine bDrew ?_) | (with_reducible refine bDrewN ?_ _) | (with_reducible refine Below.setCell ?_ ?_ _) | (with_reducible exact Nat.le_refl _) | (simp; done) | (simp; omega))))) _ _).mono ?_
    rintro e w8 ⟨rfl, q8, rfl⟩
    go_wp2_with fail
    refine (likeIL (J5.out.below (by (repeat' (first | (with_reducible exact Below.refl _ _) | (with_reducible assumption) | (with_reducible refine bStep ?_ (by with_reducible assumption)) | (with_reducible refine bAlloc ?_ _) | (with_reducible refine bDrew ?_) | (with_reducible refine bDrewN ?_ _) | (with_reducible refine Below.setCell ?_ ?_ _) | (with_reducible exact Nat.le_refl _) | (simp; done) | (simp; omega))))) (J6.out.below (by (repeat' (first | (with_reducible exact Below.refl _ _) | (with_reducible assumption) | (with_reducible refine bStep ?_ (by with_reducible assumption)) | (with_reducible refine bAlloc ?_ _) | (with_reducible refine bDrew ?_) | (with_reducible refine bDrewN ?_ _) | (with_reducible refine Below.setCell ?_ ?_ _) | (with_reducible exact Nat.le_refl _) | (simp; done) | (simp; omega))))) _ _).mono ?_
    rintro e w9 ⟨rfl, q9, rfl⟩
    go_wp2_with fail
    go_ret
    exact ⟨by first | rfl | (simp; done), by (repeat' (first | (with_reducible exact Below.refl _ _) | (with_reducible assumption) | (with_reducible refine bStep ?_ (by with_reducible assumption)) | (with_reducible refine bAlloc ?_ _) | (with_reducible refine bDrew ?_) | (with_reducible refine bDrewN ?_ _) | (with_reducible refine Below.setCell ?_ ?_ _) | (with_reducible exact Nat.le_refl _) | (simp; done) | (simp; omega)))⟩
  · have eL := HX.out hT
    subst eL
    have eR := RR.out rfl
    clear HX RR
    go_wp2_with fail
    refine (HS.out _ (by (repeat' (first | (with_reducible exact Below.refl _ _) | (with_reducible assumption) | (with_reducible refine bStep ?_ (by with_reducible assumption)) | (with_reducible refine bAlloc ?_ _) | (with_reducible refine bDrew ?_) | (with_reducible refine bDrewN ?_ _) | (with_reducible refine Below.setCell ?_ ?_ _) | (with_reducible exact Nat.le_refl _) | (simp; done) | (simp; omega))))).mono ?_
    rintro e w7 ⟨rfl, q7, rfl⟩
    go_wp2_with fail
    refine (likeIL (J3.out.below (by (repeat' (first | (with_reducible exact Below.refl _ _) | (with_reducible assumption) | (with_reducible refine bStep ?_ (by with_reducible assumption)) | (with_reducible refine bAlloc ?_ _) | (with_reducible refine bDrew ?_) | (with_reducible refine bDrewN ?_ _) | (with_reducible refine Below.setCell ?_ ?_ _) | (with_reducible exact Nat.le_refl _) | (simp; done) | (simp; omega))))) (I1.below (by (repeat' (first | (with_reducible exact Below.refl _ _) | (with_reducible assumption) | (with_reducible refine bStep ?_ (by with_reducible assumption)) | (with_reducible refine bAlloc ?_ _) | (with_reducible refine bDrew ?_) | (with_reducible refine bDrewN ?_ _) | (with_reducible refine Below.setCell ?_ ?_ _) | (with_reducible exact Nat.le_refl _) | (simp; done) | (simp; omega))))) _ _).mono ?_
    rintro e w8 ⟨rfl, q8, rfl⟩
    go_wp2_with fail
    refine (likeIL (J5.out.below (by (repeat' (first | (with_reducible exact Below.refl _ _) | (with_reducible assumption) | (with_reducible refine bStep ?_ (by with_reducible assumption)) | (with_reducible refine bAlloc ?_ _) | (with_reducible refine bDrew ?_) | (with_reducible refine bDrewN ?_ _) | (with_reducible refine Below.setCell ?_ ?_ _) | (with_reducible exact Nat.le_refl _) | (simp; done) | (simp; omega))))) (J6.out.below (by (repeat' (first | (with_reducible exact Below.refl _ _) | (with_reducible assumption) | (with_reducible refine bStep ?_ (by with_reducible assumption)) | (with_reducible refine bAlloc ?_ _) | (with_reducible refine bDrew ?_) | (with_reducible refine bDrewN ?_ _) | (with_reducible refine Below.setCell ?_ ?_ _) | (with_reducible exact Nat.le_refl _) | (simp; done) | (simp; omega))))) _ _).mono ?_
    rintro e w9 ⟨rfl, q9, rfl⟩
    go_wp2_with fail
    refine (htI_ (J5.out.below (by (repeat' (first | (with_reducible exact Below.refl _ _) | (with_reducible assumption) | (with_reducible refine bStep ?_ (by with_reducible assumption)) | (with_reducible refine bAlloc ?_ _) | (with_reducible refine bDrew ?_) | (with_reducible refine bDrewN ?_ _) | (with_reducible refine Below.setCell ?_ ?_ _) | (with_reducible exact Nat.le_refl _) | (simp; done) | (simp; omega))))) _).mono ?_
    rintro e w10 ⟨rfl, q10, rfl⟩
    rw [eR]
    go_wp2_with fail
    go_ret
    exact ⟨by first | rfl | (simp; done), by (repeat' (first | (with_reducible exact Below.refl _ _) | (with_reducible assumption) | (with_reducible refine bStep ?_ (by with_reducible assumption)) | (with_reducible refine bAlloc ?_ _) | (with_reducible refine bDrew ?_) | (with_reducible refine bDrewN ?_ _) | (with_reducible refine Below.setCell ?_ ?_ _) | (with_reducible exact Nat.le_refl _) | (simp; done) | (simp; omega)))⟩
  · clear HX RR
    go_wp2_with fail
    refine (HS.out _ (by (repeat' (first | (with_reducible exact Below.refl _ _) | (with_reducible assumption) | (with_reducible refine bStep ?_ (by with_reducible assumption)) | (with_reducible refine bAlloc ?_ _) | (with_reducible refine bDrew ?_) | (with_reducible refine bDrewN ?_ _) | (with_reducible refine Below.setCell ?_ ?_ _) | (with_reducible exact Nat.le_refl _) | (simp; done) | (simp; omega))))).mono ?_
    rintro e w7 ⟨rfl, q7, rfl⟩
    go_wp2_with fail
    refine (likeIL (J5.out.below (by (repeat' (first | (with_reducible exact Below.refl _ _) | (with_reducible assumption) | (with_reducible refine bStep ?_ (by with_reducible assumption)) | (with_reducible refine bAlloc ?_ _) | (with_reducible refine bDrew ?_) | (with_reducible refine bDrewN ?_ _) | (with_reducible refine Below.setCell ?_ ?_ _) | (with_reducible exact Nat.le_refl _) | (simp; done) | (simp; omega))))) (J6.out.below (by (repeat' (first | (with_reducible exact Below.refl _ _) | (with_reducible assumption) | (with_reducible refine bStep ?_ (by with_reducible assumption)) | (with_reducible refine bAlloc ?_ _) | (with_reducible refine bDrew ?_) | (with_reducible refine bDrewN ?_ _) | (with_reducible refine Below.setCell ?_ ?_ _) | (with_reducible exact Nat.le_refl _) | (simp; done) | (simp; omega))))) _ _).mono ?_
    rintro e w9 ⟨rfl, q9, rfl⟩
    go_wp2_with fail
    go_ret
    exact ⟨by first | rfl | (simp; done), by (repeat' (first | (with_reducible exact Below.refl _ _) | (with_reducible assumption) | (with_reducible refine bStep ?_ (by with_reducible assumption)) | (with_reducible refine bAlloc ?_ _) | (with_reducible refine bDrew ?_) | (with_reducible refine bDrewN ?_ _) | (with_reducible refine Below.setCell ?_ ?_ _) | (with_reducible exact Nat.le_refl _) | (simp; done) | (simp; omega)))⟩
  · have eR := RR.out rfl
    clear HX RR
    go_wp2_with fail
    refine (HS.out _ (by (repeat' (first | (with_reducible exact Below.refl _ _) | (with_reducible assumption) | (with_reducible refine bStep ?_ (by with_reducible assumption)) | (with_reducible refine bAlloc ?_ _) | (with_reducible refine bDrew ?_) | (with_reducible refine bDrewN ?_ _) | (with_reducible refine Below.setCell ?_ ?_ _) | (with_reducible exact Nat.le_refl _) | (simp; done) | (simp; omega))))).mono ?_
    rintro e w7 ⟨rfl, q7, rfl⟩
    go_wp2_with fail
    refine (likeIL (J5.out.below (by (repeat' (first | (with_reducible exact Below.refl _ _) | (with_reducible assumption) | (with_reducible refine bStep ?_ (by with_reducible assumption)) | (with_reducible refine bAlloc ?_ _) | (with_reducible refine bDrew ?_) | (with_reducible refine bDrewN ?_ _) | (with_reducible refine Below.setCell ?_ ?_ _) | (with_reducible exact Nat.le_refl _) | (simp; done) | (simp; omega))))) (J6.out.below (by (repeat' (first | (with_reducible exact Below.refl _ _) | (with_reducible assumption) | (with_reducible refine bStep ?_ (by with_reducible assumption)) | (with_reducible refine bAlloc ?_ _) | (with_reducible refine bDrew ?_) | (with_reducible refine bDrewN ?_ _) | (with_reducible refine Below.setCell ?_ ?_ _) | (with_reducible exact Nat.le_refl _) | (simp; done) | (simp; omega))))) _ _).mono ?_
    rintro e w9 ⟨rfl, q9, rfl⟩
    go_wp2_with fail
    refine (htI_ (J5.out.below (by (repeat' (first | (with_reducible exact Below.refl _ _) | (with_reducible assumption) | (with_reducible refine bStep ?_ (by with_reducible assumption)) | (with_reducible refine bAlloc ?_ _) | (with_reducible refine bDrew ?_) | (with_reducible refine bDrewN ?_ _) | (with_reducible refine Below.setCell ?_ ?_ _) | (with_reducible exact Nat.le_refl _) | (simp; done) | (simp; omega))))) _).mono ?_
    rintro e w10 ⟨rfl, q10, rfl⟩
    rw [eR]
    go_wp2_with fail
    go_ret
    exact ⟨by first | rfl | (simp; done), by (repeat' (first | (with_reducible exact Below.refl _ _) | (with_reducible assumption) | (with_reducible refine bStep ?_ (by with_reducible assumption)) | (with_reducible refine bAlloc ?_ _) | (with_reducible refine bDrew ?_) | (with_reducible refine bDrewN ?_ _) | (with_reducible refine Below.setCell ?_ ?_ _) | (with_reducible exact Nat.le_refl _) | (simp; done) | (simp; omega)))⟩
end Go.Proofs.YtgnpbgknmapejaaDoor
