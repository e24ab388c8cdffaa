/- Reading a profile: marking and looking through a profile that the call owns; the walk of the exact law. -/
import Derived.Test.YtgnpbgknmapejaaDoorRpI
import Derived.Test.YtgnpbgknmapejaaDoorProf
import Derived.Test.YtgnpbgknmapejaaDoorMark
import Derived.Deep.RegionHeld3
import Derived.Laws.StructEq
namespace Go.Proofs.YtgnpbgknmapejaaDoor
open Go.RowKit
set_option linter.unusedVariables false

section
variable {B : Nat} {w w' : World} {v u : Value} {xs ys zs : List Int}
theorem Two.mark {n : Nat} (h : Two B w v u xs ys) (hB : B ≤ w.heap.size) (hz : zs.length = n) (hown : w'.ownsRow B 2 1 v n (zs.map (Value.int .i64))) (hgrow : w.grownBy w' v.ownBlock) : Two B w' v u zs ys ∧ Below B w w' ∧ ∀ b j, b < w.heap.size → (∀ k, v.ownBlock = some k → ¬ k = b) → w'.cell? ⟨b, j, none⟩ = w.cell? ⟨b, j, none⟩ := by
  subst hz
  have hu : u.ownBlock ≠ v.ownBlock ∨ u.ownBlock = none := by
    rcases h.ne with e | e
    · exact .inl (Ne.symm e)
    · exact .inr e
  refine ⟨⟨hown, tw_keep h.two hgrow hu, h.ne⟩, below_grown hgrow hB (fun k e => (tw_lt h.one k e).1), ?_⟩
  intro b j hb hk
  refine World.cell?_of_block (a := ⟨b, j, none⟩) (hgrow.block b hb (fun e => ?_))
  exact hk b e.symm rfl
end
theorem markO2 {w : World} {B n c k kk : Nat} {A : Option Addr} {xs : List Int} (O : w.ownsRow B 2 1 (.slice A n c) n (xs.map (Value.int .i64))) (hkk : kk = k + n) (hn : n ≤ 1000) (hk : k ≤ 1000) :
    Calls Tryd.prog 38 #[.slice A n c, .int .i64 k] w fun e w' => e = .returned (.int .i64 (kk : Int)) ∧ w'.ownsRow B 2 1 (.slice A n c) n ((marks k n).map (Value.int .i64)) ∧ w.grownBy w' (Value.ownBlock (.slice A n c)) := by
  subst hkk
  exact markO O (by omega) (by omega)
theorem heldL2 {w : World} {A : Option Addr} {n c k kk : Nat} (H : Ints .i64 w A n (marks k n)) (hkk : kk = k + n) (hn : n ≤ 1000) (hk : k ≤ 1000) :
    Calls Tryd.prog 39 #[.slice A n c, .int .i64 k] w fun e w' => e = .returned (.int .i64 (kk : Int)) ∧ Below w.heap.size w w' := by
  subst hkk
  refine (heldL H (by omega) (by omega)).mono ?_
  rintro e w' ⟨rfl, q, rfl⟩
  exact ⟨rfl, below_drewN (Below.refl _ _) q⟩
def MkP (B n m c d : Nat) (A D : Option Addr) (w : World) (e : Ending) (w' : World) : Prop := e = .returned (.int .i64 ((1 + n + m : Nat) : Int)) ∧ Two B w' (.slice A n c) (.slice D m d) (marks 1 n) (marks (1 + n) m) ∧ Below B w w' ∧ ∀ b j, b < w.heap.size → (∀ k, (Value.slice A n c).ownBlock = some k → ¬ k = b) → (∀ k, (Value.slice D m d).ownBlock = some k → ¬ k = b) → w'.cell? ⟨b, j, none⟩ = w.cell? ⟨b, j, none⟩
set_option maxHeartbeats 1600000 in
theorem markPf {w : World} {B n m c d : Nat} {A D : Option Addr} {xs ys : List Int} (T : Two B w (.slice A n c) (.slice D m d) xs ys) (hB : B ≤ w.heap.size) (hx : xs.length = n) (hy : ys.length = m) (hn : n ≤ 12) (hm : m ≤ 12) :
    Calls Tryd.prog 32 #[.agg #[.slice A n c, .slice D m d], .int .i64 1] w (MkP B n m c d A D w) := by
  have O1 := Lib.hid (fun q (e : (Value.slice A n c).ownBlock = some q) => (tw_lt T.one q e).2)
  have O2 := Lib.hid (fun q (e : (Value.slice D m d).ownBlock = some q) => (tw_lt T.two q e).2)
  have HT := Lib.hid (T.below (w' := w.alloc (.cells #[.slice A n c, .slice D m d] 41)) ((Below.refl _ _).alloc (Nat.le_refl _) _))
  clear T
  go_enter Tryd.func32, Tryd.ntmps32
  go_wp2_with fail
  refine (markO2 (k := 1) (own_len HT.out.one hx) rfl (by omega) (by omega)).mono ?_
  rintro e w1 ⟨rfl, h1, h2⟩
  obtain ⟨M1, M2, M3⟩ := HT.out.mark (by simp; omega) (marks_len 1 n) h1 h2
  have hz1 := M2.size
  simp at hz1
  have p1 : w1.cell? ⟨w.heap.size, 1, none⟩ = some (.slice D m d) := (M3 w.heap.size 1 (by simp) (fun k e h => by have := O1.out k e; omega)).trans (by simp)
  have p0 : w1.cell? ⟨w.heap.size, 0, none⟩ = some (.slice A n c) := (M3 w.heap.size 0 (by simp) (fun k e h => by have := O1.out k e; omega)).trans (by simp)
  have HM := Lib.hid M1
  have HC := Lib.hid M3
  have BM := Lib.hid M2
  obtain ⟨kk, hkk⟩ : ∃ kk, kk = 1 + n := ⟨_, rfl⟩
  have HK := Lib.hid hkk
  rw [← hkk]
  clear h1 h2 M1 M2 M3 HT hkk
  go_wp2_with fail
  refine (markO2 (k := kk) (own_len HM.out.two hy) rfl (by omega) (by have := HK.out; omega)).mono ?_
  rintro e w2 ⟨rfl, h1, h2⟩
  have hk := HK.out
  subst hk
  obtain ⟨M1, M2, M3⟩ := HM.out.swap.mark (by omega) (marks_len (1 + n) m) h1 h2
  have HN := Lib.hid M1.swap
  have HD := Lib.hid M3
  have BN := Lib.hid M2
  clear h1 h2 M1 M2 M3 HM p0 p1
  go_wp2
  go_ret
  refine ⟨rfl, HN.out, (((Below.refl B w).alloc hB _).trans BM.out).trans BN.out, fun b j hb e1 e2 => ?_⟩
  rw [HD.out b j (by omega) e2, HC.out b j (by simp; omega) e1]
  exact World.cell?_alloc_lt w _ ⟨b, j, none⟩ hb
set_option maxHeartbeats 1600000 in
theorem heldPf {w : World} {n m c d : Nat} {A D : Option Addr} (H : Ints .i64 w A n (marks 1 n)) (K : Ints .i64 w D m (marks (1 + n) m)) (hn : n ≤ 12) (hm : m ≤ 12) :
    Calls Tryd.prog 33 #[.agg #[.slice A n c, .slice D m d], .int .i64 1] w fun e w' => e = .returned (.int .i64 ((1 + n + m : Nat) : Int)) ∧ Below w.heap.size w w' := by
  go_enter Tryd.func33, Tryd.ntmps33
  go_wp2_with fail
  refine (heldL2 (k := 1) (H.below (by (repeat' (first | (with_reducible exact Below.refl _ _) | (with_reducible assumption) | (with_reducible refine bStep ?_ (by with_reducible assumption)) | (with_reducible refine bAlloc ?_ _) | (with_reducible refine bDrew ?_) | (with_reducible refine bDrewN ?_ _) | (with_reducible refine Below.setCell ?_ ?_ _) | (with_reducible exact Nat.le_refl _) | (simp; done) | (simp; omega))))) rfl (by omega) (by omega)).mono ?_
  rintro e w1 ⟨rfl, hb1⟩
  obtain ⟨hc1, hf1⟩ := bcell hb1
  have p0 := hc1 w.heap.size 0 (by simp)
  have p1 := hc1 w.heap.size 1 (by simp)
  obtain ⟨kk, hkk⟩ : ∃ kk, kk = 1 + n := ⟨_, rfl⟩
  have HK := Lib.hid hkk
  have K1 := K.below (w' := w1) (by (repeat' (first | (with_reducible exact Below.refl _ _) | (with_reducible assumption) | (with_reducible refine bStep ?_ (by with_reducible assumption)) | (with_reducible refine bAlloc ?_ _) | (with_reducible refine bDrew ?_) | (with_reducible refine bDrewN ?_ _) | (with_reducible refine Below.setCell ?_ ?_ _) | (with_reducible exact Nat.le_refl _) | (simp; done) | (simp; omega))))
  rw [← hkk] at K1 ⊢
  have g1 : ¬ (kk : Int) < 0 := by omega
  clear hkk
  go_wp2_with fail
  refine (heldL2 (k := kk) (K1.below (by (repeat' (first | (with_reducible exact Below.refl _ _) | (with_reducible assumption) | (with_reducible refine bStep ?_ (by with_reducible assumption)) | (with_reducible refine bAlloc ?_ _) | (with_reducible refine bDrew ?_) | (with_reducible refine bDrewN ?_ _) | (with_reducible refine Below.setCell ?_ ?_ _) | (with_reducible exact Nat.le_refl _) | (simp; done) | (simp; omega))))) rfl (by omega) (by have := HK.out; omega)).mono ?_
  rintro e w2 ⟨rfl, hb2⟩
  have g2 : ¬ ((kk + m : Nat) : Int) < 0 := by omega
  go_wp2
  go_ret
  exact ⟨ret_i (by have := HK.out; omega), by (repeat' (first | (with_reducible exact Below.refl _ _) | (with_reducible assumption) | (with_reducible refine bStep ?_ (by with_reducible assumption)) | (with_reducible refine bAlloc ?_ _) | (with_reducible refine bDrew ?_) | (with_reducible refine bDrewN ?_ _) | (with_reducible refine Below.setCell ?_ ?_ _) | (with_reducible exact Nat.le_refl _) | (simp; done) | (simp; omega)))⟩
def RPQ (X Y : List Int) (n m : Nat) (q : Bool) (w : World) (e : Ending) (w' : World) : Prop := ∃ A c D d, e = .returned (.tuple #[.agg #[.slice A n c, .slice D m d], .bool q]) ∧ Two w.heap.size w' (.slice A n c) (.slice D m d) X Y ∧ Below w.heap.size w w'
set_option maxHeartbeats 3200000 in
theorem wReadProfile {w : World} (s : ByteArray) (hs0 : s.size ≤ maxLen) (E : Env w) : Calls Tryd.prog 5 #[.string s] w fun e w' => e = .returned (.bool true) ∧ Below w.heap.size w w' := by
  by_cases hbig : (1048576 : Int) < (s.size : Int)
  · go_enter Tryd.func5, Tryd.ntmps5
    go_wp2_with fail
    go_ret
    exact ⟨rfl, by (repeat' (first | (with_reducible exact Below.refl _ _) | (with_reducible assumption) | (with_reducible refine bStep ?_ (by with_reducible assumption)) | (with_reducible refine bAlloc ?_ _) | (with_reducible refine bDrew ?_) | (with_reducible refine bDrewN ?_ _) | (with_reducible refine Below.setCell ?_ ?_ _) | (with_reducible exact Nat.le_refl _) | (simp; done) | (simp; omega)))⟩
  have hs : s.size ≤ 2097152 := by omega
  have EB : Hid (∀ W, Below w.heap.size w W → Env W) := fun W h => E.below h
  clear E
  have hwf := Lib.hid (rp_wf wS (bl s))
  have hlen := rp_lens wS (bl s)
  obtain ⟨X, hX⟩ : ∃ X, rpX (rpO wS (bl s)) = X := ⟨_, rfl⟩
  obtain ⟨Y, hY⟩ : ∃ Y, rpY (rpO wS (bl s)) = Y := ⟨_, rfl⟩
  obtain ⟨q, hq⟩ : ∃ q, (rpO wS (bl s)).isSome = q := ⟨_, rfl⟩
  have KS : ∀ w0 : World, Calls Tryd.prog 29 #[.string s] w0 (RPQ X Y X.length Y.length q w0) := fun w0 => by have := rpS s w0 hs; unfold RP at this; rw [hX, hY, hq] at this; exact this
  have KI : ∀ w0 : World, Env w0 → Calls Tryd.prog 30 #[.string s] w0 (RPQ X Y X.length Y.length q w0) := fun w0 e0 => by have := rpI s w0 hs e0; rw [← rpO_eq] at this; unfold RP at this; rw [hX, hY, hq] at this; exact this
  rw [hX, hY] at hwf hlen
  clear hX hY hq
  obtain ⟨n, hn⟩ : ∃ n, X.length = n := ⟨_, rfl⟩
  obtain ⟨m, hm⟩ : ∃ m, Y.length = m := ⟨_, rfl⟩
  rw [hn, hm] at KS KI hlen
  obtain ⟨hn12, hm12⟩ := hlen
  have KS := Lib.hid KS
  have KI := Lib.hid KI
  have HXl := Lib.hid hn
  have HYl := Lib.hid hm
  clear hn hm
  have q2 : (q != q) = false := by simp
  have e1 : (X == X) = true := by simp
  have e2 : (Y == Y) = true := by simp
  go_enter Tryd.func5, Tryd.ntmps5
  go_wp2_with fail
  refine (KS.out _).mono ?_
  rintro e w1 ⟨A1, c1, D1, d1, rfl, T1, B1⟩
  have hz1 := B1.size
  have I1 := Lib.hid (Ints.of_own (own_len T1.one HXl.out) (by omega) hwf.out.1)
  have J1 := Lib.hid (Ints.of_own (own_len T1.two HYl.out) (by omega) hwf.out.2)
  clear T1
  go_wp2_with fail
  refine (KI.out _ (EB.out _ (by (repeat' (first | (with_reducible exact Below.refl _ _) | (with_reducible assumption) | (with_reducible refine bStep ?_ (by with_reducible assumption)) | (with_reducible refine bAlloc ?_ _) | (with_reducible refine bDrew ?_) | (with_reducible refine bDrewN ?_ _) | (with_reducible refine Below.setCell ?_ ?_ _) | (with_reducible exact Nat.le_refl _) | (simp; done) | (simp; omega)))))).mono ?_
  rintro e w2 ⟨A2, c2, D2, d2, rfl, T2, B2⟩
  have B1V : Hid (Below w.heap.size w (w1.alloc (.cells #[.slice A1 n c1, .slice D1 m d1] 41))) := by show Below w.heap.size w _; (repeat' (first | (with_reducible exact Below.refl _ _) | (with_reducible assumption) | (with_reducible refine bStep ?_ (by with_reducible assumption)) | (with_reducible refine bAlloc ?_ _) | (with_reducible refine bDrew ?_) | (with_reducible refine bDrewN ?_ _) | (with_reducible refine Below.setCell ?_ ?_ _) | (with_reducible exact Nat.le_refl _) | (simp; done) | (simp; omega)))
  have X3 : Hid (Box2 (w1.alloc (.cells #[.slice A1 n c1, .slice D1 m d1] 41)) w1.heap.size (.slice A1 n c1) (.slice D1 m d1)) := Box2.new rfl
  have I1 := Lib.hid (I1.out.below (w' := w1.alloc (.cells #[.slice A1 n c1, .slice D1 m d1] 41)) (by (repeat' (first | (with_reducible exact Below.refl _ _) | (with_reducible assumption) | (with_reducible refine bStep ?_ (by with_reducible assumption)) | (with_reducible refine bAlloc ?_ _) | (with_reducible refine bDrew ?_) | (with_reducible refine bDrewN ?_ _) | (with_reducible refine Below.setCell ?_ ?_ _) | (with_reducible exact Nat.le_refl _) | (simp; done) | (simp; omega)))))
  have J1 := Lib.hid (J1.out.below (w' := w1.alloc (.cells #[.slice A1 n c1, .slice D1 m d1] 41)) (by (repeat' (first | (with_reducible exact Below.refl _ _) | (with_reducible assumption) | (with_reducible refine bStep ?_ (by with_reducible assumption)) | (with_reducible refine bAlloc ?_ _) | (with_reducible refine bDrew ?_) | (with_reducible refine bDrewN ?_ _) | (with_reducible refine Below.setCell ?_ ?_ _) | (with_reducible exact Nat.le_refl _) | (simp; done) | (simp; omega)))))
  obtain ⟨V1, hV1⟩ : ∃ V, w1.alloc (.cells #[.slice A1 n c1, .slice D1 m d1] 41) = V := ⟨_, rfl⟩
  have hs1 : V1.heap.size = w1.heap.size + 1 := by rw [← hV1]; simp
  rw [hV1] at T2 B2 B1V X3 I1 J1
  clear hV1 B1
  have hz2 := B2.size
  have X3 := Lib.hid (X3.out.below B2 (by omega))
  have I2 := Ints.of_own (own_len T2.one HXl.out) (by omega) hwf.out.1
  have J2 := Ints.of_own (own_len T2.two HYl.out) (by omega) hwf.out.2
  have HT := Lib.hid T2
  have BV2 := Lib.hid B2
  obtain ⟨⟨x0, x1⟩, _⟩ := X3.out
  have ne1 : ¬ w1.heap.size = w2.heap.size := by omega
  have ne2 : ¬ w2.heap.size = w1.heap.size := by omega
  have lt1 : w1.heap.size < w2.heap.size := by omega
  have I1b := I1.out.below B2
  have J1b := J1.out.below B2
  clear T2 B2
  have B2V : Hid (Below w.heap.size w (w2.alloc (.cells #[.slice A2 n c2, .slice D2 m d2] 41))) := by
    show Below w.heap.size w _
    exact bAlloc (B1V.out.trans (BV2.out.mono (by have := B1V.out.size; omega))) _
  have X5 : Hid (Box2 (w2.alloc (.cells #[.slice A2 n c2, .slice D2 m d2] 41)) w2.heap.size (.slice A2 n c2) (.slice D2 m d2)) := Box2.new rfl
  have X3 := Lib.hid (X3.out.alloc lt1 (.cells #[.slice A2 n c2, .slice D2 m d2] 41))
  have OA := Lib.hid (fun k (e : (Value.slice A2 n c2).ownBlock = some k) => (tw_lt HT.out.one k e).2)
  have OD := Lib.hid (fun k (e : (Value.slice D2 m d2).ownBlock = some k) => (tw_lt HT.out.two k e).2)
  have HT := Lib.hid (HT.out.below (w' := w2.alloc (.cells #[.slice A2 n c2, .slice D2 m d2] 41)) ((Below.refl _ _).alloc (Nat.le_refl _) _))
  have BV2 := Lib.hid (BV2.out.alloc (by omega) (.cells #[.slice A2 n c2, .slice D2 m d2] 41))
  go_wp2_with fail
  refine (eqPf (I2.below (by (repeat' (first | (with_reducible exact Below.refl _ _) | (with_reducible assumption) | (with_reducible refine bStep ?_ (by with_reducible assumption)) | (with_reducible refine bAlloc ?_ _) | (with_reducible refine bDrew ?_) | (with_reducible refine bDrewN ?_ _) | (with_reducible refine Below.setCell ?_ ?_ _) | (with_reducible exact Nat.le_refl _) | (simp; done) | (simp; omega))))) (J2.below (by (repeat' (first | (with_reducible exact Below.refl _ _) | (with_reducible assumption) | (with_reducible refine bStep ?_ (by with_reducible assumption)) | (with_reducible refine bAlloc ?_ _) | (with_reducible refine bDrew ?_) | (with_reducible refine bDrewN ?_ _) | (with_reducible refine Below.setCell ?_ ?_ _) | (with_reducible exact Nat.le_refl _) | (simp; done) | (simp; omega))))) (I1b.below (by (repeat' (first | (with_reducible exact Below.refl _ _) | (with_reducible assumption) | (with_reducible refine bStep ?_ (by with_reducible assumption)) | (with_reducible refine bAlloc ?_ _) | (with_reducible refine bDrew ?_) | (with_reducible refine bDrewN ?_ _) | (with_reducible refine Below.setCell ?_ ?_ _) | (with_reducible exact Nat.le_refl _) | (simp; done) | (simp; omega))))) (J1b.below (by (repeat' (first | (with_reducible exact Below.refl _ _) | (with_reducible assumption) | (with_reducible refine bStep ?_ (by with_reducible assumption)) | (with_reducible refine bAlloc ?_ _) | (with_reducible refine bDrew ?_) | (with_reducible refine bDrewN ?_ _) | (with_reducible refine Below.setCell ?_ ?_ _) | (with_reducible exact Nat.le_refl _) | (simp; done) | (simp; omega))))) _ _ _ _).mono ?_
  rintro e w3 ⟨rfl, hb3⟩
  have hz3 := hb3.size
  simp at hz3
  replace B2V := Lib.hid (bStep B2V.out hb3)
  replace X5 := Lib.hid (X5.out.below hb3 (by simp))
  replace X3 := Lib.hid (X3.out.below hb3 (by simp; omega))
  replace HT := Lib.hid (HT.out.below hb3)
  replace BV2 := Lib.hid (BV2.out.trans (hb3.mono (by simp; omega)))
  clear I2 J2 I1b J1b hb3 x0 x1
  obtain ⟨⟨x0, x1⟩, _⟩ := X5.out
  go_wp2_with fail
  refine (markPf HT.out (by omega) HXl.out HYl.out hn12 hm12).mono ?_
  rintro e w4 ⟨rfl, T4, B4, C4⟩
  obtain ⟨M, hM⟩ : ∃ M, 1 + n + m = M := ⟨_, rfl⟩
  have KH : Hid (∀ w0 : World, Ints .i64 w0 A2 n (marks 1 n) → Ints .i64 w0 D2 m (marks (1 + n) m) → Calls Tryd.prog 33 #[.agg #[.slice A2 n c2, .slice D2 m d2], .int .i64 1] w0 fun e w' => e = .returned (.int .i64 (M : Int)) ∧ Below w0.heap.size w0 w') := fun w0 h k => by rw [← hM]; exact heldPf h k hn12 hm12
  rw [hM]
  have hz4 := B4.size
  have y0 : w4.cell? ⟨w2.heap.size, 0, none⟩ = some (.slice A2 n c2) := (C4 w2.heap.size 0 (by omega) (fun k e h => by have := OA.out k e; omega) (fun k e h => by have := OD.out k e; omega)).trans x0
  have y1 : w4.cell? ⟨w2.heap.size, 1, none⟩ = some (.slice D2 m d2) := (C4 w2.heap.size 1 (by omega) (fun k e h => by have := OA.out k e; omega) (fun k e h => by have := OD.out k e; omega)).trans x1
  have X3 := Lib.hid (X3.out.below B4 (by omega))
  have BVw := B1V.out.size
  replace B2V : Hid (Below w.heap.size w w4) := B2V.out.trans (B4.mono (by omega))
  have I1b := Lib.hid (I1.out.below (BV2.out.trans B4))
  have J1b := Lib.hid (J1.out.below (BV2.out.trans B4))
  have I4 := Lib.hid (Ints.of_own (own_len T4.one (marks_len 1 n)) (by omega) (marks_wf (by omega)))
  have J4 := Lib.hid (Ints.of_own (own_len T4.two (marks_len (1 + n) m)) (by omega) (marks_wf (by omega)))
  clear T4 B4 C4 x0 x1 hM HT BV2 X5 I1 J1
  go_wp2_with fail
  refine (KH.out _ I4.out J4.out).mono ?_
  rintro e w5 ⟨rfl, hb5⟩
  have hz5 := hb5.size
  have ng : ¬ (M : Int) < 0 := by omega
  have I4 := Lib.hid (I4.out.below hb5)
  have J4 := Lib.hid (J4.out.below hb5)
  have I1b := Lib.hid (I1b.out.below hb5)
  have J1b := Lib.hid (J1b.out.below hb5)
  replace B2V : Hid (Below w.heap.size w w5) := bStep B2V.out hb5
  replace X3 := Lib.hid (X3.out.below hb5 (by omega))
  replace y0 := (hb5.cell (p := ⟨w2.heap.size, 0, none⟩) (by show w2.heap.size < _; omega)).trans y0
  replace y1 := (hb5.cell (p := ⟨w2.heap.size, 1, none⟩) (by show w2.heap.size < _; omega)).trans y1
  clear hb5
  go_wp2_with fail
  refine (KI.out _ (EB.out _ B2V.out)).mono ?_
  rintro e w6 ⟨A6, c6, D6, d6, rfl, T6, B6⟩
  have hz6 := B6.size
  have I6 := Ints.of_own (own_len T6.one HXl.out) (by omega) hwf.out.1
  have J6 := Ints.of_own (own_len T6.two HYl.out) (by omega) hwf.out.2
  have I1c := I1b.out.below B6
  have J1c := J1b.out.below B6
  have I4 := Lib.hid (I4.out.below B6)
  have J4 := Lib.hid (J4.out.below B6)
  replace B2V : Hid (Below w.heap.size w w6) := bStep B2V.out B6
  replace y0 := (B6.cell (p := ⟨w2.heap.size, 0, none⟩) (by show w2.heap.size < _; omega)).trans y0
  replace y1 := (B6.cell (p := ⟨w2.heap.size, 1, none⟩) (by show w2.heap.size < _; omega)).trans y1
  replace X3 := Lib.hid (X3.out.below B6 (by omega))
  obtain ⟨⟨x0, x1⟩, _⟩ := X3.out
  have lt6 : w1.heap.size < w6.heap.size := by omega
  have ne6 : ¬ w1.heap.size = w6.heap.size := by omega
  have lt7 : w2.heap.size < w6.heap.size := by omega
  have ne7 : ¬ w2.heap.size = w6.heap.size := by omega
  clear T6 B6
  go_wp2_with fail
  refine (eqPf (I6.below (by (repeat' (first | (with_reducible exact Below.refl _ _) | (with_reducible assumption) | (with_reducible refine bStep ?_ (by with_reducible assumption)) | (with_reducible refine bAlloc ?_ _) | (with_reducible refine bDrew ?_) | (with_reducible refine bDrewN ?_ _) | (with_reducible refine Below.setCell ?_ ?_ _) | (with_reducible exact Nat.le_refl _) | (simp; done) | (simp; omega))))) (J6.below (by (repeat' (first | (with_reducible exact Below.refl _ _) | (with_reducible assumption) | (with_reducible refine bStep ?_ (by with_reducible assumption)) | (with_reducible refine bAlloc ?_ _) | (with_reducible refine bDrew ?_) | (with_reducible refine bDrewN ?_ _) | (with_reducible refine Below.setCell ?_ ?_ _) | (with_reducible exact Nat.le_refl _) | (simp; done) | (simp; omega))))) (I1c.below (by (repeat' (first | (with_reducible exact Below.refl _ _) | (with_reducible assumption) | (with_reducible refine bStep ?_ (by with_reducible assumption)) | (with_reducible refine bAlloc ?_ _) | (with_reducible refine bDrew ?_) | (with_reducible refine bDrewN ?_ _) | (with_reducible refine Below.setCell ?_ ?_ _) | (with_reducible exact Nat.le_refl _) | (simp; done) | (simp; omega))))) (J1c.below (by (repeat' (first | (with_reducible exact Below.refl _ _) | (with_reducible assumption) | (with_reducible refine bStep ?_ (by with_reducible assumption)) | (with_reducible refine bAlloc ?_ _) | (with_reducible refine bDrew ?_) | (with_reducible refine bDrewN ?_ _) | (with_reducible refine Below.setCell ?_ ?_ _) | (with_reducible exact Nat.le_refl _) | (simp; done) | (simp; omega))))) _ _ _ _).mono ?_
  rintro e w7 ⟨rfl, hb7⟩
  have hz7 := hb7.size
  simp at hz7
  have I7 := I4.out.below (w' := w7) (by (repeat' (first | (with_reducible exact Below.refl _ _) | (with_reducible assumption) | (with_reducible refine bStep ?_ (by with_reducible assumption)) | (with_reducible refine bAlloc ?_ _) | (with_reducible refine bDrew ?_) | (with_reducible refine bDrewN ?_ _) | (with_reducible refine Below.setCell ?_ ?_ _) | (with_reducible exact Nat.le_refl _) | (simp; done) | (simp; omega))))
  have J7 := J4.out.below (w' := w7) (by (repeat' (first | (with_reducible exact Below.refl _ _) | (with_reducible assumption) | (with_reducible refine bStep ?_ (by with_reducible assumption)) | (with_reducible refine bAlloc ?_ _) | (with_reducible refine bDrew ?_) | (with_reducible refine bDrewN ?_ _) | (with_reducible refine Below.setCell ?_ ?_ _) | (with_reducible exact Nat.le_refl _) | (simp; done) | (simp; omega))))
  have B7 : Below w6.heap.size w6 w7 := by (repeat' (first | (with_reducible exact Below.refl _ _) | (with_reducible assumption) | (with_reducible refine bStep ?_ (by with_reducible assumption)) | (with_reducible refine bAlloc ?_ _) | (with_reducible refine bDrew ?_) | (with_reducible refine bDrewN ?_ _) | (with_reducible refine Below.setCell ?_ ?_ _) | (with_reducible exact Nat.le_refl _) | (simp; done) | (simp; omega)))
  replace y0 := (B7.cell (p := ⟨w2.heap.size, 0, none⟩) (by show w2.heap.size < _; omega)).trans y0
  replace y1 := (B7.cell (p := ⟨w2.heap.size, 1, none⟩) (by show w2.heap.size < _; omega)).trans y1
  have B7w : Below w.heap.size w w7 := bStep B2V.out B7
  clear hb7 B7 I6 J6 I1c J1c x0 x1
  go_wp2_with fail
  refine (KH.out _ I7 J7).mono ?_
  rintro e w8 ⟨rfl, hb8⟩
  go_wp2
  go_ret
  exact ⟨rfl, by (repeat' (first | (with_reducible exact Below.refl _ _) | (with_reducible assumption) | (with_reducible refine bStep ?_ (by with_reducible assumption)) | (with_reducible refine bAlloc ?_ _) | (with_reducible refine bDrew ?_) | (with_reducible refine bDrewN ?_ _) | (with_reducible refine Below.setCell ?_ ?_ _) | (with_reducible exact Nat.le_refl _) | (simp; done) | (simp; omega)))⟩
end Go.Proofs.YtgnpbgknmapejaaDoor
