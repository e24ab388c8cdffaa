/- The text of a profile: contracts. -/
import Derived.Test.YtgnpbgknmapejaaDoorProf
import Derived.Test.YtgnpbgknmapejaaDoorTxt
import Derived.Test.YtgnpbgknmapejaaDoorSpl
import Derived.Deep.RegionHeld3
import Derived.Deep.RegionWith
import Derived.Test.YtgnpbgknmapejaaDoorTurn
import Derived.Test.YtgnpbgknmapejaaDoorShelf
import Derived.Lib.Join
import Derived.Maps.AppendAt
namespace Go.Proofs.YtgnpbgknmapejaaDoor
open Go.RowKit
set_option linter.unusedVariables false

def pWord (a b : Int) : ByteArray := (dg a.toNat ++ ⟨#[58]⟩) ++ dg b.toNat
def ptx (xs ys : List Int) : Nat → ByteArray
  | 0 => ⟨#[]⟩
  | k + 1 => (((if k = 0 then ptx xs ys k else ptx xs ys k ++ ⟨#[44]⟩) ++ dg (xs.getD k 0).toNat) ++ ⟨#[58]⟩) ++ dg (ys.getD k 0).toNat
noncomputable def ptV (xs ys : List Int) : ByteArray := if pfB xs ys then ptx xs ys xs.length else ⟨#[]⟩
theorem pf_in {xs ys : List Int} (h : pfB xs ys = true) : (∀ (k : Nat) x, xs[k]? = some x → 0 ≤ x ∧ x ≤ 1000000) ∧ (∀ (k : Nat) y, ys[k]? = some y → 1300000 ≤ y ∧ y ≤ 1700000) := by
  unfold pfB at h
  simp only [Bool.and_eq_true] at h
  obtain ⟨⟨⟨_, hr⟩, _⟩, ha⟩ := h
  refine ⟨fun k x hx => ?_, fun k y hy => inB_t (List.all_eq_true.1 ha y (List.mem_of_getElem? hy))⟩
  unfold risesB at hr
  have hr := @of_decide_eq_true _ (Classical.propDecidable _) hr
  have hk : k < xs.length := by
    rcases Nat.lt_or_ge k xs.length with h | h
    · exact h
    · rw [List.getElem?_eq_none h] at hx; cases hx
  have := hr k hk
  unfold okAt at this
  rw [getD_of hx] at this
  omega
theorem dg_sz7 {k : Nat} (h : k < 10000000) : (dg k).size ≤ 7 := dg_size k 6 (by have e : (10 : Nat) ^ (6 + 1) = 10000000 := (by decide); omega)
theorem ptx_sz {xs ys : List Int} (h : pfB xs ys = true) : ∀ k, k ≤ xs.length → (ptx xs ys k).size ≤ 16 * k
  | 0, _ => by simp [ptx, ByteArray.size]
  | k + 1, hk => by
    have ih := ptx_sz h k (by omega)
    have hy : ys.length = xs.length := (pf_len h).2
    have hx' : xs[k]? = some (xs[k]'(by omega)) := List.getElem?_eq_getElem (by omega)
    have hy' : ys[k]? = some (ys[k]'(by omega)) := List.getElem?_eq_getElem (by omega)
    have b1 := (pf_in h).1 k _ hx'
    have b2 := (pf_in h).2 k _ hy'
    have s1 := dg_sz7 (k := (xs.getD k 0).toNat) (by rw [getD_of hx']; omega)
    have s2 := dg_sz7 (k := (ys.getD k 0).toNat) (by rw [getD_of hy']; omega)
    simp only [ptx, ByteArray.size_append, sz1]
    split
    · omega
    · simp only [ByteArray.size_append, sz1]; omega
def pws (xs ys : List Int) (k : Nat) : List ByteArray := (List.range k).map fun i => pWord (xs.getD i 0) (ys.getD i 0)
theorem pws_len (xs ys : List Int) (k : Nat) : (pws xs ys k).length = k := by simp [pws]
theorem pws_succ (xs ys : List Int) (k : Nat) : pws xs ys (k + 1) = pws xs ys k ++ [pWord (xs.getD k 0) (ys.getD k 0)] := by simp [pws, List.range_succ]
theorem join_snoc (l : List (List UInt8)) (x sep : List UInt8) : Lib.join (l ++ [x]) sep = (if l = [] then x else Lib.join l sep ++ sep ++ x) := by
  cases l with
  | nil => simp [Lib.join_one]
  | cons a r =>
    rw [if_neg (by simp), List.cons_append, Lib.join_cons, Lib.join_cons]
    simp [Lib.joinTail, List.append_assoc]
theorem ptx_join (xs ys : List Int) : ∀ k, Lib.join ((pws xs ys k).map (·.data.toList)) [44] = (ptx xs ys k).data.toList
  | 0 => rfl
  | k + 1 => by
    rw [pws_succ, List.map_append, List.map_cons, List.map_nil, join_snoc, ptx_join xs ys k]
    cases k with
    | zero => simp [pws, ptx, pWord, ByteArray.data_append]
    | succ k =>
      have hne : ¬ (pws xs ys (k + 1)).map (·.data.toList) = [] := by
        intro h
        have := congrArg List.length h
        rw [List.length_map, pws_len] at this
        simp at this
      rw [if_neg hne]
      simp [ptx, pWord, ByteArray.data_append, List.append_assoc]
theorem str_step {ops : Array Oper} {o : Oper} {a : Act} {w : World} {K : Act → World → Prop} {Q : Exit → Act → World → Prop} {E : Prop} (hgd : o.guard = none) (s x : Operand)
    (ho : o.op = .call { callee := .builtin .append, args := #[s, x], argTypes := #[71, 71] })
    (v : Value) (hs : a.eval s = v) (ad : Addr) (c : Nat) (hx : a.eval x = .slice (some ad) 1 c) (B n : Nat) (xs : List ByteArray) (u : ByteArray) (hown : w.ownsRow B 9 1 v n (xs.map Value.string))
    (hnews : ∀ j z, ([Value.string u] : List Value)[j]? = some z → w.cell? (ad.add j) = some z)
    (hsm : n + 1 ≤ 1000000) (W0 : World) (hW0 : B ≤ W0.heap.size) (hB : Below B W0 w)
    (h : ∀ v' w', w'.ownsRow B 9 1 v' (n + 1) ((xs ++ [u]).map Value.string) → Below B W0 w' → K (a.put o.dst v') w') :
    if Region.wanted o (yielded ops a.tmps) = true then Oper.wp Tryd.prog o a w K Q else E := by
  obtain ⟨i0, hi, hz0, hz1, hz2⟩ := info_parts infoStr
  have hw : Region.wanted o (yielded ops a.tmps) = true := by simp [Region.wanted, hgd]
  rw [if_pos hw]
  have hBs : B ≤ w.heap.size := Nat.le_trans hW0 hB.size
  obtain ⟨v', w', hrun, h2, h3, _, h5⟩ := run_append_own_at (P := Tryd.prog) w B 71 o.type 9 i0 (.string ByteArray.empty) 1 16 Tryd.underlying71 hi hz0 hz1 hz2 rfl (by decide) v n (xs.map Value.string) hown ad 1 c [.string u] rfl hnews (by intro u hu; simp only [List.mem_cons, List.not_mem_nil, or_false] at hu; subst hu; rfl) (by unfold maxLen; omega) (by omega) hBs
  unfold Oper.wp execOp
  simp only [ho, resolve, invoke, builtin, Sem.run_bind, Sem.run_pure, Result.andThen_ok, List.map_toArray, List.map_cons, List.map_nil, hs, hx, hrun]
  refine h v' w' (by rw [List.map_append]; exact h2) (hB.grown h3 hBs ?_)
  intro k hk
  rcases hown.2 with ⟨rfl, _⟩ | ⟨g, cap, cur, rfl, hb, _⟩
  · cases hk
  · simp [Value.ownBlock] at hk; omega
set_option maxHeartbeats 3200000 in
set_option maxRecDepth 20000 in
theorem ptS {w : World} {A B : Option Addr} {n m : Nat} {xs ys : List Int} (H : Ints .i64 w A n xs) (K : Ints .i64 w B m ys) (c d : Nat) :
    Calls Tryd.prog 41 #[.agg #[.slice A n c, .slice B m d]] w fun e w' => e = .returned (.string (ptV xs ys)) ∧ Below w.heap.size w w' := by
  have hn := H.le
  have hm := K.le
  rcases hp : pfB xs ys
  · go_enter Tryd.func41, Tryd.ntmps41
    go_wp2_with (go_at_call 74; refine (isPfS (H.below (by (repeat' (first | (with_reducible exact Below.refl _ _) | (with_reducible assumption) | (with_reducible refine bStep ?_ (by with_reducible assumption)) | (with_reducible refine bAlloc ?_ _) | (with_reducible refine bDrew ?_) | (with_reducible refine bDrewN ?_ _) | (with_reducible refine Below.setCell ?_ ?_ _) | (with_reducible exact Nat.le_refl _) | (simp; done) | (simp; omega))))) (K.below (by (repeat' (first | (with_reducible exact Below.refl _ _) | (with_reducible assumption) | (with_reducible refine bStep ?_ (by with_reducible assumption)) | (with_reducible refine bAlloc ?_ _) | (with_reducible refine bDrew ?_) | (with_reducible refine bDrewN ?_ _) | (with_reducible refine Below.setCell ?_ ?_ _) | (with_reducible exact Nat.le_refl _) | (simp; done) | (simp; omega))))) _ _).mono ?_; rintro e w1 ⟨rfl, hb1⟩; rw [hp])
    go_ret
    exact ⟨by simp [ptV, hp], by (repeat' (first | (with_reducible exact Below.refl _ _) | (with_reducible assumption) | (with_reducible refine bStep ?_ (by with_reducible assumption)) | (with_reducible refine bAlloc ?_ _) | (with_reducible refine bDrew ?_) | (with_reducible refine bDrewN ?_ _) | (with_reducible refine Below.setCell ?_ ?_ _) | (with_reducible exact Nat.le_refl _) | (simp; done) | (simp; omega)))⟩
  · have HN := H.len
    have KN := K.len
    have HP := Lib.hid (pf_len hp)
    have hnm : m = n := by have := HP.out.2; omega
    subst hnm
    have hn12 : m ≤ 12 := by have := HP.out.1.2; omega
    have PI := Lib.hid (pf_in hp)
    have PS := Lib.hid (ptx_sz hp)
    go_enter Tryd.func41, Tryd.ntmps41
    go_wp2_with (go_at_call 74; refine (isPfS (H.below (by (repeat' (first | (with_reducible exact Below.refl _ _) | (with_reducible assumption) | (with_reducible refine bStep ?_ (by with_reducible assumption)) | (with_reducible refine bAlloc ?_ _) | (with_reducible refine bDrew ?_) | (with_reducible refine bDrewN ?_ _) | (with_reducible refine Below.setCell ?_ ?_ _) | (with_reducible exact Nat.le_refl _) | (simp; done) | (simp; omega))))) (K.below (by (repeat' (first | (with_reducible exact Below.refl _ _) | (with_reducible assumption) | (with_reducible refine bStep ?_ (by with_reducible assumption)) | (with_reducible refine bAlloc ?_ _) | (with_reducible refine bDrew ?_) | (with_reducible refine bDrewN ?_ _) | (with_reducible refine Below.setCell ?_ ?_ _) | (with_reducible exact Nat.le_refl _) | (simp; done) | (simp; omega))))) _ _).mono ?_; rintro e w1 ⟨rfl, hb1⟩; rw [hp]; obtain ⟨hc1, hf1⟩ := bcell hb1; have hs1 := hb1.size; (try simp at hs1); have k10 := hc1 w.heap.size 0 (by simp); have k11 := hc1 w.heap.size 1 (by simp))
    go_loopw [3, 4] (fun v i wr => ∃ (k : Nat) (o : ByteArray), k ≤ m ∧ i = .int .i64 (k : Int) ∧ v = .string o ∧ Hid (o = ptx xs ys k) ∧ Below w1.heap.size w1 wr) (fun _ i _ => m - (intOf i).toNat)
    case atStart => exact ⟨0, ⟨#[]⟩, by omega, rfl, rfl, rfl, Below.refl _ _⟩
    case round =>
      obtain ⟨k, o, hk, rfl, rfl, HO, hbel⟩ := hrel
      have hsz := hbel.size
      by_cases hlt : k < m
      · obtain ⟨b, off, x, rfl, hb, hcx, HX, hwx⟩ := (H.below (w' := w1) (by (repeat' (first | (with_reducible exact Below.refl _ _) | (with_reducible assumption) | (with_reducible refine bStep ?_ (by with_reducible assumption)) | (with_reducible refine bAlloc ?_ _) | (with_reducible refine bDrew ?_) | (with_reducible refine bDrewN ?_ _) | (with_reducible refine Below.setCell ?_ ?_ _) | (with_reducible exact Nat.le_refl _) | (simp; done) | (simp; omega))))).at_ hlt
        obtain ⟨b', off', y, rfl, hb', hcy, HY, hwy⟩ := (K.below (w' := w1) (by (repeat' (first | (with_reducible exact Below.refl _ _) | (with_reducible assumption) | (with_reducible refine bStep ?_ (by with_reducible assumption)) | (with_reducible refine bAlloc ?_ _) | (with_reducible refine bDrew ?_) | (with_reducible refine bDrewN ?_ _) | (with_reducible refine Below.setCell ?_ ?_ _) | (with_reducible exact Nat.le_refl _) | (simp; done) | (simp; omega))))).at_ hlt
        have hx1 := PI.out.1 k x HX.out
        have hy1 := PI.out.2 k y HY.out
        obtain ⟨x', rfl⟩ : ∃ x' : Nat, x = (x' : Int) := ⟨x.toNat, by omega⟩
        obtain ⟨y', rfl⟩ : ∃ y' : Nat, y = (y' : Int) := ⟨y.toNat, by omega⟩
        have so : o.size ≤ 192 := by have := PS.out k (by omega); rw [HO.out]; omega
        have sx := dg_sz7 (k := x') (by omega)
        have sy := dg_sz7 (k := y') (by omega)
        have C4 : Hid (∀ w', Below w1.heap.size w1 w' → w'.cell? ⟨w.heap.size, 0, none⟩ = some (.slice (some ⟨b, off, none⟩) m c) ∧ w'.cell? ⟨w.heap.size, 1, none⟩ = some (.slice (some ⟨b', off', none⟩) m d) ∧ w'.cell? ⟨b, off + k, none⟩ = some (.int .i64 (x' : Int)) ∧ w'.cell? ⟨b', off' + k, none⟩ = some (.int .i64 (y' : Int))) :=
          fun w' h => ⟨(h.cell (p := ⟨w.heap.size, 0, none⟩) (by show w.heap.size < _; omega)).trans (k10.trans (by simp)), (h.cell (p := ⟨w.heap.size, 1, none⟩) (by show w.heap.size < _; omega)).trans (k11.trans (by simp)), (h.cell (p := ⟨b, off + k, none⟩) hb).trans hcx, (h.cell (p := ⟨b', off' + k, none⟩) hb').trans hcy⟩
        have t1 := sz1 58
        have t2 := sz1 44
        clear hcx hcy
        obtain ⟨p0, p1, p2, p3⟩ := C4.out wr hbel
        obtain ⟨o2, ho2⟩ : ∃ o2 : ByteArray, (if k = 0 then o else o ++ ⟨#[44]⟩) = o2 := ⟨_, rfl⟩
        have so2 : o2.size ≤ 193 := by
          rw [← ho2]
          split
          · omega
          · simp only [ByteArray.size_append, sz1]; omega
        have EQ : Hid (((o2 ++ dg x') ++ ⟨#[58]⟩) ++ dg y' = ptx xs ys (k + 1)) := by
          show _ = _
          rw [ptx, getD_of HX.out, getD_of HY.out, Int.toNat_natCast, Int.toNat_natCast, ← HO.out, ho2]
        have hlI : (k : Int) < (m : Int) := by omega
        have v0 : o.size + 1 ≤ 9223372036854775807 := by omega
        have v0n : ¬ 9223372036854775807 < o.size + 1 := by omega
        have v1 : ¬ 9223372036854775807 < o2.size + (dg x').size := by omega
        have v2 : ¬ 9223372036854775807 < (o2 ++ dg x').size + 1 := by rw [ByteArray.size_append]; omega
        have v2c : ¬ 9223372036854775807 < (o2 ++ dg x').size + (⟨#[58]⟩ : ByteArray).size := by rw [ByteArray.size_append, sz1]; omega
        have v3 : ¬ 9223372036854775807 < o2.size + (dg x').size + 1 := by omega
        have v4 : ¬ 9223372036854775807 < ((o2 ++ dg x') ++ ⟨#[58]⟩).size + (dg y').size := by simp only [ByteArray.size_append, sz1]; omega
        have v5 : ¬ 9223372036854775807 < o2.size + (dg x').size + 1 + (dg y').size := by omega
        by_cases h0 : k = 0
        · have g0 : ¬ (0 : Int) < (k : Int) := by omega
          rw [if_pos h0] at ho2
          subst ho2
          have H0 := Lib.hid h0
          clear h0
          go_wp2_with fail
          go_region_held3 (fun w' => w'.cell? ⟨w.heap.size, 0, none⟩ = some (.slice (some ⟨b, off, none⟩) m c) ∧ w'.cell? ⟨w.heap.size, 1, none⟩ = some (.slice (some ⟨b', off', none⟩) m d) ∧ w'.cell? ⟨b, off + k, none⟩ = some (.int .i64 (x' : Int)) ∧ w'.cell? ⟨b', off' + k, none⟩ = some (.int .i64 (y' : Int))) (exact C4.out _ (by (repeat' (first | (with_reducible exact Below.refl _ _) | (with_reducible assumption) | (with_reducible refine bStep ?_ (by with_reducible assumption)) | (with_reducible refine bAlloc ?_ _) | (with_reducible refine bDrew ?_) | (with_reducible refine bDrewN ?_ _) | (with_reducible refine Below.setCell ?_ ?_ _) | (with_reducible exact Nat.le_refl _) | (simp; done) | (simp; omega))))) (first | (go_at_call 66; with_reducible refine (decSn x' _ (by omega)).mono ?_; rintro e w3 ⟨rfl, hb3⟩) | (go_at_call 66; with_reducible refine (decSn y' _ (by omega)).mono ?_; rintro e w4 ⟨rfl, hb4⟩))
          all_goals go_wp2_with fail
          all_goals go_roundw
          all_goals first
            | exact ⟨k + 1, _, by omega, by first | rfl | go_num, rfl, EQ.out, by (repeat' (first | (with_reducible exact Below.refl _ _) | (with_reducible assumption) | (with_reducible refine bStep ?_ (by with_reducible assumption)) | (with_reducible refine bAlloc ?_ _) | (with_reducible refine bDrew ?_) | (with_reducible refine bDrewN ?_ _) | (with_reducible refine Below.setCell ?_ ?_ _) | (with_reducible exact Nat.le_refl _) | (simp; done) | (simp; omega)))⟩
            | (simp [intOf]; done)
            | (simp [intOf] <;> omega)
        · have g0 : (0 : Int) < (k : Int) := by omega
          rw [if_neg h0] at ho2
          have H0 := Lib.hid h0
          clear h0
          go_wp2_with fail
          clear ho2
          go_region_held3 (fun w' => w'.cell? ⟨w.heap.size, 0, none⟩ = some (.slice (some ⟨b, off, none⟩) m c) ∧ w'.cell? ⟨w.heap.size, 1, none⟩ = some (.slice (some ⟨b', off', none⟩) m d) ∧ w'.cell? ⟨b, off + k, none⟩ = some (.int .i64 (x' : Int)) ∧ w'.cell? ⟨b', off' + k, none⟩ = some (.int .i64 (y' : Int))) (exact C4.out _ (by (repeat' (first | (with_reducible exact Below.refl _ _) | (with_reducible assumption) | (with_reducible refine bStep ?_ (by with_reducible assumption)) | (with_reducible refine bAlloc ?_ _) | (with_reducible refine bDrew ?_) | (with_reducible refine bDrewN ?_ _) | (with_reducible refine Below.setCell ?_ ?_ _) | (with_reducible exact Nat.le_refl _) | (simp; done) | (simp; omega))))) (first | (go_at_call 66; with_reducible refine (decSn x' _ (by omega)).mono ?_; rintro e w3 ⟨rfl, hb3⟩) | (go_at_call 66; with_reducible refine (decSn y' _ (by omega)).mono ?_; rintro e w4 ⟨rfl, hb4⟩))
          all_goals go_wp2_with fail
          all_goals go_roundw
          all_goals first
            | exact ⟨k + 1, _, by omega, by first | rfl | go_num, rfl, EQ.out, by (repeat' (first | (with_reducible exact Below.refl _ _) | (with_reducible assumption) | (with_reducible refine bStep ?_ (by with_reducible assumption)) | (with_reducible refine bAlloc ?_ _) | (with_reducible refine bDrew ?_) | (with_reducible refine bDrewN ?_ _) | (with_reducible refine Below.setCell ?_ ?_ _) | (with_reducible exact Nat.le_refl _) | (simp; done) | (simp; omega)))⟩
            | (simp [intOf]; done)
            | (simp [intOf] <;> omega)
      · obtain rfl : k = m := by omega
        obtain ⟨p0, p1⟩ : wr.cell? ⟨w.heap.size, 0, none⟩ = some (.slice A k c) ∧ wr.cell? ⟨w.heap.size, 1, none⟩ = some (.slice B k d) := ⟨(hbel.cell (p := ⟨w.heap.size, 0, none⟩) (by show w.heap.size < _; omega)).trans (k10.trans (by simp)), (hbel.cell (p := ⟨w.heap.size, 1, none⟩) (by show w.heap.size < _; omega)).trans (k11.trans (by simp))⟩
        go_wp2_with fail
        go_ret
        exact ⟨by rw [ptV, if_pos hp, HN, ← HO.out]; first | done | rfl, by (repeat' (first | (with_reducible exact Below.refl _ _) | (with_reducible assumption) | (with_reducible refine bStep ?_ (by with_reducible assumption)) | (with_reducible refine bAlloc ?_ _) | (with_reducible refine bDrew ?_) | (with_reducible refine bDrewN ?_ _) | (with_reducible refine Below.setCell ?_ ?_ _) | (with_reducible exact Nat.le_refl _) | (simp; done) | (simp; omega)))⟩
end Go.Proofs.YtgnpbgknmapejaaDoor
