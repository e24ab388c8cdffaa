/- The median: contracts. -/
import Derived.Test.YtincelkcbdjcjaaMedI
import Derived.Test.YtincelkcbdjcjaaNum
import Derived.BigQuiet
import Derived.Deep.RegionLaw
import Derived.Deep.Onto
import Derived.Deep.AppendLies
namespace Go.Proofs.Ytincelkcbdjcjaa
open Go.RowKit
set_option linter.unusedVariables false

def mdC (xs : List Int) : Int := if 200 < xs.length then 3 else if allIn xs (-1000000000000) 1000000000000 = false then 2 else if xs.length = 0 then 4 else 0
def mdV (xs : List Int) : Int := if mdC xs = 0 then (srt xs).getD ((xs.length - 1) / 2) 0 else 0
theorem srt_at {xs : List Int} (h : 0 < xs.length) : (srt xs)[(xs.length - 1) / 2]? = some ((srt xs).getD ((xs.length - 1) / 2) 0) := by
  have hl := srt_len xs
  have hk : (xs.length - 1) / 2 < (srt xs).length := by omega
  rw [List.getD, List.getElem?_eq_getElem hk]
  rfl
set_option maxHeartbeats 1600000 in
theorem mdI {w : World} {A : Option Addr} {n : Nat} {xs : List Int} (H : Ints .i64 w A n xs) (c : Nat) : Calls Try.prog 47 #[.slice A n c] w fun e w' => e = .returned (.tuple #[.int .i64 (mdV xs), .int .i64 (mdC xs)]) ∧ Below w.heap.size w w' := by
  have hlen := Lib.hid H.len
  have hn := H.le
  by_cases h2 : 200 < n
  · have hC : mdC xs = 3 := by have := H.len; simp [mdC, this, h2]
    have hV : mdV xs = 0 := by simp [mdV, hC]
    go_enter Try.func47, Try.ntmps47
    go_wp2_with fail
    first | go_ret2 | (refine bodyPost_ret (by simp [results, Try.results47, go_sem, *]; try rfl) rfl ?_)
    exact ⟨by simp [hC, hV], by (repeat' (first | (with_reducible exact Below.refl _ _) | (with_reducible assumption) | (with_reducible refine bStep ?_ (by with_reducible assumption)) | (with_reducible refine bAlloc ?_ _) | (with_reducible refine bDrew ?_) | (with_reducible refine bDrewN ?_ _) | (with_reducible refine Below.setCell ?_ ?_ _) | (with_reducible exact Nat.le_refl _) | (simp; done) | (simp; omega)))⟩
  rcases h1 : allIn xs (-1000000000000) 1000000000000
  · have hC : mdC xs = 2 := by have := H.len; simp [mdC, this, h2, h1]
    have hV : mdV xs = 0 := by simp [mdV, hC]
    go_enter Try.func47, Try.ntmps47
    go_wp2_with (go_at_call 87; refine (areWI H _ _ _).mono ?_; rintro e w1 ⟨rfl, rfl⟩; rw [h1])
    first | go_ret2 | (refine bodyPost_ret (by simp [results, Try.results47, go_sem, *]; try rfl) rfl ?_)
    exact ⟨by simp [hC, hV], by (repeat' (first | (with_reducible exact Below.refl _ _) | (with_reducible assumption) | (with_reducible refine bStep ?_ (by with_reducible assumption)) | (with_reducible refine bAlloc ?_ _) | (with_reducible refine bDrew ?_) | (with_reducible refine bDrewN ?_ _) | (with_reducible refine Below.setCell ?_ ?_ _) | (with_reducible exact Nat.le_refl _) | (simp; done) | (simp; omega)))⟩
  by_cases h0 : n = 0
  · subst h0
    have hC : mdC xs = 4 := by have := H.len; simp [mdC, this, h1]
    have hV : mdV xs = 0 := by simp [mdV, hC]
    go_enter Try.func47, Try.ntmps47
    go_wp2_with (go_at_call 87; refine (areWI H _ _ _).mono ?_; rintro e w1 ⟨rfl, rfl⟩; rw [h1])
    first | go_ret2 | (refine bodyPost_ret (by simp [results, Try.results47, go_sem, *]; try rfl) rfl ?_)
    exact ⟨by simp [hC, hV], by (repeat' (first | (with_reducible exact Below.refl _ _) | (with_reducible assumption) | (with_reducible refine bStep ?_ (by with_reducible assumption)) | (with_reducible refine bAlloc ?_ _) | (with_reducible refine bDrew ?_) | (with_reducible refine bDrewN ?_ _) | (with_reducible refine Below.setCell ?_ ?_ _) | (with_reducible exact Nat.le_refl _) | (simp; done) | (simp; omega)))⟩
  have hC : mdC xs = 0 := by have := H.len; simp [mdC, this, h1, h2, h0]
  have SA : Hid ((srt xs)[(n - 1) / 2]? = some (mdV xs)) := by
    have := srt_at (xs := xs) (by have := H.len; omega)
    rw [H.len] at this
    rw [mdV, if_pos hC, H.len]
    exact this
  have hwf := Lib.hid H.2.2.1
  obtain ⟨b, off, eA, hb, hcs⟩ := H.2.2.2 (by omega)
  subst eA
  have HL := H.len
  clear H hlen
  subst HL
  have HCS : Hid (∀ j, j < xs.length → w.cell? ⟨b, off + j, none⟩ = some (.int .i64 (xs[j]?.getD 0))) := fun j hj => hcs j hj
  clear hcs
  have HW : Hid (∀ (v : Value), (w.alloc (.cells #[v] 64)).cell? ⟨w.heap.size, 0, none⟩ = some v) := fun v => by go_simp
  have HB : Hid (∀ (v : Value), Below w.heap.size w (w.alloc (.cells #[v] 64))) := fun v => (Below.refl _ w).alloc (Nat.le_refl _) _
  go_enter Try.func47, Try.ntmps47
  go_wp2_with (first | (go_at_call 87; refine (areWI (n := xs.length) (xs := xs) ⟨rfl, hn, hwf.out, fun hp => ⟨b, off, rfl, hb, HCS.out⟩⟩ _ _ _).mono ?_; rintro e w1 ⟨rfl, rfl⟩; rw [h1]) | (go_at_call 98; refine (valuesM _ _ _ _).mono ?_; rintro e w1 ⟨rfl, rfl⟩) | (go_at_call 97; refine (sortedM w.heap.size b off c xs (by omega) (by omega) _ (by simp) (by simp; omega) (HW.out _) (fun j hj => ((HB.out _).cell (p := ⟨b, off + j, none⟩) hb).trans (HCS.out j hj))).mono ?_; rintro e w2 ⟨g, cp, rfl, ⟨hg, hgw, HC⟩, hB2⟩; have HM := HC _ _ SA.out; have HC := Lib.hid HC))

  first | go_ret2 | (refine bodyPost_ret (by simp [results, Try.results47, go_sem, *]; try rfl) rfl ?_)
  exact ⟨by simp [hC], by (repeat' (first | (with_reducible exact Below.refl _ _) | (with_reducible assumption) | (with_reducible refine bStep ?_ (by with_reducible assumption)) | (with_reducible refine bAlloc ?_ _) | (with_reducible refine bDrew ?_) | (with_reducible refine bDrewN ?_ _) | (with_reducible refine Below.setCell ?_ ?_ _) | (with_reducible exact Nat.le_refl _) | (simp; done) | (simp; omega)))⟩
theorem own0 {w : World} {B G : Nat} {t : TypeId} (hG : w.heap.size = G) (hB : B ≤ G) : (w.alloc (.cells #[] t)).ownsRow B t 1 (.slice (some ⟨G, 0, none⟩) 0 0) 0 [] := by
  subst hG
  exact ⟨rfl, .inr ⟨w.heap.size, 0, #[], rfl, hB, (Array.getElem?_push_size : (w.heap.push _)[w.heap.size]? = _), Nat.le_refl _, by unfold maxLen; omega, rfl, rfl⟩⟩
theorem app_step {ops : Array Oper} {o : Oper} {a : Act} {w : World} {K : Act → World → Prop} {Q : Exit → Act → World → Prop} {E : Prop} (hgd : o.guard = none) (s x : Operand)
    (ho : o.op = .call { callee := .builtin .append, args := #[s, x], argTypes := #[64, 64] })
    (v : Value) (hs : a.eval s = v) (ad : Addr) (m c : Nat) (hx : a.eval x = .slice (some ad) m c) (B n : Nat) (xs news : List Int) (hown : w.ownsRow B 2 1 v n (xs.map (Value.int .i64)))
    (hl : news.length = m) (hnews : ∀ j u, (news.map (Value.int .i64))[j]? = some u → w.cell? (ad.add j) = some u)
    (hsm : n + m ≤ 1000000) (W0 : World) (hW0 : B ≤ W0.heap.size) (hB : Below B W0 w)
    (h : ∀ v' w', w'.ownsRow B 2 1 v' (n + m) ((xs ++ news).map (Value.int .i64)) → w.grownBy w' v.ownBlock → Below B W0 w' → K (a.put o.dst v') w') :
    if Region.wanted o (yielded ops a.tmps) = true then Oper.wp Try.prog o a w K Q else E := by
  obtain ⟨i0, hi, hz0, hz1, hz2⟩ := info_parts infoI64M
  have hw : Region.wanted o (yielded ops a.tmps) = true := by simp [Region.wanted, hgd]
  rw [if_pos hw]
  have hBs : B ≤ w.heap.size := Nat.le_trans hW0 hB.size
  obtain ⟨v', w', hrun, h2, h3, _, h5⟩ := run_append_own_at (P := Try.prog) w B 64 o.type 2 i0 (.int .i64 0) 1 8 Try.underlying64 hi hz0 hz1 hz2 rfl (by decide) v n (xs.map (Value.int .i64)) hown ad m c (news.map (Value.int .i64)) (by simp [hl]) hnews (by intro u hu; simp only [List.mem_map] at hu; obtain ⟨y, _, rfl⟩ := hu; rfl) (by unfold maxLen; omega) (by omega) hBs
  unfold Oper.wp execOp
  simp only [ho, resolve, invoke, builtin, Sem.run_bind, Sem.run_pure, Result.andThen_ok, List.map_toArray, List.map_cons, List.map_nil, hs, hx, hrun]
  refine h v' w' (by rw [List.map_append]; exact h2) h3 (hB.grown h3 hBs ?_)
  intro k hk
  rcases hown.2 with ⟨rfl, _⟩ | ⟨g, cap, cur, rfl, hb, _⟩
  · cases hk
  · simp [Value.ownBlock] at hk; omega
theorem cells_take {wr w' : World} {g P : Nat} {ys : List Int} (H : ∀ j y, ys[j]? = some y → wr.cell? ⟨g, j, none⟩ = some (.int .i64 y)) (hg : g < wr.heap.size) (h : Below wr.heap.size wr w') : ∀ j u, ((ys.take P).map (Value.int .i64))[j]? = some u → w'.cell? ((⟨g, 0, none⟩ : Addr).add j) = some u := by
  intro j u hu
  rw [List.getElem?_map, Option.map_eq_some_iff] at hu
  obtain ⟨y, hy, rfl⟩ := hu
  rw [addr_add, Nat.zero_add]
  refine (h.cell (p := ⟨g, j, none⟩) hg).trans (H j y ?_)
  rw [List.getElem?_take] at hy
  split at hy
  · exact hy
  · cases hy
theorem cells_drop {wr w' : World} {g P : Nat} {ys : List Int} (H : ∀ j y, ys[j]? = some y → wr.cell? ⟨g, j, none⟩ = some (.int .i64 y)) (hg : g < wr.heap.size) (h : Below wr.heap.size wr w') : ∀ j u, ((ys.drop P).map (Value.int .i64))[j]? = some u → w'.cell? ((⟨g, P, none⟩ : Addr).add j) = some u := by
  intro j u hu
  rw [List.getElem?_map, Option.map_eq_some_iff] at hu
  obtain ⟨y, hy, rfl⟩ := hu
  rw [addr_add]
  refine (h.cell (p := ⟨g, P + j, none⟩) hg).trans (H _ y ?_)
  rw [List.getElem?_drop] at hy
  exact hy
theorem cells_nil {w' : World} {ad : Addr} {l : List Int} (h : l.length = 0) : ∀ j u, (l.map (Value.int .i64))[j]? = some u → w'.cell? (ad.add j) = some u := by
  obtain rfl := List.length_eq_zero_iff.1 h
  intro j u hu
  simp at hu
theorem cell_one {w : World} {G : Nat} {x : Int} (h : w.cell? ⟨G, 0, none⟩ = some (.int .i64 x)) : ∀ j u, (([x] : List Int).map (Value.int .i64))[j]? = some u → w.cell? ((⟨G, 0, none⟩ : Addr).add j) = some u := by
  intro j u hu
  rcases j with _ | j
  · simp at hu; subst hu; simpa [Addr.add] using h
  · simp at hu
theorem own_form {w : World} {B : Nat} {t : TypeId} {v : Value} {n : Nat} {l : List Value} (h : w.ownsRow B t 1 v n l) (hn : 0 < n) : ∃ g cap, v = .slice (some ⟨g, 0, none⟩) n cap ∧ n ≤ cap ∧ g < w.heap.size := by
  obtain ⟨g0, cap0, e0, _, hl⟩ := h.form hn
  rcases h.2 with ⟨_, h0⟩ | ⟨g, cap, cur, hv, _, hg, hc, _⟩
  · omega
  · rw [e0] at hv
    injection hv with e1 e2 e3
    subst e3
    exact ⟨g0, cap0, e0, hc, hl⟩
theorem own_eq {w : World} {B : Nat} {t : TypeId} {v : Value} {n m : Nat} {l l' : List Value} (h : w.ownsRow B t 1 v n l) (e : n = m) (el : l = l') : w.ownsRow B t 1 v m l' := by subst e; subst el; exact h
theorem cell_at {w : World} {G : Nat} {v : Value} {t : TypeId} (h : w.heap.size = G) : (w.alloc (.cells #[v] t)).cell? ⟨G, 0, none⟩ = some v := by subst h; simp
theorem cell_old {w : World} {p : Addr} {v : Value} {o : Obj} (h : p.block < w.heap.size) (hc : w.cell? p = some v) : (w.alloc o).cell? p = some v := (World.cell?_alloc_lt w o p h).trans hc
theorem cell_far1 {W w1 : World} {r : Option Nat} {G R : Nat} {v : Value} (hg : W.grownBy w1 r) (hr : r = some R) (hc : W.cell? ⟨G, 0, none⟩ = some v) (hl : G < W.heap.size) (hne : ¬ G = R) : w1.cell? ⟨G, 0, none⟩ = some v :=
  (hg.cell_far ⟨G, 0, none⟩ hl (by subst hr; simpa using hne)).trans hc
theorem sort_perm {xs ys : List Int} {k P : Nat} {x : Int} (h : ys.Perm (xs.take k)) (hx : xs[k]? = some x) : (ins x P ys).Perm (xs.take (k + 1)) := by
  rw [take_step hx]
  exact (ins_perm x P ys).trans ((h.cons x).trans (List.perm_append_singleton x _).symm)
set_option maxHeartbeats 3200000 in
set_option maxRecDepth 20000 in
theorem sortS {w : World} {A : Option Addr} {n : Nat} {xs : List Int} (H : Ints .i64 w A n xs) (hm : n ≤ 200) (c : Nat) : Calls Try.prog 100 #[.slice A n c] w fun e w' => ∃ v, e = .returned v ∧ w'.ownsRow w.heap.size 2 1 v n ((srt xs).map (Value.int .i64)) ∧ Below w.heap.size w w' := by
  have hlen := Lib.hid H.len
  have HH := Lib.hid H
  clear H
  have O0 := Lib.hid (own0 (w := w) (t := 2) rfl (Nat.le_refl w.heap.size))
  go_enter Try.func100, Try.ntmps100
  go_wp2_with fail
  go_loopw [3, 4] (fun v i wr => ∃ (k g cp : Nat) (ys : List Int), k ≤ n ∧ i = .int .i64 (k : Int) ∧ v = .slice (some ⟨g, 0, none⟩) k cp ∧ k ≤ cp ∧ ys.length = k ∧ wr.ownsRow w.heap.size 2 1 (.slice (some ⟨g, 0, none⟩) k cp) k (ys.map (Value.int .i64)) ∧ g < wr.heap.size ∧ Hid (ys.Pairwise (fun x y => x ≤ y)) ∧ Hid (ys.Perm (xs.take k)) ∧ Below w.heap.size w wr) (fun _ i _ => n - (intOf i).toNat)
  case atStart => exact ⟨0, w.heap.size, 0, [], by omega, by first | rfl | (congr 1; done), rfl, Nat.le_refl _, rfl, O0.out, by simp, List.Pairwise.nil, by simp [Hid], by (repeat' (first | (with_reducible exact Below.refl _ _) | (with_reducible assumption) | (with_reducible refine bStep ?_ (by with_reducible assumption)) | (with_reducible refine bAlloc ?_ _) | (with_reducible refine bDrew ?_) | (with_reducible refine bDrewN ?_ _) | (with_reducible refine Below.setCell ?_ ?_ _) | (with_reducible exact Nat.le_refl _) | (simp; done) | (simp; omega)))⟩
  case round =>
    obtain ⟨k, g, cp, ys, hk, rfl, rfl, hkc, hyl, hO, hg, HP, HQ, hB⟩ := hrel
    clear O0
    have HB := Lib.hid hB
    have HO := Lib.hid hO
    have hsz := hB.size
    clear hB hO
    by_cases hlt : k < n
    · obtain ⟨b, off, x, rfl, hb, hc, HX, hw⟩ := (HH.out.below HB.out).at_ hlt
      go_wp2_with fail
      have HC : Hid (∀ j y, ys[j]? = some y → wr.cell? ⟨g, j, none⟩ = some (.int .i64 y)) := by
        intro j y hy
        have := HO.out.cells (g := g) rfl j (.int .i64 y) (by rw [List.getElem?_map, hy]; rfl)
        rw [addr_add] at this
        simpa using this
      have HXc := Lib.hid hc
      clear hc
      go_loopw [5] (fun v w' => ∃ p : Nat, p ≤ k ∧ v = .int .i64 (p : Int) ∧ Hid (∀ z ∈ ys.drop p, x ≤ z) ∧ ∃ q, w' = wr.drewN q) (fun v _ => (intOf v).toNat)
      case atStart => exact ⟨k, Nat.le_refl _, rfl, (by intro z hz; rw [List.drop_of_length_le (by omega)] at hz; cases hz), 0, rfl⟩
      case round =>
        obtain ⟨p, hp, rfl, HD, q, rfl⟩ := hrel
        have hc : wr.cell? ⟨b, off + k, none⟩ = some (.int .i64 x) := HXc.out
        have hEnd : Hid ((p = 0 ∨ ∃ y, ys[p - 1]? = some y ∧ 0 < p ∧ y ≤ x) → ys.take p = ys.take p ∧ (∀ z ∈ ys.take p, z ≤ x)) := fun h => ⟨rfl, stop_take HP.out h⟩
        rcases Nat.eq_zero_or_pos p with h0 | h0
        · subst h0
          have HE := Lib.hid (hEnd.out (.inl rfl)).2
          go_wp2_with fail
          go_quiet (fail)
          all_goals go_wp2_with fail
          have HT := Lib.hid (fun w' (h : Below wr.heap.size wr w') => cells_take (P := 0) HC.out hg h)
          have HDp := Lib.hid (fun w' (h : Below wr.heap.size wr w') => cells_drop (P := 0) HC.out hg h)
          have hPk : 0 ≤ cp := by omega
          have hi1 : (0 : Int) ≤ (0 : Int) := by omega
          have hi2 : (0 : Int) ≤ (cp : Int) := by omega
          have hi3 : (0 : Int) ≤ (k : Int) := by omega
          have hcA : ∀ (m : Nat) (o : Obj), ((wr.drewN m).alloc o).cell? ⟨b, off + k, none⟩ = some (.int .i64 x) := fun m o => (bAlloc (bDrewN (Below.refl wr.heap.size wr) m) o).cell (p := ⟨b, off + k, none⟩) hb |>.trans HXc.out
          go_region_law (first
            | (refine app_step rfl (.tmp 31) (.tmp 34) rfl _ rfl _ _ _ rfl wr.heap.size 0 [] (ys.take (0)) (by first | exact own0 (by simp) (by simp) | exact (own0 (by simp) (by simp)).alloc _) (by first | omega | (simp; done) | (simp; omega)) (HT.out _ (by (repeat' (first | (with_reducible exact Below.refl _ _) | (with_reducible assumption) | (with_reducible refine bStep ?_ (by with_reducible assumption)) | (with_reducible refine bAlloc ?_ _) | (with_reducible refine bDrew ?_) | (with_reducible refine bDrewN ?_ _) | (with_reducible refine Below.setCell ?_ ?_ _) | (with_reducible exact Nat.le_refl _) | (simp; done) | (simp; omega))))) (by omega) wr (Nat.le_refl _) (by (repeat' (first | (with_reducible exact Below.refl _ _) | (with_reducible assumption) | (with_reducible refine bStep ?_ (by with_reducible assumption)) | (with_reducible refine bAlloc ?_ _) | (with_reducible refine bDrew ?_) | (with_reducible refine bDrewN ?_ _) | (with_reducible refine Below.setCell ?_ ?_ _) | (with_reducible exact Nat.le_refl _) | (simp; done) | (simp; omega)))) ?_; intro v1 w1 hO1 hg1 hB1; have hc := (hB1.cell (p := ⟨b, off + k, none⟩) hb).trans HXc.out)
            | (refine app_step rfl (.tmp 41) (.tmp 44) rfl _ rfl _ _ _ rfl wr.heap.size _ _ (ys.drop (0)) hO2 (by first | omega | (simp; done) | (simp; omega)) (by first | exact HDp.out _ (by (repeat' (first | (with_reducible exact Below.refl _ _) | (with_reducible assumption) | (with_reducible refine bStep ?_ (by with_reducible assumption)) | (with_reducible refine bAlloc ?_ _) | (with_reducible refine bDrew ?_) | (with_reducible refine bDrewN ?_ _) | (with_reducible refine Below.setCell ?_ ?_ _) | (with_reducible exact Nat.le_refl _) | (simp; done) | (simp; omega)))) | exact cells_nil (by simp; omega)) (by first | omega | (simp; done) | (simp; omega)) wr (Nat.le_refl _) (by (repeat' (first | (with_reducible exact Below.refl _ _) | (with_reducible assumption) | (with_reducible refine bStep ?_ (by with_reducible assumption)) | (with_reducible refine bAlloc ?_ _) | (with_reducible refine bDrew ?_) | (with_reducible refine bDrewN ?_ _) | (with_reducible refine Below.setCell ?_ ?_ _) | (with_reducible exact Nat.le_refl _) | (simp; done) | (simp; omega)))) ?_; intro v3 w3 hO3 hg3 hB3)
            | (refine app_step rfl (.tmp 35) (.tmp 40) rfl _ rfl _ _ _ rfl wr.heap.size _ _ [x] (by first | exact hO1 | exact hO1.alloc _) rfl (by first | exact cell_one (cell_at (by simp)) | exact cell_one (cell_far1 hg1 rfl (by first | exact cell_at (by simp; done) | exact cell_old (by simp; done) (cell_at (by simp; done)) | exact cell_old (by simp; omega) (cell_at (by simp; done))) (by simp <;> omega) (by simp <;> omega))) (by first | omega | (simp; done) | (simp; omega)) wr (Nat.le_refl _) (by (repeat' (first | (with_reducible exact Below.refl _ _) | (with_reducible assumption) | (with_reducible refine bStep ?_ (by with_reducible assumption)) | (with_reducible refine bAlloc ?_ _) | (with_reducible refine bDrew ?_) | (with_reducible refine bDrewN ?_ _) | (with_reducible refine Below.setCell ?_ ?_ _) | (with_reducible exact Nat.le_refl _) | (simp; done) | (simp; omega)))) ?_; intro v2 w2 hO2 hg2 hB2))
          all_goals
            have hO4 : w3.ownsRow wr.heap.size 2 1 v3 (k + 1) ((ins x (0) ys).map (Value.int .i64)) := own_eq hO3 (by omega) (by simp [ins])
            obtain ⟨g', cp', rfl, hcp, hgl⟩ := own_form hO4 (by omega)
            have HO4 := Lib.hid (hO4.mono hsz)
            clear hO1 hO2 hO3 hO4
            go_wp2_with fail
            go_roundw
            case rel => exact ⟨k + 1, g', cp', ins x (0) ys, by omega, by go_num, rfl, hcp, by rw [ins_len]; omega, HO4.out, hgl, ins_pw HP.out HE.out HD.out, sort_perm HQ.out HX.out, bStep HB.out hB3⟩
            case measure => simp [intOf] <;> omega
        · obtain ⟨p, rfl⟩ : ∃ p', p = p' + 1 := ⟨p - 1, by omega⟩
          have hlp : p < ys.length := by omega
          have hpk : p < k := by omega
          obtain ⟨y, hy⟩ : ∃ y, ys[p]? = some y := ⟨_, List.getElem?_eq_getElem hlp⟩
          have hcy : wr.cell? ⟨g, p, none⟩ = some (.int .i64 y) := HC.out p y hy
          have HY := Lib.hid hy
          clear hy
          by_cases hxy : x < y
          · have hd : decide (x < y) = true := by simpa using hxy
            have hd0 : decide ((0 : Int) < (p : Int) + 1) = true := by simp only [decide_eq_true_eq]; omega
            have hd1 : (0 : Int) < (p : Int) + 1 := by omega
            have hd2 : IntKind.i64.wrap (p : Int) = (p : Int) := IntWalk.i64_in _ (by omega)
            go_wp2_with fail
            go_quiet (fail)
            all_goals go_wp2_with fail
            go_roundw
            case rel => exact ⟨p, by omega, by go_num, drop_step HD.out HY.out (by omega), _, rfl⟩
            case measure => simp [intOf]
          · have hd : decide (x < y) = false := by simpa using hxy
            have hd0 : decide ((0 : Int) < (p : Int) + 1) = true := by simp only [decide_eq_true_eq]; omega
            have hd1 : (0 : Int) < (p : Int) + 1 := by omega
            have hd2 : IntKind.i64.wrap (p : Int) = (p : Int) := IntWalk.i64_in _ (by omega)
            have HE := Lib.hid (hEnd.out (.inr ⟨y, HY.out, by omega, by omega⟩)).2
            go_wp2_with fail
            go_quiet (fail)
            all_goals go_wp2_with fail
            have HT := Lib.hid (fun w' (h : Below wr.heap.size wr w') => cells_take (P := p + 1) HC.out hg h)
            have HDp := Lib.hid (fun w' (h : Below wr.heap.size wr w') => cells_drop (P := p + 1) HC.out hg h)
            have hPk : p + 1 ≤ cp := by omega
            have hi1 : (0 : Int) ≤ (p + 1 : Int) := by omega
            have hi2 : (p + 1 : Int) ≤ (cp : Int) := by omega
            have hi3 : (p + 1 : Int) ≤ (k : Int) := by omega
            have hcA : ∀ (m : Nat) (o : Obj), ((wr.drewN m).alloc o).cell? ⟨b, off + k, none⟩ = some (.int .i64 x) := fun m o => (bAlloc (bDrewN (Below.refl wr.heap.size wr) m) o).cell (p := ⟨b, off + k, none⟩) hb |>.trans HXc.out
            by_cases hca : cp = p + 1
            all_goals
              go_region_law (first
                | (refine app_step rfl (.tmp 31) (.tmp 34) rfl _ rfl _ _ _ rfl wr.heap.size 0 [] (ys.take (p + 1)) (by first | exact own0 (by simp) (by simp) | exact (own0 (by simp) (by simp)).alloc _) (by first | omega | (simp; done) | (simp; omega)) (HT.out _ (by (repeat' (first | (with_reducible exact Below.refl _ _) | (with_reducible assumption) | (with_reducible refine bStep ?_ (by with_reducible assumption)) | (with_reducible refine bAlloc ?_ _) | (with_reducible refine bDrew ?_) | (with_reducible refine bDrewN ?_ _) | (with_reducible refine Below.setCell ?_ ?_ _) | (with_reducible exact Nat.le_refl _) | (simp; done) | (simp; omega))))) (by omega) wr (Nat.le_refl _) (by (repeat' (first | (with_reducible exact Below.refl _ _) | (with_reducible assumption) | (with_reducible refine bStep ?_ (by with_reducible assumption)) | (with_reducible refine bAlloc ?_ _) | (with_reducible refine bDrew ?_) | (with_reducible refine bDrewN ?_ _) | (with_reducible refine Below.setCell ?_ ?_ _) | (with_reducible exact Nat.le_refl _) | (simp; done) | (simp; omega)))) ?_; intro v1 w1 hO1 hg1 hB1; have hc := (hB1.cell (p := ⟨b, off + k, none⟩) hb).trans HXc.out)
                | (refine app_step rfl (.tmp 41) (.tmp 44) rfl _ rfl _ _ _ rfl wr.heap.size _ _ (ys.drop (p + 1)) hO2 (by first | omega | (simp; done) | (simp; omega)) (by first | exact HDp.out _ (by (repeat' (first | (with_reducible exact Below.refl _ _) | (with_reducible assumption) | (with_reducible refine bStep ?_ (by with_reducible assumption)) | (with_reducible refine bAlloc ?_ _) | (with_reducible refine bDrew ?_) | (with_reducible refine bDrewN ?_ _) | (with_reducible refine Below.setCell ?_ ?_ _) | (with_reducible exact Nat.le_refl _) | (simp; done) | (simp; omega)))) | exact cells_nil (by simp; omega)) (by first | omega | (simp; done) | (simp; omega)) wr (Nat.le_refl _) (by (repeat' (first | (with_reducible exact Below.refl _ _) | (with_reducible assumption) | (with_reducible refine bStep ?_ (by with_reducible assumption)) | (with_reducible refine bAlloc ?_ _) | (with_reducible refine bDrew ?_) | (with_reducible refine bDrewN ?_ _) | (with_reducible refine Below.setCell ?_ ?_ _) | (with_reducible exact Nat.le_refl _) | (simp; done) | (simp; omega)))) ?_; intro v3 w3 hO3 hg3 hB3)
                | (refine app_step rfl (.tmp 35) (.tmp 40) rfl _ rfl _ _ _ rfl wr.heap.size _ _ [x] (by first | exact hO1 | exact hO1.alloc _) rfl (by first | exact cell_one (cell_at (by simp)) | exact cell_one (cell_far1 hg1 rfl (by first | exact cell_at (by simp; done) | exact cell_old (by simp; done) (cell_at (by simp; done)) | exact cell_old (by simp; omega) (cell_at (by simp; done))) (by simp <;> omega) (by simp <;> omega))) (by first | omega | (simp; done) | (simp; omega)) wr (Nat.le_refl _) (by (repeat' (first | (with_reducible exact Below.refl _ _) | (with_reducible assumption) | (with_reducible refine bStep ?_ (by with_reducible assumption)) | (with_reducible refine bAlloc ?_ _) | (with_reducible refine bDrew ?_) | (with_reducible refine bDrewN ?_ _) | (with_reducible refine Below.setCell ?_ ?_ _) | (with_reducible exact Nat.le_refl _) | (simp; done) | (simp; omega)))) ?_; intro v2 w2 hO2 hg2 hB2))
              all_goals
                have hO4 : w3.ownsRow wr.heap.size 2 1 v3 (k + 1) ((ins x (p + 1) ys).map (Value.int .i64)) := own_eq hO3 (by omega) (by simp [ins])
                obtain ⟨g', cp', rfl, hcp, hgl⟩ := own_form hO4 (by omega)
                have HO4 := Lib.hid (hO4.mono hsz)
                clear hO1 hO2 hO3 hO4
                go_wp2_with fail
                go_roundw
                case rel => exact ⟨k + 1, g', cp', ins x (p + 1) ys, by omega, by go_num, rfl, hcp, by rw [ins_len]; omega, HO4.out, hgl, ins_pw HP.out HE.out HD.out, sort_perm HQ.out HX.out, bStep HB.out hB3⟩
                case measure => simp [intOf] <;> omega
    · obtain rfl : k = n := by omega
      go_wp2_with fail
      go_ret
      have e : ys = srt xs := srt_eq HP.out (by have := HQ.out; rw [List.take_of_length_le (by have := hlen.out; omega)] at this; exact this)
      subst e
      exact ⟨_, rfl, HO.out, HB.out⟩
end Go.Proofs.Ytincelkcbdjcjaa
