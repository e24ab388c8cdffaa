/- Reading a profile: the reference's contract. -/
import Derived.Test.YtgnpbgknmapejaaDoorRpM
import Derived.Test.YtgnpbgknmapejaaDoorRdR
import Derived.Test.YtgnpbgknmapejaaDoorTwo
namespace Go.Proofs.YtgnpbgknmapejaaDoor
open Go.RowKit
set_option linter.unusedVariables false

def RP (o : Option (List (Int × Int))) (w : World) (e : Ending) (w' : World) : Prop := ∃ A c D d, e = .returned (.tuple #[.agg #[.slice A (rpX o).length c, .slice D (rpY o).length d], .bool o.isSome]) ∧ Two w.heap.size w' (.slice A (rpX o).length c) (.slice D (rpY o).length d) (rpX o) (rpY o) ∧ Below w.heap.size w w'
theorem rp_none {o : Option (List (Int × Int))} {w w' : World} (h : o = none) (hb : Below w.heap.size w w') : RP o w (.returned (.tuple #[.agg #[.slice none 0 0, .slice none 0 0], .bool false])) w' := by
  subst h
  exact ⟨none, 0, none, 0, rfl, Two.nil_ _ _, hb⟩
theorem rp_some {o : Option (List (Int × Int))} {ps : List (Int × Int)} {w w' : World} {A D : Option Addr} {c d B : Nat} (h : o = some ps) (hT : Two B w' (.slice A (ps.map Prod.fst).length c) (.slice D (ps.map Prod.snd).length d) (ps.map Prod.fst) (ps.map Prod.snd)) (hB : w.heap.size ≤ B) (hb : Below w.heap.size w w') :
    RP o w (.returned (.tuple #[.agg #[.slice A (ps.map Prod.fst).length c, .slice D (ps.map Prod.snd).length d], .bool true])) w' := by
  subst h
  exact ⟨A, c, D, d, rfl, hT.mono hB, hb⟩
theorem sp_small {s : ByteArray} {c : UInt8} {ws : List ByteArray} (h : ws.map bl = spl c (bl s) []) (hs : s.size ≤ 2097152) : ∀ x ∈ ws, x.size ≤ 2097152 := by
  intro x hx
  have hm : bl x ∈ spl c (bl s) [] := by rw [← h]; exact List.mem_map_of_mem hx
  have h1 := spl_len c (bl s) [] _ hm
  have h2 : (bl x).length = x.size := size_list x
  have h3 : (bl s).length = s.size := size_list s
  simp at h1
  omega
theorem all2_mem {f : List UInt8 → Option (Int × Int)} : ∀ {r : List (List UInt8)} {ps : List (Int × Int)}, all2 f r = some ps → ∀ p ∈ ps, ∃ l, f l = some p
  | [], ps, h, p, hp => by
    simp only [all2] at h
    injection h with h
    subst h
    cases hp
  | v :: r, ps, h, p, hp => by
    obtain ⟨q, qs, h1, h2, rfl⟩ := all2_cons.1 h
    rcases List.mem_cons.1 hp with rfl | hp
    · exact ⟨v, h1⟩
    · exact all2_mem h2 p hp
theorem wS_wf {r : List (List UInt8)} {ps : List (Int × Int)} (h : all2 wS r = some ps) : (∀ x ∈ ps.map Prod.fst, (Lit.int .i64 x).wf = true) ∧ ∀ x ∈ ps.map Prod.snd, (Lit.int .i64 x).wf = true := by
  refine ⟨?_, ?_⟩
  all_goals
    intro x hx
    obtain ⟨p, hp, rfl⟩ := List.mem_map.1 hx
    obtain ⟨l, hl⟩ := all2_mem h p hp
    have := wS_iff.1 (show wS l = some (p.1, p.2) from hl)
    exact WalkArith.wf_i64 (by omega)
theorem two_list {ws : List ByteArray} (h : ws.length = 2) : ∃ u v, ws = [u, v] := by
  match ws, h with
  | [u, v], _ => exact ⟨u, v, rfl⟩
set_option maxHeartbeats 3200000 in
set_option maxRecDepth 20000 in
theorem rpS (s : ByteArray) (w : World) (hs : s.size ≤ 2097152) : Calls Tryd.prog 29 #[.string s] w (RP (rpO wS (bl s)) w) := by
  have h44 : ((44 : UInt8).toNat : Int) = 44 := rfl
  have h58 : ((58 : UInt8).toNat : Int) = 58 := rfl
  have SP : ∀ w0 : World, Calls Tryd.prog 58 #[.string s, .int .u8 44] w0 (SplP s 44 w0) := fun w0 => splS s 44 w0 hs
  have SP := Lib.hid SP
  have SW : Hid (∀ (x : ByteArray) (w0 : World), x.size ≤ 2097152 → Calls Tryd.prog 58 #[.string x, .int .u8 58] w0 (SplP x 58 w0)) := fun x w0 h => splS x 58 w0 h
  go_enter Tryd.func29, Tryd.ntmps29
  go_wp2_with fail
  refine (SP.out _).mono ?_
  rintro e w1 ⟨A, n, cp, ws, rfl, ⟨HS, hsp⟩, hb1⟩
  have hz1 := hb1.size
  simp at hz1
  have Z1 : Hid (Box2 w1 w.heap.size (.slice none 0 0) (.slice none 0 0)) := (Box2.new rfl).below hb1 (by simp)
  have Bw : Hid (Below w.heap.size w w1) := by show Below w.heap.size w w1; (repeat' (first | (with_reducible exact Below.refl _ _) | (with_reducible assumption) | (with_reducible refine bStep ?_ (by with_reducible assumption)) | (with_reducible refine bAlloc ?_ _) | (with_reducible refine bDrew ?_) | (with_reducible refine bDrewN ?_ _) | (with_reducible refine Below.setCell ?_ ?_ _) | (with_reducible exact Nat.le_refl _) | (simp; done) | (simp; omega)))
  have hzw := Lib.hid (sp_small hsp.out hs)
  have hl := Lib.hid HS.1
  have hn4 := HS.2.1
  have HS := Lib.hid HS
  have TS := Lib.hid (two_start w1)
  clear hb1 SP
  go_wp2_with fail
  go_loopw [5, 6, 7] (fun v u i wr => ∃ (k : Nat) (ps : List (Int × Int)), k ≤ n ∧ i = .int .i64 k ∧ ps.length = k ∧ Hid (Two w1.heap.size wr v u (ps.map Prod.fst) (ps.map Prod.snd)) ∧ Hid (all2 wS ((ws.map bl).take k) = some ps) ∧ Below w1.heap.size w1 wr) (fun _ _ i _ => n - (intOf i).toNat)
  case atStart => exact ⟨0, [], Nat.zero_le _, rfl, rfl, TS, by show all2 wS [] = some []; rfl, by (repeat' (first | (with_reducible exact Below.refl _ _) | (with_reducible assumption) | (with_reducible refine bStep ?_ (by with_reducible assumption)) | (with_reducible refine bAlloc ?_ _) | (with_reducible refine bDrew ?_) | (with_reducible refine bDrewN ?_ _) | (with_reducible refine Below.setCell ?_ ?_ _) | (with_reducible exact Nat.le_refl _) | (simp; done) | (simp; omega)))⟩
  case round =>
    obtain ⟨k, ps, hk, rfl, hpl, HT, HA, hbel⟩ := hrel
    clear TS
    have hsr := hbel.size
    have Zr : Hid (Box2 wr w.heap.size (.slice none 0 0) (.slice none 0 0)) := Z1.out.below hbel (by omega)
    by_cases hlt : k < n
    · have hl1 : (k : Int) < (n : Int) := by omega
      obtain ⟨b, rfl, hb, hcb⟩ := (HS.out.below hbel).2.2 (by omega)
      have hkl : k < ws.length := by have := hl.out; omega
      have hx : ws[k]? = some ws[k] := List.getElem?_eq_getElem hkl
      have hc := hcb k _ hx
      have hsz := hzw.out _ (List.getElem_mem hkl)
      obtain ⟨x, hxe⟩ : ∃ x, ws[k] = x := ⟨_, rfl⟩
      rw [hxe] at hx hc hsz
      have Hx := Lib.hid hx
      have Hm : Hid (bl x ∈ spl 44 (bl s) []) := by show _ ∈ _; rw [← hsp.out]; exact List.mem_map_of_mem (List.mem_of_getElem? hx)
      clear hcb hxe hkl hx
      go_wp2_with fail
      refine (SW.out x _ hsz).mono ?_
      rintro e w2 ⟨A2, n2, cp2, ws2, rfl, ⟨HS2, hsp2⟩, hb2⟩
      have hz2 := hb2.size
      have hzw2 := sp_small hsp2.out hsz
      have hl2 := HS2.1
      go_wp2_with fail
      refine (numsS HS2 _ hzw2).mono ?_
      rintro e w3 ⟨HN, hb3⟩
      have hz3 := hb3.size
      have b3 : Below wr.heap.size wr w3 := by (repeat' (first | (with_reducible exact Below.refl _ _) | (with_reducible assumption) | (with_reducible refine bStep ?_ (by with_reducible assumption)) | (with_reducible refine bAlloc ?_ _) | (with_reducible refine bDrew ?_) | (with_reducible refine bDrewN ?_ _) | (with_reducible refine Below.setCell ?_ ?_ _) | (with_reducible exact Nat.le_refl _) | (simp; done) | (simp; omega)))
      have Z3 := Zr.out.below b3 (by omega)
      have HT3 := Lib.hid (HT.out.below b3)
      have OB := Lib.hid (fun q (e : Value.ownBlock _ = some q) => (tw_lt HT.out.one q e).2)
      have T3 := Lib.hid (hbel.trans (b3.mono hsr))
      obtain ⟨⟨z0, z1⟩, y0, y1⟩ := Z3
      clear HT HS2 hzw2 Zr hb2 hb3 b3 hc
      rcases HN with ⟨A3, c3, rfl, hall, O⟩ | ⟨rfl, hbad⟩
      case inr =>
        have fin : Hid (rpO wS (bl s) = none) := by
          obtain ⟨z, hz, hq⟩ := hbad.out
          exact rpO_bad Hm.out (wS_bad (by rw [← hsp2.out]; exact List.mem_map_of_mem hz) hq)
        have B3w : Below w.heap.size w w3 := Bw.out.trans (T3.out.mono (by omega))
        clear hbad hbel
        go_wp2_with fail
        (first | (go_quiet (fail)) | (go_region) | (go_region_with (fail)) | skip)
        all_goals go_wp2
        all_goals (first | go_ret | go_ret2 | go_returns | (refine bodyPost_ret (by simp [results, Tryd.results29, go_sem, *]; try rfl) rfl ?_))
        all_goals exact rp_none fin.out (by (repeat' (first | (with_reducible exact Below.refl _ _) | (with_reducible assumption) | (with_reducible refine bStep ?_ (by with_reducible assumption)) | (with_reducible refine bAlloc ?_ _) | (with_reducible refine bDrew ?_) | (with_reducible refine bDrewN ?_ _) | (with_reducible refine Below.setCell ?_ ?_ _) | (with_reducible exact Nat.le_refl _) | (simp; done) | (simp; omega))))
      by_cases hn2 : n2 = 2
      case neg =>
        have fin : Hid (rpO wS (bl s) = none) := rpO_bad Hm.out (wS_len (by rw [← hsp2.out, List.length_map]; omega))
        have B3w : Below w.heap.size w w3 := Bw.out.trans (T3.out.mono (by omega))
        have g1 : ¬ (n2 : Int) = 2 := by omega
        have g2 : ((n2 : Int) == 2) = false := by rw [beq_eq_false_iff_ne]; exact g1
        have g3 : ((n2 : Int) != 2) = true := by rw [bne, g2]; rfl
        clear hall O hbel
        go_wp2_with fail
        (first | (go_quiet (fail)) | (go_region) | (go_region_with (fail)) | skip)
        all_goals go_wp2
        all_goals (first | go_ret | go_ret2 | go_returns | (refine bodyPost_ret (by simp [results, Tryd.results29, go_sem, *]; try rfl) rfl ?_))
        all_goals exact rp_none fin.out (by (repeat' (first | (with_reducible exact Below.refl _ _) | (with_reducible assumption) | (with_reducible refine bStep ?_ (by with_reducible assumption)) | (with_reducible refine bAlloc ?_ _) | (with_reducible refine bDrew ?_) | (with_reducible refine bDrewN ?_ _) | (with_reducible refine Below.setCell ?_ ?_ _) | (with_reducible exact Nat.le_refl _) | (simp; done) | (simp; omega))))
      subst hn2
      obtain ⟨p, q, rfl⟩ := two_list hl2
      obtain ⟨b3, cap, cur, e1, hB, hgb, hrest⟩ : ∃ b cap cur, (Value.slice A3 2 c3) = .slice (some ⟨b, 0, none⟩) 2 cap ∧ w2.heap.size ≤ b ∧ w3.heap[b]? = some (.cells cur 2 (0, 0)) ∧ True := by
        rcases O.2 with ⟨h, h'⟩ | ⟨b, cap, cur, h, hB, hg, r⟩
        · omega
        · exact ⟨b, cap, cur, h, hB, hg, trivial⟩
      injection e1 with e1 e3 e4
      subst e1; subst e4
      obtain ⟨y0', hy0⟩ : ∃ y, sgN (bl p) = y := ⟨_, rfl⟩
      obtain ⟨y1', hy1⟩ : ∃ y, sgN (bl q) = y := ⟨_, rfl⟩
      have p0 : w3.cell? ⟨b3, 0, none⟩ = some (.int .i64 y0') := by have := O.cellAt 0 (by omega); rw [this, ← hy0]; rfl
      have p1 : w3.cell? ⟨b3, 1, none⟩ = some (.int .i64 y1') := by have := O.cellAt 1 (by omega); rw [this, ← hy1]; rfl
      have hblt : b3 < w3.heap.size := lt_of_block hgb
      have hall := hall.out
      have hW : Hid (all2 wS ((ws.map bl).take (k + 1)) = some (ps ++ [(y0', y1')])) := by
        refine all2_take HA.out (by rw [List.getElem?_map, Hx.out]; rfl) ?_
        rw [← hy0, ← hy1]
        exact wS_sg (by rw [← hsp2.out]; rfl) (hall p (List.mem_cons_self ..)) (hall q (List.mem_cons_of_mem _ (List.mem_cons_self ..)))
      have P1 : Hid (w3.cell? ⟨b3, 1, none⟩ = some (.int .i64 y1')) := p1
      clear hall O hy0 hy1 hgb hrest p1 hsp2 HA hbel
      have hpl4 : ps.length ≤ 4194303 := by omega
      go_wp2_with (first
        | (at_builtin; refine wpList_two rfl _ _ rfl rfl (HT3.out.below (w' := w3.alloc (.cells #[.int .i64 y0'] 2)) ((Below.refl _ _).alloc (Nat.le_refl _) _)) _ 1 rfl y0' (by go_simp) (by rw [List.length_map]; omega) (by simp; omega) ?_; rintro v4 w4 ⟨H4, B4, C4⟩; have HT4 := Lib.hid H4; have T4 := Lib.hid ((T3.out.alloc (by omega) _).trans B4); have p1 : w4.cell? ⟨b3, 1, none⟩ = some (.int .i64 y1') := (C4 b3 1 (by simp; omega) (fun q e h => by have := OB.out q e; omega)).trans (by have := P1.out; go_simp); have hz4 := B4.size; (try simp at hz4); clear H4 C4 B4)
        | (at_builtin; refine wpList_two rfl _ _ rfl rfl (HT4.out.swap.below (w' := w4.alloc (.cells #[.int .i64 y1'] 2)) ((Below.refl _ _).alloc (Nat.le_refl _) _)) _ 1 rfl y1' (by go_simp) (by rw [List.length_map]; omega) (by simp; omega) ?_; rintro v5 w5 ⟨H5, B5, C5⟩; have HT5 := Lib.hid H5.swap; have T5 := Lib.hid ((T4.out.alloc (by omega) _).trans B5); clear H5 C5 B5))
      go_roundw
      case rel => exact ⟨k + 1, ps ++ [(y0', y1')], by omega, by first | rfl | go_num, by simp [hpl], by rw [List.map_append, List.map_append]; exact HT5.out, hW, T5.out⟩
      case measure => simp [intOf] <;> omega
    · obtain rfl : k = n := by omega
      have hl1 : ¬ (k : Int) < (k : Int) := by omega
      have et : (ws.map bl).take k = spl 44 (bl s) [] := by rw [← hsp.out]; exact List.take_of_length_le (by have := hl.out; simp; omega)
      have HA : Hid (all2 wS (spl 44 (bl s) []) = some ps) := by rw [← et]; exact HA
      clear et
      obtain ⟨A1, c1, D1, d1, rfl, rfl⟩ := HT.out.form
      have wf := wS_wf HA.out
      have I1 := Ints.of_own HT.out.one (by simp; omega) wf.1
      have I2 := Ints.of_own HT.out.two (by simp; omega) wf.2
      have hrb := Zr.out.lt
      obtain ⟨⟨z0, z1⟩, y0, y1⟩ := Zr.out
      have ne1 : ¬ w.heap.size = wr.heap.size := by omega
      have ne2 : ¬ wr.heap.size = w.heap.size := by omega
      have Bwr := Lib.hid (Bw.out.trans (hbel.mono (by omega)))
      obtain ⟨m1, hm1⟩ : ∃ m, (ps.map Prod.fst).length = m := ⟨_, rfl⟩
      obtain ⟨m2, hm2⟩ : ∃ m, (ps.map Prod.snd).length = m := ⟨_, rfl⟩
      rw [hm1] at I1 ⊢
      rw [hm2] at I2 ⊢
      clear hbel wf HS
      rcases hp : pfB (ps.map Prod.fst) (ps.map Prod.snd)
      · have fin : Hid (rpO wS (bl s) = none) := by show _ = _; rw [rpO_all HA.out, hp]; rfl
        have Bq := Bwr.out
        go_wp2_with (go_at_call 74; refine (isPfS (I1.below (by (repeat' (first | (with_reducible exact Below.refl _ _) | (with_reducible assumption) | (with_reducible refine bStep ?_ (by with_reducible assumption)) | (with_reducible refine bAlloc ?_ _) | (with_reducible refine bDrew ?_) | (with_reducible refine bDrewN ?_ _) | (with_reducible refine Below.setCell ?_ ?_ _) | (with_reducible exact Nat.le_refl _) | (simp; done) | (simp; omega))))) (I2.below (by (repeat' (first | (with_reducible exact Below.refl _ _) | (with_reducible assumption) | (with_reducible refine bStep ?_ (by with_reducible assumption)) | (with_reducible refine bAlloc ?_ _) | (with_reducible refine bDrew ?_) | (with_reducible refine bDrewN ?_ _) | (with_reducible refine Below.setCell ?_ ?_ _) | (with_reducible exact Nat.le_refl _) | (simp; done) | (simp; omega))))) _ _).mono ?_; rintro e w5 ⟨rfl, hb5⟩; rw [hp]; obtain ⟨hc5, hf5⟩ := bcell hb5; have hs5 := hb5.size; (try simp at hs5); have c50 := hc5 w.heap.size 0 (by simp; omega); have c51 := hc5 w.heap.size 1 (by simp; omega); have f50 := hf5 w.heap.size 0 (by simp; omega); have f51 := hf5 w.heap.size 1 (by simp; omega); have c52 := hc5 wr.heap.size 0 (by simp); have c53 := hc5 wr.heap.size 1 (by simp))
        all_goals (first | go_ret | go_ret2 | go_returns | (refine bodyPost_ret (by simp [results, Tryd.results29, go_sem, *]; try rfl) rfl ?_))
        all_goals exact rp_none fin.out (by (repeat' (first | (with_reducible exact Below.refl _ _) | (with_reducible assumption) | (with_reducible refine bStep ?_ (by with_reducible assumption)) | (with_reducible refine bAlloc ?_ _) | (with_reducible refine bDrew ?_) | (with_reducible refine bDrewN ?_ _) | (with_reducible refine Below.setCell ?_ ?_ _) | (with_reducible exact Nat.le_refl _) | (simp; done) | (simp; omega))))
      · have fin : Hid (rpO wS (bl s) = some ps) := by show _ = _; rw [rpO_all HA.out, hp]; rfl
        have Bq := Bwr.out
        go_wp2_with (go_at_call 74; refine (isPfS (I1.below (by (repeat' (first | (with_reducible exact Below.refl _ _) | (with_reducible assumption) | (with_reducible refine bStep ?_ (by with_reducible assumption)) | (with_reducible refine bAlloc ?_ _) | (with_reducible refine bDrew ?_) | (with_reducible refine bDrewN ?_ _) | (with_reducible refine Below.setCell ?_ ?_ _) | (with_reducible exact Nat.le_refl _) | (simp; done) | (simp; omega))))) (I2.below (by (repeat' (first | (with_reducible exact Below.refl _ _) | (with_reducible assumption) | (with_reducible refine bStep ?_ (by with_reducible assumption)) | (with_reducible refine bAlloc ?_ _) | (with_reducible refine bDrew ?_) | (with_reducible refine bDrewN ?_ _) | (with_reducible refine Below.setCell ?_ ?_ _) | (with_reducible exact Nat.le_refl _) | (simp; done) | (simp; omega))))) _ _).mono ?_; rintro e w5 ⟨rfl, hb5⟩; rw [hp]; obtain ⟨hc5, hf5⟩ := bcell hb5; have hs5 := hb5.size; (try simp at hs5); have c50 := hc5 w.heap.size 0 (by simp; omega); have c51 := hc5 w.heap.size 1 (by simp; omega); have f50 := hf5 w.heap.size 0 (by simp; omega); have f51 := hf5 w.heap.size 1 (by simp; omega); have c52 := hc5 wr.heap.size 0 (by simp); have c53 := hc5 wr.heap.size 1 (by simp))
        all_goals (first | go_ret | go_ret2 | go_returns | (refine bodyPost_ret (by simp [results, Tryd.results29, go_sem, *]; try rfl) rfl ?_))
        all_goals subst hm1; subst hm2
        all_goals exact rp_some fin.out ((HT.out.below (w' := w5) (by (repeat' (first | (with_reducible exact Below.refl _ _) | (with_reducible assumption) | (with_reducible refine bStep ?_ (by with_reducible assumption)) | (with_reducible refine bAlloc ?_ _) | (with_reducible refine bDrew ?_) | (with_reducible refine bDrewN ?_ _) | (with_reducible refine Below.setCell ?_ ?_ _) | (with_reducible exact Nat.le_refl _) | (simp; done) | (simp; omega))))).gr (g := w.heap.size) (by (repeat' (first | (with_reducible exact Gr.refl _ _) | (with_reducible assumption) | (with_reducible refine Gr.trans ?_ (by with_reducible assumption)) | (with_reducible refine Gr.below ?_ (by with_reducible assumption)) | (with_reducible refine Gr.alloc ?_ _) | (with_reducible refine Gr.drew ?_) | (with_reducible refine Gr.drewN ?_ _) | (with_reducible refine Gr.setCell ?_ ?_ _) | (exact .inl rfl) | (right; simp; done) | (right; simp; omega)))) (by omega)) (by omega) (by (repeat' (first | (with_reducible exact Below.refl _ _) | (with_reducible assumption) | (with_reducible refine bStep ?_ (by with_reducible assumption)) | (with_reducible refine bAlloc ?_ _) | (with_reducible refine bDrew ?_) | (with_reducible refine bDrewN ?_ _) | (with_reducible refine Below.setCell ?_ ?_ _) | (with_reducible exact Nat.le_refl _) | (simp; done) | (simp; omega))))
end Go.Proofs.YtgnpbgknmapejaaDoor
