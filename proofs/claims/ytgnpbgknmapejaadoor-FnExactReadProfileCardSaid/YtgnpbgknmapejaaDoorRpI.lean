/- Reading a profile: the program's contract. -/
import Derived.Test.YtgnpbgknmapejaaDoorRpS
import Derived.Test.YtgnpbgknmapejaaDoorEnvOf
namespace Go.Proofs.YtgnpbgknmapejaaDoor
open Go.RowKit
set_option linter.unusedVariables false

theorem cut58_len (l : List UInt8) : (Lib.cut l [58]).1.length ≤ l.length ∧ (Lib.cut l [58]).2.1.length ≤ l.length := by
  by_cases h : (58 : UInt8) ∈ l
  · obtain ⟨a, b, rfl, hn⟩ := List.eq_append_cons_of_mem h
    rw [cut_at hn]
    simp
    omega
  · rw [cut_no h]
    simp
def Cut58 (s : ByteArray) (w : World) (e : Ending) (w' : World) : Prop := ∃ (p q : ByteArray) (k : Bool), e = .returned (.tuple #[.string p, .string q, .bool k]) ∧ (Hid (bl p = (Lib.cut (bl s) [58]).1 ∧ bl q = (Lib.cut (bl s) [58]).2.1) ∧ p.size ≤ 2097152 ∧ q.size ≤ 2097152) ∧ Below w.heap.size w w'
def SplQ (s : ByteArray) (w : World) (e : Ending) (w' : World) : Prop := ∃ (n : Nat) (ws : List ByteArray), e = .returned (.slice (some ⟨w.heap.size, 0, none⟩) n n) ∧ ((ws.length = n ∧ n ≤ 2097153 ∧ w.heap.size < w'.heap.size) ∧ Hid (∀ j x, ws[j]? = some x → w'.cell? ⟨w.heap.size, j, none⟩ = some (.string x)) ∧ Hid (ws.map bl = spl 44 (bl s) [])) ∧ Below w.heap.size w w'
def pr2 (a b : Option Int) : Option (Int × Int) := match a, b with
  | some x, some y => some (x, y)
  | _, _ => none
theorem wP_of {l u v : List UInt8} {a b : Option Int} (hu : u = (Lib.cut l [58]).1) (hv : v = (Lib.cut l [58]).2.1) (ha : rd u = a) (hb : rd v = b) : wP l = pr2 a b := by
  subst hu hv ha hb
  rfl
theorem wP_wf {r : List (List UInt8)} {ps : List (Int × Int)} (h : all2 wP r = some ps) : (∀ x ∈ ps.map Prod.fst, (Lit.int .i64 x).wf = true) ∧ ∀ x ∈ ps.map Prod.snd, (Lit.int .i64 x).wf = true := by
  refine ⟨?_, ?_⟩
  all_goals
    intro x hx
    obtain ⟨p, hp, rfl⟩ := List.mem_map.1 hx
    obtain ⟨l, hl⟩ := all2_mem h p hp
    have := wP_iff.1 (show wP l = some (p.1, p.2) from hl)
    exact WalkArith.wf_i64 (by omega)
theorem own_len {w : World} {B : Nat} {t : TypeId} {v : Value} {xs : List Int} {k : Nat} (h : w.ownsRow B t 1 v xs.length (xs.map (Value.int .i64))) (hk : xs.length = k) : w.ownsRow B t 1 v k (xs.map (Value.int .i64)) := by subst hk; exact h
theorem rp_some2 {o : Option (List (Int × Int))} {ps : List (Int × Int)} {xs ys : List Int} {w w' : World} {A D : Option Addr} {c d B k : Nat} (h : o = some ps) (hx : xs = ps.map Prod.fst) (hy : ys = ps.map Prod.snd) (hxl : xs.length = k) (hyl : ys.length = k) (hT : Two B w' (.slice A k c) (.slice D k d) xs ys) (hB : w.heap.size ≤ B) (hb : Below w.heap.size w w') :
    RP o w (.returned (.tuple #[.agg #[.slice A k c, .slice D k d], .bool true])) w' := by
  subst h hx hy
  refine ⟨A, c, D, d, ?_, ?_, hb⟩
  · show _ = Ending.returned (.tuple #[.agg #[.slice A (ps.map Prod.fst).length c, .slice D (ps.map Prod.snd).length d], .bool true])
    rw [hxl, hyl]
  · show Two w.heap.size w' (.slice A (ps.map Prod.fst).length c) (.slice D (ps.map Prod.snd).length d) (ps.map Prod.fst) (ps.map Prod.snd)
    rw [hxl, hyl]
    exact hT.mono hB
theorem cutJ (s : ByteArray) (w : World) (hs : s.size ≤ 2097152) (E : Env w) : Calls Tryd.prog 54 #[.string s, .string ⟨#[58]⟩] w (Cut58 s w) := by
  obtain ⟨_, _, _, m, hm⟩ := E
  refine (Tryd.strings_Cut s ⟨#[58]⟩ m w (by omega) hm).mono ?_
  rintro e w' ⟨rfl, n, rfl⟩
  have h1 := cut58_len (bl s)
  have h2 : (bl s).length = s.size := size_list s
  refine ⟨_, _, _, rfl, ⟨⟨rfl, rfl⟩, ?_, ?_⟩, below_drewN (Below.refl _ _) n⟩
  · show (Lib.cut (bl s) [58]).1.toArray.size ≤ _
    rw [List.size_toArray]; omega
  · show (Lib.cut (bl s) [58]).2.1.toArray.size ≤ _
    rw [List.size_toArray]; omega
theorem splitI (s : ByteArray) (w : World) (hs : s.size ≤ 2097152) (E : Env w) : Calls Tryd.prog 75 #[.string s, .string ⟨#[44]⟩] w (SplQ s w) := by
  obtain ⟨_, _, _, m, hm⟩ := E
  refine (Tryd.strings_Split s ⟨#[44]⟩ m w (by omega) hm (by decide)).mono ?_
  rintro e w' ⟨rfl, rfl⟩
  have hl := Lib.splitB_all ⟨#[44]⟩ (by decide) 0 _ s rfl
  have hc := Lib.countB_le ⟨#[44]⟩ (by decide) s.size s (Nat.le_refl _)
  refine ⟨_, Lib.splitB ⟨#[44]⟩ 0 (Lib.countB s ⟨#[44]⟩) s, rfl, ⟨⟨hl, by omega, by simp⟩, ?_, split_pieces s 44⟩, (Below.refl _ _).alloc (Nat.le_refl _) _⟩
  intro j x hx
  rw [World.cell?_alloc_new]
  rw [List.getElem?_toArray, List.getElem?_map, hx]
  rfl
set_option maxHeartbeats 3200000 in
set_option maxRecDepth 20000 in
theorem rpI (s : ByteArray) (w : World) (hs : s.size ≤ 2097152) (E : Env w) : Calls Tryd.prog 30 #[.string s] w (RP (rpO wP (bl s)) w) := by
  have EB : Hid (∀ W, Below w.heap.size w W → Env W) := fun W h => E.below h
  have CJ : Hid (∀ (x : ByteArray) (w0 : World), x.size ≤ 2097152 → Env w0 → Calls Tryd.prog 54 #[.string x, .string ⟨#[58]⟩] w0 (Cut58 x w0)) := fun x w0 h e => cutJ x w0 h e
  have SJ : Hid (∀ (w0 : World), Env w0 → Calls Tryd.prog 75 #[.string s, .string ⟨#[44]⟩] w0 (SplQ s w0)) := fun w0 e => splitI s w0 hs e
  have RJ : Hid (∀ (x : ByteArray) (w0 : World), x.size ≤ 2097152 → Env w0 → Calls Tryd.prog 55 #[.string x] w0 fun e w' => ∃ (v : Int) (q : Bool), e = .returned (.tuple #[.int .i64 v, .bool q]) ∧ Hid (rd (bl x) = if q then some v else none) ∧ Below w0.heap.size w0 w') := fun x w0 h e => rnI x w0 h e
  clear E
  have X0 : Hid (Box2 ((w.alloc (.cells #[.slice none 0 0, .slice none 0 0] 41)).alloc (.cells #[.slice none 0 0, .slice none 0 0] 41)) w.heap.size (.slice none 0 0) (.slice none 0 0)) := (Box2.new rfl).alloc (by simp) _
  have X1 : Hid (Box2 ((w.alloc (.cells #[.slice none 0 0, .slice none 0 0] 41)).alloc (.cells #[.slice none 0 0, .slice none 0 0] 41)) (w.heap.size + 1) (.slice none 0 0) (.slice none 0 0)) := Box2.new (by simp)
  go_enter Tryd.func30, Tryd.ntmps30
  go_wp2_with fail
  refine (SJ.out _ (EB.out _ (by (repeat' (first | (with_reducible exact Below.refl _ _) | (with_reducible assumption) | (with_reducible refine bStep ?_ (by with_reducible assumption)) | (with_reducible refine bAlloc ?_ _) | (with_reducible refine bDrew ?_) | (with_reducible refine bDrewN ?_ _) | (with_reducible refine Below.setCell ?_ ?_ _) | (with_reducible exact Nat.le_refl _) | (simp; done) | (simp; omega)))))).mono ?_
  rintro e w1 ⟨n, ws, rfl, ⟨⟨hl, hn4, hwl⟩, HC, hsp⟩, hb1⟩
  have hz1 := hb1.size
  have hg2 : ((w.alloc (.cells #[.slice none 0 0, .slice none 0 0] 41)).alloc (.cells #[.slice none 0 0, .slice none 0 0] 41)).heap.size = w.heap.size + 1 + 1 := by simp
  rw [hg2] at hwl HC
  clear hg2
  simp at hz1
  replace X0 := Lib.hid (X0.out.below hb1 (by simp; omega))
  replace X1 := Lib.hid (X1.out.below hb1 (by simp))
  have Bw : Hid (Below w.heap.size w w1) := by show Below w.heap.size w w1; (repeat' (first | (with_reducible exact Below.refl _ _) | (with_reducible assumption) | (with_reducible refine bStep ?_ (by with_reducible assumption)) | (with_reducible refine bAlloc ?_ _) | (with_reducible refine bDrew ?_) | (with_reducible refine bDrewN ?_ _) | (with_reducible refine Below.setCell ?_ ?_ _) | (with_reducible exact Nat.le_refl _) | (simp; done) | (simp; omega)))
  have hzw := Lib.hid (sp_small hsp.out hs)
  have hl := Lib.hid hl
  have TS := Lib.hid (Two.nil_ w1.heap.size w1)
  clear hb1 SJ
  go_wp2_with fail
  go_loopw [17] (fun i wr => ∃ (k : Nat) (ps : List (Int × Int)) (xs ys : List Int) (A : Option Addr) (c : Nat) (D : Option Addr) (d : Nat), k ≤ n ∧ i = .int .i64 k ∧ Hid (xs = ps.map Prod.fst ∧ ys = ps.map Prod.snd) ∧ (xs.length = k ∧ ys.length = k) ∧ Hid (Two w1.heap.size wr (.slice A k c) (.slice D k d) xs ys) ∧ Hid (Box2 wr (w.heap.size + 1) (.slice A k c) (.slice D k d)) ∧ Hid (all2 wP ((ws.map bl).take k) = some ps) ∧ Hid (Gr (w.heap.size + 1) w1 wr)) (fun i _ => n - (intOf i).toNat)
  case atStart => exact ⟨0, [], [], [], none, 0, none, 0, Nat.zero_le _, rfl, ⟨rfl, rfl⟩, ⟨rfl, rfl⟩, TS, X1, by show all2 wP [] = some []; rfl, Gr.refl _ _⟩
  case round =>
    obtain ⟨k, ps, xs, ys, A, c, D, d, hk, rfl, HE, ⟨hxl, hyl⟩, HT, HX, HA, HG⟩ := hrel
    clear TS X1
    have hsr := HG.out.size
    have Zr : Hid (Box2 wr w.heap.size (.slice none 0 0) (.slice none 0 0)) := X0.out.gr HG.out (by omega) (by omega)
    have BWr : Hid (Below w.heap.size w wr) := Gr.bel HG.out Bw.out (by omega)
    by_cases hlt : k < n
    · have hl1 : (k : Int) < (n : Int) := by omega
      have hkl : k < ws.length := by have := hl.out; omega
      have hx : ws[k]? = some ws[k] := List.getElem?_eq_getElem hkl
      have hc : wr.cell? ⟨w.heap.size + 1 + 1, k, none⟩ = _ := (HG.out.cell _ k (by omega) (by omega)).trans (HC.out k _ hx)
      have hsz := hzw.out _ (List.getElem_mem hkl)
      obtain ⟨x, hxe⟩ : ∃ x, ws[k] = x := ⟨_, rfl⟩
      rw [hxe] at hx hc hsz
      have Hx := Lib.hid hx
      have Hm : Hid (bl x ∈ spl 44 (bl s) []) := by show _ ∈ _; rw [← hsp.out]; exact List.mem_map_of_mem (List.mem_of_getElem? hx)
      clear hxe hkl hx
      go_wp2_with fail
      refine (CJ.out x _ hsz (EB.out _ BWr.out)).mono ?_
      rintro e w2 ⟨p, q, kq, rfl, ⟨hpq, hps, hqs⟩, hb2⟩
      have hz2 := hb2.size
      have BW2 : Hid (Below w.heap.size w w2) := bStep BWr.out hb2
      go_wp2_with fail
      refine (RJ.out p _ hps (EB.out _ BW2.out)).mono ?_
      rintro e w3 ⟨va, qa, rfl, hva, hb3⟩
      have hz3 := hb3.size
      have BW3 : Hid (Below w.heap.size w w3) := bStep BW2.out hb3
      go_wp2_with fail
      refine (RJ.out q _ hqs (EB.out _ BW3.out)).mono ?_
      rintro e w4 ⟨vb, qb, rfl, hvb, hb4⟩
      have hz4 := hb4.size
      have BW4 := bStep BW3.out hb4
      have b4 : Below wr.heap.size wr w4 := bStep (bStep hb2 hb3) hb4
      have HT4 := Lib.hid (HT.out.below b4)
      have HX4 := Lib.hid (HX.out.below b4 (by omega))
      have Z4 := Lib.hid (Zr.out.below b4 (by omega))
      have HG4 := Lib.hid (HG.out.below b4)
      have hW : Hid (wP (bl x) = pr2 (if qa then some va else none) (if qb then some vb else none)) := wP_of hpq.out.1 hpq.out.2 hva.out hvb.out
      clear HT HX Zr HG BWr BW2 BW3 hb2 hb3 hb4 b4 hpq hva hvb hc
      rcases qa
      · have fin : Hid (rpO wP (bl s) = none) := rpO_bad Hm.out hW.out
        obtain ⟨⟨z0, z1⟩, y0, y1⟩ := Z4.out
        go_wp2_with fail
        all_goals (first | go_ret | go_ret2 | go_returns | (refine bodyPost_ret (by simp [results, Tryd.results30, go_sem, *]; try rfl) rfl ?_))
        all_goals exact rp_none fin.out (by (repeat' (first | (with_reducible exact Below.refl _ _) | (with_reducible assumption) | (with_reducible refine bStep ?_ (by with_reducible assumption)) | (with_reducible refine bAlloc ?_ _) | (with_reducible refine bDrew ?_) | (with_reducible refine bDrewN ?_ _) | (with_reducible refine Below.setCell ?_ ?_ _) | (with_reducible exact Nat.le_refl _) | (simp; done) | (simp; omega))))
      rcases qb
      · have fin : Hid (rpO wP (bl s) = none) := rpO_bad Hm.out hW.out
        obtain ⟨⟨z0, z1⟩, y0, y1⟩ := Z4.out
        go_wp2_with fail
        all_goals (first | go_ret | go_ret2 | go_returns | (refine bodyPost_ret (by simp [results, Tryd.results30, go_sem, *]; try rfl) rfl ?_))
        all_goals exact rp_none fin.out (by (repeat' (first | (with_reducible exact Below.refl _ _) | (with_reducible assumption) | (with_reducible refine bStep ?_ (by with_reducible assumption)) | (with_reducible refine bAlloc ?_ _) | (with_reducible refine bDrew ?_) | (with_reducible refine bDrewN ?_ _) | (with_reducible refine Below.setCell ?_ ?_ _) | (with_reducible exact Nat.le_refl _) | (simp; done) | (simp; omega))))
      have hW2 : Hid (all2 wP ((ws.map bl).take (k + 1)) = some (ps ++ [(va, vb)])) := all2_take HA.out (by rw [List.getElem?_map, Hx.out]; rfl) hW.out
      clear hW HA
      obtain ⟨⟨x0, x1⟩, f0, f1⟩ := HX4.out
      have hg4 := HX4.out.lt
      have ge1 : w.heap.size + 1 < w1.heap.size := by omega
      go_wp2_with (first
        | (at_builtin; refine wpList_two rfl _ _ rfl (v := .slice A k c) rfl (HT4.out.below (w' := w4.alloc (.cells #[.int .i64 va] 2)) ((Below.refl _ _).alloc (Nat.le_refl _) _)) _ 1 rfl va (tw_at rfl) (by omega) (by simp; omega) ?_; rintro v5 w5 ⟨H5, B5, C5⟩; obtain ⟨A5, c5, rfl⟩ := H5.form1 (k := k + 1) (by simp [hxl]); have HX5 := (HX4.out.alloc hg4 (.cells #[.int .i64 va] 2)).below B5 ge1; have HG5 := (HG4.out.alloc (.cells #[.int .i64 va] 2)).onB B5; have hz5 := B5.size; (try simp at hz5); have HTV := Lib.hid (H5.gr (Gr.setCell (Gr.refl (w.heap.size + 1) w5) (p := ⟨w.heap.size + 1, 0, none⟩) (.inl rfl) (.slice A5 (k + 1) c5)) ge1); have HXV := Lib.hid (HX5.set0 (z := .slice A5 (k + 1) c5)); have HGV := Lib.hid (Gr.setCell HG5 (p := ⟨w.heap.size + 1, 0, none⟩) (.inl rfl) (.slice A5 (k + 1) c5)); clear H5 C5 B5 HG5; obtain ⟨⟨x0, x1⟩, f0, f1⟩ := HX5)
        | (at_builtin; refine wpList_two rfl _ _ rfl (v := .slice D k d) rfl (HTV.out.swap.below (w' := (w5.setCell ⟨w.heap.size + 1, 0, none⟩ (.slice A5 (k + 1) c5)).alloc (.cells #[.int .i64 vb] 2)) ((Below.refl _ _).alloc (Nat.le_refl _) _)) _ 1 rfl vb (tw_at (by simp)) (by omega) (by simp; omega) ?_; rintro v6 w6 ⟨H6, B6, C6⟩; obtain ⟨D6, d6, rfl⟩ := H6.form1 (k := k + 1) (by simp [hyl]); have HX6 := (HXV.out.alloc HXV.out.lt (.cells #[.int .i64 vb] 2)).below B6 ge1; have HG6 := (HGV.out.alloc (.cells #[.int .i64 vb] 2)).onB B6; have HTU := Lib.hid (H6.swap.gr (Gr.setCell (Gr.refl (w.heap.size + 1) w6) (p := ⟨w.heap.size + 1, 1, none⟩) (.inl rfl) (.slice D6 (k + 1) d6)) ge1); have HXU := Lib.hid (HX6.set1 (z := .slice D6 (k + 1) d6)); have HGU := Lib.hid (Gr.setCell HG6 (p := ⟨w.heap.size + 1, 1, none⟩) (.inl rfl) (.slice D6 (k + 1) d6)); clear H6 C6 B6 HG6; obtain ⟨⟨x0, x1⟩, f0, f1⟩ := HX6))
      go_roundw
      case rel => exact ⟨k + 1, ps ++ [(va, vb)], xs ++ [va], ys ++ [vb], A5, c5, D6, d6, by omega, by first | rfl | go_num, ⟨by rw [HE.out.1]; simp, by rw [HE.out.2]; simp⟩, ⟨by simp [hxl], by simp [hyl]⟩, HTU, HXU, hW2, HGU⟩
      case measure => simp [intOf] <;> omega
    · obtain rfl : k = n := by omega
      have hl1 : ¬ (k : Int) < (k : Int) := by omega
      have et : (ws.map bl).take k = spl 44 (bl s) [] := by rw [← hsp.out]; exact List.take_of_length_le (by have := hl.out; simp; omega)
      have HA : Hid (all2 wP (spl 44 (bl s) []) = some ps) := by rw [← et]; exact HA
      clear et
      have wf := wP_wf HA.out
      obtain ⟨hex, hey⟩ := HE.out
      rw [← hex, ← hey] at wf
      have I1 := Ints.of_own (own_len HT.out.one hxl) (by omega) wf.1
      have I2 := Ints.of_own (own_len HT.out.two hyl) (by omega) wf.2
      have hrb := Zr.out.lt
      have hpb := HX.out.lt
      obtain ⟨⟨z0, z1⟩, y0, y1⟩ := Zr.out
      obtain ⟨⟨x0, x1⟩, f0, f1⟩ := HX.out
      have ne1 : ¬ w.heap.size = w.heap.size + 1 := by omega
      have ne2 : ¬ w.heap.size + 1 = w.heap.size := by omega
      have Bq := BWr.out
      clear wf
      rcases hp : pfB xs ys
      · have fin : Hid (rpO wP (bl s) = none) := by show _ = _; rw [rpO_all HA.out, ← hex, ← hey, hp]; rfl
        clear hex hey
        go_wp2_with (go_at_call 76; refine (isPfI (I1.below (by (repeat' (first | (with_reducible exact Below.refl _ _) | (with_reducible assumption) | (with_reducible refine bStep ?_ (by with_reducible assumption)) | (with_reducible refine bAlloc ?_ _) | (with_reducible refine bDrew ?_) | (with_reducible refine bDrewN ?_ _) | (with_reducible refine Below.setCell ?_ ?_ _) | (with_reducible exact Nat.le_refl _) | (simp; done) | (simp; omega))))) (I2.below (by (repeat' (first | (with_reducible exact Below.refl _ _) | (with_reducible assumption) | (with_reducible refine bStep ?_ (by with_reducible assumption)) | (with_reducible refine bAlloc ?_ _) | (with_reducible refine bDrew ?_) | (with_reducible refine bDrewN ?_ _) | (with_reducible refine Below.setCell ?_ ?_ _) | (with_reducible exact Nat.le_refl _) | (simp; done) | (simp; omega))))) _ _).mono ?_; rintro e w5 ⟨rfl, hb5⟩; rw [hp]; obtain ⟨hc5, hf5⟩ := bcell hb5; have hs5 := hb5.size; have c50 := hc5 w.heap.size 0 (by omega); have c51 := hc5 w.heap.size 1 (by omega); have f50 := hf5 w.heap.size 0 (by omega); have f51 := hf5 w.heap.size 1 (by omega); have c52 := hc5 (w.heap.size + 1) 0 (by omega); have c53 := hc5 (w.heap.size + 1) 1 (by omega))
        all_goals (first | go_ret | go_ret2 | go_returns | (refine bodyPost_ret (by simp [results, Tryd.results30, go_sem, *]; try rfl) rfl ?_))
        all_goals exact rp_none fin.out (by (repeat' (first | (with_reducible exact Below.refl _ _) | (with_reducible assumption) | (with_reducible refine bStep ?_ (by with_reducible assumption)) | (with_reducible refine bAlloc ?_ _) | (with_reducible refine bDrew ?_) | (with_reducible refine bDrewN ?_ _) | (with_reducible refine Below.setCell ?_ ?_ _) | (with_reducible exact Nat.le_refl _) | (simp; done) | (simp; omega))))
      · have fin : Hid (rpO wP (bl s) = some ps) := by show _ = _; rw [rpO_all HA.out, ← hex, ← hey, hp]; rfl
        have HEx := Lib.hid hex
        have HEy := Lib.hid hey
        clear hex hey
        go_wp2_with (go_at_call 76; refine (isPfI (I1.below (by (repeat' (first | (with_reducible exact Below.refl _ _) | (with_reducible assumption) | (with_reducible refine bStep ?_ (by with_reducible assumption)) | (with_reducible refine bAlloc ?_ _) | (with_reducible refine bDrew ?_) | (with_reducible refine bDrewN ?_ _) | (with_reducible refine Below.setCell ?_ ?_ _) | (with_reducible exact Nat.le_refl _) | (simp; done) | (simp; omega))))) (I2.below (by (repeat' (first | (with_reducible exact Below.refl _ _) | (with_reducible assumption) | (with_reducible refine bStep ?_ (by with_reducible assumption)) | (with_reducible refine bAlloc ?_ _) | (with_reducible refine bDrew ?_) | (with_reducible refine bDrewN ?_ _) | (with_reducible refine Below.setCell ?_ ?_ _) | (with_reducible exact Nat.le_refl _) | (simp; done) | (simp; omega))))) _ _).mono ?_; rintro e w5 ⟨rfl, hb5⟩; rw [hp]; obtain ⟨hc5, hf5⟩ := bcell hb5; have hs5 := hb5.size; have c50 := hc5 w.heap.size 0 (by omega); have c51 := hc5 w.heap.size 1 (by omega); have f50 := hf5 w.heap.size 0 (by omega); have f51 := hf5 w.heap.size 1 (by omega); have c52 := hc5 (w.heap.size + 1) 0 (by omega); have c53 := hc5 (w.heap.size + 1) 1 (by omega))
        all_goals (first | go_ret | go_ret2 | go_returns | (refine bodyPost_ret (by simp [results, Tryd.results30, go_sem, *]; try rfl) rfl ?_))
        all_goals exact rp_some2 fin.out HEx.out HEy.out hxl hyl ((HT.out.below (w' := w5) (by (repeat' (first | (with_reducible exact Below.refl _ _) | (with_reducible assumption) | (with_reducible refine bStep ?_ (by with_reducible assumption)) | (with_reducible refine bAlloc ?_ _) | (with_reducible refine bDrew ?_) | (with_reducible refine bDrewN ?_ _) | (with_reducible refine Below.setCell ?_ ?_ _) | (with_reducible exact Nat.le_refl _) | (simp; done) | (simp; omega))))).gr (g := w.heap.size) (by (repeat' (first | (with_reducible exact Gr.refl _ _) | (with_reducible assumption) | (with_reducible refine Gr.trans ?_ (by with_reducible assumption)) | (with_reducible refine Gr.below ?_ (by with_reducible assumption)) | (with_reducible refine Gr.alloc ?_ _) | (with_reducible refine Gr.drew ?_) | (with_reducible refine Gr.drewN ?_ _) | (with_reducible refine Gr.setCell ?_ ?_ _) | (exact .inl rfl) | (right; simp; done) | (right; simp; omega)))) (by omega)) (by omega) (by (repeat' (first | (with_reducible exact Below.refl _ _) | (with_reducible assumption) | (with_reducible refine bStep ?_ (by with_reducible assumption)) | (with_reducible refine bAlloc ?_ _) | (with_reducible refine bDrew ?_) | (with_reducible refine bDrewN ?_ _) | (with_reducible refine Below.setCell ?_ ?_ _) | (with_reducible exact Nat.le_refl _) | (simp; done) | (simp; omega))))
end Go.Proofs.YtgnpbgknmapejaaDoor
