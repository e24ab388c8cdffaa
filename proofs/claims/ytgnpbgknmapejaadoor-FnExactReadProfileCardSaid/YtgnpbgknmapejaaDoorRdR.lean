/- Reading a list of numbers and a ratio: contracts of both sides, and the walk of the law. -/
import Derived.Test.YtgnpbgknmapejaaDoorRdN
import Derived.Test.YtgnpbgknmapejaaDoorRat
import Derived.Test.YtgnpbgknmapejaaDoorEnvOf
import Derived.Deep.RegionWith
namespace Go.Proofs.YtgnpbgknmapejaaDoor
open Go.RowKit
set_option linter.unusedVariables false

theorem spl_len (c : UInt8) : ∀ (l cur : List UInt8), ∀ p ∈ spl c l cur, p.length ≤ cur.length + l.length
  | [], cur, p, h => by simp [spl] at h; subst h; simp
  | x :: r, cur, p, h => by
    rw [spl] at h
    split at h
    · rcases List.mem_cons.1 h with e | e
      · subst e; simp
      · have := spl_len c r [] p e
        simp at this ⊢
        omega
    · have := spl_len c r _ p h
      simp at this ⊢
      omega
def NumP (ws : List ByteArray) (n : Nat) (w : World) (e : Ending) (w' : World) : Prop :=
  ((∃ A c, e = .returned (.tuple #[.slice A n c, .bool true]) ∧ Hid (∀ x ∈ ws, sgB (bl x) = true) ∧ w'.ownsRow w.heap.size 2 1 (.slice A n c) n (ws.map fun x => Value.int .i64 (sgN (bl x)))) ∨
    (e = .returned (.tuple #[.slice none 0 0, .bool false]) ∧ Hid (∃ x ∈ ws, sgB (bl x) = false))) ∧ Below w.heap.size w w'
set_option maxHeartbeats 1600000 in
theorem numsS {w : World} {A : Option Addr} {n : Nat} {ws : List ByteArray} (H : Strs w A n ws) (c : Nat) (hz : ∀ x ∈ ws, x.size ≤ 2097152) : Calls Tryd.prog 59 #[.slice A n c] w (NumP ws n w) := by
  obtain ⟨i0, hi, hz0, hz1, hz2⟩ := info_parts infoI64
  have hl := Lib.hid H.1
  have hn := H.2.1
  have HZ := Lib.hid hz
  have O := Lib.hid (sp_empty w 2)
  clear hz
  go_enter Tryd.func59, Tryd.ntmps59
  go_wp2_with fail
  go_loopw [4, 5] (fun v i wr => ∃ k : Nat, k ≤ n ∧ i = .int .i64 k ∧ wr.ownsRow w.heap.size 2 1 v k ((ws.take k).map fun x => Value.int .i64 (sgN (bl x))) ∧ Hid (∀ x ∈ ws.take k, sgB (bl x) = true) ∧ Below w.heap.size w wr) (fun _ i _ => n - (intOf i).toNat)
  case atStart => exact ⟨0, Nat.zero_le _, rfl, by simpa using O.out, (fun x hx => by simp at hx), (Below.refl _ _).alloc (Nat.le_refl _) _⟩
  case round =>
    obtain ⟨k, hk, rfl, hown, HB, hbel⟩ := hrel
    clear O
    have hsr := hbel.size
    have hown := Lib.hid hown
    by_cases hlt : k < n
    · have hl1 : (k : Int) < (n : Int) := by omega
      obtain ⟨b, rfl, hb, hcb⟩ := (H.below hbel).2.2 (by omega)
      have hkl : k < ws.length := by have := hl.out; omega
      have hx : ws[k]? = some ws[k] := List.getElem?_eq_getElem hkl
      have hc := hcb k _ hx
      have hsz := HZ.out _ (List.getElem_mem hkl)
      obtain ⟨x, hxe⟩ : ∃ x, ws[k] = x := ⟨_, rfl⟩
      rw [hxe] at hx hc hsz
      have Hx := Lib.hid hx
      have et : Hid ((ws.take (k + 1)).map (fun x => Value.int .i64 (sgN (bl x))) = (ws.take k).map (fun x => Value.int .i64 (sgN (bl x))) ++ [Value.int .i64 (sgN (bl x))]) := by
        show _ = _
        rw [List.take_add_one, hx]
        simp
      clear hcb hxe hkl hx
      rcases hq : sgB (bl x)
      · go_wp2_with (go_at_call 90; refine (signedS _ _ hsz).mono ?_; rintro e w1 ⟨rfl, hb1⟩)
        go_ret2
        exact ⟨.inr ⟨rfl, ⟨x, List.mem_of_getElem? Hx.out, hq⟩⟩, by (repeat' (first | (with_reducible exact Below.refl _ _) | (with_reducible assumption) | (with_reducible refine bStep ?_ (by with_reducible assumption)) | (with_reducible refine bAlloc ?_ _) | (with_reducible refine bDrew ?_) | (with_reducible refine bDrewN ?_ _) | (with_reducible refine Below.setCell ?_ ?_ _) | (with_reducible exact Nat.le_refl _) | (simp; done) | (simp; omega)))⟩
      · obtain ⟨y, hy⟩ : ∃ y, sgN (bl x) = y := ⟨_, rfl⟩
        have et : Hid ((ws.take (k + 1)).map (fun x => Value.int .i64 (sgN (bl x))) = (ws.take k).map (fun x => Value.int .i64 (sgN (bl x))) ++ [Value.int .i64 y]) := by rw [← hy]; exact et
        have HB2 : Hid (∀ x ∈ ws.take (k + 1), sgB (bl x) = true) := by
          intro z hz
          rw [List.take_add_one, Hx.out] at hz
          rcases List.mem_append.1 hz with h | h
          · exact HB.out z h
          · simp at h; subst h; exact hq
        clear HB
        go_wp2_with (first | (go_at_call 90; refine (signedS _ _ hsz).mono ?_; rintro e w1 ⟨rfl, hb1⟩; rw [hy]; have hsz1 := hb1.size) | (at_builtin; refine wpList_append_own _ rfl _ _ 39 rfl w.heap.size 2 i0 (.int .i64 0) 1 8 Tryd.underlying39 hi hz0 hz1 hz2 rfl (by decide) _ _ _ rfl ((sp_below hown.out hb1).alloc _) ⟨w1.heap.size, 0, none⟩ 1 1 [.int .i64 y] rfl rfl (cell_single _ _ _) (by intro u hu; simp only [List.mem_cons, List.not_mem_nil, or_false] at hu; subst hu; rfl) (by unfold maxLen; omega) (by omega) (by simp; omega) ?_; intro v' w3 hown' hgrow hnil; have hbs := sp_base hown.out; have O3 := Lib.hid hown'; have B3 := Lib.hid (((hbel.trans (hb1.mono (by omega))).alloc (by omega) _).grown hgrow (by simp; omega) (fun k e => hbs k e)); clear hown' hgrow hnil hbs))
        go_roundw
        case rel => exact ⟨k + 1, by omega, by first | rfl | go_num, by rw [et.out]; exact O3.out, HB2, B3.out⟩
        case measure => simp [intOf] <;> omega
    · obtain rfl : k = n := by omega
      have hl1 : ¬ (k : Int) < (k : Int) := by omega
      have et : ws.take k = ws := List.take_of_length_le (by have := hl.out; omega)
      rw [et] at hown HB
      obtain ⟨A1, c1, rfl⟩ := sp_slice hown.out
      go_wp2_with fail
      go_ret2
      exact ⟨.inl ⟨A1, c1, rfl, HB, hown.out⟩, hbel⟩
def rrA (l : List UInt8) : Int := match rr l with | some p => p.1 | none => 0
def rrC (l : List UInt8) : Int := match rr l with | some p => p.2 | none => 0
def rrQ (l : List UInt8) : Bool := (rr l).isSome
theorem rr_none {l : List UInt8} (h : rr l = none) : rrA l = 0 ∧ rrC l = 0 ∧ rrQ l = false := by simp [rrA, rrC, rrQ, h]
theorem rr_some {l : List UInt8} {a b : Int} (h : rr l = some (a, b)) : rrA l = a ∧ rrC l = b ∧ rrQ l = true := by simp [rrA, rrC, rrQ, h]
def RR (s : ByteArray) (w : World) (e : Ending) (w' : World) : Prop := e = .returned (.tuple #[.agg #[.int .i64 (rrA (bl s)), .int .i64 (rrC (bl s))], .bool (rrQ (bl s))]) ∧ Below w.heap.size w w'
set_option maxHeartbeats 3200000 in
theorem rrS (s : ByteArray) (w : World) (hs : s.size ≤ 2097152) : Calls Tryd.prog 18 #[.string s] w (RR s w) := by
  have h47 : ((47 : UInt8).toNat : Int) = 47 := rfl
  have SP : ∀ w0 : World, Calls Tryd.prog 58 #[.string s, .int .u8 47] w0 (SplP s 47 w0) := fun w0 => splS s 47 w0 hs
  have SP := Lib.hid SP
  go_enter Tryd.func18, Tryd.ntmps18
  go_wp2_with fail
  (refine (SP.out _).mono ?_; rintro e w1 ⟨A, n, cp, ws, rfl, ⟨HS, hsp⟩, hb1⟩; obtain ⟨hc1, hf1⟩ := bcell hb1; have hs1 := hb1.size; (try simp at hs1); (try have hl1 := Nat.lt_of_succ_le hs1); (try have hz1x0 : w.heap.size < w1.heap.size := (by have := hb1.size; (try simp at this); omega)); (try have hn1x0 : ¬ w.heap.size = w1.heap.size := (by omega)); (try have hm1x0 : ¬ w1.heap.size = w.heap.size := (by omega)); (try have c1x00 := hc1 (w.heap.size) 0 (by first | omega | (simp; done) | (simp; omega))); (try have f1x00 := hf1 (w.heap.size) 0 (by first | omega | (simp; done) | (simp; omega))); (try have c1x01 := hc1 (w.heap.size) 1 (by first | omega | (simp; done) | (simp; omega))); (try have f1x01 := hf1 (w.heap.size) 1 (by first | omega | (simp; done) | (simp; omega))))
  have hzw : ∀ x ∈ ws, x.size ≤ 2097152 := by
    intro x hx
    have hm : bl x ∈ spl 47 (bl s) [] := by rw [← hsp.out]; exact List.mem_map_of_mem hx
    have h1 := spl_len 47 (bl s) [] _ hm
    have h2 : (bl x).length = x.size := size_list x
    have h3 : (bl s).length = s.size := size_list s
    simp at h1
    omega
  go_wp2_with fail
  (refine (numsS HS _ hzw).mono ?_; rintro e w2 ⟨HN, hb2⟩; obtain ⟨hc2, hf2⟩ := bcell hb2; have hs2 := hb2.size; (try simp at hs2); (try have hl2 := Nat.lt_of_succ_le hs2); (try have hz2x0 : w.heap.size < w2.heap.size := (by have := hb2.size; (try simp at this); omega)); (try have hn2x0 : ¬ w.heap.size = w2.heap.size := (by omega)); (try have hm2x0 : ¬ w2.heap.size = w.heap.size := (by omega)); (try have c2x00 := hc2 (w.heap.size) 0 (by first | omega | (simp; done) | (simp; omega))); (try have f2x00 := hf2 (w.heap.size) 0 (by first | omega | (simp; done) | (simp; omega))); (try have c2x01 := hc2 (w.heap.size) 1 (by first | omega | (simp; done) | (simp; omega))); (try have f2x01 := hf2 (w.heap.size) 1 (by first | omega | (simp; done) | (simp; omega))))
  have hl := HS.1
  have hn4 := HS.2.1
  have HS := Lib.hid HS
  have hzw := Lib.hid hzw
  rcases HN with ⟨A2, c2, rfl, hall, O⟩ | ⟨rfl, hbad⟩
  case inr =>
    have fin : Hid (rrA (bl s) = 0 ∧ rrC (bl s) = 0 ∧ rrQ (bl s) = false) := by
      apply rr_none
      unfold rr
      rw [← hsp.out]
      obtain ⟨x, hx, hq⟩ := hbad.out
      match ws, hx with
      | [], hx => cases hx
      | [u], _ => rfl
      | [u, v], hx =>
        simp only [List.map_cons, List.map_nil]
        rcases List.mem_cons.1 hx with e | e
        · subst e; rw [sg_eq (bl x), hq]; rfl
        · simp at e; subst e
          rw [sg_eq (bl x), hq]
          cases sg (bl u) <;> rfl
      | u :: v :: z :: r, _ => rfl
    clear hbad hsp hl
    go_wp2_with fail
    (first | (go_quiet (fail)) | (go_region) | (go_region_with (fail)))
    all_goals go_wp2
    all_goals (first | go_ret | go_ret2 | go_returns | (refine bodyPost_ret (by simp [results, Tryd.results18, go_sem, *]; try rfl) rfl ?_))
    all_goals exact ⟨by rw [fin.out.1, fin.out.2.1, fin.out.2.2]; first | done | rfl, by (repeat' (first | (with_reducible exact Below.refl _ _) | (with_reducible assumption) | (with_reducible refine bStep ?_ (by with_reducible assumption)) | (with_reducible refine bAlloc ?_ _) | (with_reducible refine bDrew ?_) | (with_reducible refine bDrewN ?_ _) | (with_reducible refine Below.setCell ?_ ?_ _) | (with_reducible exact Nat.le_refl _) | (simp; done) | (simp; omega)))⟩
  by_cases hn2 : n = 2
  case neg =>
    have fin : Hid (rrA (bl s) = 0 ∧ rrC (bl s) = 0 ∧ rrQ (bl s) = false) := by
      apply rr_none
      unfold rr
      rw [← hsp.out]
      match ws, hl with
      | [], _ => rfl
      | [u], _ => rfl
      | [u, v], hl => simp at hl; omega
      | u :: v :: z :: r, _ => rfl
    have g1 : ¬ (n : Int) = 2 := by omega
    have g2 : ((n : Int) == 2) = false := by rw [beq_eq_false_iff_ne]; exact g1
    have g3 : ((n : Int) != 2) = true := by rw [bne, g2]; rfl
    clear hsp hl O hall
    go_wp2_with fail
    (first | (go_quiet (fail)) | (go_region) | (go_region_with (fail)))
    all_goals go_wp2
    all_goals (first | go_ret | go_ret2 | go_returns | (refine bodyPost_ret (by simp [results, Tryd.results18, go_sem, *]; try rfl) rfl ?_))
    all_goals exact ⟨by rw [fin.out.1, fin.out.2.1, fin.out.2.2]; first | done | rfl, by (repeat' (first | (with_reducible exact Below.refl _ _) | (with_reducible assumption) | (with_reducible refine bStep ?_ (by with_reducible assumption)) | (with_reducible refine bAlloc ?_ _) | (with_reducible refine bDrew ?_) | (with_reducible refine bDrewN ?_ _) | (with_reducible refine Below.setCell ?_ ?_ _) | (with_reducible exact Nat.le_refl _) | (simp; done) | (simp; omega)))⟩
  subst hn2
  obtain ⟨u, v, rfl⟩ : ∃ u v, ws = [u, v] := by
    match ws, hl with
    | [u, v], _ => exact ⟨u, v, rfl⟩
  obtain ⟨b, cap, cur, e1, hB, hgb, hrest⟩ : ∃ b cap cur, (Value.slice A2 2 c2) = .slice (some ⟨b, 0, none⟩) 2 cap ∧ w1.heap.size ≤ b ∧ w2.heap[b]? = some (.cells cur 2 (0, 0)) ∧ True := by
    rcases O.2 with ⟨h, h'⟩ | ⟨b, cap, cur, h, hB, hg, r⟩
    · omega
    · exact ⟨b, cap, cur, h, hB, hg, trivial⟩
  injection e1 with e1 e3 e4
  subst e1; subst e4
  obtain ⟨x, hx⟩ : ∃ x, sgN (bl u) = x := ⟨_, rfl⟩
  obtain ⟨y, hy⟩ : ∃ y, sgN (bl v) = y := ⟨_, rfl⟩
  have p0 : w2.cell? ⟨b, 0, none⟩ = some (.int .i64 x) := by have := O.cellAt 0 (by omega); rw [this, ← hx]; rfl
  have p1 : w2.cell? ⟨b, 1, none⟩ = some (.int .i64 y) := by have := O.cellAt 1 (by omega); rw [this, ← hy]; rfl
  have hblt : b < w2.heap.size := lt_of_block hgb
  have hneb : ¬ b = w.heap.size := by have := hb1.size; simp at this; omega
  have hneb' : ¬ w.heap.size = b := by omega
  have hall := hall.out
  have hu := hall u (List.mem_cons_self ..)
  have hv := hall v (List.mem_cons_of_mem _ (List.mem_cons_self ..))
  have hrr : Hid (rr (bl s) = if isRat x y then some (x, y) else none) := by
    show _ = _
    unfold rr
    rw [← hsp.out]
    simp only [List.map_cons, List.map_nil]
    rw [sg_eq (bl u), sg_eq (bl v), hu, hv]
    simp only [if_true, hx, hy]
  clear hsp hl O hall hu hv hx hy hgb hrest
  rcases hR : isRat x y
  · have fin : Hid (rrA (bl s) = 0 ∧ rrC (bl s) = 0 ∧ rrQ (bl s) = false) := rr_none (by rw [hrr.out, hR]; rfl)
    go_wp2_with fail
    go_region_held3 (fun w' => w'.cell? ⟨b, 0, none⟩ = some (.int .i64 x) ∧ w'.cell? ⟨b, 1, none⟩ = some (.int .i64 y)) ((go_keep) <;> go_simp)
      ((first | (go_at_call 60; refine (isRatS _ _ _).mono ?_; rintro e w3 ⟨rfl, hb3⟩; obtain ⟨hc3, hf3⟩ := bcell hb3; have hs3 := hb3.size; (try simp at hs3); (try have hl3 := Nat.lt_of_succ_le hs3); (try have hz3x0 : w.heap.size < w3.heap.size := (by have := hb3.size; (try simp at this); omega)); (try have hn3x0 : ¬ w.heap.size = w3.heap.size := (by omega)); (try have hm3x0 : ¬ w3.heap.size = w.heap.size := (by omega)); (try have hz3x1 : b < w3.heap.size := (by have := hb3.size; (try simp at this); omega)); (try have hn3x1 : ¬ b = w3.heap.size := (by omega)); (try have hm3x1 : ¬ w3.heap.size = b := (by omega)); (try have c3x00 := hc3 (w.heap.size) 0 (by first | omega | (simp; done) | (simp; omega))); (try have f3x00 := hf3 (w.heap.size) 0 (by first | omega | (simp; done) | (simp; omega))); (try have c3x01 := hc3 (w.heap.size) 1 (by first | omega | (simp; done) | (simp; omega))); (try have f3x01 := hf3 (w.heap.size) 1 (by first | omega | (simp; done) | (simp; omega))); (try have c3x10 := hc3 (b) 0 (by first | omega | (simp; done) | (simp; omega))); (try have f3x10 := hf3 (b) 0 (by first | omega | (simp; done) | (simp; omega))); (try have c3x11 := hc3 (b) 1 (by first | omega | (simp; done) | (simp; omega))); (try have f3x11 := hf3 (b) 1 (by first | omega | (simp; done) | (simp; omega))))))
    all_goals go_wp2
    all_goals (first | go_ret | go_ret2 | go_returns | (refine bodyPost_ret (by simp [results, Tryd.results18, go_sem, *]; try rfl) rfl ?_))
    all_goals exact ⟨by rw [fin.out.1, fin.out.2.1, fin.out.2.2]; first | done | rfl, by (repeat' (first | (with_reducible exact Below.refl _ _) | (with_reducible assumption) | (with_reducible refine bStep ?_ (by with_reducible assumption)) | (with_reducible refine bAlloc ?_ _) | (with_reducible refine bDrew ?_) | (with_reducible refine bDrewN ?_ _) | (with_reducible refine Below.setCell ?_ ?_ _) | (with_reducible exact Nat.le_refl _) | (simp; done) | (simp; omega)))⟩
  · have fin : Hid (rrA (bl s) = x ∧ rrC (bl s) = y ∧ rrQ (bl s) = true) := rr_some (by rw [hrr.out, hR]; rfl)
    go_wp2_with fail
    go_region_held3 (fun w' => w'.cell? ⟨b, 0, none⟩ = some (.int .i64 x) ∧ w'.cell? ⟨b, 1, none⟩ = some (.int .i64 y)) ((go_keep) <;> go_simp)
      ((first | (go_at_call 60; refine (isRatS _ _ _).mono ?_; rintro e w3 ⟨rfl, hb3⟩; obtain ⟨hc3, hf3⟩ := bcell hb3; have hs3 := hb3.size; (try simp at hs3); (try have hl3 := Nat.lt_of_succ_le hs3); (try have hz3x0 : w.heap.size < w3.heap.size := (by have := hb3.size; (try simp at this); omega)); (try have hn3x0 : ¬ w.heap.size = w3.heap.size := (by omega)); (try have hm3x0 : ¬ w3.heap.size = w.heap.size := (by omega)); (try have hz3x1 : b < w3.heap.size := (by have := hb3.size; (try simp at this); omega)); (try have hn3x1 : ¬ b = w3.heap.size := (by omega)); (try have hm3x1 : ¬ w3.heap.size = b := (by omega)); (try have c3x00 := hc3 (w.heap.size) 0 (by first | omega | (simp; done) | (simp; omega))); (try have f3x00 := hf3 (w.heap.size) 0 (by first | omega | (simp; done) | (simp; omega))); (try have c3x01 := hc3 (w.heap.size) 1 (by first | omega | (simp; done) | (simp; omega))); (try have f3x01 := hf3 (w.heap.size) 1 (by first | omega | (simp; done) | (simp; omega))); (try have c3x10 := hc3 (b) 0 (by first | omega | (simp; done) | (simp; omega))); (try have f3x10 := hf3 (b) 0 (by first | omega | (simp; done) | (simp; omega))); (try have c3x11 := hc3 (b) 1 (by first | omega | (simp; done) | (simp; omega))); (try have f3x11 := hf3 (b) 1 (by first | omega | (simp; done) | (simp; omega))))))
    all_goals go_wp2_with fail
    all_goals (try go_region)
    all_goals (try go_wp2)
    all_goals (first | go_ret | go_ret2 | go_returns | (refine bodyPost_ret (by simp [results, Tryd.results18, go_sem, *]; try rfl) rfl ?_))
    all_goals exact ⟨by rw [fin.out.1, fin.out.2.1, fin.out.2.2]; first | done | rfl, by (repeat' (first | (with_reducible exact Below.refl _ _) | (with_reducible assumption) | (with_reducible refine bStep ?_ (by with_reducible assumption)) | (with_reducible refine bAlloc ?_ _) | (with_reducible refine bDrew ?_) | (with_reducible refine bDrewN ?_ _) | (with_reducible refine Below.setCell ?_ ?_ _) | (with_reducible exact Nat.le_refl _) | (simp; done) | (simp; omega)))⟩
def rdN (l : List UInt8) (v : Int) : Prop := rd l = none ∨ rd l = some v
set_option maxHeartbeats 1600000 in
theorem rnI (s : ByteArray) (w : World) (hs : s.size ≤ 2097152) (E : Env w) : Calls Tryd.prog 55 #[.string s] w fun e w' => ∃ (v : Int) (q : Bool), e = .returned (.tuple #[.int .i64 v, .bool q]) ∧ Hid (rd (bl s) = if q then some v else none) ∧ Below w.heap.size w w' := by
  have E := Lib.hid E
  go_enter Tryd.func55, Tryd.ntmps55
  go_wp2_with fail
  refine (parI s _ (by omega) E.out).mono ?_
  rintro e w1 ⟨v, err, rfl, hv, hbd, hb1⟩
  rcases hv with ⟨h1, rfl⟩ | ⟨h1, T, P, rfl⟩
  · have hrd : rd (bl s) = if Lib.itoa v = bl s then some v else none := by unfold rd bl; rw [h1]
    by_cases he : nm v = s
    · have b1 := beq_yes he
      have fin : Hid (rd (bl s) = if true then some v else none) := by
        show _ = _
        rw [hrd, if_pos (by rw [← he]; unfold bl nm; simp)]; rfl
      clear hrd h1
      go_wp2_with (go_at_call 81; refine (decI v _ (by omega) (by omega) (E.out.tab.below (by (repeat' (first | (with_reducible exact Below.refl _ _) | (with_reducible assumption) | (with_reducible refine bStep ?_ (by with_reducible assumption)) | (with_reducible refine bAlloc ?_ _) | (with_reducible refine bDrew ?_) | (with_reducible refine bDrewN ?_ _) | (with_reducible refine Below.setCell ?_ ?_ _) | (with_reducible exact Nat.le_refl _) | (simp; done) | (simp; omega)))))).mono ?_; rintro e w2 ⟨rfl, hb2⟩)
      go_ret2
      exact ⟨_, _, rfl, by first | exact fin | simpa using fin, by (repeat' (first | (with_reducible exact Below.refl _ _) | (with_reducible assumption) | (with_reducible refine bStep ?_ (by with_reducible assumption)) | (with_reducible refine bAlloc ?_ _) | (with_reducible refine bDrew ?_) | (with_reducible refine bDrewN ?_ _) | (with_reducible refine Below.setCell ?_ ?_ _) | (with_reducible exact Nat.le_refl _) | (simp; done) | (simp; omega)))⟩
    · have b1 := beq_no he
      have fin : Hid (rd (bl s) = if false then some v else none) := by
        show _ = _
        rw [hrd, if_neg (fun k => he (bytes_eq.2 (by rw [show s.data.toList = bl s from rfl, ← k]; unfold nm; simp)))]; rfl
      clear hrd h1
      go_wp2_with (go_at_call 81; refine (decI v _ (by omega) (by omega) (E.out.tab.below (by (repeat' (first | (with_reducible exact Below.refl _ _) | (with_reducible assumption) | (with_reducible refine bStep ?_ (by with_reducible assumption)) | (with_reducible refine bAlloc ?_ _) | (with_reducible refine bDrew ?_) | (with_reducible refine bDrewN ?_ _) | (with_reducible refine Below.setCell ?_ ?_ _) | (with_reducible exact Nat.le_refl _) | (simp; done) | (simp; omega)))))).mono ?_; rintro e w2 ⟨rfl, hb2⟩)
      go_ret2
      exact ⟨_, _, rfl, by first | exact fin | simpa using fin, by (repeat' (first | (with_reducible exact Below.refl _ _) | (with_reducible assumption) | (with_reducible refine bStep ?_ (by with_reducible assumption)) | (with_reducible refine bAlloc ?_ _) | (with_reducible refine bDrew ?_) | (with_reducible refine bDrewN ?_ _) | (with_reducible refine Below.setCell ?_ ?_ _) | (with_reducible exact Nat.le_refl _) | (simp; done) | (simp; omega)))⟩
  · have fin : Hid (rd (bl s) = if false then some v else none) := by
      show _ = _
      unfold rd
      cases hp : Lib.parseIntB 64 (bl s) with
      | ok u => exact absurd hp (h1 u)
      | «syntax» => rfl
      | range => rfl
    clear h1
    go_wp2_with fail
    go_ret2
    exact ⟨_, _, rfl, by first | exact fin | simpa using fin, by (repeat' (first | (with_reducible exact Below.refl _ _) | (with_reducible assumption) | (with_reducible refine bStep ?_ (by with_reducible assumption)) | (with_reducible refine bAlloc ?_ _) | (with_reducible refine bDrew ?_) | (with_reducible refine bDrewN ?_ _) | (with_reducible refine Below.setCell ?_ ?_ _) | (with_reducible exact Nat.le_refl _) | (simp; done) | (simp; omega)))⟩
theorem cut_len (l : List UInt8) : (Lib.cut l [47]).1.length ≤ l.length ∧ (Lib.cut l [47]).2.1.length ≤ l.length := by
  by_cases h : (47 : UInt8) ∈ l
  · obtain ⟨a, b, rfl, hn⟩ := List.eq_append_cons_of_mem h
    rw [cut_at hn]
    simp
    omega
  · rw [cut_no h]
    simp
def CutP (s : ByteArray) (w : World) (e : Ending) (w' : World) : Prop := ∃ (p q : ByteArray) (k : Bool), e = .returned (.tuple #[.string p, .string q, .bool k]) ∧ (Hid (bl p = (Lib.cut (bl s) [47]).1 ∧ bl q = (Lib.cut (bl s) [47]).2.1) ∧ p.size ≤ 2097152 ∧ q.size ≤ 2097152) ∧ Below w.heap.size w w'
theorem cutI (s : ByteArray) (w : World) (hs : s.size ≤ 2097152) (E : Env w) : Calls Tryd.prog 54 #[.string s, .string ⟨#[47]⟩] w (CutP s w) := by
  obtain ⟨_, _, _, m, hm⟩ := E
  refine (Tryd.strings_Cut s ⟨#[47]⟩ m w (by omega) hm).mono ?_
  rintro e w' ⟨rfl, n, rfl⟩
  have h1 := cut_len (bl s)
  have h2 : (bl s).length = s.size := size_list s
  refine ⟨_, _, _, rfl, ⟨⟨rfl, rfl⟩, ?_, ?_⟩, below_drewN (Below.refl _ _) n⟩
  · show (Lib.cut (bl s) [47]).1.toArray.size ≤ _
    rw [List.size_toArray]; omega
  · show (Lib.cut (bl s) [47]).2.1.toArray.size ≤ _
    rw [List.size_toArray]; omega
set_option maxHeartbeats 3200000 in
theorem rrI (s : ByteArray) (w : World) (hs : s.size ≤ 2097152) (E : Env w) : Calls Tryd.prog 16 #[.string s] w (RR s w) := by
  have E := Lib.hid E
  go_enter Tryd.func16, Tryd.ntmps16
  go_wp2_with fail
  (refine (cutI s _ hs (E.out.below (by (repeat' (first | (with_reducible exact Below.refl _ _) | (with_reducible assumption) | (with_reducible refine bStep ?_ (by with_reducible assumption)) | (with_reducible refine bAlloc ?_ _) | (with_reducible refine bDrew ?_) | (with_reducible refine bDrewN ?_ _) | (with_reducible refine Below.setCell ?_ ?_ _) | (with_reducible exact Nat.le_refl _) | (simp; done) | (simp; omega)))))).mono ?_; rintro e w1 ⟨p, q, k, rfl, ⟨hpq, hps, hqs⟩, hb1⟩; obtain ⟨hc1, hf1⟩ := bcell hb1; have hs1 := hb1.size; (try simp at hs1); (try have hl1 := Nat.lt_of_succ_le hs1); (try have hz1x0 : w.heap.size < w1.heap.size := (by have := hb1.size; (try simp at this); omega)); (try have hn1x0 : ¬ w.heap.size = w1.heap.size := (by omega)); (try have hm1x0 : ¬ w1.heap.size = w.heap.size := (by omega)); (try have c1x00 := hc1 (w.heap.size) 0 (by first | omega | (simp; done) | (simp; omega))); (try have f1x00 := hf1 (w.heap.size) 0 (by first | omega | (simp; done) | (simp; omega))); (try have c1x01 := hc1 (w.heap.size) 1 (by first | omega | (simp; done) | (simp; omega))); (try have f1x01 := hf1 (w.heap.size) 1 (by first | omega | (simp; done) | (simp; omega))))
  go_wp2_with fail
  (refine (rnI p _ hps (E.out.below (by (repeat' (first | (with_reducible exact Below.refl _ _) | (with_reducible assumption) | (with_reducible refine bStep ?_ (by with_reducible assumption)) | (with_reducible refine bAlloc ?_ _) | (with_reducible refine bDrew ?_) | (with_reducible refine bDrewN ?_ _) | (with_reducible refine Below.setCell ?_ ?_ _) | (with_reducible exact Nat.le_refl _) | (simp; done) | (simp; omega)))))).mono ?_; rintro e w2 ⟨x, qx, rfl, hx, hb2⟩; obtain ⟨hc2, hf2⟩ := bcell hb2; have hs2 := hb2.size; (try simp at hs2); (try have hl2 := Nat.lt_of_succ_le hs2); (try have hz2x0 : w.heap.size < w2.heap.size := (by have := hb2.size; (try simp at this); omega)); (try have hn2x0 : ¬ w.heap.size = w2.heap.size := (by omega)); (try have hm2x0 : ¬ w2.heap.size = w.heap.size := (by omega)); (try have c2x00 := hc2 (w.heap.size) 0 (by first | omega | (simp; done) | (simp; omega))); (try have f2x00 := hf2 (w.heap.size) 0 (by first | omega | (simp; done) | (simp; omega))); (try have c2x01 := hc2 (w.heap.size) 1 (by first | omega | (simp; done) | (simp; omega))); (try have f2x01 := hf2 (w.heap.size) 1 (by first | omega | (simp; done) | (simp; omega))))
  go_wp2_with fail
  (refine (rnI q _ hqs (E.out.below (by (repeat' (first | (with_reducible exact Below.refl _ _) | (with_reducible assumption) | (with_reducible refine bStep ?_ (by with_reducible assumption)) | (with_reducible refine bAlloc ?_ _) | (with_reducible refine bDrew ?_) | (with_reducible refine bDrewN ?_ _) | (with_reducible refine Below.setCell ?_ ?_ _) | (with_reducible exact Nat.le_refl _) | (simp; done) | (simp; omega)))))).mono ?_; rintro e w3 ⟨y, qy, rfl, hy, hb3⟩; obtain ⟨hc3, hf3⟩ := bcell hb3; have hs3 := hb3.size; (try simp at hs3); (try have hl3 := Nat.lt_of_succ_le hs3); (try have hz3x0 : w.heap.size < w3.heap.size := (by have := hb3.size; (try simp at this); omega)); (try have hn3x0 : ¬ w.heap.size = w3.heap.size := (by omega)); (try have hm3x0 : ¬ w3.heap.size = w.heap.size := (by omega)); (try have c3x00 := hc3 (w.heap.size) 0 (by first | omega | (simp; done) | (simp; omega))); (try have f3x00 := hf3 (w.heap.size) 0 (by first | omega | (simp; done) | (simp; omega))); (try have c3x01 := hc3 (w.heap.size) 1 (by first | omega | (simp; done) | (simp; omega))); (try have f3x01 := hf3 (w.heap.size) 1 (by first | omega | (simp; done) | (simp; omega))))
  have hri : Hid (rr (bl s) = match (if qx then some x else none : Option Int), (if qy then some y else none : Option Int) with
    | some a, some b => if isRat a b then some (a, b) else none
    | _, _ => none) := by
    show _ = _
    rw [← ri_eq]
    unfold ri
    rw [← hpq.out.1, ← hpq.out.2, hx.out, hy.out]
    rfl
  clear hx hy hpq
  rcases qx
  · have fin : Hid (rrA (bl s) = 0 ∧ rrC (bl s) = 0 ∧ rrQ (bl s) = false) := rr_none hri.out
    go_wp2_with fail
    all_goals (first | go_ret | go_ret2 | go_returns | (refine bodyPost_ret (by simp [results, Tryd.results16, go_sem, *]; try rfl) rfl ?_))
    all_goals exact ⟨by rw [fin.out.1, fin.out.2.1, fin.out.2.2]; first | done | rfl, by (repeat' (first | (with_reducible exact Below.refl _ _) | (with_reducible assumption) | (with_reducible refine bStep ?_ (by with_reducible assumption)) | (with_reducible refine bAlloc ?_ _) | (with_reducible refine bDrew ?_) | (with_reducible refine bDrewN ?_ _) | (with_reducible refine Below.setCell ?_ ?_ _) | (with_reducible exact Nat.le_refl _) | (simp; done) | (simp; omega)))⟩
  rcases qy
  · have fin : Hid (rrA (bl s) = 0 ∧ rrC (bl s) = 0 ∧ rrQ (bl s) = false) := rr_none hri.out
    go_wp2_with fail
    all_goals (first | go_ret | go_ret2 | go_returns | (refine bodyPost_ret (by simp [results, Tryd.results16, go_sem, *]; try rfl) rfl ?_))
    all_goals exact ⟨by rw [fin.out.1, fin.out.2.1, fin.out.2.2]; first | done | rfl, by (repeat' (first | (with_reducible exact Below.refl _ _) | (with_reducible assumption) | (with_reducible refine bStep ?_ (by with_reducible assumption)) | (with_reducible refine bAlloc ?_ _) | (with_reducible refine bDrew ?_) | (with_reducible refine bDrewN ?_ _) | (with_reducible refine Below.setCell ?_ ?_ _) | (with_reducible exact Nat.le_refl _) | (simp; done) | (simp; omega)))⟩
  rcases hR : isRat x y
  · have fin : Hid (rrA (bl s) = 0 ∧ rrC (bl s) = 0 ∧ rrQ (bl s) = false) := rr_none (by rw [hri.out]; simp only [if_true]; rw [hR]; rfl)
    go_wp2_with ((first | (go_at_call 52; refine (isRatI _ _ _).mono ?_; rintro e w4 ⟨rfl, hb4⟩; obtain ⟨hc4, hf4⟩ := bcell hb4; have hs4 := hb4.size; (try simp at hs4); (try have hl4 := Nat.lt_of_succ_le hs4); (try have hz4x0 : w.heap.size < w4.heap.size := (by have := hb4.size; (try simp at this); omega)); (try have hn4x0 : ¬ w.heap.size = w4.heap.size := (by omega)); (try have hm4x0 : ¬ w4.heap.size = w.heap.size := (by omega)); (try have hz4x1 : w3.heap.size < w4.heap.size := (by have := hb4.size; (try simp at this); omega)); (try have hn4x1 : ¬ w3.heap.size = w4.heap.size := (by omega)); (try have hm4x1 : ¬ w4.heap.size = w3.heap.size := (by omega)); (try have c4x00 := hc4 (w.heap.size) 0 (by first | omega | (simp; done) | (simp; omega))); (try have f4x00 := hf4 (w.heap.size) 0 (by first | omega | (simp; done) | (simp; omega))); (try have c4x01 := hc4 (w.heap.size) 1 (by first | omega | (simp; done) | (simp; omega))); (try have f4x01 := hf4 (w.heap.size) 1 (by first | omega | (simp; done) | (simp; omega))); (try have c4x10 := hc4 (w3.heap.size) 0 (by first | omega | (simp; done) | (simp; omega))); (try have f4x10 := hf4 (w3.heap.size) 0 (by first | omega | (simp; done) | (simp; omega))); (try have c4x11 := hc4 (w3.heap.size) 1 (by first | omega | (simp; done) | (simp; omega))); (try have f4x11 := hf4 (w3.heap.size) 1 (by first | omega | (simp; done) | (simp; omega))))))
    all_goals (first | go_ret | go_ret2 | go_returns | (refine bodyPost_ret (by simp [results, Tryd.results16, go_sem, *]; try rfl) rfl ?_))
    all_goals exact ⟨by rw [fin.out.1, fin.out.2.1, fin.out.2.2]; first | done | rfl, by (repeat' (first | (with_reducible exact Below.refl _ _) | (with_reducible assumption) | (with_reducible refine bStep ?_ (by with_reducible assumption)) | (with_reducible refine bAlloc ?_ _) | (with_reducible refine bDrew ?_) | (with_reducible refine bDrewN ?_ _) | (with_reducible refine Below.setCell ?_ ?_ _) | (with_reducible exact Nat.le_refl _) | (simp; done) | (simp; omega)))⟩
  · have fin : Hid (rrA (bl s) = x ∧ rrC (bl s) = y ∧ rrQ (bl s) = true) := rr_some (by rw [hri.out]; simp only [if_true]; rw [hR]; rfl)
    go_wp2_with ((first | (go_at_call 52; refine (isRatI _ _ _).mono ?_; rintro e w4 ⟨rfl, hb4⟩; obtain ⟨hc4, hf4⟩ := bcell hb4; have hs4 := hb4.size; (try simp at hs4); (try have hl4 := Nat.lt_of_succ_le hs4); (try have hz4x0 : w.heap.size < w4.heap.size := (by have := hb4.size; (try simp at this); omega)); (try have hn4x0 : ¬ w.heap.size = w4.heap.size := (by omega)); (try have hm4x0 : ¬ w4.heap.size = w.heap.size := (by omega)); (try have hz4x1 : w3.heap.size < w4.heap.size := (by have := hb4.size; (try simp at this); omega)); (try have hn4x1 : ¬ w3.heap.size = w4.heap.size := (by omega)); (try have hm4x1 : ¬ w4.heap.size = w3.heap.size := (by omega)); (try have c4x00 := hc4 (w.heap.size) 0 (by first | omega | (simp; done) | (simp; omega))); (try have f4x00 := hf4 (w.heap.size) 0 (by first | omega | (simp; done) | (simp; omega))); (try have c4x01 := hc4 (w.heap.size) 1 (by first | omega | (simp; done) | (simp; omega))); (try have f4x01 := hf4 (w.heap.size) 1 (by first | omega | (simp; done) | (simp; omega))); (try have c4x10 := hc4 (w3.heap.size) 0 (by first | omega | (simp; done) | (simp; omega))); (try have f4x10 := hf4 (w3.heap.size) 0 (by first | omega | (simp; done) | (simp; omega))); (try have c4x11 := hc4 (w3.heap.size) 1 (by first | omega | (simp; done) | (simp; omega))); (try have f4x11 := hf4 (w3.heap.size) 1 (by first | omega | (simp; done) | (simp; omega))))))
    all_goals (first | go_ret | go_ret2 | go_returns | (refine bodyPost_ret (by simp [results, Tryd.results16, go_sem, *]; try rfl) rfl ?_))
    all_goals exact ⟨by rw [fin.out.1, fin.out.2.1, fin.out.2.2]; first | done | rfl, by (repeat' (first | (with_reducible exact Below.refl _ _) | (with_reducible assumption) | (with_reducible refine bStep ?_ (by with_reducible assumption)) | (with_reducible refine bAlloc ?_ _) | (with_reducible refine bDrew ?_) | (with_reducible refine bDrewN ?_ _) | (with_reducible refine Below.setCell ?_ ?_ _) | (with_reducible exact Nat.le_refl _) | (simp; done) | (simp; omega)))⟩
set_option maxHeartbeats 1600000 in
theorem wReadRatio {w : World} (s : ByteArray) (hs0 : s.size ≤ maxLen) (E : Env w) : Calls Tryd.prog 10 #[.string s] w fun e w' => e = .returned (.bool true) ∧ Below w.heap.size w w' := by
  have E := Lib.hid E
  by_cases hbig : (1048576 : Int) < (s.size : Int)
  · go_enter Tryd.func10, Tryd.ntmps10
    go_wp2_with fail
    go_ret
    exact ⟨rfl, by (repeat' (first | (with_reducible exact Below.refl _ _) | (with_reducible assumption) | (with_reducible refine bStep ?_ (by with_reducible assumption)) | (with_reducible refine bAlloc ?_ _) | (with_reducible refine bDrew ?_) | (with_reducible refine bDrewN ?_ _) | (with_reducible refine Below.setCell ?_ ?_ _) | (with_reducible exact Nat.le_refl _) | (simp; done) | (simp; omega)))⟩
  · have hs : s.size ≤ 2097152 := by omega
    obtain ⟨x, hx⟩ : ∃ n, rrA (bl s) = n := ⟨_, rfl⟩
    obtain ⟨y, hy⟩ : ∃ n, rrC (bl s) = n := ⟨_, rfl⟩
    obtain ⟨q, hq⟩ : ∃ b, rrQ (bl s) = b := ⟨_, rfl⟩
    have q2 : (q != q) = false := by simp
    have KS : Hid (∀ w0 : World, Calls Tryd.prog 18 #[.string s] w0 fun e w' => e = .returned (.tuple #[.agg #[.int .i64 x, .int .i64 y], .bool q]) ∧ Below w0.heap.size w0 w') := fun w0 => by have := rrS s w0 hs; unfold RR at this; rw [hx, hy, hq] at this; exact this
    have KI : Hid (∀ w0 : World, Env w0 → Calls Tryd.prog 16 #[.string s] w0 fun e w' => e = .returned (.tuple #[.agg #[.int .i64 x, .int .i64 y], .bool q]) ∧ Below w0.heap.size w0 w') := fun w0 e0 => by have := rrI s w0 hs e0; unfold RR at this; rw [hx, hy, hq] at this; exact this
    clear hx hy hq
    go_enter Tryd.func10, Tryd.ntmps10
    go_wp2_with fail
    (refine (KS.out _).mono ?_; rintro e w1 ⟨rfl, hb1⟩; obtain ⟨hc1, hf1⟩ := bcell hb1; have hs1 := hb1.size; (try simp at hs1); (try have hl1 := Nat.lt_of_succ_le hs1))
    go_wp2_with fail
    (refine (KI.out _ (E.out.below (by (repeat' (first | (with_reducible exact Below.refl _ _) | (with_reducible assumption) | (with_reducible refine bStep ?_ (by with_reducible assumption)) | (with_reducible refine bAlloc ?_ _) | (with_reducible refine bDrew ?_) | (with_reducible refine bDrewN ?_ _) | (with_reducible refine Below.setCell ?_ ?_ _) | (with_reducible exact Nat.le_refl _) | (simp; done) | (simp; omega)))))).mono ?_; rintro e w2 ⟨rfl, hb2⟩; obtain ⟨hc2, hf2⟩ := bcell hb2; have hs2 := hb2.size; (try simp at hs2); (try have hl2 := Nat.lt_of_succ_le hs2); (try have hz2x0 : w1.heap.size < w2.heap.size := (by have := hb2.size; (try simp at this); omega)); (try have hn2x0 : ¬ w1.heap.size = w2.heap.size := (by omega)); (try have hm2x0 : ¬ w2.heap.size = w1.heap.size := (by omega)); (try have c2x00 := hc2 (w1.heap.size) 0 (by first | omega | (simp; done) | (simp; omega))); (try have f2x00 := hf2 (w1.heap.size) 0 (by first | omega | (simp; done) | (simp; omega))); (try have c2x01 := hc2 (w1.heap.size) 1 (by first | omega | (simp; done) | (simp; omega))); (try have f2x01 := hf2 (w1.heap.size) 1 (by first | omega | (simp; done) | (simp; omega))))
    go_wp2_with ((first | (go_at_call 44; refine (eqRat _ _ _ _ _).mono ?_; rintro e w3 ⟨rfl, hb3⟩; obtain ⟨hc3, hf3⟩ := bcell hb3; have hs3 := hb3.size; (try simp at hs3); (try have hl3 := Nat.lt_of_succ_le hs3); (try have hz3x0 : w1.heap.size < w3.heap.size := (by have := hb3.size; (try simp at this); omega)); (try have hn3x0 : ¬ w1.heap.size = w3.heap.size := (by omega)); (try have hm3x0 : ¬ w3.heap.size = w1.heap.size := (by omega)); (try have hz3x1 : w2.heap.size < w3.heap.size := (by have := hb3.size; (try simp at this); omega)); (try have hn3x1 : ¬ w2.heap.size = w3.heap.size := (by omega)); (try have hm3x1 : ¬ w3.heap.size = w2.heap.size := (by omega)); (try have c3x00 := hc3 (w1.heap.size) 0 (by first | omega | (simp; done) | (simp; omega))); (try have f3x00 := hf3 (w1.heap.size) 0 (by first | omega | (simp; done) | (simp; omega))); (try have c3x01 := hc3 (w1.heap.size) 1 (by first | omega | (simp; done) | (simp; omega))); (try have f3x01 := hf3 (w1.heap.size) 1 (by first | omega | (simp; done) | (simp; omega))); (try have c3x10 := hc3 (w2.heap.size) 0 (by first | omega | (simp; done) | (simp; omega))); (try have f3x10 := hf3 (w2.heap.size) 0 (by first | omega | (simp; done) | (simp; omega))); (try have c3x11 := hc3 (w2.heap.size) 1 (by first | omega | (simp; done) | (simp; omega))); (try have f3x11 := hf3 (w2.heap.size) 1 (by first | omega | (simp; done) | (simp; omega))))))
    go_ret
    exact ⟨rfl, by (repeat' (first | (with_reducible exact Below.refl _ _) | (with_reducible assumption) | (with_reducible refine bStep ?_ (by with_reducible assumption)) | (with_reducible refine bAlloc ?_ _) | (with_reducible refine bDrew ?_) | (with_reducible refine bDrewN ?_ _) | (with_reducible refine Below.setCell ?_ ?_ _) | (with_reducible exact Nat.le_refl _) | (simp; done) | (simp; omega)))⟩
end Go.Proofs.YtgnpbgknmapejaaDoor
