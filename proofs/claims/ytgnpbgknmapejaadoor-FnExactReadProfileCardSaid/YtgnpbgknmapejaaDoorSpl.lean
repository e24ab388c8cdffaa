/- The reference's splitting of a text, and its reading of numbers: contracts. -/
import Derived.Test.YtgnpbgknmapejaaDoorMet
import Derived.Test.YtgnpbgknmapejaaDoorRatL
import Derived.Test.YtgnpbgknmapejaaDoorInts
import Derived.Maps.AppendAt
namespace Go.Proofs.YtgnpbgknmapejaaDoor
open Go.RowKit
set_option linter.unusedVariables false

theorem infoStr : (Tryd.prog.info? 9).map (fun i => (i.zero, i.size, i.bytes)) = some (some (.string ByteArray.empty), 1, 16) := by kernel_rfl
theorem infoI64 : (Tryd.prog.info? 2).map (fun i => (i.zero, i.size, i.bytes)) = some (some (.int .i64 0), 1, 8) := by kernel_rfl
theorem sp_base {w : World} {B : Nat} {e : TypeId} {s : Nat} {v : Value} {n : Nat} {xs : List Value} (h : w.ownsRow B e s v n xs) : ∀ k, v.ownBlock = some k → B ≤ k := by
  intro k hk
  rcases h.2 with ⟨rfl, _⟩ | ⟨g, cap, cur, rfl, hb, _⟩
  · cases hk
  · simp [Value.ownBlock] at hk; omega
theorem sp_slice {w : World} {B : Nat} {e : TypeId} {s : Nat} {v : Value} {n : Nat} {xs : List Value} (h : w.ownsRow B e s v n xs) : ∃ A c, v = .slice A n c := by
  rcases h.2 with ⟨rfl, rfl⟩ | ⟨g, cap, cur, rfl, _⟩
  · exact ⟨_, _, rfl⟩
  · exact ⟨_, _, rfl⟩
theorem sp_below {w w' : World} {B : Nat} {e : TypeId} {s : Nat} {v : Value} {n : Nat} {xs : List Value} (h : w.ownsRow B e s v n xs) (hb : Below w.heap.size w w') : w'.ownsRow B e s v n xs := by
  refine ⟨h.1, ?_⟩
  rcases h.2 with h2 | ⟨g, cap, cur, rfl, hB, hg, r⟩
  · exact .inl h2
  · exact .inr ⟨g, cap, cur, rfl, hB, (hb.block g (lt_of_block hg)).trans hg, r⟩
theorem sp_empty (w : World) (e : TypeId) : (w.alloc (.cells #[] e)).ownsRow w.heap.size e 1 (.slice (some ⟨w.heap.size, 0, none⟩) 0 0) 0 [] :=
  ⟨rfl, .inr ⟨w.heap.size, 0, #[], rfl, Nat.le_refl _, (Array.getElem?_push_size : (w.heap.push _)[w.heap.size]? = _), Nat.le_refl _, by unfold maxLen; omega, rfl, rfl⟩⟩
theorem cell_single (w : World) (v : Value) (t : TypeId) : ∀ j u, ([v] : List Value)[j]? = some u → (w.alloc (.cells #[v] t)).cell? ((⟨w.heap.size, 0, none⟩ : Addr).add j) = some u := by
  intro j u hj
  match j, hj with
  | 0, hj => simp at hj; subst hj; simp [Addr.add]
  | j + 1, hj => simp at hj
/-- The slice reads as these texts. -/
def Strs (w : World) (A : Option Addr) (n : Nat) (ws : List ByteArray) : Prop :=
  ws.length = n ∧ n ≤ 4194304 ∧ (0 < n → ∃ b, A = some ⟨b, 0, none⟩ ∧ b < w.heap.size ∧ ∀ j x, ws[j]? = some x → w.cell? ⟨b, j, none⟩ = some (.string x))
theorem Strs.below {w w' : World} {A : Option Addr} {n : Nat} {ws : List ByteArray} (H : Strs w A n ws) (hb : Below w.heap.size w w') : Strs w' A n ws := by
  refine ⟨H.1, H.2.1, fun hn => ?_⟩
  obtain ⟨b, e, hlt, hc⟩ := H.2.2 hn
  exact ⟨b, e, Nat.lt_of_lt_of_le hlt hb.size, fun j x hx => (hb.cell (p := ⟨b, j, none⟩) hlt).trans (hc j x hx)⟩
theorem Strs.of_own {w : World} {base : Nat} {A : Option Addr} {e : TypeId} {c n : Nat} {ws : List ByteArray} (O : w.ownsRow base e 1 (.slice A n c) n (ws.map Value.string)) (hl : ws.length = n) (hn : n ≤ 4194304) : Strs w A n ws := by
  refine ⟨hl, hn, fun hpos => ?_⟩
  rcases O.2 with ⟨e1, e2⟩ | ⟨b, cap, cur, e1, hB, hb, r⟩
  · injection e1 with e1 e3 e4
    omega
  · injection e1 with e1 e3 e4
    subst e1; subst e4
    refine ⟨b, rfl, lt_of_block hb, fun j x hx => ?_⟩
    have hj : j < ws.length := by
      rcases Nat.lt_or_ge j ws.length with k | k
      · exact k
      · rw [List.getElem?_eq_none k] at hx; cases hx
    rw [O.cellAt _ (by omega), List.getElem?_map, hx]
    rfl
def bl (s : ByteArray) : List UInt8 := s.data.toList
theorem bl_extract (s : ByteArray) (i j : Nat) : bl (s.extract i j) = ((bl s).take j).drop i := by
  unfold bl
  rw [ByteArray.data_extract, Array.toList_extract]
  simp [List.extract, List.drop_take]
def SplP (s : ByteArray) (c : UInt8) (w : World) (e : Ending) (w' : World) : Prop := ∃ (A : Option Addr) (n cp : Nat) (ws : List ByteArray), e = .returned (.slice A n cp) ∧ (Strs w' A n ws ∧ Hid (ws.map bl = spl c (bl s) [])) ∧ Below w.heap.size w w'
set_option maxHeartbeats 3200000 in
theorem splS (s : ByteArray) (c : UInt8) (w : World) (hs : s.size ≤ 2097152) : Calls Tryd.prog 58 #[.string s, .int .u8 c.toNat] w (SplP s c w) := by
  obtain ⟨i0, hi, hz0, hz1, hz2⟩ := info_parts infoStr
  have O := Lib.hid (sp_empty w 9)
  go_enter Tryd.func58, Tryd.ntmps58
  go_wp2_with fail
  go_loopw [5, 6, 7] (fun v f i wr => ∃ (k fr n : Nat) (ws : List ByteArray), i = .int .i64 k ∧ f = .int .i64 fr ∧ (k ≤ s.size + 1 ∧ fr ≤ k ∧ n ≤ k) ∧ wr.ownsRow w.heap.size 9 1 v n (ws.map Value.string) ∧ ws.length = n ∧ Hid ((k ≤ s.size ∧ ws.map bl ++ spl c ((bl s).drop k) (((bl s).take k).drop fr) = spl c (bl s) []) ∨ (k = s.size + 1 ∧ ws.map bl = spl c (bl s) [])) ∧ Below w.heap.size w wr) (fun _ _ i _ => s.size + 2 - (intOf i).toNat)
  case atStart => exact ⟨0, 0, 0, [], rfl, rfl, by omega, O.out, rfl, .inl ⟨Nat.zero_le _, by simp⟩, (Below.refl _ _).alloc (Nat.le_refl _) _⟩
  case round =>
    obtain ⟨k, fr, n, ws, rfl, rfl, ⟨hk, hfk, hnk⟩, hown, hlen, HP, hbel⟩ := hrel
    clear O
    have hsr := hbel.size
    by_cases hgo : k ≤ s.size
    · have hg1 : (k : Int) ≤ (s.size : Int) := by omega
      have hP : Hid (ws.map bl ++ spl c ((bl s).drop k) (((bl s).take k).drop fr) = spl c (bl s) []) := by
        rcases HP.out with h | h
        · exact h.2
        · omega
      clear HP
      have hown := Lib.hid hown
      have Wk : IntKind.i64.wrap ((k : Int) + 1) = (k : Int) + 1 := IntWalk.i64_in _ (by omega)
      have hf1 : (fr : Int) ≤ (k : Int) := by omega
      have hlenb := size_list s
      by_cases hend : k = s.size
      · subst hend
        have hcur : Hid ((ws ++ [s.extract fr s.size]).map bl = spl c (bl s) []) := by
          show _ = _
          have h := hP.out
          have e1 : (bl s).drop s.size = [] := List.drop_eq_nil_iff.2 (by unfold bl; omega)
          rw [e1] at h
          rw [List.map_append, ← h]
          simp only [List.map_cons, List.map_nil, spl, bl_extract]
        go_wp2_with (first | (at_builtin; refine wpList_append_own _ rfl _ _ 71 rfl w.heap.size 9 i0 (.string ByteArray.empty) 1 16 Tryd.underlying71 hi hz0 hz1 hz2 rfl (by decide) _ _ _ rfl (hown.out.alloc _) ⟨wr.heap.size, 0, none⟩ 1 1 [.string (s.extract fr s.size)] rfl rfl (cell_single _ _ _) (by intro u hu; simp only [List.mem_cons, List.not_mem_nil, or_false] at hu; subst hu; rfl) (by unfold maxLen; omega) (by omega) (by simp; omega) ?_; intro v' w3 hown' hgrow hnil; have hbs := sp_base hown.out; have O3 := Lib.hid hown'; have B3 := Lib.hid ((hbel.alloc (by omega) _).grown hgrow (by simp; omega) (fun k e => hbs k e)); clear hown' hgrow hnil hbs))
        go_roundw
        case rel => exact ⟨s.size + 1, s.size + 1, n + 1, ws ++ [s.extract fr s.size], by first | rfl | go_num | (congr 1; omega), by first | rfl | go_num | (congr 1; omega), by omega, by rw [List.map_append]; exact O3.out, by simp [hlen], .inr ⟨rfl, hcur.out⟩, B3.out⟩
        case measure => simp [intOf] <;> omega
      · have hk1 : k < s.size := by omega
        have hg2 : ¬ (k : Int) = (s.size : Int) := by omega
        have hg3 : ((k : Int) == (s.size : Int)) = false := by rw [beq_eq_false_iff_ne]; omega
        have hg4 : (k : Int) < (s.size : Int) := by omega
        have hx := at_list hk1
        have hdr : Hid ((bl s).drop k = (s[k]'hk1) :: (bl s).drop (k + 1)) := by
          show _ = _
          have h' : k < (bl s).length := by unfold bl; omega
          rw [List.drop_eq_getElem_cons h']
          congr 1
        obtain ⟨b, hb⟩ : ∃ b : UInt8, (s[k]'hk1) = b := ⟨_, rfl⟩
        have hbN : (s[k]'hk1).toNat = b.toNat := by rw [hb]
        rw [hb] at hdr hx
        clear hb
        by_cases hbc : b = c
        · subst hbc
          have hcur : Hid ((ws ++ [s.extract fr k]).map bl ++ spl b ((bl s).drop (k + 1)) (((bl s).take (k + 1)).drop (k + 1)) = spl b (bl s) []) := by
            show _ = _
            have h := hP.out
            rw [hdr.out, spl, if_pos rfl] at h
            have e2 : ((bl s).take (k + 1)).drop (k + 1) = [] := List.drop_eq_nil_iff.2 (by rw [List.length_take]; omega)
            rw [e2, List.map_append, ← h]
            simp only [List.map_cons, List.map_nil, bl_extract, List.append_assoc, List.cons_append, List.nil_append]
          have q : ((b.toNat : Int) == (b.toNat : Int)) = true := by simp
          clear hx hdr hP
          go_wp2_with (first | (at_builtin; refine wpList_append_own _ rfl _ _ 71 rfl w.heap.size 9 i0 (.string ByteArray.empty) 1 16 Tryd.underlying71 hi hz0 hz1 hz2 rfl (by decide) _ _ _ rfl (hown.out.alloc _) ⟨wr.heap.size, 0, none⟩ 1 1 [.string (s.extract fr k)] rfl rfl (cell_single _ _ _) (by intro u hu; simp only [List.mem_cons, List.not_mem_nil, or_false] at hu; subst hu; rfl) (by unfold maxLen; omega) (by omega) (by simp; omega) ?_; intro v' w3 hown' hgrow hnil; have hbs := sp_base hown.out; have O3 := Lib.hid hown'; have B3 := Lib.hid ((hbel.alloc (by omega) _).grown hgrow (by simp; omega) (fun k e => hbs k e)); clear hown' hgrow hnil hbs))
          go_roundw
          case rel => exact ⟨k + 1, k + 1, n + 1, ws ++ [s.extract fr k], by first | rfl | go_num | (congr 1; omega), by first | rfl | go_num | (congr 1; omega), by omega, by rw [List.map_append]; exact O3.out, by simp [hlen], .inl ⟨by omega, hcur.out⟩, B3.out⟩
          case measure => simp [intOf] <;> omega
        · have hne : ¬ (b.toNat : Int) = (c.toNat : Int) := by
            intro e
            exact hbc (UInt8.toNat_inj.1 (by omega))
          have hne2 : ((b.toNat : Int) == (c.toNat : Int)) = false := by rw [beq_eq_false_iff_ne]; exact hne
          have hcur : Hid (ws.map bl ++ spl c ((bl s).drop (k + 1)) (((bl s).take (k + 1)).drop fr) = spl c (bl s) []) := by
            show _ = _
            have h := hP.out
            rw [hdr.out, spl, if_neg hbc] at h
            have e2 : ((bl s).take (k + 1)).drop fr = ((bl s).take k).drop fr ++ [b] := by
              rw [List.take_add_one, show (bl s)[k]? = some b from hx]
              rw [List.drop_append_of_le_length (by rw [List.length_take]; unfold bl; omega)]
              rfl
            rw [e2]
            exact h
          clear hx hdr hP
          have O2 := hown.out
          go_wp2_with fail
          go_roundw
          case rel => exact ⟨k + 1, fr, n, ws, by first | rfl | go_num | (congr 1; omega), rfl, by omega, hown.out, hlen, .inl ⟨by omega, hcur.out⟩, hbel⟩
          case measure => simp [intOf] <;> omega
    · have hP : Hid (ws.map bl = spl c (bl s) []) := by
        rcases HP.out with h | h
        · omega
        · exact h.2
      clear HP
      have hg1 : ¬ (k : Int) ≤ (s.size : Int) := by omega
      obtain ⟨A1, c1, rfl⟩ := sp_slice hown
      have S1 := Lib.hid (Strs.of_own hown hlen (by omega))
      clear hown
      go_wp2_with fail
      go_ret
      exact ⟨A1, n, c1, ws, rfl, ⟨S1.out, hP⟩, hbel⟩
end Go.Proofs.YtgnpbgknmapejaaDoor
