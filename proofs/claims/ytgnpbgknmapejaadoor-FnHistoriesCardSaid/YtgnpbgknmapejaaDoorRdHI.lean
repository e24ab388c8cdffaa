/- Reading a history from its letters: the program's contract. -/
import Derived.Test.YtgnpbgknmapejaaDoorRdH
namespace Go.Proofs.YtgnpbgknmapejaaDoor
open Go.RowKit
set_option linter.unusedVariables false

def ctsb : ByteArray := { data := #[99, 116, 115, 98] }
theorem ctsb_mem (b : UInt8) : ([99, 116, 115, 98] : List UInt8).contains b = decide (¬ hd b = 0) := by
  by_cases h1 : b = 99
  · subst h1; rfl
  by_cases h2 : b = 116
  · subst h2; rfl
  by_cases h3 : b = 115
  · subst h3; rfl
  by_cases h4 : b = 98
  · subst h4; rfl
  have n1 : ¬ b.toNat = 99 := fun h => h1 (UInt8.toNat_inj.1 h)
  have n2 : ¬ b.toNat = 116 := fun h => h2 (UInt8.toNat_inj.1 h)
  have n3 : ¬ b.toNat = 115 := fun h => h3 (UInt8.toNat_inj.1 h)
  have n4 : ¬ b.toNat = 98 := fun h => h4 (UInt8.toNat_inj.1 h)
  have e : hd b = 0 := by unfold hd; rw [if_neg n1, if_neg n2, if_neg n3, if_neg n4]
  rw [e]
  simp [h1, h2, h3, h4]
theorem ctsb_at (b : UInt8) (h : ¬ hd b = 0) : Lib.indexByte ([99, 116, 115, 98] : List UInt8) b = hd b - 1 := by
  by_cases h1 : b = 99
  · subst h1; rfl
  by_cases h2 : b = 116
  · subst h2; rfl
  by_cases h3 : b = 115
  · subst h3; rfl
  by_cases h4 : b = 98
  · subst h4; rfl
  have n1 : ¬ b.toNat = 99 := fun h => h1 (UInt8.toNat_inj.1 h)
  have n2 : ¬ b.toNat = 116 := fun h => h2 (UInt8.toNat_inj.1 h)
  have n3 : ¬ b.toNat = 115 := fun h => h3 (UInt8.toNat_inj.1 h)
  have n4 : ¬ b.toNat = 98 := fun h => h4 (UInt8.toNat_inj.1 h)
  exact absurd (by unfold hd; rw [if_neg n1, if_neg n2, if_neg n3, if_neg n4]) h
theorem dw_nil {p : UInt8 → Bool} : ∀ l : List UInt8, l.dropWhile p = [] ↔ ∀ x ∈ l, p x = true
  | [] => by simp
  | a :: l => by
    rcases h : p a
    · simp [h]
    · simp [h, dw_nil l]
theorem tw_mem {p : UInt8 → Bool} {b : UInt8} : ∀ l : List UInt8, b ∈ l.takeWhile p → p b = true
  | [], h => by simp at h
  | a :: l, h => by
    rcases ha : p a
    · simp [ha] at h
    · simp only [List.takeWhile_cons, ha, if_true, List.mem_cons] at h
      rcases h with rfl | h
      · exact ha
      · exact tw_mem l h
theorem trim_nil {l cs : List UInt8} : Lib.trimS l cs = [] ↔ ∀ b ∈ l, cs.contains b = true := by
  unfold Lib.trimS Lib.trimLeftS Lib.trimRightS
  rw [dw_nil]
  constructor
  · intro h b hb
    have hr : b ∈ l.reverse := List.mem_reverse.2 hb
    rw [← List.takeWhile_append_dropWhile (p := fun x => cs.contains x) (l := l.reverse)] at hr
    rcases List.mem_append.1 hr with h1 | h1
    · exact tw_mem _ h1
    · exact h b (List.mem_reverse.2 h1)
  · intro h b hb
    exact h b (List.mem_reverse.1 ((List.dropWhile_sublist _).subset (List.mem_reverse.1 hb)))
theorem trim_empty (l : List UInt8) : ((⟨(Lib.trimS l [99, 116, 115, 98]).toArray⟩ : ByteArray).toList.isEmpty) = (l.all fun b => decide (¬ hd b = 0)) := by
  rw [ByteArray.toList_eq, Bool.eq_iff_iff, List.isEmpty_iff]
  show (Lib.trimS l [99, 116, 115, 98]).toArray.toList = [] ↔ _
  rw [List.toList_toArray, trim_nil, List.all_eq_true]
  exact ⟨fun h b hb => by rw [← ctsb_mem]; exact h b hb, fun h b hb => by rw [ctsb_mem]; exact h b hb⟩
theorem trimI (s : ByteArray) (w : World) (hs : s.size ≤ 2097152) : Calls Tryd.prog 77 #[.string s, .string { data := #[99, 116, 115, 98] }] w fun e w' => e = .returned (.string ⟨(Lib.trimS s.data.toList [99, 116, 115, 98]).toArray⟩) ∧ Below w.heap.size w w' :=
  Any.strings_Trim_laid Tryd.lays160 (by kernel_rfl) s { data := #[99, 116, 115, 98] } w (by omega) (by decide) (by
    intro j b hb
    have hm := List.mem_of_getElem? hb
    simp only [List.mem_cons, List.not_mem_nil, or_false] at hm
    rcases hm with rfl | rfl | rfl | rfl <;> decide)
set_option maxHeartbeats 3200000 in
set_option maxRecDepth 20000 in
theorem rhI (s : ByteArray) (w : World) (hs : s.size ≤ 2097152) : Calls Tryd.prog 36 #[.string s] w (RH (bl s) w) := by
  obtain ⟨i0, hi, hz0, hz1, hz2⟩ := info_parts infoI64
  have hlen : (bl s).length = s.size := rfl
  have HL := Lib.hid hlen
  clear hlen
  by_cases h100 : (100 : Int) < (s.size : Int)
  · have hF : Hid (hOk (bl s) = false) := hOk_len (by rw [HL.out]; omega)
    go_enter Tryd.func36, Tryd.ntmps36
    go_wp2_with fail
    go_ret2
    exact ⟨none, 0, 0, by rw [hF.out]; rfl, by rw [rhL, hF.out]; exact World.ownsRow_nil _ _ _ _, by (repeat' (first | (with_reducible exact Below.refl _ _) | (with_reducible assumption) | (with_reducible refine bStep ?_ (by with_reducible assumption)) | (with_reducible refine bAlloc ?_ _) | (with_reducible refine bDrew ?_) | (with_reducible refine bDrewN ?_ _) | (with_reducible refine Below.setCell ?_ ?_ _) | (with_reducible exact Nat.le_refl _) | (simp; done) | (simp; omega)))⟩
  have TR := Lib.hid (trimI s w hs)
  have TE := Lib.hid (trim_empty (bl s))
  obtain ⟨t, ht⟩ : ∃ t : ByteArray, (⟨(Lib.trimS s.data.toList [99, 116, 115, 98]).toArray⟩ : ByteArray) = t := ⟨_, rfl⟩
  have TR : Hid (Calls Tryd.prog 77 #[.string s, .string { data := #[99, 116, 115, 98] }] w fun e w' => e = .returned (.string t) ∧ Below w.heap.size w w') := by rw [← ht]; exact TR.out
  have TE : Hid (t.toList.isEmpty = ((bl s).all fun b => decide (¬ hd b = 0))) := by rw [← ht]; exact TE.out
  clear ht
  rcases hq : ((bl s).all fun b => decide (¬ hd b = 0))
  · have hF : Hid (hOk (bl s) = false) := by show _ = _; unfold hOk; rw [hq]; rfl
    have he : t.toList.isEmpty = false := by rw [TE.out, hq]
    go_enter Tryd.func36, Tryd.ntmps36
    go_wp2_with (go_at_call 77; refine TR.out.mono ?_; rintro e w1 ⟨rfl, hb1⟩)
    go_ret2
    exact ⟨none, 0, 0, by rw [hF.out]; rfl, by rw [rhL, hF.out]; exact World.ownsRow_nil _ _ _ _, by (repeat' (first | (with_reducible exact Below.refl _ _) | (with_reducible assumption) | (with_reducible refine bStep ?_ (by with_reducible assumption)) | (with_reducible refine bAlloc ?_ _) | (with_reducible refine bDrew ?_) | (with_reducible refine bDrewN ?_ _) | (with_reducible refine Below.setCell ?_ ?_ _) | (with_reducible exact Nat.le_refl _) | (simp; done) | (simp; omega)))⟩
  · have hA : Hid (∀ b ∈ bl s, ¬ hd b = 0) := fun b hb => by simpa using List.all_eq_true.1 hq b hb
    have hF : Hid (hOk (bl s) = true) := hOk_yes hA.out (by rw [HL.out]; omega)
    have he : t.toList.isEmpty = true := by rw [TE.out, hq]
    clear hq
    go_enter Tryd.func36, Tryd.ntmps36
    go_wp2_with (go_at_call 77; refine TR.out.mono ?_; rintro e w1 ⟨rfl, hb1⟩)
    have hsz1 := hb1.size
    go_loopw [4, 16] (fun v i wr => ∃ k : Nat, k ≤ s.size ∧ i = .int .i64 k ∧ wr.ownsRow w.heap.size 2 1 v k ((((bl s).take k).map hd).map (Value.int .i64)) ∧ Below w.heap.size w wr) (fun _ i _ => s.size - (intOf i).toNat)
    case atStart => exact ⟨0, Nat.zero_le _, rfl, World.ownsRow_nil _ _ _ _, by (repeat' (first | (with_reducible exact Below.refl _ _) | (with_reducible assumption) | (with_reducible refine bStep ?_ (by with_reducible assumption)) | (with_reducible refine bAlloc ?_ _) | (with_reducible refine bDrew ?_) | (with_reducible refine bDrewN ?_ _) | (with_reducible refine Below.setCell ?_ ?_ _) | (with_reducible exact Nat.le_refl _) | (simp; done) | (simp; omega)))⟩
    case round =>
      obtain ⟨k, hk, rfl, hown, hbel⟩ := hrel
      have hbs := hbel.size
      have HO := Lib.hid hown
      have HB := Lib.hid hbel
      clear hown hbel
      by_cases hlt : k < s.size
      · have hl1 : (k : Int) < (s.size : Int) := by omega
        have hx := at_list hlt
        obtain ⟨b, hb⟩ : ∃ b : UInt8, (s[k]'hlt) = b := ⟨_, rfl⟩
        have hbN : (s[k]'hlt).toNat = b.toNat := by rw [hb]
        rw [hb] at hx
        have HX : Hid ((bl s)[k]? = some b) := hx
        clear hb hx
        have hne : ¬ hd b = 0 := hA.out b (List.mem_of_getElem? HX.out)
        have hr := hd_rng b
        obtain ⟨d, hdd⟩ : ∃ d, hd b = d := ⟨_, rfl⟩
        have IB : Hid (Lib.indexByte ({ data := #[99, 116, 115, 98] } : ByteArray).data.toList ((b.toNat : Int)).toNat.toUInt8 = d - 1) := by
          show _ = _
          have e : ((b.toNat : Int)).toNat.toUInt8 = b := by rw [Int.toNat_natCast]; exact UInt8.ofNat_toNat
          rw [e, ← hdd]
          exact ctsb_at b hne
        rw [hdd] at hr hne
        have HDD := Lib.hid hdd
        clear hdd
        obtain ⟨c, hc⟩ : ∃ c : Nat, b.toNat = c := ⟨_, rfl⟩
        rw [hc] at hbN IB
        have hc8 : c < 256 := by rw [← hc]; exact UInt8.toNat_lt _
        clear hc
        have W1 : IntKind.i64.wrap d = d := IntWalk.i64_in _ (by omega)
        have W2 : IntKind.i64.wrap (d - 1 + 1) = d := by rw [Int.sub_add_cancel]; exact W1
        go_wp2_with (first | (go_at_call 78; refine (Tryd.strings_IndexByte _ _ _).mono ?_; rintro e w2 ⟨rfl, rfl⟩; rw [IB.out]) | (at_builtin; refine wpList_append_own _ rfl _ _ 39 rfl w.heap.size 2 i0 (.int .i64 0) 1 8 Tryd.underlying39 hi hz0 hz1 hz2 rfl (by decide) _ _ _ rfl (HO.out.alloc _) ⟨w2.heap.size, 0, none⟩ 1 1 [.int .i64 d] rfl rfl (cell_one_new _ _ _) (by simp [Value.oneCell']) (by unfold maxLen; omega) (by omega) (by simp; omega) ?_; intro v' w3 hown' hgrow hnil; have OB := own_base HO.out; have O3 := Lib.hid hown'; have B3 := Lib.hid ((bAlloc HB.out _).grown hgrow (by simp; omega) OB); clear hown' hgrow hnil OB))
        go_roundw
        case rel => exact ⟨k + 1, by omega, by first | rfl | go_num, by rw [take_step HX.out]; simp only [List.map_append, List.map_cons, List.map_nil, HDD.out]; simpa using O3.out, B3.out⟩
        case measure => simp [intOf] <;> omega
      · obtain rfl : k = s.size := by omega
        obtain ⟨A1, c1, rfl⟩ := own_slice HO.out
        have hT : (bl s).take s.size = bl s := List.take_of_length_le (by rw [HL.out]; omega)
        have HO3 : Hid (wr.ownsRow w.heap.size 2 1 (.slice A1 s.size c1) s.size (((bl s).map hd).map (Value.int .i64))) := by
          have h := HO.out
          rw [hT] at h
          exact h
        clear hT
        go_wp2_with fail
        go_ret2
        exact ⟨A1, s.size, c1, by rw [hF.out]; rfl, by rw [rhL, hF.out]; exact HO3.out, by have HB := HB.out; (repeat' (first | (with_reducible exact Below.refl _ _) | (with_reducible assumption) | (with_reducible refine bStep ?_ (by with_reducible assumption)) | (with_reducible refine bAlloc ?_ _) | (with_reducible refine bDrew ?_) | (with_reducible refine bDrewN ?_ _) | (with_reducible refine Below.setCell ?_ ?_ _) | (with_reducible exact Nat.le_refl _) | (simp; done) | (simp; omega)))⟩
end Go.Proofs.YtgnpbgknmapejaaDoor
