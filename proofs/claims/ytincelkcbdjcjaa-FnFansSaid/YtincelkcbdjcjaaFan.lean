/- The fan of directions: contracts of the program's list (the reference's, and the law, are still to be done). -/
import Derived.Test.YtincelkcbdjcjaaMkDir
import Derived.Test.YtincelkcbdjcjaaCopy
import Derived.Maps.AppendAt
namespace Go.Proofs.Ytincelkcbdjcjaa
open Go.RowKit
set_option linter.unusedVariables false

theorem fn_below {w w' : World} {B : Nat} {e : TypeId} {s : Nat} {v : Value} {n : Nat} {xs : List Value} (h : w.ownsRow B e s v n xs) (hb : Below w.heap.size w w') : w'.ownsRow B e s v n xs := by
  refine ⟨h.1, ?_⟩
  rcases h.2 with h2 | ⟨g, cap, cur, rfl, hB, hg, r⟩
  · exact .inl h2
  · exact .inr ⟨g, cap, cur, rfl, hB, (hb.block g (lt_of_block hg)).trans hg, r⟩
theorem fn_base {w : World} {B : Nat} {e : TypeId} {s : Nat} {v : Value} {n : Nat} {xs : List Value} (h : w.ownsRow B e s v n xs) : ∀ k, v.ownBlock = some k → B ≤ k := by
  intro k hk
  rcases h.2 with ⟨rfl, _⟩ | ⟨g, cap, cur, rfl, hb, _⟩
  · cases hk
  · simp [Value.ownBlock] at hk; omega
theorem fn_slice {w : World} {B : Nat} {e : TypeId} {s : Nat} {v : Value} {n : Nat} {xs : List Value} (h : w.ownsRow B e s v n xs) : ∃ A c, v = .slice A n c := by
  rcases h.2 with ⟨rfl, rfl⟩ | ⟨g, cap, cur, rfl, _⟩
  · exact ⟨_, _, rfl⟩
  · exact ⟨_, _, rfl⟩
theorem infoDir : (Try.prog.info? 27).map (fun i => (i.zero, i.size, i.bytes)) = some (some (.agg #[.int .i64 0, .int .i64 0, .int .i64 0]), 3, 24) := by kernel_rfl
def tri (a b c : Int) : List Value := [.int .i64 a, .int .i64 b, .int .i64 c]
theorem cell_three (w : World) (a b c : Int) (t : TypeId) : ∀ j u, (tri a b c)[j]? = some u → (w.alloc (.cells #[.int .i64 a, .int .i64 b, .int .i64 c] t)).cell? ((⟨w.heap.size, 0, none⟩ : Addr).add j) = some u := by
  intro j u hj
  match j, hj with
  | 0, hj => simp [tri] at hj; subst hj; simp [Addr.add]
  | 1, hj => simp [tri] at hj; subst hj; simp [Addr.add]
  | 2, hj => simp [tri] at hj; subst hj; simp [Addr.add]
  | j + 3, hj => simp [tri] at hj
theorem cell_three2 {g : Nat} (w : World) (hg : g = w.heap.size) (a b c : Int) (t : TypeId) : ∀ j u, (tri a b c)[j]? = some u → (w.alloc (.cells #[.int .i64 a, .int .i64 b, .int .i64 c] t)).cell? ((⟨g, 0, none⟩ : Addr).add j) = some u := by
  subst hg
  exact cell_three w a b c t
theorem tri_one (a b c : Int) : ∀ u ∈ tri a b c, u.oneCell' = true := by
  intro u hu
  simp only [tri, List.mem_cons, List.not_mem_nil, or_false] at hu
  rcases hu with rfl | rfl | rfl <;> rfl
def fanC (n l : Int) (q : Bool) : Nat → List Value
  | 0 => []
  | k + 1 => fanC n l q k ++ tri (dC (l + k) n) (dS (l + k) n q) (dH (l + k) n)
theorem fan_ok {n l h m : Int} (hf : isFanB n l h = true) (h1 : l ≤ m) (h2 : m ≤ h) : dOk m n = true := by
  simp only [isFanB, inB, Bool.and_eq_true, decide_eq_true_eq] at hf
  have e : m * m ≤ h * h := Int.mul_le_mul h2 h2 (by omega) (by omega)
  simp only [dOk, inB, Bool.and_eq_true, decide_eq_true_eq]
  omega
theorem fan_bd {n l h : Int} (hf : isFanB n l h = true) : 1 ≤ l ∧ l ≤ h ∧ h ≤ 999 ∧ n ≤ 1000 := by
  simp only [isFanB, inB, Bool.and_eq_true, decide_eq_true_eq] at hf
  omega
set_option maxHeartbeats 1600000 in
theorem fanLI (n l h : Int) (q : Bool) (w : World) (hf : isFanB n l h = true) :
    Calls Try.prog 79 #[.int .i64 n, .int .i64 l, .int .i64 h, .bool q] w fun e w' => ∃ A c, e = .returned (.slice A (h - l + 1).toNat c) ∧ w'.ownsRow w.heap.size 27 3 (.slice A (h - l + 1).toNat c) (h - l + 1).toNat (fanC n l q (h - l + 1).toNat) ∧ Below w.heap.size w w' := by
  obtain ⟨i0, hi, hz0, hz1, hz2⟩ := info_parts infoDir
  have hbd := fan_bd hf
  have HF := Lib.hid hf
  obtain ⟨K, hK⟩ : ∃ K, (h - l + 1).toNat = K := ⟨_, rfl⟩
  rw [hK]
  have HK : Hid (h = l + (K : Int) - 1) := by show h = _; omega
  clear hK hf
  go_enter Try.func79, Try.ntmps79
  go_wp2
  go_loopw [9, 10] (fun v i wr => ∃ k : Nat, k ≤ K ∧ i = .int .i64 (l + (k : Int)) ∧ wr.ownsRow w.heap.size 27 3 v k (fanC n l q k) ∧ Below w.heap.size w wr) (fun _ i _ => (h + 1 - intOf i).toNat)
  case atStart => exact ⟨0, Nat.zero_le _, by simp, World.ownsRow_nil _ _ _ _, Below.refl _ _⟩
  case round =>
    obtain ⟨k, hk, rfl, hown, hbel⟩ := hrel
    by_cases hlt : k < K
    · have hle : l + (k : Int) ≤ h := by have := HK.out; omega
      have hok := Lib.hid (fan_ok HF.out (m := l + (k : Int)) (by omega) hle)
      have hbs := hbel.size
      have hown := Lib.hid hown
      go_wp2_with (first | (go_at_call 61; refine (dirMkI _ _ _ _ hok.out).mono ?_; rintro e w2 ⟨rfl, hb2⟩; have hs2 := hb2.size; have O2 := fn_below hown.out hb2) | (at_builtin; refine wpList_append_own _ rfl _ _ 51 rfl w.heap.size 27 i0 (.agg #[.int .i64 0, .int .i64 0, .int .i64 0]) 3 24 Try.underlying51 hi hz0 hz1 hz2 rfl (by decide) _ _ _ rfl (O2.alloc _) ⟨w2.heap.size, 0, none⟩ 1 1 (tri (dC (l + k) n) (dS (l + k) n q) (dH (l + k) n)) rfl rfl (cell_three _ _ _ _ _) (tri_one _ _ _) (by unfold maxLen; omega) (by omega) (by simp; omega) ?_; intro v' w3 hown' hgrow hnil; have O3 := Lib.hid hown'; have B3 := Lib.hid ((bAlloc (bStep hbel hb2) _).grown hgrow (by simp; omega) (fn_base O2)); clear hown' hgrow hnil))
      go_roundw
      case rel => exact ⟨k + 1, by omega, by go_num, O3.out, B3.out⟩
      case measure => simp [intOf]; omega
    · obtain rfl : k = K := by omega
      obtain ⟨A1, c1, rfl⟩ := fn_slice hown
      have O2 := Lib.hid hown
      clear hown
      have hgt : ¬ l + (k : Int) ≤ h := by have := HK.out; omega
      go_wp2
      go_ret
      exact ⟨A1, c1, rfl, O2.out, hbel⟩
set_option maxHeartbeats 1600000 in
theorem fanLS (n l h : Int) (q : Bool) (w : World) (hf : isFanB n l h = true) :
    Calls Try.prog 81 #[.int .i64 n, .int .i64 l, .int .i64 h, .bool q] w fun e w' => ∃ A c, e = .returned (.slice A (h - l + 1).toNat c) ∧ w'.ownsRow w.heap.size 27 3 (.slice A (h - l + 1).toNat c) (h - l + 1).toNat (fanC n l q (h - l + 1).toNat) ∧ Below w.heap.size w w' := by
  obtain ⟨i0, hi, hz0, hz1, hz2⟩ := info_parts infoDir
  have hbd := fan_bd hf
  have HF := Lib.hid hf
  obtain ⟨K, hK⟩ : ∃ K, (h - l + 1).toNat = K := ⟨_, rfl⟩
  rw [hK]
  have HK : Hid (h = l + (K : Int) - 1) := by show h = _; omega
  clear hK hf
  have hst : (w.alloc (.cells #[] 27)).ownsRow w.heap.size 27 3 (.slice (some ⟨w.heap.size, 0, none⟩) 0 0) 0 [] :=
    ⟨rfl, .inr ⟨w.heap.size, 0, #[], rfl, Nat.le_refl _, (Array.getElem?_push_size : (w.heap.push _)[w.heap.size]? = _), Nat.le_refl _, by unfold maxLen; omega, rfl, rfl⟩⟩
  have HS := Lib.hid hst
  clear hst
  go_enter Try.func81, Try.ntmps81
  go_wp2
  go_loopw [9, 10] (fun v i wr => ∃ k : Nat, k ≤ K ∧ i = .int .i64 (l + (k : Int)) ∧ wr.ownsRow w.heap.size 27 3 v k (fanC n l q k) ∧ Below w.heap.size w wr) (fun _ i _ => (h + 1 - intOf i).toNat)
  case atStart => exact ⟨0, Nat.zero_le _, by simp, HS.out, (Below.refl _ _).alloc (Nat.le_refl _) _⟩
  case round =>
    obtain ⟨k, hk, rfl, hown, hbel⟩ := hrel
    by_cases hlt : k < K
    · have hle : l + (k : Int) ≤ h := by have := HK.out; omega
      have hok := fan_ok HF.out (m := l + (k : Int)) (by omega) hle
      have E1 : ndC (l + (k : Int)) n = dC (l + (k : Int)) n := by simp [ndC, hok]
      have E2 : ndS (l + (k : Int)) n q = dS (l + (k : Int)) n q := by simp [ndS, hok]
      have E3 : ndH (l + (k : Int)) n = dH (l + (k : Int)) n := by simp [ndH, hok]
      have hok := Lib.hid hok
      have hbs := hbel.size
      have hown := Lib.hid hown
      go_wp2_with (first | (go_at_call 13; refine (dirS _ _ _ _).mono ?_; rintro e w2 ⟨rfl, hb2⟩; rw [E1, E2, E3]; clear E1 E2 E3; have hs2 := hb2.size; have O2 := fn_below hown.out hb2) | (at_builtin; refine wpList_append_own _ rfl _ _ 51 rfl w.heap.size 27 i0 (.agg #[.int .i64 0, .int .i64 0, .int .i64 0]) 3 24 Try.underlying51 hi hz0 hz1 hz2 rfl (by decide) _ _ _ rfl ((O2.alloc _).alloc _) ⟨w2.heap.size + 1, 0, none⟩ 1 1 (tri (dC (l + k) n) (dS (l + k) n q) (dH (l + k) n)) rfl rfl (cell_three2 _ (by simp) _ _ _ _) (tri_one _ _ _) (by unfold maxLen; omega) (by omega) (by simp; omega) ?_; intro v' w3 hown' hgrow hnil; have O3 := Lib.hid hown'; have B3 := Lib.hid ((bAlloc (bAlloc (bStep hbel hb2) _) _).grown hgrow (by simp; omega) (fn_base O2)); clear hown' hgrow hnil))
      go_roundw
      case rel => exact ⟨k + 1, by omega, by go_num, O3.out, B3.out⟩
      case measure => simp [intOf]; omega
    · obtain rfl : k = K := by omega
      obtain ⟨A1, c1, rfl⟩ := fn_slice hown
      have O2 := Lib.hid hown
      clear hown
      have hgt : ¬ l + (k : Int) ≤ h := by have := HK.out; omega
      go_wp2
      go_ret
      exact ⟨A1, c1, rfl, O2.out, hbel⟩
def fnN (n l h : Int) : Nat := if isFanB n l h then (h - l + 1).toNat else 0
def fnE (n l h : Int) : Int := if isFanB n l h then 0 else 1
theorem fnN_le (n l h : Int) : fnN n l h ≤ 1000 := by
  unfold fnN
  split
  · rename_i hf; have := fan_bd hf; omega
  · omega
def Fanned (n l h : Int) (q : Bool) (w : World) (e : Ending) (w' : World) : Prop :=
  ∃ A c, e = .returned (.tuple #[.slice A (fnN n l h) c, .int .i64 (fnE n l h)]) ∧ w'.ownsRow w.heap.size 27 3 (.slice A (fnN n l h) c) (fnN n l h) (fanC n l q (fnN n l h)) ∧ Below w.heap.size w w'
set_option maxHeartbeats 1600000 in
theorem fanOfS (n l h : Int) (q : Bool) (w : World) (wn : -9223372036854775808 ≤ n) : Calls Try.prog 33 #[.int .i64 n, .int .i64 l, .int .i64 h, .bool q] w (Fanned n l h q w) := by
  rcases hf : isFanB n l h
  · go_enter Try.func33, Try.ntmps33
    go_wp2_with (go_at_call 80; refine (fanS _ _ _ _ wn).mono ?_; rintro e w1 ⟨rfl, rfl⟩)
    go_ret2
    exact ⟨none, 0, by simp [fnN, fnE, hf], by simp only [fnN, hf]; exact World.ownsRow_nil _ _ _ _, Below.refl _ _⟩
  · go_enter Try.func33, Try.ntmps33
    go_wp2_with (first | (go_at_call 80; refine (fanS _ _ _ _ wn).mono ?_; rintro e w1 ⟨rfl, rfl⟩) | (go_at_call 81; refine (fanLS _ _ _ _ _ hf).mono ?_; rintro e w2 ⟨A1, c1, rfl, O1, B1⟩; have O1 := Lib.hid O1))
    go_ret2
    exact ⟨A1, c1, by simp [fnN, fnE, hf], by have := O1.out; simpa [fnN, hf] using this, B1⟩
set_option maxHeartbeats 1600000 in
theorem fanOfI (n l h : Int) (q : Bool) (w : World) (wn : -9223372036854775808 ≤ n) : Calls Try.prog 32 #[.int .i64 n, .int .i64 l, .int .i64 h, .bool q] w (Fanned n l h q w) := by
  rcases hf : isFanB n l h
  · go_enter Try.func32, Try.ntmps32
    go_wp2_with (go_at_call 36; refine (fanI _ _ _ _ wn).mono ?_; rintro e w1 ⟨rfl, rfl⟩)
    go_ret2
    exact ⟨none, 0, by simp [fnN, fnE, hf], by simp only [fnN, hf]; exact World.ownsRow_nil _ _ _ _, Below.refl _ _⟩
  · go_enter Try.func32, Try.ntmps32
    go_wp2_with (first | (go_at_call 36; refine (fanI _ _ _ _ wn).mono ?_; rintro e w1 ⟨rfl, rfl⟩) | (go_at_call 79; refine (fanLI _ _ _ _ _ hf).mono ?_; rintro e w2 ⟨A1, c1, rfl, O1, B1⟩; have O1 := Lib.hid O1))
    go_ret2
    exact ⟨A1, c1, by simp [fnN, fnE, hf], by have := O1.out; simpa [fnN, hf] using this, B1⟩
end Go.Proofs.Ytincelkcbdjcjaa
