/- The median as the program takes it. -/
import Derived.Test.YtincelkcbdjcjaaMedS
namespace Go.Proofs.Ytincelkcbdjcjaa
open Go.RowKit Go.Sort
set_option linter.unusedVariables false

theorem valuesM (A : Option Addr) (n c : Nat) (w : World) : Calls Try.prog 98 #[.slice A n c] w fun e w' => e = .returned (.func (.func 114) #[] #[.pointer (some ⟨w.heap.size, 0, none⟩)]) ∧ w' = w.alloc (.cells #[.slice A n c] 64) := by
  go_enter Try.func98, Try.ntmps98
  go_wp2_with fail
  go_ret
  exact ⟨rfl, rfl⟩
def SortP (zs : List Int) (w : World) (e : Ending) (w' : World) : Prop := ∃ g cap, e = .returned (.slice (some ⟨g, 0, none⟩) zs.length cap) ∧ (g < w'.heap.size ∧ w.heap.size ≤ g ∧ ∀ j x, (srt zs)[j]? = some x → w'.cell? ⟨g, j, none⟩ = some (.int .i64 x)) ∧ Below w.heap.size w w'
theorem collectM (Bs b off cap : Nat) (zs : List Int) (hlen : zs.length ≤ 1000000) (w : World)
    (hBs : Bs < w.heap.size) (hb : b < w.heap.size) (hc : w.cell? ⟨Bs, 0, none⟩ = some (.slice (some ⟨b, off, none⟩) zs.length cap)) (hcs : ∀ j, j < zs.length → w.cell? ⟨b, off + j, none⟩ = some (.int .i64 (zs[j]?.getD 0))) :
    Calls Try.prog 112 #[.func (.func 114) #[] #[.pointer (some ⟨Bs, 0, none⟩)]] w fun e W' => ∃ v, e = .returned v ∧ W'.ownsRow w.heap.size 2 1 v zs.length (zs.map (Value.int .i64)) ∧ (v = .slice none 0 0 ↔ zs = []) ∧ Below w.heap.size w W' := by
  have A := Lib.hid (callsIn_wide.1 (appendSeqM Fence.wide 3 trivial trivial rfl (Nat.le_refl _) Bs b off cap zs hlen w hBs hb hc hcs))
  clear hc hcs
  go_enter Try.func112, Try.ntmps112
  go_wp2_with fail
  refine A.out.mono ?_
  rintro e w1 ⟨v, rfl, O, hn, hb1⟩
  have O := Lib.hid O
  have hn := Lib.hid hn
  go_wp2_with fail
  go_ret
  exact ⟨v, rfl, O.out, hn.out, hb1⟩
set_option maxHeartbeats 1600000 in
theorem sortedM (Bs b off cap : Nat) (zs : List Int) (hlen : zs.length ≤ 1000000) (hne : 0 < zs.length) (w : World)
    (hBs : Bs < w.heap.size) (hb : b < w.heap.size) (hc : w.cell? ⟨Bs, 0, none⟩ = some (.slice (some ⟨b, off, none⟩) zs.length cap)) (hcs : ∀ j, j < zs.length → w.cell? ⟨b, off + j, none⟩ = some (.int .i64 (zs[j]?.getD 0))) :
    Calls Try.prog 97 #[.func (.func 114) #[] #[.pointer (some ⟨Bs, 0, none⟩)]] w (SortP zs w) := by
  have A := Lib.hid (collectM Bs b off cap zs hlen w hBs hb hc hcs)
  clear hc hcs
  go_enter Try.func97, Try.ntmps97
  go_wp2_with fail
  refine A.out.mono ?_
  rintro e w1 ⟨v, rfl, O, hn, hb1⟩
  rcases O.2 with ⟨rfl, h0⟩ | ⟨g, cp, cur, rfl, hB, hg, k1, k2, k3, k4⟩
  · omega
  have hH : Holds (Value.int .i64) w1 g 0 zs.toArray := holds_of_blockI hg (by simpa using k4)
  have hgl : g < w1.heap.size := (Array.getElem?_eq_some_iff.1 hg).1
  have S := Lib.hid (Try.slices_Sort_int g 0 cp zs w1 hH hgl (by omega))
  have KK := Lib.hid (And.intro hg (And.intro k1 (And.intro k2 (And.intro k3 k4))))
  clear O hg k1 k2 k3 k4 hH hn
  go_wp2_with fail
  refine S.out.mono ?_
  rintro e w2 ⟨rfl, q, os, rfl⟩
  obtain ⟨hg, k1, k2, k3, k4⟩ := KK.out
  have O2 : (Sort.grow (Sort.putRow (Value.int .i64) (Sort.ahead w1 q) g 0 (srt zs).toArray) os).ownsRow w.heap.size 2 1 (.slice (some ⟨g, 0, none⟩) zs.length cp) zs.length ((srt zs).map (Value.int .i64)) := ownsRow_sortedI (srt_len zs) hB hg k1 k2 k3
  have G2 : w1.grownBy (Sort.grow (Sort.putRow (Value.int .i64) (Sort.ahead w1 q) g 0 (srt zs).toArray) os) (some g) := grownBy_sortedI _
  have B2 := Lib.hid (hb1.grown G2 hb1.size (fun j hj => by cases hj; exact hB))
  have hz2 := World.grownBy.size G2
  have C2 : Hid (∀ j x, (srt zs)[j]? = some x → (Sort.grow (Sort.putRow (Value.int .i64) (Sort.ahead w1 q) g 0 (srt zs).toArray) os).cell? ⟨g, j, none⟩ = some (.int .i64 x)) := by
    intro j x hx
    have hj : j < (srt zs).length := by
      rcases Nat.lt_or_ge j (srt zs).length with k | k
      · exact k
      · rw [List.getElem?_eq_none k] at hx; cases hx
    have hl := srt_len zs
    rw [O2.cellAt _ (by omega), List.getElem?_map, hx]
    rfl
  rw [show (zs.mergeSort fun x y => decide (x ≤ y)) = srt zs from rfl]
  generalize Sort.grow (Sort.putRow (Value.int .i64) (Sort.ahead w1 q) g 0 (srt zs).toArray) os = w3 at *
  clear O2 G2 KK hg k1 k2 k3 k4
  go_wp2_with fail
  go_ret
  exact ⟨g, cp, rfl, ⟨by omega, hB, C2.out⟩, B2.out⟩
end Go.Proofs.Ytincelkcbdjcjaa
