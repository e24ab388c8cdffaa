/- A slice of integers that reads as a list: nil, empty and other slices in one word; carried over later worlds. -/
import Derived.WalkKit
import Derived.ProofKit
import Derived.Lib.Hide
import Derived.WalkSmall
namespace Go.Proofs.YtgnpbgknmapejaaDoor
open Go.RowKit Go.ChangeShapes Go.WideShapes

theorem bStep {W a b : World} (h : Below W.heap.size W a) (k : Below a.heap.size a b) : Below W.heap.size W b := h.trans (k.mono h.size)
theorem bAlloc {W a : World} (h : Below W.heap.size W a) (o : Obj) : Below W.heap.size W (a.alloc o) := h.alloc h.size o
theorem bDrew {W a : World} (h : Below W.heap.size W a) : Below W.heap.size W a.drew := h.drew
theorem bDrewN {W a : World} (h : Below W.heap.size W a) (n : Nat) : Below W.heap.size W (a.drewN n) := below_drewN h n

theorem bcell {W w1 : World} (hb : Below W.heap.size W w1) : (∀ b o, b < W.heap.size → w1.cell? ⟨b, o, none⟩ = W.cell? ⟨b, o, none⟩) ∧ (∀ b o, b < W.heap.size → w1.frozen? ⟨b, o, none⟩ = W.frozen? ⟨b, o, none⟩) :=
  ⟨fun b o h => hb.cell (p := ⟨b, o, none⟩) h, fun b o h => hb.frozen (p := ⟨b, o, none⟩) h⟩

theorem addr_add (b off j : Nat) : (⟨b, off, none⟩ : Addr).add j = ⟨b, off + j, none⟩ := by
  unfold Addr.add
  by_cases h : j = 0 <;> simp [h]

/-- The slice value '.slice A n cap' has the elements xs; its cells lie in blocks that are there. -/
def Ints (k : IntKind) (w : World) (A : Option Addr) (n : Nat) (xs : List Int) : Prop :=
  xs.length = n ∧ n ≤ 9223372036854775807 ∧ (∀ x ∈ xs, (Lit.int k x).wf = true) ∧
  (0 < n → ∃ b off, A = some ⟨b, off, none⟩ ∧ b < w.heap.size ∧ ∀ j, j < n → w.cell? ⟨b, off + j, none⟩ = some (.int k (xs.getD j 0)))

section
variable {k : IntKind} {w w' : World} {A : Option Addr} {n : Nat} {xs : List Int}
theorem Ints.len (h : Ints k w A n xs) : xs.length = n := h.1
theorem Ints.le (h : Ints k w A n xs) : n ≤ 9223372036854775807 := h.2.1
theorem Ints.wf_ (h : Ints k w A n xs) {x : Int} (hx : x ∈ xs) : (Lit.int k x).wf = true := h.2.2.1 x hx
theorem Ints.below (h : Ints k w A n xs) (hb : Below w.heap.size w w') : Ints k w' A n xs := by
  refine ⟨h.1, h.2.1, h.2.2.1, fun hn => ?_⟩
  obtain ⟨b, off, e, hlt, hc⟩ := h.2.2.2 hn
  exact ⟨b, off, e, Nat.lt_of_lt_of_le hlt hb.size, fun j hj => (hb.cell (p := ⟨b, off + j, none⟩) hlt).trans (hc j hj)⟩
theorem Ints.drewN (h : Ints k w A n xs) (q : Nat) : Ints k (w.drewN q) A n xs := h.below (below_drewN (Below.refl _ _) q)
theorem Ints.at_ (h : Ints k w A n xs) {i : Nat} (hi : i < n) :
    ∃ b off x, A = some ⟨b, off, none⟩ ∧ b < w.heap.size ∧ w.cell? ⟨b, off + i, none⟩ = some (.int k x) ∧ Hid (xs[i]? = some x) ∧ (Lit.int k x).wf = true := by
  obtain ⟨b, off, e, hlt, hc⟩ := h.2.2.2 (by omega)
  have hl : i < xs.length := by rw [h.1]; exact hi
  have hx : xs[i]? = some xs[i] := List.getElem?_eq_getElem hl
  refine ⟨b, off, xs[i], e, hlt, ?_, hx, h.2.2.1 _ (List.getElem_mem hl)⟩
  rw [hc i hi, List.getD, hx]
  rfl
theorem Ints.nil_ {A : Option Addr} : Ints k w A 0 [] := ⟨rfl, by omega, by simp, fun h => absurd h (by omega)⟩
theorem Ints.of_own {base : Nat} {e : TypeId} {c : Nat} (h : w.ownsRow base e 1 (.slice A n c) n (xs.map (Value.int k))) (hn : n ≤ 9223372036854775807) (hw : ∀ x ∈ xs, (Lit.int k x).wf = true) : Ints k w A n xs := by
  have hl : xs.length = n := by simpa using h.1
  refine ⟨hl, hn, hw, fun hpos => ?_⟩
  rcases h.2 with ⟨e, h0⟩ | ⟨g, cap, cur, hv, hg, hh, _⟩
  · omega
  · injection hv with hv1 hv2 hv3
    subst hv1
    have hlt : g < w.heap.size := lt_of_block hh
    refine ⟨g, 0, rfl, hlt, fun j hj => ?_⟩
    have hx : xs[j]? = some (xs[j]'(by omega)) := List.getElem?_eq_getElem (by omega)
    have := h.cells (g := g) rfl j (.int k (xs[j]'(by omega))) (by rw [List.getElem?_map, hx]; rfl)
    rw [addr_add] at this
    rw [List.getD, hx]
    simpa using this
end

/-- From the row's reading of an argument. -/
theorem ints_of_trod {H : Type} {enc : TypeId × Value → H} {P : Program} {w : World} {t e : TypeId} {k : IntKind} {fuel : Nat} {A : Option Addr} {len cap : Nat} {x : DataW H × List MemPlace}
    (ht : P.underlying t = some (.slice e)) (he : P.underlying e = some (.int k)) (hc : P.cellsOf e = 1)
    (h : DataW.trod enc P w 0 (fun _ => true) true fuel t [.slice A len cap] = some x) : ∃ zs, Ints k w A len zs := by
  rcases open_ints ht he hc h with ⟨hcs, _⟩ | ⟨a, l, c, zs, hcs, _, hl, hm, hz, _, hcell, hwz⟩
  · simp at hcs
    obtain ⟨rfl, rfl, rfl⟩ := hcs
    exact ⟨[], Ints.nil_⟩
  · simp at hcs
    obtain ⟨rfl, rfl, rfl⟩ := hcs
    simp at hz
    unfold maxLen at hm
    refine ⟨zs.take len, by simp; omega, by omega, fun n hn => hwz n (List.mem_of_mem_take hn), fun hpos => ?_⟩
    obtain ⟨b, off, spot⟩ := a
    have h0 := hcell 0 (by omega)
    have hspot : spot = none := by simpa [Addr.add] using World.cell?_spot h0
    subst hspot
    have hlt : b < w.heap.size := by
      rcases Nat.lt_or_ge b w.heap.size with h' | h'
      · exact h'
      · simp [World.cell?, Addr.add, Array.getElem?_eq_none h'] at h0
    refine ⟨b, off, rfl, hlt, fun j hj => ?_⟩
    have hj' := hcell j (by omega)
    rw [addr_add] at hj'
    rw [hj']
    simp [List.getD, hj]

/-- A step along a list. -/
theorem take_step {α : Type} {xs : List α} {i : Nat} {x : α} (h : xs[i]? = some x) : xs.take (i + 1) = xs.take i ++ [x] := by
  rw [List.take_add_one, h]
  rfl
end Go.Proofs.YtgnpbgknmapejaaDoor
