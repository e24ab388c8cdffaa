/- A slice of structs of two numbers, from the row's reading of an argument. -/
import Derived.Test.YtmddcmgkmdkclaaIvs
import Derived.Deep.SlicePairs
namespace Go.Proofs.Ytmddcmgkmdkclaa
open Go.RowKit Go.ChangeShapes Go.WideShapes Go.Deep

theorem ivs_of_trod {H : Type} {enc : TypeId × Value → H} {P : Program} {w : World} {t e : TypeId} {f0 f1 : Field} {fuel : Nat} {A : Option Addr} {len cap : Nat} {x : DataW H × List MemPlace}
    (ht : P.underlying t = some (.slice e)) (he : P.underlying e = some (.struct #[f0, f1])) (ce : P.cellsOf e = 2) (o0 : f0.offset = 0) (o1 : f1.offset = 1) (c0 : P.cellsOf f0.type = 1) (c1 : P.cellsOf f1.type = 1)
    (k0 : P.underlying f0.type = some (.int .i64)) (k1 : P.underlying f1.type = some (.int .i64))
    (h : DataW.trod enc P w 0 (fun _ => true) true fuel t [.slice A len cap] = some x) : ∃ zs, Ivs w A len zs := by
  rcases open_slice_pairs ht he ce o0 o1 c0 c1 h with ⟨hcs, _⟩ | ⟨a, l, c, m, n, V0, V1, D0, D1, P0, P1, hcs, _, hl, hm, hmm, _, hx⟩
  · simp at hcs
    obtain ⟨rfl, rfl, rfl⟩ := hcs
    exact ⟨[], Ivs.nil_⟩
  · simp at hcs
    obtain ⟨rfl, rfl, rfl⟩ := hcs
    simp at hmm
    subst hmm
    unfold maxLen at hm
    have each : ∀ i, i < len → ∃ q : Int × Int, V0 i = .int .i64 q.1 ∧ V1 i = .int .i64 q.2 ∧ (Lit.int .i64 q.1).wf = true ∧ (Lit.int .i64 q.2).wf = true := by
      intro i hi
      obtain ⟨_, _, h0, h1⟩ := hx i (by omega)
      obtain ⟨y0, e0, _, w0⟩ := DataW.trod_int k0 h0
      obtain ⟨y1, e1, _, w1⟩ := DataW.trod_int k1 h1
      simp only [List.cons.injEq, and_true] at e0 e1
      exact ⟨(y0, y1), e0, e1, w0, w1⟩
    obtain ⟨q, hq⟩ := choose_lt each
    refine ⟨(List.range len).map q, by simp, by omega, ?_, fun hpos => ?_⟩
    · intro z hz
      obtain ⟨i, hi, rfl⟩ := List.mem_map.1 hz
      exact (hq i (List.mem_range.1 hi)).2.2
    · obtain ⟨b, off, spot⟩ := a
      have h0 := (hx 0 (by omega)).1
      have hspot : spot = none := by simpa [Addr.add] using World.cell?_spot h0
      subst hspot
      have hlt : b < w.heap.size := by
        rcases Nat.lt_or_ge b w.heap.size with h' | h'
        · exact h'
        · simp [World.cell?, Addr.add, Array.getElem?_eq_none h'] at h0
      refine ⟨b, off, rfl, hlt, fun j hj => ?_⟩
      obtain ⟨e0, e1, _, _⟩ := hx j (by omega)
      obtain ⟨u0, u1, _, _⟩ := hq j hj
      rw [addr_add] at e0 e1
      rw [e0, Nat.add_assoc, e1, u0, u1]
      simp [List.getD, hj]
end Go.Proofs.Ytmddcmgkmdkclaa
