/- A slice of numbers inside a struct, from the row's reading of an argument. -/
import Derived.Test.YtgnpbgknmapejaaDoorInts
namespace Go.Proofs.YtgnpbgknmapejaaDoor
open Go.RowKit Go.ChangeShapes Go.WideShapes

theorem slice_of_trod {H : Type} {enc : TypeId × Value → H} {P : Program} {w : World} {t e : TypeId} {k : IntKind} {fuel : Nat} {v : Value} {x : DataW H × List MemPlace}
    (ht : P.underlying t = some (.slice e)) (he : P.underlying e = some (.int k)) (hc : P.cellsOf e = 1)
    (h : DataW.trod enc P w 0 (fun _ => true) true fuel t [v] = some x) : ∃ (A : Option Addr) (len cap : Nat) (zs : List Int), v = .slice A len cap ∧ Ints k w A len zs := by
  have h' := h
  rcases open_ints ht he hc h with ⟨hcs, _⟩ | ⟨a, l, c, zs, hcs, _⟩
  all_goals
    simp only [List.cons.injEq, and_true] at hcs
    subst hcs
    obtain ⟨zs', hz⟩ := ints_of_trod ht he hc h'
    exact ⟨_, _, _, zs', rfl, hz⟩
end Go.Proofs.YtgnpbgknmapejaaDoor
