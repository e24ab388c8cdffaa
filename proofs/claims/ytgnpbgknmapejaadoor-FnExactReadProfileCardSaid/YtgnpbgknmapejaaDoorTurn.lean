/- The turned list: contracts of the reference and of the program, and the walk of the law. -/
import Derived.Test.YtgnpbgknmapejaaDoorMark
import Derived.Test.YtgnpbgknmapejaaDoorSig
import Derived.Test.YtgnpbgknmapejaaDoorShelf
import Derived.Maps.AppendAt
import Derived.Lib.OwnBridge
namespace Go.Proofs.YtgnpbgknmapejaaDoor
open Go.RowKit
set_option linter.unusedVariables false

theorem own_base {w : World} {B : Nat} {e : TypeId} {s : Nat} {v : Value} {n : Nat} {xs : List Value} (h : w.ownsRow B e s v n xs) : ∀ k, v.ownBlock = some k → B ≤ k := by
  intro k hk
  rcases h.2 with ⟨rfl, _⟩ | ⟨g, cap, cur, rfl, hb, _⟩
  · cases hk
  · simp [Value.ownBlock] at hk; omega
theorem own_empty (w : World) (e : TypeId) : (w.alloc (.cells #[] e)).ownsRow w.heap.size e 1 (.slice (some ⟨w.heap.size, 0, none⟩) 0 0) 0 [] :=
  ⟨rfl, .inr ⟨w.heap.size, 0, #[], rfl, Nat.le_refl _, (Array.getElem?_push_size : (w.heap.push _)[w.heap.size]? = _), Nat.le_refl _, by unfold maxLen; omega, rfl, rfl⟩⟩
theorem own_below {w w' : World} {B : Nat} {e : TypeId} {s : Nat} {v : Value} {n : Nat} {xs : List Value} (h : w.ownsRow B e s v n xs) (hb : Below w.heap.size w w') : w'.ownsRow B e s v n xs := by
  refine ⟨h.1, ?_⟩
  rcases h.2 with h2 | ⟨g, cap, cur, rfl, hB, hg, r⟩
  · exact .inl h2
  · exact .inr ⟨g, cap, cur, rfl, hB, (hb.block g (lt_of_block hg)).trans hg, r⟩
theorem own_grown {w w' : World} {B : Nat} {e : TypeId} {s : Nat} {v : Value} {n : Nat} {xs : List Value} {r : Option Nat} (h : w.ownsRow B e s v n xs) (hb : w.grownBy w' r) (hr : ∀ k, r = some k → k < B) : w'.ownsRow B e s v n xs := by
  refine ⟨h.1, ?_⟩
  rcases h.2 with h2 | ⟨g, cap, cur, rfl, hB, hg, q⟩
  · exact .inl h2
  · exact .inr ⟨g, cap, cur, rfl, hB, (hb.block g (lt_of_block hg) (fun e => by have := hr g e.symm; omega)).trans hg, q⟩
theorem below_grown {w w' : World} {B : Nat} {r : Option Nat} (h : w.grownBy w' r) (hB : B ≤ w.heap.size) (hr : ∀ k, r = some k → B ≤ k) : Below B w w' := (Below.refl _ _).grown h hB hr
theorem own_slice {w : World} {B : Nat} {e : TypeId} {s : Nat} {v : Value} {n : Nat} {xs : List Value} (h : w.ownsRow B e s v n xs) : ∃ A c, v = .slice A n c := by
  rcases h.2 with ⟨rfl, rfl⟩ | ⟨g, cap, cur, rfl, _⟩
  · exact ⟨_, _, rfl⟩
  · exact ⟨_, _, rfl⟩

theorem markO {w : World} {B n c k : Nat} {A : Option Addr} {xs : List Int} (O : w.ownsRow B 2 1 (.slice A n c) n (xs.map (Value.int .i64))) (hn : n ≤ 4611686018427387903) (hk : k ≤ 4611686018427387903) :
    Calls Tryd.prog 38 #[.slice A n c, .int .i64 k] w fun e w' => e = .returned (.int .i64 ((k + n : Nat) : Int)) ∧ w'.ownsRow B 2 1 (.slice A n c) n ((marks k n).map (Value.int .i64)) ∧ w.grownBy w' (Value.ownBlock (.slice A n c)) := by
  rcases h2 : O.2 with ⟨e, rfl⟩ | ⟨g, cap, cur, e, _⟩
  · injection e with e1 e2 e3
    subst e1; subst e3
    go_enter Tryd.func38, Tryd.ntmps38
    go_wp2
    go_loopw [1, 5] (fun v i wr => v = .int .i64 k ∧ i = .int .i64 0 ∧ wr = w) (fun _ i _ => 0)
    case atStart => exact ⟨rfl, rfl, rfl⟩
    case round =>
      obtain ⟨rfl, rfl, rfl⟩ := hrel
      go_wp2
      go_ret
      exact ⟨rfl, ⟨by simp [marks], .inl ⟨rfl, rfl⟩⟩, World.grownBy.refl _ _⟩
  · injection e with e1 e2 e3
    subst e1; subst e3
    exact markL O hn hk

def tgV (xs : List Int) : List Int := if sigB xs then xs.reverse else []
def rv (xs : List Int) (n j : Nat) : List Value := (xs.reverse.take (n - j)).map (Value.int .i64)
theorem rv_zero (xs : List Int) (n : Nat) : rv xs n n = [] := by simp [rv]
theorem rv_end {xs : List Int} {n : Nat} (h : xs.length = n) : rv xs n 0 = xs.reverse.map (Value.int .i64) := by
  unfold rv
  rw [List.take_of_length_le (by simp; omega)]
theorem rv_step {xs : List Int} {n j : Nat} {x : Int} (h : xs.length = n) (hx : xs[j]? = some x) (hj : j < n) : rv xs n (j + 1) ++ [.int .i64 x] = rv xs n j := by
  unfold rv
  have e : xs.reverse[n - (j + 1)]? = some x := by
    rw [List.getElem?_reverse (by omega), ← hx]; congr 1; omega
  have e2 : n - j = n - (j + 1) + 1 := by omega
  rw [e2, take_step e, List.map_append]
  rfl
theorem sig_len {xs : List Int} (h : sigB xs = true) : xs.length ≤ 400 := by
  unfold sigB at h
  simp at h
  exact h.2

def Turned (w : World) (xs : List Int) (e : Ending) (w' : World) : Prop :=
  ∃ A m c, e = .returned (.tuple #[.slice A m c, .int .i64 (sgC xs)]) ∧ w'.ownsRow w.heap.size 2 1 (.slice A m c) m ((tgV xs).map (Value.int .i64)) ∧ Below w.heap.size w w'
end Go.Proofs.YtgnpbgknmapejaaDoor
