/- Closed facts of this seat's program that every row asks: the translation's head, read once. -/
import Derived.Test.YtincelkcbdjcjaaRows
namespace Go.Proofs.Ytincelkcbdjcjaa
set_option maxRecDepth 100000

theorem toList_ex {s : String} {l : List Char} {p : List Char → Prop} (e : s = String.ofList l) (h : p l) : p s.toList := by
  rw [e, String.toList_ofList]
  exact h
theorem head_word : (behindMainWord (wordsSigns Try.checked.prog.initOrder.toList)).head? = some "cut".toList := by
  have e : Try.checked.prog.initOrder = Try.prog.toTables.initOrder := rfl
  rw [e]
  unfold Try.prog Try.progTables
  dsimp only
  refine toList_ex (p := fun l => (behindMainWord (wordsSigns l)).head? = some "cut".toList) rfl ?_
  kernel_rfl
section
variable {P : Program}
theorem words_of {X : List (List Char)} (h : X.head? = some "cut".toList) : ∃ rest, X = "cut".toList :: rest := by
  cases X with
  | nil => cases h
  | cons c r => injection h with h; exact ⟨r, by rw [h]⟩
theorem strip_of (r : List (List Char)) : stripLifts liftWords ("cut".toList :: r) = ([], "cut".toList :: r) := by rfl
theorem make_of {r : List (List Char)} (h : behindMainWord (wordsSigns P.initOrder.toList) = "cut".toList :: r) : P.make = some .cut := by
  unfold Program.make
  rw [h]
  rfl
theorem lifts_of {r : List (List Char)} (h : behindMainWord (wordsSigns P.initOrder.toList) = "cut".toList :: r) : P.headLifts = [] := by
  unfold Program.headLifts
  rw [h]
  rfl
theorem final_of {r : List (List Char)} (h : behindMainWord (wordsSigns P.initOrder.toList) = "cut".toList :: r) : P.liftsFinal = false := by
  unfold Program.liftsFinal
  rw [lifts_of h, h]
  rfl
theorem may_of {r : List (List Char)} (h : behindMainWord (wordsSigns P.initOrder.toList) = "cut".toList :: r) (h1 : P.laysLater = false) (h2 : P.bearsReflect = false) (h3 : P.doorFits [] = true) : P.mayEnter = true := by
  unfold Program.mayEnter
  rw [h]
  simp only [strip_of, h1, h2, h3]
  rfl
end
theorem head_make : Try.checked.prog.make = some .cut := let ⟨_, h⟩ := words_of head_word; make_of h
theorem head_final : Try.checked.prog.liftsFinal = false := let ⟨_, h⟩ := words_of head_word; final_of h
theorem head_later : Try.checked.prog.laysLater = false := by kernel_rfl
theorem head_reflect : Try.checked.prog.bearsReflect = false := by kernel_rfl
theorem head_door : Try.checked.prog.doorFits [] = true := by kernel_rfl
theorem head_may : Try.checked.prog.mayEnter = true := let ⟨_, h⟩ := words_of head_word; may_of h head_later head_reflect head_door
theorem head_laid : laidOutB Try.checked.prog = true := by kernel_rfl
theorem head_maps : mapsRowed Try.checked.prog = true := by kernel_rfl
theorem head_keys : Try.checked.prog.plainKeys = true := by kernel_rfl
theorem head_heard : Try.checked.prog.stopsHeard = true := by kernel_rfl
end Go.Proofs.Ytincelkcbdjcjaa
