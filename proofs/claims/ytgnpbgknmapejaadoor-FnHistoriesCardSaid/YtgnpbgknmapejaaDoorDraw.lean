/- Draws of numbers and intervals: each gives some values, and leaves all but the source as it was. -/
import Derived.Test.YtgnpbgknmapejaaDoorSrc
import Derived.Deep.RegionWith
namespace Go.Proofs.YtgnpbgknmapejaaDoor
open Go.RowKit
set_option linter.unusedVariables false

theorem Ints.drew_ {k : IntKind} {w : World} {A : Option Addr} {n : Nat} {xs : List Int} (h : Ints k w A n xs) : Ints k w.drew A n xs := h.below (Below.refl _ _).drew
theorem Ints.alloc_ {k : IntKind} {w : World} {A : Option Addr} {n : Nat} {xs : List Int} (h : Ints k w A n xs) (o : Obj) : Ints k (w.alloc o) A n xs := h.below ((Below.refl _ _).alloc (Nat.le_refl _) o)
theorem Ints.gr {k : IntKind} {w w' : World} {g b n : Nat} {xs : List Int} (h : Ints k w (some ⟨b, 0, none⟩) n xs) (hG : Gr g w w') (hb : ¬ b = g) : Ints k w' (some ⟨b, 0, none⟩) n xs := by
  obtain ⟨e1, e2, e3, e4⟩ := h
  refine ⟨e1, e2, e3, fun hn => ?_⟩
  obtain ⟨b', off, e, hlt, hc⟩ := e4 hn
  injection e with e
  injection e with ea eb
  subst ea eb
  exact ⟨_, _, rfl, Nat.lt_of_lt_of_le hlt hG.size, fun j hj => (hG.cell b (0 + j) hlt hb).trans (hc j hj)⟩
theorem lit2 (W : World) (T : TypeId) {blk : Nat} {a b : Int} (hblk : blk = W.heap.size) (ha : I64 a) (hb : I64 b) : Ints .i64 (W.alloc (.cells #[.int .i64 a, .int .i64 b] T)) (some ⟨blk, 0, none⟩) 2 [a, b] := by
  subst hblk
  refine ⟨rfl, by omega, ?_, fun _ => ⟨W.heap.size, 0, rfl, by simp, ?_⟩⟩
  · intro x hx
    simp only [List.mem_cons, List.not_mem_nil, or_false] at hx
    rcases hx with rfl | rfl
    · exact ha.wf
    · exact hb.wf
  · intro j hj
    rcases (by omega : j = 0 ∨ j = 1) with rfl | rfl
    all_goals go_simp
    all_goals rfl
theorem lit3 (W : World) (T : TypeId) {blk : Nat} {a b c : Int} (hblk : blk = W.heap.size) (ha : I64 a) (hb : I64 b) (hc : I64 c) : Ints .i64 (W.alloc (.cells #[.int .i64 a, .int .i64 b, .int .i64 c] T)) (some ⟨blk, 0, none⟩) 3 [a, b, c] := by
  subst hblk
  refine ⟨rfl, by omega, ?_, fun _ => ⟨W.heap.size, 0, rfl, by simp, ?_⟩⟩
  · intro x hx
    simp only [List.mem_cons, List.not_mem_nil, or_false] at hx
    rcases hx with rfl | rfl | rfl
    · exact ha.wf
    · exact hb.wf
    · exact hc.wf
  · intro j hj
    rcases (by omega : j = 0 ∨ j = 1 ∨ j = 2) with rfl | rfl | rfl
    all_goals go_simp
    all_goals rfl
theorem lit4 (W : World) (T : TypeId) {blk : Nat} {a b c d : Int} (hblk : blk = W.heap.size) (ha : I64 a) (hb : I64 b) (hc : I64 c) (hd : I64 d) : Ints .i64 (W.alloc (.cells #[.int .i64 a, .int .i64 b, .int .i64 c, .int .i64 d] T)) (some ⟨blk, 0, none⟩) 4 [a, b, c, d] := by
  subst hblk
  refine ⟨rfl, by omega, ?_, fun _ => ⟨W.heap.size, 0, rfl, by simp, ?_⟩⟩
  · intro x hx
    simp only [List.mem_cons, List.not_mem_nil, or_false] at hx
    rcases hx with rfl | rfl | rfl | rfl
    · exact ha.wf
    · exact hb.wf
    · exact hc.wf
    · exact hd.wf
  · intro j hj
    rcases (by omega : j = 0 ∨ j = 1 ∨ j = 2 ∨ j = 3) with rfl | rfl | rfl | rfl
    all_goals go_simp
    all_goals rfl
theorem lit5 (W : World) (T : TypeId) {blk : Nat} {a b c d e : Int} (hblk : blk = W.heap.size) (ha : I64 a) (hb : I64 b) (hc : I64 c) (hd : I64 d) (he : I64 e) : Ints .i64 (W.alloc (.cells #[.int .i64 a, .int .i64 b, .int .i64 c, .int .i64 d, .int .i64 e] T)) (some ⟨blk, 0, none⟩) 5 [a, b, c, d, e] := by
  subst hblk
  refine ⟨rfl, by omega, ?_, fun _ => ⟨W.heap.size, 0, rfl, by simp, ?_⟩⟩
  · intro x hx
    simp only [List.mem_cons, List.not_mem_nil, or_false] at hx
    rcases hx with rfl | rfl | rfl | rfl | rfl
    · exact ha.wf
    · exact hb.wf
    · exact hc.wf
    · exact hd.wf
    · exact he.wf
  · intro j hj
    rcases (by omega : j = 0 ∨ j = 1 ∨ j = 2 ∨ j = 3 ∨ j = 4) with rfl | rfl | rfl | rfl | rfl
    all_goals go_simp
    all_goals rfl
theorem lit6 (W : World) (T : TypeId) {blk : Nat} {a b c d e f : Int} (hblk : blk = W.heap.size) (ha : I64 a) (hb : I64 b) (hc : I64 c) (hd : I64 d) (he : I64 e) (hf : I64 f) : Ints .i64 (W.alloc (.cells #[.int .i64 a, .int .i64 b, .int .i64 c, .int .i64 d, .int .i64 e, .int .i64 f] T)) (some ⟨blk, 0, none⟩) 6 [a, b, c, d, e, f] := by
  subst hblk
  refine ⟨rfl, by omega, ?_, fun _ => ⟨W.heap.size, 0, rfl, by simp, ?_⟩⟩
  · intro x hx
    simp only [List.mem_cons, List.not_mem_nil, or_false] at hx
    rcases hx with rfl | rfl | rfl | rfl | rfl | rfl
    · exact ha.wf
    · exact hb.wf
    · exact hc.wf
    · exact hd.wf
    · exact he.wf
    · exact hf.wf
  · intro j hj
    rcases (by omega : j = 0 ∨ j = 1 ∨ j = 2 ∨ j = 3 ∨ j = 4 ∨ j = 5) with rfl | rfl | rfl | rfl | rfl | rfl
    all_goals go_simp
    all_goals rfl
def D2 (g : Nat) (w : World) (e : Ending) (w' : World) : Prop := ∃ x y : Int, e = .returned (.tuple #[.int .i64 x, .int .i64 y]) ∧ (I64 x ∧ I64 y) ∧ Src w' g ∧ Gr g w w'
def D2F (w : World) (e : Ending) (w' : World) : Prop := ∃ x y : Int, e = .returned (.tuple #[.int .i64 x, .int .i64 y]) ∧ (I64 x ∧ I64 y) ∧ Below w.heap.size w w'
def DI (g : Nat) (w : World) (e : Ending) (w' : World) : Prop := ∃ x y : Int, e = .returned (.agg #[.int .i64 x, .int .i64 y]) ∧ (I64 x ∧ I64 y) ∧ Src w' g ∧ Gr g w w'
def DIF (w : World) (e : Ending) (w' : World) : Prop := ∃ x y : Int, e = .returned (.agg #[.int .i64 x, .int .i64 y]) ∧ (I64 x ∧ I64 y) ∧ Below w.heap.size w w'
def DII (g : Nat) (w : World) (e : Ending) (w' : World) : Prop := ∃ a b c d : Int, e = .returned (.tuple #[.agg #[.int .i64 a, .int .i64 b], .agg #[.int .i64 c, .int .i64 d]]) ∧ (I64 a ∧ I64 b ∧ I64 c ∧ I64 d) ∧ Src w' g ∧ Gr g w w'
def DIIF (w : World) (e : Ending) (w' : World) : Prop := ∃ a b c d : Int, e = .returned (.tuple #[.agg #[.int .i64 a, .int .i64 b], .agg #[.int .i64 c, .int .i64 d]]) ∧ (I64 a ∧ I64 b ∧ I64 c ∧ I64 d) ∧ Below w.heap.size w w'
def DI1 (g : Nat) (w : World) (e : Ending) (w' : World) : Prop := ∃ a b c : Int, e = .returned (.tuple #[.agg #[.int .i64 a, .int .i64 b], .int .i64 c]) ∧ (I64 a ∧ I64 b ∧ I64 c) ∧ Src w' g ∧ Gr g w w'
def DI1F (w : World) (e : Ending) (w' : World) : Prop := ∃ a b c : Int, e = .returned (.tuple #[.agg #[.int .i64 a, .int .i64 b], .int .i64 c]) ∧ (I64 a ∧ I64 b ∧ I64 c) ∧ Below w.heap.size w w'
def DI2 (g : Nat) (w : World) (e : Ending) (w' : World) : Prop := ∃ a b c d : Int, e = .returned (.tuple #[.agg #[.int .i64 a, .int .i64 b], .int .i64 c, .int .i64 d]) ∧ (I64 a ∧ I64 b ∧ I64 c ∧ I64 d) ∧ Src w' g ∧ Gr g w w'
def DI2F (w : World) (e : Ending) (w' : World) : Prop := ∃ a b c d : Int, e = .returned (.tuple #[.agg #[.int .i64 a, .int .i64 b], .int .i64 c, .int .i64 d]) ∧ (I64 a ∧ I64 b ∧ I64 c ∧ I64 d) ∧ Below w.heap.size w w'
set_option maxHeartbeats 800000 in
theorem valS {w : World} {g : Nat} (hS : Src w g) : Calls Tryd.prog 67 #[.pointer (some ⟨g, 0, none⟩)] w (Draws g (fun x => I64 x) w) := by
  have hL0 := hS.lt
  have hL := hS.lt
  go_enter Tryd.func67, Tryd.ntmps67
  go_wp2_with (first | (go_at_call 56; refine (nextS (Src.keep hS (by (repeat' (first | (with_reducible exact Below.refl _ _) | (with_reducible assumption) | (with_reducible refine kStep ?_ (by with_reducible assumption) ?_) | (with_reducible refine kAlloc ?_ _ ?_) | (with_reducible refine kDrew ?_) | (with_reducible refine kDrewN ?_ _) | (with_reducible refine kSet ?_ _ ?_) | (simp; done) | (simp; omega) | omega)))) _).mono ?_; rintro e w1 ⟨x, rfl, ⟨hx0, hx1⟩, hS, hG⟩; have hL := hS.lt; have hsz := hG.size; (try simp at hsz)) | (go_at_call 83; refine (pickS (Src.keep hS (by (repeat' (first | (with_reducible exact Below.refl _ _) | (with_reducible assumption) | (with_reducible refine kStep ?_ (by with_reducible assumption) ?_) | (with_reducible refine kAlloc ?_ _ ?_) | (with_reducible refine kDrew ?_) | (with_reducible refine kDrewN ?_ _) | (with_reducible refine kSet ?_ _ ?_) | (simp; done) | (simp; omega) | omega)))) _ (by omega) (by first | exact (lit6 _ _ (by first | rfl | (simp; done)) (by (first | assumption | exact I64.wrap _ | exact I64.mk (by omega) | exact I64.wrapK _ | (simp only [Int.reduceNeg]; exact I64.mk (by omega)))) (by (first | assumption | exact I64.wrap _ | exact I64.mk (by omega) | exact I64.wrapK _ | (simp only [Int.reduceNeg]; exact I64.mk (by omega)))) (by (first | assumption | exact I64.wrap _ | exact I64.mk (by omega) | exact I64.wrapK _ | (simp only [Int.reduceNeg]; exact I64.mk (by omega)))) (by (first | assumption | exact I64.wrap _ | exact I64.mk (by omega) | exact I64.wrapK _ | (simp only [Int.reduceNeg]; exact I64.mk (by omega)))) (by (first | assumption | exact I64.wrap _ | exact I64.mk (by omega) | exact I64.wrapK _ | (simp only [Int.reduceNeg]; exact I64.mk (by omega)))) (by (first | assumption | exact I64.wrap _ | exact I64.mk (by omega) | exact I64.wrapK _ | (simp only [Int.reduceNeg]; exact I64.mk (by omega))))) | exact (lit6 _ _ (by first | rfl | (simp; done)) (by (first | assumption | exact I64.wrap _ | exact I64.mk (by omega) | exact I64.wrapK _ | (simp only [Int.reduceNeg]; exact I64.mk (by omega)))) (by (first | assumption | exact I64.wrap _ | exact I64.mk (by omega) | exact I64.wrapK _ | (simp only [Int.reduceNeg]; exact I64.mk (by omega)))) (by (first | assumption | exact I64.wrap _ | exact I64.mk (by omega) | exact I64.wrapK _ | (simp only [Int.reduceNeg]; exact I64.mk (by omega)))) (by (first | assumption | exact I64.wrap _ | exact I64.mk (by omega) | exact I64.wrapK _ | (simp only [Int.reduceNeg]; exact I64.mk (by omega)))) (by (first | assumption | exact I64.wrap _ | exact I64.mk (by omega) | exact I64.wrapK _ | (simp only [Int.reduceNeg]; exact I64.mk (by omega)))) (by (first | assumption | exact I64.wrap _ | exact I64.mk (by omega) | exact I64.wrapK _ | (simp only [Int.reduceNeg]; exact I64.mk (by omega))))).drew_ | exact ((lit6 _ _ (by first | rfl | (simp; done)) (by (first | assumption | exact I64.wrap _ | exact I64.mk (by omega) | exact I64.wrapK _ | (simp only [Int.reduceNeg]; exact I64.mk (by omega)))) (by (first | assumption | exact I64.wrap _ | exact I64.mk (by omega) | exact I64.wrapK _ | (simp only [Int.reduceNeg]; exact I64.mk (by omega)))) (by (first | assumption | exact I64.wrap _ | exact I64.mk (by omega) | exact I64.wrapK _ | (simp only [Int.reduceNeg]; exact I64.mk (by omega)))) (by (first | assumption | exact I64.wrap _ | exact I64.mk (by omega) | exact I64.wrapK _ | (simp only [Int.reduceNeg]; exact I64.mk (by omega)))) (by (first | assumption | exact I64.wrap _ | exact I64.mk (by omega) | exact I64.wrapK _ | (simp only [Int.reduceNeg]; exact I64.mk (by omega)))) (by (first | assumption | exact I64.wrap _ | exact I64.mk (by omega) | exact I64.wrapK _ | (simp only [Int.reduceNeg]; exact I64.mk (by omega))))).drewN _)) (by first | omega | (simp; omega))).mono ?_; rintro e w1 ⟨x, rfl, hx, hS, hG⟩; have hL := hS.lt; have hsz := hG.size; (try simp at hsz)))
  all_goals (first | go_ret | go_ret2 | go_ret3 | go_returns | (refine bodyPost_ret (by simp [results, Tryd.results67, go_sem, *]; try rfl) rfl ?_))
  all_goals exact ⟨_, rfl, (by (first | assumption | exact I64.wrap _ | exact I64.mk (by omega) | exact I64.wrapK _ | (simp only [Int.reduceNeg]; exact I64.mk (by omega)))), Src.keep hS (by (repeat' (first | (with_reducible exact Below.refl _ _) | (with_reducible assumption) | (with_reducible refine kStep ?_ (by with_reducible assumption) ?_) | (with_reducible refine kAlloc ?_ _ ?_) | (with_reducible refine kDrew ?_) | (with_reducible refine kDrewN ?_ _) | (with_reducible refine kSet ?_ _ ?_) | (simp; done) | (simp; omega) | omega))), by (repeat' (first | (with_reducible exact Gr.refl _ _) | (with_reducible assumption) | (with_reducible refine Gr.trans ?_ (by with_reducible assumption)) | (with_reducible refine Gr.below ?_ (by with_reducible assumption)) | (with_reducible refine Gr.alloc ?_ _) | (with_reducible refine Gr.drew ?_) | (with_reducible refine Gr.drewN ?_ _) | (with_reducible refine Gr.setCell ?_ ?_ _) | (exact .inl rfl) | (right; simp; done) | (right; simp; omega)))⟩
end Go.Proofs.YtgnpbgknmapejaaDoor
