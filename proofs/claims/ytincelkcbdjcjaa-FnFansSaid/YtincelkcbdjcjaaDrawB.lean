/- The draw for LiesBetween. -/
import Derived.Test.YtincelkcbdjcjaaDrawF
import Derived.Deep.RegionHeld3
namespace Go.Proofs.Ytincelkcbdjcjaa
open Go.RowKit
set_option linter.unusedVariables false

def Cell3 (V : World) (B : Nat) (a b c : Int) : Prop := (V.cell? ⟨B, 0, none⟩ = some (.int .i64 a) ∧ V.cell? ⟨B, 1, none⟩ = some (.int .i64 b) ∧ V.cell? ⟨B, 2, none⟩ = some (.int .i64 c)) ∧ V.frozen? ⟨B, 0, none⟩ = false ∧ V.frozen? ⟨B, 1, none⟩ = false ∧ V.frozen? ⟨B, 2, none⟩ = false
section
variable {V V' : World} {B g : Nat} {a b c : Int}
theorem Cell3.keep (h : Cell3 V B a b c) (hc : ∀ o, V'.cell? ⟨B, o, none⟩ = V.cell? ⟨B, o, none⟩) (hf : ∀ o, V'.frozen? ⟨B, o, none⟩ = V.frozen? ⟨B, o, none⟩) : Cell3 V' B a b c :=
  ⟨⟨(hc 0).trans h.1.1, (hc 1).trans h.1.2.1, (hc 2).trans h.1.2.2⟩, (hf 0).trans h.2.1, (hf 1).trans h.2.2.1, (hf 2).trans h.2.2.2⟩
theorem Cell3.below (h : Cell3 V B a b c) (hb : Below V.heap.size V V') (hl : B < V.heap.size) : Cell3 V' B a b c := h.keep (fun o => hb.cell (p := ⟨B, o, none⟩) hl) (fun o => hb.frozen (p := ⟨B, o, none⟩) hl)
theorem Cell3.gr (h : Cell3 V B a b c) (hG : Gr g V V') (hl : B < V.heap.size) (hne : ¬ B = g) : Cell3 V' B a b c := h.keep (fun o => hG.cell B o hl hne) (fun o => hG.frozen B o hl hne)
theorem Cell3.alloc (h : Cell3 V B a b c) (hl : B < V.heap.size) (o : Obj) : Cell3 (V.alloc o) B a b c := h.below ((Below.refl _ _).alloc (Nat.le_refl _) o) hl
theorem Cell3.new {t : TypeId} (h : V.heap.size = B) : Cell3 (V.alloc (.cells #[.int .i64 a, .int .i64 b, .int .i64 c] t)) B a b c := by
  subst h
  refine ⟨⟨?_, ?_, ?_⟩, ?_, ?_, ?_⟩ <;> go_simp
theorem Cell3.far {B' o : Nat} {v : Value} (h : Cell3 V B a b c) (hne : ¬ B = B') : Cell3 (V.setCell ⟨B', o, none⟩ v) B a b c :=
  h.keep (fun o => World.cell?_setCell_other _ _ _ _ (fun e => hne (by injection e with e1 _; exact e1.symm))) (fun o => by simp)
theorem Cell3.set1 {y : Int} (h : Cell3 V B a b c) : Cell3 (V.setCell ⟨B, 1, none⟩ (.int .i64 y)) B a y c := by
  obtain ⟨⟨h0, h1, h2⟩, f0, f1, f2⟩ := h
  refine ⟨⟨?_, ?_, ?_⟩, ?_, ?_, ?_⟩ <;> go_simp
end
set_option maxHeartbeats 6400000 in
set_option maxRecDepth 20000 in
theorem drLiesBetween {w : World} {A : Option Addr} {n : Nat} {zs : List Int} (H : Ints .u8 w A n zs) (c0 : Nat) : Calls Try.prog 34 #[.slice A n c0] w (D333 w) := by
  have ne01 : ¬ w.heap.size = w.heap.size + 1 := by omega
  have ne10 : ¬ w.heap.size + 1 = w.heap.size := by omega
  have ne02 : ¬ w.heap.size = w.heap.size + 1 + 1 := by omega
  have ne20 : ¬ w.heap.size + 1 + 1 = w.heap.size := by omega
  have ne12 : ¬ w.heap.size + 1 = w.heap.size + 1 + 1 := by omega
  have ne21 : ¬ w.heap.size + 1 + 1 = w.heap.size + 1 := by omega
  have Z0 : Hid (Cell3 (((w.alloc (.cells #[.int .i64 0, .int .i64 0, .int .i64 0] 27)).alloc (.cells #[.int .i64 0, .int .i64 0, .int .i64 0] 27)).alloc (.cells #[.int .i64 0, .int .i64 0, .int .i64 0] 27)) w.heap.size 0 0 0) := ((Cell3.new (V := w) rfl).alloc (by simp) _).alloc (by first | omega | (simp; done) | (simp; omega)) _
  have Z1 : Hid (Cell3 (((w.alloc (.cells #[.int .i64 0, .int .i64 0, .int .i64 0] 27)).alloc (.cells #[.int .i64 0, .int .i64 0, .int .i64 0] 27)).alloc (.cells #[.int .i64 0, .int .i64 0, .int .i64 0] 27)) (w.heap.size + 1) 0 0 0) := (Cell3.new (by simp)).alloc (by simp) _
  have Z2 : Hid (Cell3 (((w.alloc (.cells #[.int .i64 0, .int .i64 0, .int .i64 0] 27)).alloc (.cells #[.int .i64 0, .int .i64 0, .int .i64 0] 27)).alloc (.cells #[.int .i64 0, .int .i64 0, .int .i64 0] 27)) (w.heap.size + 1 + 1) 0 0 0) := Cell3.new (by simp)
  go_enter Try.func34, Try.ntmps34
  go_wp2_with (go_at_call 58; refine (fromS (H.below (by (repeat' (first | (with_reducible exact Below.refl _ _) | (with_reducible assumption) | (with_reducible refine bStep ?_ (by with_reducible assumption)) | (with_reducible refine bAlloc ?_ _) | (with_reducible refine bDrew ?_) | (with_reducible refine bDrewN ?_ _) | (with_reducible refine Below.setCell ?_ ?_ _) | (with_reducible exact Nat.le_refl _) | (simp; done) | (simp; omega))))) _).mono ?_; rintro e w1 ⟨g, rfl, hg, hS, hB⟩; have hL := hS.lt; have hszF := hB.size; (try simp at hszF); (try simp at hg); replace Z0 := Lib.hid (Z0.out.below hB (by first | omega | (simp; done) | (simp; omega))); replace Z1 := Lib.hid (Z1.out.below hB (by first | omega | (simp; done) | (simp; omega))); replace Z2 := Lib.hid (Z2.out.below hB (by first | omega | (simp; done) | (simp; omega))); have BW : Hid (Below w.heap.size w w1) := (by show Below w.heap.size w w1; (repeat' (first | (with_reducible exact Below.refl _ _) | (with_reducible assumption) | (with_reducible refine bStep ?_ (by with_reducible assumption)) | (with_reducible refine bAlloc ?_ _) | (with_reducible refine bDrew ?_) | (with_reducible refine bDrewN ?_ _) | (with_reducible refine Below.setCell ?_ ?_ _) | (with_reducible exact Nat.le_refl _) | (simp; done) | (simp; omega)))); clear hB)
  refine (cellDrS (Src.keep hS (by (repeat' (first | (with_reducible exact Below.refl _ _) | (with_reducible assumption) | (with_reducible refine kStep ?_ (by with_reducible assumption) ?_) | (with_reducible refine kAlloc ?_ _ ?_) | (with_reducible refine kDrew ?_) | (with_reducible refine kDrewN ?_ _) | (with_reducible refine kSet ?_ _ ?_) | (simp; done) | (simp; omega) | omega))))).mono ?_
  rintro e w2 ⟨a, b, c, p, q, r, rfl, _, hS, hG⟩
  have hL := hS.lt
  have hsz := hG.size
  replace Z0 := Lib.hid (Z0.out.gr hG (by omega) (by omega))
  replace Z1 := Lib.hid (Z1.out.gr hG (by omega) (by omega))
  replace Z2 := Lib.hid (Z2.out.gr hG (by omega) (by omega))
  replace BW : Hid (Below w.heap.size w w2) := Gr.bel hG BW.out (by omega)
  clear hG
  go_wp2_with fail
  refine (dirDrS (Src.keep hS (by (repeat' (first | (with_reducible exact Below.refl _ _) | (with_reducible assumption) | (with_reducible refine kStep ?_ (by with_reducible assumption) ?_) | (with_reducible refine kAlloc ?_ _ ?_) | (with_reducible refine kDrew ?_) | (with_reducible refine kDrewN ?_ _) | (with_reducible refine kSet ?_ _ ?_) | (simp; done) | (simp; omega) | omega))))).mono ?_
  rintro e w3 ⟨x, y, z, rfl, _, hS, hG⟩
  have hL := hS.lt
  have hsz3 := hG.size
  simp at hsz3
  replace Z0 := Lib.hid (((Z0.out.alloc (by omega) _).alloc (by first | omega | (simp; done) | (simp; omega)) _).gr hG (by first | omega | (simp; done) | (simp; omega)) (by omega))
  replace Z1 := Lib.hid (((Z1.out.alloc (by omega) _).alloc (by first | omega | (simp; done) | (simp; omega)) _).gr hG (by first | omega | (simp; done) | (simp; omega)) (by omega))
  replace Z2 := Lib.hid (((Z2.out.alloc (by omega) _).alloc (by first | omega | (simp; done) | (simp; omega)) _).gr hG (by first | omega | (simp; done) | (simp; omega)) (by omega))
  have S6 : Hid (Cell3 w3 w2.heap.size a b c) := ((Cell3.new (V := w2) rfl).alloc (by simp) _).gr hG (by first | omega | (simp; done) | (simp; omega)) (by omega)
  have S7 : Hid (Cell3 w3 (w2.heap.size + 1) p q r) := (Cell3.new (by simp)).gr hG (by simp) (by omega)
  replace BW : Hid (Below w.heap.size w w3) := Gr.bel hG (bAlloc (bAlloc BW.out _) _) (by omega)
  clear hG
  have kb1 := S6.out.1.2.1
  have n63 : ¬ w2.heap.size = w3.heap.size := by omega
  have n36 : ¬ w3.heap.size = w2.heap.size := by omega
  have n73 : ¬ w2.heap.size + 1 = w3.heap.size := by omega
  have n37 : ¬ w3.heap.size = w2.heap.size + 1 := by omega
  have l63 : w2.heap.size < w3.heap.size := by omega
  have l73 : w2.heap.size + 1 < w3.heap.size := by omega
  have ne00a : ¬ w.heap.size = w2.heap.size := by omega
  have ne00b : ¬ w2.heap.size = w.heap.size := by omega
  have ne01a : ¬ w.heap.size = w2.heap.size + 1 := by omega
  have ne01b : ¬ w2.heap.size + 1 = w.heap.size := by omega
  have ne02a : ¬ w.heap.size = w3.heap.size := by omega
  have ne02b : ¬ w3.heap.size = w.heap.size := by omega
  have ne10a : ¬ w.heap.size + 1 = w2.heap.size := by omega
  have ne10b : ¬ w2.heap.size = w.heap.size + 1 := by omega
  have ne11a : ¬ w.heap.size + 1 = w2.heap.size + 1 := by omega
  have ne11b : ¬ w2.heap.size + 1 = w.heap.size + 1 := by omega
  have ne12a : ¬ w.heap.size + 1 = w3.heap.size := by omega
  have ne12b : ¬ w3.heap.size = w.heap.size + 1 := by omega
  have ne20a : ¬ w.heap.size + 1 + 1 = w2.heap.size := by omega
  have ne20b : ¬ w2.heap.size = w.heap.size + 1 + 1 := by omega
  have ne21a : ¬ w.heap.size + 1 + 1 = w2.heap.size + 1 := by omega
  have ne21b : ¬ w2.heap.size + 1 = w.heap.size + 1 + 1 := by omega
  have ne22a : ¬ w.heap.size + 1 + 1 = w3.heap.size := by omega
  have ne22b : ¬ w3.heap.size = w.heap.size + 1 + 1 := by omega
  rcases hy0 : decide (y < 0) <;> rcases hb0 : decide (b > 0)
  all_goals
    have ky := hy0
    have kb := hb0
    simp only [decide_eq_true_eq, decide_eq_false_iff_not] at ky kb
  all_goals go_wp2_with (go_at_call 59; refine (nextS (Src.keep hS (by (repeat' (first | (with_reducible exact Below.refl _ _) | (with_reducible assumption) | (with_reducible refine kStep ?_ (by with_reducible assumption) ?_) | (with_reducible refine kAlloc ?_ _ ?_) | (with_reducible refine kDrew ?_) | (with_reducible refine kDrewN ?_ _) | (with_reducible refine kSet ?_ _ ?_) | (simp; done) | (simp; omega) | omega)))) _).mono ?_; rintro e w4 ⟨u, rfl, ⟨hu0, hu1⟩, hS, hG⟩; have hL := hS.lt; have hsz := hG.size; (try simp at hsz); have k81 := ((Cell3.new (V := w3) rfl).gr hG (by simp) (by omega)).1.2.1; have f81 := ((Cell3.new (V := w3) rfl).gr hG (by simp) (by omega)).2.2.1)
  · obtain ⟨⟨d00, d01, d02⟩, e00, e01, e02⟩ := Z0.out.alloc (by omega) _
    obtain ⟨⟨d10, d11, d12⟩, e10, e11, e12⟩ := Z1.out.alloc (by omega) _
    obtain ⟨⟨d20, d21, d22⟩, e20, e21, e22⟩ := Z2.out.alloc (by omega) _
    obtain ⟨⟨k60, k61, k62⟩, _⟩ := S6.out.alloc (by omega) _
    obtain ⟨⟨k70, k71, k72⟩, _⟩ := S7.out.alloc (by omega) _
    obtain ⟨⟨k80, k81, k82⟩, _⟩ := (Cell3.new (V := w3) rfl)
    have BV : Below w.heap.size w (w3.alloc (.cells #[.int .i64 x, .int .i64 y, .int .i64 z] 27)) := bAlloc BW.out _
    obtain ⟨V, hV⟩ : ∃ V, (w3.alloc (.cells #[.int .i64 x, .int .i64 y, .int .i64 z] 27)) = V := ⟨_, rfl⟩
    rw [hV] at d00 d01 d02 e00 e01 e02 d10 d11 d12 e10 e11 e12 d20 d21 d22 e20 e21 e22 k60 k61 k62 k70 k71 k72 k80 k81 k82 BV ⊢
    clear hV
    go_region_held3 (fun w' => w'.cell? ⟨w2.heap.size, 0, none⟩ = some (.int .i64 a) ∧ w'.cell? ⟨w2.heap.size, 1, none⟩ = some (.int .i64 b) ∧ w'.cell? ⟨w2.heap.size, 2, none⟩ = some (.int .i64 c) ∧ w'.cell? ⟨w2.heap.size + 1, 0, none⟩ = some (.int .i64 p) ∧ w'.cell? ⟨w2.heap.size + 1, 1, none⟩ = some (.int .i64 q) ∧ w'.cell? ⟨w2.heap.size + 1, 2, none⟩ = some (.int .i64 r) ∧ w'.cell? ⟨w3.heap.size, 0, none⟩ = some (.int .i64 x) ∧ w'.cell? ⟨w3.heap.size, 1, none⟩ = some (.int .i64 y) ∧ w'.cell? ⟨w3.heap.size, 2, none⟩ = some (.int .i64 z)) ((go_keep) <;> go_simp) (fail)
    all_goals (try go_wp2)
    all_goals (first | go_ret | go_ret2 | go_ret3 | go_returns | (refine bodyPost_ret (by simp [results, Try.results34, go_sem, *]; try rfl) rfl ?_))
    all_goals exact ⟨_, _, _, _, _, _, _, _, _, rfl, by (repeat' (first | (with_reducible exact Below.refl _ _) | (with_reducible assumption) | (with_reducible refine bStep ?_ (by with_reducible assumption)) | (with_reducible refine bAlloc ?_ _) | (with_reducible refine bDrew ?_) | (with_reducible refine bDrewN ?_ _) | (with_reducible refine Below.setCell ?_ ?_ _) | (with_reducible exact Nat.le_refl _) | (simp; done) | (simp; omega)))⟩
  · obtain ⟨⟨d00, d01, d02⟩, e00, e01, e02⟩ := Z0.out.alloc (by omega) _
    obtain ⟨⟨d10, d11, d12⟩, e10, e11, e12⟩ := Z1.out.alloc (by omega) _
    obtain ⟨⟨d20, d21, d22⟩, e20, e21, e22⟩ := Z2.out.alloc (by omega) _
    obtain ⟨⟨k60, k61, k62⟩, _⟩ := S6.out.alloc (by omega) _
    obtain ⟨⟨k70, k71, k72⟩, _⟩ := S7.out.alloc (by omega) _
    obtain ⟨⟨k80, k81, k82⟩, _⟩ := (Cell3.new (V := w3) rfl)
    have BV : Below w.heap.size w (w3.alloc (.cells #[.int .i64 x, .int .i64 y, .int .i64 z] 27)) := bAlloc BW.out _
    obtain ⟨V, hV⟩ : ∃ V, (w3.alloc (.cells #[.int .i64 x, .int .i64 y, .int .i64 z] 27)) = V := ⟨_, rfl⟩
    rw [hV] at d00 d01 d02 e00 e01 e02 d10 d11 d12 e10 e11 e12 d20 d21 d22 e20 e21 e22 k60 k61 k62 k70 k71 k72 k80 k81 k82 BV ⊢
    clear hV
    go_region_held3 (fun w' => w'.cell? ⟨w2.heap.size, 0, none⟩ = some (.int .i64 a) ∧ w'.cell? ⟨w2.heap.size, 1, none⟩ = some (.int .i64 b) ∧ w'.cell? ⟨w2.heap.size, 2, none⟩ = some (.int .i64 c) ∧ w'.cell? ⟨w2.heap.size + 1, 0, none⟩ = some (.int .i64 p) ∧ w'.cell? ⟨w2.heap.size + 1, 1, none⟩ = some (.int .i64 q) ∧ w'.cell? ⟨w2.heap.size + 1, 2, none⟩ = some (.int .i64 r) ∧ w'.cell? ⟨w3.heap.size, 0, none⟩ = some (.int .i64 x) ∧ w'.cell? ⟨w3.heap.size, 1, none⟩ = some (.int .i64 y) ∧ w'.cell? ⟨w3.heap.size, 2, none⟩ = some (.int .i64 z)) ((go_keep) <;> go_simp) (fail)
    all_goals (try go_wp2)
    all_goals (first | go_ret | go_ret2 | go_ret3 | go_returns | (refine bodyPost_ret (by simp [results, Try.results34, go_sem, *]; try rfl) rfl ?_))
    all_goals exact ⟨_, _, _, _, _, _, _, _, _, rfl, by (repeat' (first | (with_reducible exact Below.refl _ _) | (with_reducible assumption) | (with_reducible refine bStep ?_ (by with_reducible assumption)) | (with_reducible refine bAlloc ?_ _) | (with_reducible refine bDrew ?_) | (with_reducible refine bDrewN ?_ _) | (with_reducible refine Below.setCell ?_ ?_ _) | (with_reducible exact Nat.le_refl _) | (simp; done) | (simp; omega)))⟩
  · obtain ⟨⟨d00, d01, d02⟩, e00, e01, e02⟩ := Z0.out.alloc (by omega) _
    obtain ⟨⟨d10, d11, d12⟩, e10, e11, e12⟩ := Z1.out.alloc (by omega) _
    obtain ⟨⟨d20, d21, d22⟩, e20, e21, e22⟩ := Z2.out.alloc (by omega) _
    obtain ⟨⟨k60, k61, k62⟩, _⟩ := S6.out.alloc (by omega) _
    obtain ⟨⟨k70, k71, k72⟩, _⟩ := S7.out.alloc (by omega) _
    obtain ⟨⟨k80, k81, k82⟩, _⟩ := (Cell3.new (V := w3) rfl)
    have BV : Below w.heap.size w (w3.alloc (.cells #[.int .i64 x, .int .i64 y, .int .i64 z] 27)) := bAlloc BW.out _
    obtain ⟨V, hV⟩ : ∃ V, (w3.alloc (.cells #[.int .i64 x, .int .i64 y, .int .i64 z] 27)) = V := ⟨_, rfl⟩
    rw [hV] at d00 d01 d02 e00 e01 e02 d10 d11 d12 e10 e11 e12 d20 d21 d22 e20 e21 e22 k60 k61 k62 k70 k71 k72 k80 k81 k82 BV ⊢
    clear hV
    go_region_held3 (fun w' => w'.cell? ⟨w2.heap.size, 0, none⟩ = some (.int .i64 a) ∧ w'.cell? ⟨w2.heap.size, 1, none⟩ = some (.int .i64 b) ∧ w'.cell? ⟨w2.heap.size, 2, none⟩ = some (.int .i64 c) ∧ w'.cell? ⟨w2.heap.size + 1, 0, none⟩ = some (.int .i64 p) ∧ w'.cell? ⟨w2.heap.size + 1, 1, none⟩ = some (.int .i64 q) ∧ w'.cell? ⟨w2.heap.size + 1, 2, none⟩ = some (.int .i64 r) ∧ w'.cell? ⟨w3.heap.size, 0, none⟩ = some (.int .i64 x) ∧ w'.cell? ⟨w3.heap.size, 1, none⟩ = some (.int .i64 y) ∧ w'.cell? ⟨w3.heap.size, 2, none⟩ = some (.int .i64 z)) ((go_keep) <;> go_simp) (fail)
    all_goals (try go_wp2)
    all_goals (first | go_ret | go_ret2 | go_ret3 | go_returns | (refine bodyPost_ret (by simp [results, Try.results34, go_sem, *]; try rfl) rfl ?_))
    all_goals exact ⟨_, _, _, _, _, _, _, _, _, rfl, by (repeat' (first | (with_reducible exact Below.refl _ _) | (with_reducible assumption) | (with_reducible refine bStep ?_ (by with_reducible assumption)) | (with_reducible refine bAlloc ?_ _) | (with_reducible refine bDrew ?_) | (with_reducible refine bDrewN ?_ _) | (with_reducible refine Below.setCell ?_ ?_ _) | (with_reducible exact Nat.le_refl _) | (simp; done) | (simp; omega)))⟩
  · obtain ⟨⟨d00, d01, d02⟩, e00, e01, e02⟩ := ((Z0.out.alloc (by omega) _).gr hG (by first | omega | (simp; done) | (simp; omega)) (by omega)).far (B' := w3.heap.size) (o := 1) (v := .int .i64 (wrap64 (-y))) (by omega)
    obtain ⟨⟨d10, d11, d12⟩, e10, e11, e12⟩ := ((Z1.out.alloc (by omega) _).gr hG (by first | omega | (simp; done) | (simp; omega)) (by omega)).far (B' := w3.heap.size) (o := 1) (v := .int .i64 (wrap64 (-y))) (by omega)
    obtain ⟨⟨d20, d21, d22⟩, e20, e21, e22⟩ := ((Z2.out.alloc (by omega) _).gr hG (by first | omega | (simp; done) | (simp; omega)) (by omega)).far (B' := w3.heap.size) (o := 1) (v := .int .i64 (wrap64 (-y))) (by omega)
    obtain ⟨⟨k60, k61, k62⟩, _⟩ := ((S6.out.alloc (by omega) _).gr hG (by first | omega | (simp; done) | (simp; omega)) (by omega)).far (B' := w3.heap.size) (o := 1) (v := .int .i64 (wrap64 (-y))) (by omega)
    obtain ⟨⟨k70, k71, k72⟩, _⟩ := ((S7.out.alloc (by omega) _).gr hG (by first | omega | (simp; done) | (simp; omega)) (by omega)).far (B' := w3.heap.size) (o := 1) (v := .int .i64 (wrap64 (-y))) (by omega)
    obtain ⟨⟨k80, k81, k82⟩, _⟩ := ((Cell3.new (V := w3) rfl).gr hG (by simp) (by omega)).set1
    have BV : Below w.heap.size w (w4.setCell ⟨w3.heap.size, 1, none⟩ (.int .i64 (wrap64 (-y)))) := Below.setCell (Gr.bel hG (bAlloc BW.out _) (by omega)) (by first | omega | (simp; omega)) _
    obtain ⟨V, hV⟩ : ∃ V, (w4.setCell ⟨w3.heap.size, 1, none⟩ (.int .i64 (wrap64 (-y)))) = V := ⟨_, rfl⟩
    rw [hV] at d00 d01 d02 e00 e01 e02 d10 d11 d12 e10 e11 e12 d20 d21 d22 e20 e21 e22 k60 k61 k62 k70 k71 k72 k80 k81 k82 BV ⊢
    clear hV
    go_region_held3 (fun w' => w'.cell? ⟨w2.heap.size, 0, none⟩ = some (.int .i64 a) ∧ w'.cell? ⟨w2.heap.size, 1, none⟩ = some (.int .i64 b) ∧ w'.cell? ⟨w2.heap.size, 2, none⟩ = some (.int .i64 c) ∧ w'.cell? ⟨w2.heap.size + 1, 0, none⟩ = some (.int .i64 p) ∧ w'.cell? ⟨w2.heap.size + 1, 1, none⟩ = some (.int .i64 q) ∧ w'.cell? ⟨w2.heap.size + 1, 2, none⟩ = some (.int .i64 r) ∧ w'.cell? ⟨w3.heap.size, 0, none⟩ = some (.int .i64 x) ∧ w'.cell? ⟨w3.heap.size, 1, none⟩ = some (.int .i64 (wrap64 (-y))) ∧ w'.cell? ⟨w3.heap.size, 2, none⟩ = some (.int .i64 z)) ((go_keep) <;> go_simp) (fail)
    all_goals (try go_wp2)
    all_goals (first | go_ret | go_ret2 | go_ret3 | go_returns | (refine bodyPost_ret (by simp [results, Try.results34, go_sem, *]; try rfl) rfl ?_))
    all_goals exact ⟨_, _, _, _, _, _, _, _, _, rfl, by (repeat' (first | (with_reducible exact Below.refl _ _) | (with_reducible assumption) | (with_reducible refine bStep ?_ (by with_reducible assumption)) | (with_reducible refine bAlloc ?_ _) | (with_reducible refine bDrew ?_) | (with_reducible refine bDrewN ?_ _) | (with_reducible refine Below.setCell ?_ ?_ _) | (with_reducible exact Nat.le_refl _) | (simp; done) | (simp; omega)))⟩
  · obtain ⟨⟨d00, d01, d02⟩, e00, e01, e02⟩ := ((Z0.out.alloc (by omega) _).gr hG (by first | omega | (simp; done) | (simp; omega)) (by omega))
    obtain ⟨⟨d10, d11, d12⟩, e10, e11, e12⟩ := ((Z1.out.alloc (by omega) _).gr hG (by first | omega | (simp; done) | (simp; omega)) (by omega))
    obtain ⟨⟨d20, d21, d22⟩, e20, e21, e22⟩ := ((Z2.out.alloc (by omega) _).gr hG (by first | omega | (simp; done) | (simp; omega)) (by omega))
    obtain ⟨⟨k60, k61, k62⟩, _⟩ := ((S6.out.alloc (by omega) _).gr hG (by first | omega | (simp; done) | (simp; omega)) (by omega))
    obtain ⟨⟨k70, k71, k72⟩, _⟩ := ((S7.out.alloc (by omega) _).gr hG (by first | omega | (simp; done) | (simp; omega)) (by omega))
    obtain ⟨⟨k80, k81, k82⟩, _⟩ := ((Cell3.new (V := w3) rfl).gr hG (by simp) (by omega))
    have BV : Below w.heap.size w (w4) := (Gr.bel hG (bAlloc BW.out _) (by omega))
    obtain ⟨V, hV⟩ : ∃ V, (w4) = V := ⟨_, rfl⟩
    rw [hV] at d00 d01 d02 e00 e01 e02 d10 d11 d12 e10 e11 e12 d20 d21 d22 e20 e21 e22 k60 k61 k62 k70 k71 k72 k80 k81 k82 BV ⊢
    clear hV
    go_region_held3 (fun w' => w'.cell? ⟨w2.heap.size, 0, none⟩ = some (.int .i64 a) ∧ w'.cell? ⟨w2.heap.size, 1, none⟩ = some (.int .i64 b) ∧ w'.cell? ⟨w2.heap.size, 2, none⟩ = some (.int .i64 c) ∧ w'.cell? ⟨w2.heap.size + 1, 0, none⟩ = some (.int .i64 p) ∧ w'.cell? ⟨w2.heap.size + 1, 1, none⟩ = some (.int .i64 q) ∧ w'.cell? ⟨w2.heap.size + 1, 2, none⟩ = some (.int .i64 r) ∧ w'.cell? ⟨w3.heap.size, 0, none⟩ = some (.int .i64 x) ∧ w'.cell? ⟨w3.heap.size, 1, none⟩ = some (.int .i64 y) ∧ w'.cell? ⟨w3.heap.size, 2, none⟩ = some (.int .i64 z)) ((go_keep) <;> go_simp) (fail)
    all_goals (try go_wp2)
    all_goals (first | go_ret | go_ret2 | go_ret3 | go_returns | (refine bodyPost_ret (by simp [results, Try.results34, go_sem, *]; try rfl) rfl ?_))
    all_goals exact ⟨_, _, _, _, _, _, _, _, _, rfl, by (repeat' (first | (with_reducible exact Below.refl _ _) | (with_reducible assumption) | (with_reducible refine bStep ?_ (by with_reducible assumption)) | (with_reducible refine bAlloc ?_ _) | (with_reducible refine bDrew ?_) | (with_reducible refine bDrewN ?_ _) | (with_reducible refine Below.setCell ?_ ?_ _) | (with_reducible exact Nat.le_refl _) | (simp; done) | (simp; omega)))⟩
end Go.Proofs.Ytincelkcbdjcjaa
