/- Two lists that are being appended to, in rows of their own; a box of two slices. -/
import Derived.Test.YtgnpbgknmapejaaDoorSrc
import Derived.Test.YtgnpbgknmapejaaDoorTurn
import Derived.Test.YtgnpbgknmapejaaDoorSpl
import Derived.Maps.AppendAt
import Derived.Deep.RegionLaw
namespace Go.Proofs.YtgnpbgknmapejaaDoor
open Go.RowKit
set_option linter.unusedVariables false

theorem tw_lt {w : World} {B : Nat} {e : TypeId} {s : Nat} {v : Value} {n : Nat} {xs : List Value} (h : w.ownsRow B e s v n xs) : ∀ k, v.ownBlock = some k → B ≤ k ∧ k < w.heap.size := by
  intro k hk
  rcases h.2 with ⟨rfl, _⟩ | ⟨g, cap, cur, rfl, hb, hg, _⟩
  · cases hk
  · simp [Value.ownBlock] at hk
    have := lt_of_block hg
    omega
theorem tw_keep {w w' : World} {B : Nat} {e : TypeId} {s : Nat} {v : Value} {n : Nat} {xs : List Value} {r : Option Nat} (h : w.ownsRow B e s v n xs) (hb : w.grownBy w' r) (hr : v.ownBlock ≠ r ∨ v.ownBlock = none) : w'.ownsRow B e s v n xs := by
  refine ⟨h.1, ?_⟩
  rcases h.2 with h2 | ⟨g, cap, cur, rfl, hB, hg, q⟩
  · exact .inl h2
  · refine .inr ⟨g, cap, cur, rfl, hB, (hb.block g (lt_of_block hg) (fun e => ?_)).trans hg, q⟩
    rcases hr with hr | hr
    · exact hr (by rw [← e]; rfl)
    · cases hr
theorem tw_mono {w : World} {B B' : Nat} {e : TypeId} {s : Nat} {v : Value} {n : Nat} {xs : List Value} (h : w.ownsRow B e s v n xs) (hB : B' ≤ B) : w.ownsRow B' e s v n xs := by
  refine ⟨h.1, ?_⟩
  rcases h.2 with h2 | ⟨g, cap, cur, e, hb, q⟩
  · exact .inl h2
  · exact .inr ⟨g, cap, cur, e, Nat.le_trans hB hb, q⟩
/-- Two lists, each in a row of its own. -/
structure Two (B : Nat) (w : World) (v u : Value) (xs ys : List Int) : Prop where
  one : w.ownsRow B 2 1 v xs.length (xs.map (Value.int .i64))
  two : w.ownsRow B 2 1 u ys.length (ys.map (Value.int .i64))
  ne : v.ownBlock ≠ u.ownBlock ∨ u.ownBlock = none
section
variable {B : Nat} {w w' : World} {v v' u : Value} {xs ys : List Int}
theorem Two.below (h : Two B w v u xs ys) (hb : Below w.heap.size w w') : Two B w' v u xs ys := ⟨own_below h.one hb, own_below h.two hb, h.ne⟩
theorem Two.gr {g : Nat} (h : Two B w v u xs ys) (hG : Gr g w w') (hg : g < B) : Two B w' v u xs ys :=
  ⟨own_grown h.one hG (fun k e => by injection e with e; omega), own_grown h.two hG (fun k e => by injection e with e; omega), h.ne⟩
theorem Two.mono {B' : Nat} (h : Two B w v u xs ys) (hB : B' ≤ B) : Two B' w v u xs ys := ⟨tw_mono h.one hB, tw_mono h.two hB, h.ne⟩
theorem Two.swap (h : Two B w v u xs ys) : Two B w u v ys xs := by
  refine ⟨h.two, h.one, ?_⟩
  rcases h.ne with e | e
  · exact .inl (Ne.symm e)
  · rcases hv : v.ownBlock with _ | k
    · exact .inr rfl
    · exact .inl (by rw [e]; simp)
theorem Two.nil_ (B : Nat) (w : World) : Two B w (.slice none 0 0) (.slice none 0 0) [] [] := ⟨World.ownsRow_nil _ _ _ _, World.ownsRow_nil _ _ _ _, .inr rfl⟩
theorem Two.form (h : Two B w v u xs ys) : ∃ A c D d, v = .slice A xs.length c ∧ u = .slice D ys.length d := by
  obtain ⟨A, c, e⟩ := own_slice h.one
  obtain ⟨D, d, e'⟩ := own_slice h.two
  exact ⟨A, c, D, d, e, e'⟩
theorem Two.form1 {k : Nat} (h : Two B w v u xs ys) (hk : xs.length = k) : ∃ A c, v = .slice A k c := by
  subst hk
  exact own_slice h.one
theorem Two.push {x : Int} (h : Two B w v u xs ys) (hB : B ≤ w.heap.size) (hown : w'.ownsRow B 2 1 v' (xs.length + 1) (xs.map (Value.int .i64) ++ [.int .i64 x])) (hgrow : w.grownBy w' v.ownBlock) (hloc : v'.ownBlock = v.ownBlock ∨ v'.ownBlock = some w.heap.size) :
    Two B w' v' u (xs ++ [x]) ys ∧ Below B w w' ∧ ∀ b j, b < w.heap.size → (∀ k, v.ownBlock = some k → ¬ k = b) → w'.cell? ⟨b, j, none⟩ = w.cell? ⟨b, j, none⟩ := by
  have hu : u.ownBlock ≠ v.ownBlock ∨ u.ownBlock = none := by
    rcases h.ne with e | e
    · exact .inl (Ne.symm e)
    · exact .inr e
  refine ⟨⟨by simpa using hown, tw_keep h.two hgrow hu, ?_⟩, below_grown hgrow hB (fun k e => (tw_lt h.one k e).1), ?_⟩
  · rcases hloc with e | e
    · rw [e]; exact h.ne
    · rcases hub : u.ownBlock with _ | k
      · exact .inr rfl
      · left
        rw [e]
        intro e2
        injection e2 with e2
        have := (tw_lt h.two k hub).2
        omega
  · intro b j hb hk
    refine World.cell?_of_block (a := ⟨b, j, none⟩) (hgrow.block b hb (fun e => ?_))
    exact hk b e.symm rfl
end
theorem Gr.onB {g : Nat} {W a b : World} (h : Gr g W a) (k : Below W.heap.size a b) : Gr g W b :=
  ⟨k.os.trans (World.grownBy.os h), k.tape.trans (World.grownBy.tape h), k.output.trans (World.grownBy.output h), Nat.le_trans h.size k.size, fun i hi hne => (k.block i hi).trans (World.grownBy.block h i hi hne)⟩
theorem tw_at {w : World} {G : Nat} {v : Value} {t : TypeId} (h : w.heap.size = G) : (w.alloc (.cells #[v] t)).cell? ⟨G, 0, none⟩ = some v := by subst h; simp
theorem two_start (w : World) : Two w.heap.size ((w.alloc (.cells #[] 2)).alloc (.cells #[] 2)) (.slice (some ⟨w.heap.size, 0, none⟩) 0 0) (.slice (some ⟨w.heap.size + 1, 0, none⟩) 0 0) [] [] := by
  have h1 := own_empty w 2
  have h2 := own_empty (w.alloc (.cells #[] 2)) 2
  have s1 : (w.alloc (.cells #[] 2)).heap.size = w.heap.size + 1 := by simp
  rw [s1] at h2
  exact ⟨own_below h1 ((Below.refl _ _).alloc (Nat.le_refl _) _), tw_mono h2 (by omega), .inl (by simp [Value.ownBlock])⟩
/-- an append to the first of two lists -/
theorem wpList_two {ops : Array Oper} {rest : List Oper} {o : Oper} {a : Act} {w : World} {Q : Exit → Act → World → Prop} (hgd : o.guard = none) (s x : Operand)
    (ho : o.op = .call { callee := .builtin .append, args := #[s, x], argTypes := #[39, 39] })
    {B : Nat} {v u : Value} {xs ys : List Int} (hs : a.eval s = v) (H : Two B w v u xs ys) (G c : Nat) (hx : a.eval x = .slice (some ⟨G, 0, none⟩) 1 c) (y : Int) (hc : w.cell? ⟨G, 0, none⟩ = some (.int .i64 y)) (hn : xs.length ≤ 4194304) (hB : B ≤ w.heap.size)
    (h : ∀ v' w', (Two B w' v' u (xs ++ [y]) ys ∧ Below B w w' ∧ ∀ b j, b < w.heap.size → (∀ k, v.ownBlock = some k → ¬ k = b) → w'.cell? ⟨b, j, none⟩ = w.cell? ⟨b, j, none⟩) → wpList Tryd.prog ops Q rest (a.put o.dst v') w') :
    wpList Tryd.prog ops Q (o :: rest) a w := by
  obtain ⟨i0, hi, hz0, hz1, hz2⟩ := info_parts infoI64
  refine wpList_append_own_at w hgd s x 39 ho B 2 i0 (.int .i64 0) 1 8 Tryd.underlying39 hi hz0 hz1 hz2 rfl (by decide) v xs.length _ hs H.one ⟨G, 0, none⟩ 1 c [.int .i64 y] hx rfl ?_ (by intro z hz; simp only [List.mem_cons, List.not_mem_nil, or_false] at hz; subst hz; rfl) (by unfold maxLen; omega) (by omega) hB ?_
  · intro j z hz
    match j, hz with
    | 0, hz => simp at hz; subst hz; simpa [Addr.add] using hc
    | j + 1, hz => simp at hz
  · intro v' w' h1 h2 _ h3
    exact h v' w' (H.push hB h1 h2 h3)
/-- the same, where a region draws its order -/
theorem two_step {ops : Array Oper} {o : Oper} {a : Act} {w : World} {K : Act → World → Prop} {Q : Exit → Act → World → Prop} {E : Prop} (hgd : o.guard = none) (s x : Operand)
    (ho : o.op = .call { callee := .builtin .append, args := #[s, x], argTypes := #[39, 39] })
    {B : Nat} {v u : Value} {xs ys : List Int} (hs : a.eval s = v) (H : Two B w v u xs ys) (G c : Nat) (hx : a.eval x = .slice (some ⟨G, 0, none⟩) 1 c) (y : Int) (hc : w.cell? ⟨G, 0, none⟩ = some (.int .i64 y)) (hn : xs.length ≤ 4194304) (hB : B ≤ w.heap.size)
    (h : ∀ v' w', (Two B w' v' u (xs ++ [y]) ys ∧ Below B w w' ∧ ∀ b j, b < w.heap.size → (∀ k, v.ownBlock = some k → ¬ k = b) → w'.cell? ⟨b, j, none⟩ = w.cell? ⟨b, j, none⟩) → K (a.put o.dst v') w') :
    if Region.wanted o (yielded ops a.tmps) = true then Oper.wp Tryd.prog o a w K Q else E := by
  obtain ⟨i0, hi, hz0, hz1, hz2⟩ := info_parts infoI64
  have hw : Region.wanted o (yielded ops a.tmps) = true := by simp [Region.wanted, hgd]
  rw [if_pos hw]
  obtain ⟨v', w', hrun, h2, h3, _, h5⟩ := run_append_own_at (P := Tryd.prog) w B 39 o.type 2 i0 (.int .i64 0) 1 8 Tryd.underlying39 hi hz0 hz1 hz2 rfl (by decide) v xs.length _ H.one ⟨G, 0, none⟩ 1 c [.int .i64 y] rfl (by
      intro j z hz
      match j, hz with
      | 0, hz => simp at hz; subst hz; simpa [Addr.add] using hc
      | j + 1, hz => simp at hz) (by intro z hz; simp only [List.mem_cons, List.not_mem_nil, or_false] at hz; subst hz; rfl) (by unfold maxLen; omega) (by omega) hB
  unfold Oper.wp execOp
  simp only [ho, resolve, invoke, builtin, Sem.run_bind, Sem.run_pure, Result.andThen_ok, List.map_toArray, List.map_cons, List.map_nil, hs, hx, hrun]
  exact h v' w' (H.push hB h2 h3 h5)
/-- a box of two cells -/
def Box2 (V : World) (b : Nat) (v u : Value) : Prop := (V.cell? ⟨b, 0, none⟩ = some v ∧ V.cell? ⟨b, 1, none⟩ = some u) ∧ V.frozen? ⟨b, 0, none⟩ = false ∧ V.frozen? ⟨b, 1, none⟩ = false
section
variable {V V' : World} {b g : Nat} {v u : Value}
theorem Box2.keep (h : Box2 V b v u) (hc : ∀ o, V'.cell? ⟨b, o, none⟩ = V.cell? ⟨b, o, none⟩) (hf : ∀ o, V'.frozen? ⟨b, o, none⟩ = V.frozen? ⟨b, o, none⟩) : Box2 V' b v u :=
  ⟨⟨(hc 0).trans h.1.1, (hc 1).trans h.1.2⟩, (hf 0).trans h.2.1, (hf 1).trans h.2.2⟩
theorem Box2.below {B : Nat} (h : Box2 V b v u) (hb : Below B V V') (hl : b < B) : Box2 V' b v u := h.keep (fun o => hb.cell (p := ⟨b, o, none⟩) hl) (fun o => hb.frozen (p := ⟨b, o, none⟩) hl)
theorem Box2.gr (h : Box2 V b v u) (hG : Gr g V V') (hl : b < V.heap.size) (hne : ¬ b = g) : Box2 V' b v u := h.keep (fun o => hG.cell b o hl hne) (fun o => hG.frozen b o hl hne)
theorem Box2.alloc (h : Box2 V b v u) (hl : b < V.heap.size) (o : Obj) : Box2 (V.alloc o) b v u := h.below ((Below.refl _ _).alloc (Nat.le_refl _) o) hl
theorem Box2.new {t : TypeId} (h : V.heap.size = b) : Box2 (V.alloc (.cells #[v, u] t)) b v u := by
  subst h
  refine ⟨⟨?_, ?_⟩, ?_, ?_⟩ <;> go_simp
theorem Box2.far {b' o : Nat} {z : Value} (h : Box2 V b v u) (hne : ¬ b = b') : Box2 (V.setCell ⟨b', o, none⟩ z) b v u :=
  h.keep (fun o => World.cell?_setCell_other _ _ _ _ (fun e => hne (by injection e with e1 _; exact e1.symm))) (fun o => by simp)
theorem Box2.set0 {z : Value} (h : Box2 V b v u) : Box2 (V.setCell ⟨b, 0, none⟩ z) b z u := by
  obtain ⟨⟨h0, h1⟩, f0, f1⟩ := h
  refine ⟨⟨?_, ?_⟩, ?_, ?_⟩ <;> go_simp
theorem Box2.set1 {z : Value} (h : Box2 V b v u) : Box2 (V.setCell ⟨b, 1, none⟩ z) b v z := by
  obtain ⟨⟨h0, h1⟩, f0, f1⟩ := h
  refine ⟨⟨?_, ?_⟩, ?_, ?_⟩ <;> go_simp
theorem Box2.lt (h : Box2 V b v u) : b < V.heap.size := World.block_lt_of_cell? V ⟨b, 0, none⟩ h.1.1
end
end Go.Proofs.YtgnpbgknmapejaaDoor
