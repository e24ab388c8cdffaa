/- Quotients of intervals: contracts. -/
import Derived.Test.YtincelkcbdjcjaaProd
import Derived.Test.YtincelkcbdjcjaaCopy
import Derived.Maps.AppendAt
namespace Go.Proofs.Ytincelkcbdjcjaa
open Go.RowKit
set_option linter.unusedVariables false

theorem qn_base {w : World} {B : Nat} {e : TypeId} {s : Nat} {v : Value} {n : Nat} {xs : List Value} (h : w.ownsRow B e s v n xs) : ∀ k, v.ownBlock = some k → B ≤ k ∧ k < w.heap.size := by
  intro k hk
  rcases h.2 with ⟨rfl, _⟩ | ⟨g, cap, cur, rfl, hb, hg, _⟩
  · cases hk
  · simp [Value.ownBlock] at hk
    have := lt_of_block hg
    omega
theorem qn_keep {w w' : World} {B : Nat} {e : TypeId} {s : Nat} {v : Value} {n : Nat} {xs : List Value} {r : Option Nat} (h : w.ownsRow B e s v n xs) (hb : w.grownBy w' r) (hr : v.ownBlock ≠ r) : w'.ownsRow B e s v n xs := by
  refine ⟨h.1, ?_⟩
  rcases h.2 with h2 | ⟨g, cap, cur, rfl, hB, hg, q⟩
  · exact .inl h2
  · exact .inr ⟨g, cap, cur, rfl, hB, (hb.block g (lt_of_block hg) (fun e => hr (by rw [← e]; rfl))).trans hg, q⟩
theorem qn_slice {w : World} {B : Nat} {e : TypeId} {s : Nat} {v : Value} {n : Nat} {xs : List Value} (h : w.ownsRow B e s v n xs) : ∃ A c, v = .slice A n c := by
  rcases h.2 with ⟨rfl, rfl⟩ | ⟨g, cap, cur, rfl, _⟩
  · exact ⟨_, _, rfl⟩
  · exact ⟨_, _, rfl⟩
/-- Two lists that are being appended to, in rows of their own, apart from the blocks bs. -/
structure Rows2 (B : Nat) (w : World) (v u : Value) (xs ys : List Int) (bs : List Nat) : Prop where
  one : w.ownsRow B 2 1 v xs.length (xs.map (Value.int .i64))
  two : w.ownsRow B 2 1 u ys.length (ys.map (Value.int .i64))
  ne : v.ownBlock ≠ u.ownBlock ∨ u.ownBlock = none
  out : ∀ b ∈ bs, v.ownBlock ≠ some b ∧ u.ownBlock ≠ some b ∧ b < w.heap.size
theorem Rows2.alloc_ {B : Nat} {w : World} {v u : Value} {xs ys : List Int} {bs : List Nat} (h : Rows2 B w v u xs ys bs) (o : Obj) : Rows2 B (w.alloc o) v u xs ys (w.heap.size :: bs) := by
  refine ⟨h.one.alloc _, h.two.alloc _, h.ne, ?_⟩
  intro b hb
  rcases List.mem_cons.1 hb with rfl | hb
  · refine ⟨fun e => ?_, fun e => ?_, by simp⟩
    · have := qn_base h.one _ e; omega
    · have := qn_base h.two _ e; omega
  · obtain ⟨h1, h2, h3⟩ := h.out b hb
    exact ⟨h1, h2, by simp; omega⟩
theorem Rows2.less {B : Nat} {w : World} {v u : Value} {xs ys : List Int} {b : Nat} {bs : List Nat} (h : Rows2 B w v u xs ys (b :: bs)) : Rows2 B w v u xs ys bs := ⟨h.one, h.two, h.ne, fun c hc => h.out c (List.mem_cons_of_mem _ hc)⟩
theorem Rows2.swap {B : Nat} {w : World} {v u : Value} {xs ys : List Int} {bs : List Nat} (h : Rows2 B w v u xs ys bs) : Rows2 B w u v ys xs bs := by
  refine ⟨h.two, h.one, ?_, fun b hb => ⟨(h.out b hb).2.1, (h.out b hb).1, (h.out b hb).2.2⟩⟩
  rcases h.ne with e | e
  · exact .inl (Ne.symm e)
  · rcases hv : v.ownBlock with _ | k
    · exact .inr rfl
    · exact .inl (by rw [e]; simp)
theorem Rows2.push {B : Nat} {w w' : World} {v v' u : Value} {xs ys : List Int} {bs : List Nat} {o : Obj} {x : Int} (h : Rows2 B w v u xs ys bs) (hB : B ≤ w.heap.size)
    (hown : w'.ownsRow B 2 1 v' (xs.length + 1) (xs.map (Value.int .i64) ++ [.int .i64 x])) (hgrow : (w.alloc o).grownBy w' v.ownBlock) (hloc : v'.ownBlock = v.ownBlock ∨ v'.ownBlock = some (w.alloc o).heap.size) :
    Rows2 B w' v' u (xs ++ [x]) ys bs ∧ (∀ b ∈ bs, ∀ j, w'.cell? ⟨b, j, none⟩ = w.cell? ⟨b, j, none⟩) ∧ w.heap.size ≤ w'.heap.size ∧ ∀ W : World, Below B W w → Below B W w' := by
  have hs := hgrow.size
  simp at hs
  have hal : ∀ k, k < w.heap.size → some k ≠ v.ownBlock → w'.heap[k]? = w.heap[k]? := fun k hk hne => by
    have e1 := hgrow.block k (by simp; omega) hne
    have e2 : (w.alloc o).heap[k]? = w.heap[k]? := by
      show (w.heap.push o)[k]? = _
      rw [Array.getElem?_push]
      simp [show ¬ k = w.heap.size by omega]
    exact e1.trans e2
  have hu : u.ownBlock ≠ v.ownBlock ∨ u.ownBlock = none := by
    rcases h.ne with e | e
    · exact .inl (Ne.symm e)
    · exact .inr e
  refine ⟨⟨by simpa using hown, ?_, ?_, ?_⟩, ?_, by omega, ?_⟩
  · rcases hu with e | e
    · exact qn_keep (h.two.alloc o) hgrow e
    · refine ⟨h.two.1, ?_⟩
      rcases h.two.2 with h2 | ⟨g, cap, cur, rfl, _⟩
      · exact .inl h2
      · cases e
  · rcases hloc with e | e
    · rw [e]; exact h.ne
    · rcases hub : u.ownBlock with _ | k
      · exact .inr rfl
      · left
        rw [e]
        intro e2
        injection e2 with e2
        have := (qn_base h.two k hub).2
        simp at e2
        omega
  · intro b hb
    obtain ⟨h1, h2, h3⟩ := h.out b hb
    refine ⟨?_, h2, by omega⟩
    rcases hloc with e | e
    · rw [e]; exact h1
    · rw [e]; intro e2; injection e2 with e2; simp at e2; omega
  · intro b hb j
    obtain ⟨h1, h2, h3⟩ := h.out b hb
    exact World.cell?_of_block (a := ⟨b, j, none⟩) (hal b h3 (Ne.symm h1))
  · intro W hW
    refine hW.trans ⟨hgrow.os, hgrow.tape, hgrow.output, by omega, fun k hk => hal k (by omega) (fun e => ?_)⟩
    have := (qn_base h.one k e.symm).1
    omega
theorem al_new (w : World) (o : Obj) : (w.alloc o).heap[w.heap.size]? = some o := (Array.getElem?_push_size : (w.heap.push o)[w.heap.size]? = some o)
theorem al_old (w : World) (o : Obj) {k : Nat} (h : k < w.heap.size) : (w.alloc o).heap[k]? = w.heap[k]? := by
  show (w.heap.push o)[k]? = _
  rw [Array.getElem?_push]
  simp [show ¬ k = w.heap.size by omega]
theorem rows2_start (w : World) (o : Obj) : Rows2 w.heap.size (((w.alloc (.cells #[] 2)).alloc (.cells #[] 2)).alloc o) (.slice (some ⟨w.heap.size, 0, none⟩) 0 0) (.slice (some ⟨w.heap.size + 1, 0, none⟩) 0 0) [] [] [w.heap.size + 1 + 1] := by
  have e1 := al_new w (.cells #[] 2)
  have e2 := al_new (w.alloc (.cells #[] 2)) (.cells #[] 2)
  have s1 : (w.alloc (.cells #[] 2)).heap.size = w.heap.size + 1 := by simp
  have s2 : ((w.alloc (.cells #[] 2)).alloc (.cells #[] 2)).heap.size = w.heap.size + 1 + 1 := by simp
  rw [s1] at e2
  refine ⟨⟨rfl, .inr ⟨w.heap.size, 0, #[], rfl, Nat.le_refl _, ?_, Nat.le_refl _, by unfold maxLen; omega, rfl, rfl⟩⟩, ⟨rfl, .inr ⟨w.heap.size + 1, 0, #[], rfl, by omega, ?_, Nat.le_refl _, by unfold maxLen; omega, rfl, rfl⟩⟩, .inl (by simp [Value.ownBlock]), ?_⟩
  · rw [al_old _ _ (by omega), al_old _ _ (by omega)]; exact e1
  · rw [al_old _ _ (by omega)]; exact e2
  · intro b hb
    have hb := List.mem_singleton.1 hb
    subst hb
    refine ⟨?_, ?_, ?_⟩
    · intro e; injection e with e; simp at e; omega
    · intro e; injection e with e; simp at e
    · simp

theorem fld0 (p q : Int) (w : World) : Sem.run Try.prog (Instr.field 40 (.agg #[.int .i64 p, .int .i64 q]) 0) w = .ok (.int .i64 p) w := by kernel_rfl
theorem fld1 (p q : Int) (w : World) : Sem.run Try.prog (Instr.field 40 (.agg #[.int .i64 p, .int .i64 q]) 1) w = .ok (.int .i64 q) w := by kernel_rfl
def loQ (a b c d : Int) : Nat → List Int
  | 0 => []
  | 1 => [flo a c, flo a d]
  | _ => [flo a c, flo a d, flo b c, flo b d]
def hiQ (a b c d : Int) : Nat → List Int
  | 0 => []
  | 1 => [cel a c, cel a d]
  | _ => [cel a c, cel a d, cel b c, cel b d]
theorem loQ_len (a b c d : Int) (k : Nat) : (loQ a b c d k).length ≤ 4 ∧ (hiQ a b c d k).length ≤ 4 := by unfold loQ hiQ; split <;> simp
theorem qnZ_no {c d : Int} (h : qnZ c d = false) (k : c ≤ d) : (¬ c ≤ 0 ∨ (c ≤ 0 ∧ ¬ 0 ≤ d)) ∧ ¬ c = 0 ∧ ¬ d = 0 := by
  simp [qnZ] at h
  omega
theorem two_le {a : List Int} {k m : Nat} {x y : Int} (h : a.length ≤ k) : (a ++ [x, y].take m).length ≤ k + 2 := by
  simp; omega

theorem floQ (a b : Int) (w : World) (h : -9000000000000000000 ≤ a) (h' : a ≤ 9000000000000000000) (hb : ¬ b = 0) : Calls Try.prog 93 #[.int .i64 a, .int .i64 b] w fun e w' => e = .returned (.int .i64 (flo a b)) ∧ w' = w :=
  (floS a b w h h' hb).mono (by rintro e w' ⟨rfl, rfl⟩; exact ⟨rfl, rfl⟩)
theorem celQ (a b : Int) (w : World) (h : -9000000000000000000 ≤ a) (h' : a ≤ 9000000000000000000) (hb : ¬ b = 0) : Calls Try.prog 94 #[.int .i64 a, .int .i64 b] w fun e w' => e = .returned (.int .i64 (cel a b)) ∧ w' = w :=
  (celS a b w h h' hb).mono (by rintro e w' ⟨rfl, rfl⟩; exact ⟨rfl, rfl⟩)
set_option maxHeartbeats 1600000 in
set_option maxRecDepth 20000 in
theorem quoS (a b c d : Int) (w : World) : Calls Try.prog 44 #[.agg #[.int .i64 a, .int .i64 b], .agg #[.int .i64 c, .int .i64 d]] w fun e w' => e = .returned (.tuple #[.agg #[.int .i64 (qnL a b c d), .int .i64 (qnH a b c d)], .int .i64 (qnC a b c d)]) ∧ Below w.heap.size w w' := by
  rcases q1 : isIv a b
  · have k0 : iv2 a b c d = false := by simp [iv2, q1]
    go_enter Try.func44, Try.ntmps44
    go_wp2_with (first | (go_at_call 89; refine (isIvS _ _ _).mono ?_; rintro e w1 ⟨rfl, hb1⟩; obtain ⟨hc1, hf1⟩ := bcell hb1; have hs1 := hb1.size; (try simp at hs1); (try have hl1 := Nat.lt_of_succ_le hs1); (try have hz10 : w.heap.size < w1.heap.size := (by have := hb1.size; (try simp at this); omega)); (try have hn10 : ¬ w.heap.size = w1.heap.size := (by omega)); (try have hm10 : ¬ w1.heap.size = w.heap.size := (by omega)); (try have hz11 : w.heap.size + 1 < w1.heap.size := (by have := hb1.size; (try simp at this); omega)); (try have hn11 : ¬ w.heap.size + 1 = w1.heap.size := (by omega)); (try have hm11 : ¬ w1.heap.size = w.heap.size + 1 := (by omega)); (try have hz12 : w.heap.size + 1 + 1 < w1.heap.size := (by have := hb1.size; (try simp at this); omega)); (try have hn12 : ¬ w.heap.size + 1 + 1 = w1.heap.size := (by omega)); (try have hm12 : ¬ w1.heap.size = w.heap.size + 1 + 1 := (by omega)); (try have c100 := hc1 (w.heap.size) 0 (by first | omega | (simp; done) | (simp; omega))); (try have f100 := hf1 (w.heap.size) 0 (by first | omega | (simp; done) | (simp; omega))); (try have c101 := hc1 (w.heap.size) 1 (by first | omega | (simp; done) | (simp; omega))); (try have f101 := hf1 (w.heap.size) 1 (by first | omega | (simp; done) | (simp; omega))); (try have c110 := hc1 (w.heap.size + 1) 0 (by first | omega | (simp; done) | (simp; omega))); (try have f110 := hf1 (w.heap.size + 1) 0 (by first | omega | (simp; done) | (simp; omega))); (try have c111 := hc1 (w.heap.size + 1) 1 (by first | omega | (simp; done) | (simp; omega))); (try have f111 := hf1 (w.heap.size + 1) 1 (by first | omega | (simp; done) | (simp; omega))); (try have c120 := hc1 (w.heap.size + 1 + 1) 0 (by first | omega | (simp; done) | (simp; omega))); (try have f120 := hf1 (w.heap.size + 1 + 1) 0 (by first | omega | (simp; done) | (simp; omega))); (try have c121 := hc1 (w.heap.size + 1 + 1) 1 (by first | omega | (simp; done) | (simp; omega))); (try have f121 := hf1 (w.heap.size + 1 + 1) 1 (by first | omega | (simp; done) | (simp; omega))); (try have d120 := hc1 (w.heap.size + 2) 0 (by first | omega | (simp; done) | (simp; omega))); (try have g120 := hf1 (w.heap.size + 2) 0 (by first | omega | (simp; done) | (simp; omega))); (try have d121 := hc1 (w.heap.size + 2) 1 (by first | omega | (simp; done) | (simp; omega))); (try have g121 := hf1 (w.heap.size + 2) 1 (by first | omega | (simp; done) | (simp; omega)))))
    first | go_ret2 | (refine bodyPost_ret (by simp [results, Try.results44, go_sem, *]; try rfl) rfl ?_)
    exact ⟨by simp [qnL, qnH, qnC, qnOk, k0], by (repeat' (first | (with_reducible exact Below.refl _ _) | (with_reducible assumption) | (with_reducible refine bStep ?_ (by with_reducible assumption)) | (with_reducible refine bAlloc ?_ _) | (with_reducible refine bDrew ?_) | (with_reducible refine bDrewN ?_ _) | (with_reducible refine Below.setCell ?_ ?_ _) | (with_reducible exact Nat.le_refl _) | (simp; done) | (simp; omega)))⟩
  rcases q2 : isIv c d
  · have k0 : iv2 a b c d = false := by simp [iv2, q2]
    go_enter Try.func44, Try.ntmps44
    go_wp2_with (first | (go_at_call 89; refine (isIvS _ _ _).mono ?_; rintro e w1 ⟨rfl, hb1⟩; obtain ⟨hc1, hf1⟩ := bcell hb1; have hs1 := hb1.size; (try simp at hs1); (try have hl1 := Nat.lt_of_succ_le hs1); (try have hz10 : w.heap.size < w1.heap.size := (by have := hb1.size; (try simp at this); omega)); (try have hn10 : ¬ w.heap.size = w1.heap.size := (by omega)); (try have hm10 : ¬ w1.heap.size = w.heap.size := (by omega)); (try have hz11 : w.heap.size + 1 < w1.heap.size := (by have := hb1.size; (try simp at this); omega)); (try have hn11 : ¬ w.heap.size + 1 = w1.heap.size := (by omega)); (try have hm11 : ¬ w1.heap.size = w.heap.size + 1 := (by omega)); (try have hz12 : w.heap.size + 1 + 1 < w1.heap.size := (by have := hb1.size; (try simp at this); omega)); (try have hn12 : ¬ w.heap.size + 1 + 1 = w1.heap.size := (by omega)); (try have hm12 : ¬ w1.heap.size = w.heap.size + 1 + 1 := (by omega)); (try have c100 := hc1 (w.heap.size) 0 (by first | omega | (simp; done) | (simp; omega))); (try have f100 := hf1 (w.heap.size) 0 (by first | omega | (simp; done) | (simp; omega))); (try have c101 := hc1 (w.heap.size) 1 (by first | omega | (simp; done) | (simp; omega))); (try have f101 := hf1 (w.heap.size) 1 (by first | omega | (simp; done) | (simp; omega))); (try have c110 := hc1 (w.heap.size + 1) 0 (by first | omega | (simp; done) | (simp; omega))); (try have f110 := hf1 (w.heap.size + 1) 0 (by first | omega | (simp; done) | (simp; omega))); (try have c111 := hc1 (w.heap.size + 1) 1 (by first | omega | (simp; done) | (simp; omega))); (try have f111 := hf1 (w.heap.size + 1) 1 (by first | omega | (simp; done) | (simp; omega))); (try have c120 := hc1 (w.heap.size + 1 + 1) 0 (by first | omega | (simp; done) | (simp; omega))); (try have f120 := hf1 (w.heap.size + 1 + 1) 0 (by first | omega | (simp; done) | (simp; omega))); (try have c121 := hc1 (w.heap.size + 1 + 1) 1 (by first | omega | (simp; done) | (simp; omega))); (try have f121 := hf1 (w.heap.size + 1 + 1) 1 (by first | omega | (simp; done) | (simp; omega))); (try have d120 := hc1 (w.heap.size + 2) 0 (by first | omega | (simp; done) | (simp; omega))); (try have g120 := hf1 (w.heap.size + 2) 0 (by first | omega | (simp; done) | (simp; omega))); (try have d121 := hc1 (w.heap.size + 2) 1 (by first | omega | (simp; done) | (simp; omega))); (try have g121 := hf1 (w.heap.size + 2) 1 (by first | omega | (simp; done) | (simp; omega)))))
    first | go_ret2 | (refine bodyPost_ret (by simp [results, Try.results44, go_sem, *]; try rfl) rfl ?_)
    exact ⟨by simp [qnL, qnH, qnC, qnOk, k0], by (repeat' (first | (with_reducible exact Below.refl _ _) | (with_reducible assumption) | (with_reducible refine bStep ?_ (by with_reducible assumption)) | (with_reducible refine bAlloc ?_ _) | (with_reducible refine bDrew ?_) | (with_reducible refine bDrewN ?_ _) | (with_reducible refine Below.setCell ?_ ?_ _) | (with_reducible exact Nat.le_refl _) | (simp; done) | (simp; omega)))⟩
  have k0 : iv2 a b c d = true := by simp [iv2, q1, q2]
  have B1 := isIv_bdp q1
  have B2 := isIv_bdp q2
  have K0 := Lib.hid k0
  rcases qz : qnZ c d
  case true =>
    have QZ := Lib.hid qz
    have hz : c ≤ 0 ∧ 0 ≤ d := by simpa [qnZ] using qz
    obtain ⟨hz1, hz2⟩ := hz
    go_enter Try.func44, Try.ntmps44
    go_wp2_with (first | (go_at_call 89; refine (isIvS _ _ _).mono ?_; rintro e w1 ⟨rfl, hb1⟩; obtain ⟨hc1, hf1⟩ := bcell hb1; have hs1 := hb1.size; (try simp at hs1); (try have hl1 := Nat.lt_of_succ_le hs1); (try have hz10 : w.heap.size < w1.heap.size := (by have := hb1.size; (try simp at this); omega)); (try have hn10 : ¬ w.heap.size = w1.heap.size := (by omega)); (try have hm10 : ¬ w1.heap.size = w.heap.size := (by omega)); (try have hz11 : w.heap.size + 1 < w1.heap.size := (by have := hb1.size; (try simp at this); omega)); (try have hn11 : ¬ w.heap.size + 1 = w1.heap.size := (by omega)); (try have hm11 : ¬ w1.heap.size = w.heap.size + 1 := (by omega)); (try have hz12 : w.heap.size + 1 + 1 < w1.heap.size := (by have := hb1.size; (try simp at this); omega)); (try have hn12 : ¬ w.heap.size + 1 + 1 = w1.heap.size := (by omega)); (try have hm12 : ¬ w1.heap.size = w.heap.size + 1 + 1 := (by omega)); (try have c100 := hc1 (w.heap.size) 0 (by first | omega | (simp; done) | (simp; omega))); (try have f100 := hf1 (w.heap.size) 0 (by first | omega | (simp; done) | (simp; omega))); (try have c101 := hc1 (w.heap.size) 1 (by first | omega | (simp; done) | (simp; omega))); (try have f101 := hf1 (w.heap.size) 1 (by first | omega | (simp; done) | (simp; omega))); (try have c110 := hc1 (w.heap.size + 1) 0 (by first | omega | (simp; done) | (simp; omega))); (try have f110 := hf1 (w.heap.size + 1) 0 (by first | omega | (simp; done) | (simp; omega))); (try have c111 := hc1 (w.heap.size + 1) 1 (by first | omega | (simp; done) | (simp; omega))); (try have f111 := hf1 (w.heap.size + 1) 1 (by first | omega | (simp; done) | (simp; omega))); (try have c120 := hc1 (w.heap.size + 1 + 1) 0 (by first | omega | (simp; done) | (simp; omega))); (try have f120 := hf1 (w.heap.size + 1 + 1) 0 (by first | omega | (simp; done) | (simp; omega))); (try have c121 := hc1 (w.heap.size + 1 + 1) 1 (by first | omega | (simp; done) | (simp; omega))); (try have f121 := hf1 (w.heap.size + 1 + 1) 1 (by first | omega | (simp; done) | (simp; omega))); (try have d120 := hc1 (w.heap.size + 2) 0 (by first | omega | (simp; done) | (simp; omega))); (try have g120 := hf1 (w.heap.size + 2) 0 (by first | omega | (simp; done) | (simp; omega))); (try have d121 := hc1 (w.heap.size + 2) 1 (by first | omega | (simp; done) | (simp; omega))); (try have g121 := hf1 (w.heap.size + 2) 1 (by first | omega | (simp; done) | (simp; omega)))))
    first | go_ret2 | (refine bodyPost_ret (by simp [results, Try.results44, go_sem, *]; try rfl) rfl ?_)
    exact ⟨by simp [qnL, qnH, qnC, qnOk, K0.out, QZ.out], by (repeat' (first | (with_reducible exact Below.refl _ _) | (with_reducible assumption) | (with_reducible refine bStep ?_ (by with_reducible assumption)) | (with_reducible refine bAlloc ?_ _) | (with_reducible refine bDrew ?_) | (with_reducible refine bDrewN ?_ _) | (with_reducible refine Below.setCell ?_ ?_ _) | (with_reducible exact Nat.le_refl _) | (simp; done) | (simp; omega)))⟩
  have QZ := Lib.hid qz
  obtain ⟨hcd, hc0, hd0⟩ := qnZ_no qz B2.2.2
  clear k0
  obtain ⟨p, hp⟩ : ∃ p, flo a c = p := ⟨_, rfl⟩
  obtain ⟨q, hq⟩ : ∃ q, flo a d = q := ⟨_, rfl⟩
  obtain ⟨r, hr⟩ : ∃ r, flo b c = r := ⟨_, rfl⟩
  obtain ⟨s, hs⟩ : ∃ s, flo b d = s := ⟨_, rfl⟩
  obtain ⟨p2, hp2⟩ : ∃ p, cel a c = p := ⟨_, rfl⟩
  obtain ⟨q2, hq2⟩ : ∃ q, cel a d = q := ⟨_, rfl⟩
  obtain ⟨r2, hr2⟩ : ∃ r, cel b c = r := ⟨_, rfl⟩
  obtain ⟨s2, hs2⟩ : ∃ s, cel b d = s := ⟨_, rfl⟩
  have bp : -1000000000000 ≤ p ∧ p ≤ 1000000000000 := by
    have := flo_tight (a := a) (b := c) hc0 (k := 1000000000000) (by omega)
    rw [hp] at this
    omega
  have bq : -1000000000000 ≤ q ∧ q ≤ 1000000000000 := by
    have := flo_tight (a := a) (b := d) hd0 (k := 1000000000000) (by omega)
    rw [hq] at this
    omega
  have br : -1000000000000 ≤ r ∧ r ≤ 1000000000000 := by
    have := flo_tight (a := b) (b := c) hc0 (k := 1000000000000) (by omega)
    rw [hr] at this
    omega
  have bs : -1000000000000 ≤ s ∧ s ≤ 1000000000000 := by
    have := flo_tight (a := b) (b := d) hd0 (k := 1000000000000) (by omega)
    rw [hs] at this
    omega
  have bp2 : -1000000000000 ≤ p2 ∧ p2 ≤ 1000000000000 := by
    have := cel_tight (a := a) (b := c) hc0 (k := 1000000000000) (by omega)
    rw [hp2] at this
    omega
  have bq2 : -1000000000000 ≤ q2 ∧ q2 ≤ 1000000000000 := by
    have := cel_tight (a := a) (b := d) hd0 (k := 1000000000000) (by omega)
    rw [hq2] at this
    omega
  have br2 : -1000000000000 ≤ r2 ∧ r2 ≤ 1000000000000 := by
    have := cel_tight (a := b) (b := c) hc0 (k := 1000000000000) (by omega)
    rw [hr2] at this
    omega
  have bs2 : -1000000000000 ≤ s2 ∧ s2 ≤ 1000000000000 := by
    have := cel_tight (a := b) (b := d) hd0 (k := 1000000000000) (by omega)
    rw [hs2] at this
    omega
  obtain ⟨m, hm⟩ : ∃ m, mn4 p q r s = m := ⟨_, rfl⟩
  obtain ⟨t, ht⟩ : ∃ t, mx4 p2 q2 r2 s2 = t := ⟨_, rfl⟩
  have VA : Hid (mn4 (flo a c) (flo a d) (flo b c) (flo b d) = m) := by rw [hp, hq, hr, hs]; exact hm
  have VB : Hid (mx4 (cel a c) (cel a d) (cel b c) (cel b d) = t) := by rw [hp2, hq2, hr2, hs2]; exact ht
  have RS : Hid (rsL m t = m ∧ rsH m t = t ∧ rsC m t 2 = 0) := by
    have h1 := (mn4_of hm).1
    have h2 := (mx4_of ht).1
    exact res_small (by omega) (by omega) 2
  have R1 : ∀ (w : World) (ts : Array TypeId) (t : TypeId), Sem.run Try.prog (Builtin.min_ ts t #[.int .i64 (flo a c), .int .i64 (flo a d), .int .i64 (flo b c), .int .i64 (flo b d)]) w = .ok (.int .i64 m) w := fun w ts t => by rw [run_min4, VA.out]
  have R2 : ∀ (w : World) (ts : Array TypeId) (t' : TypeId), Sem.run Try.prog (Builtin.max_ ts t' #[.int .i64 (cel a c), .int .i64 (cel a d), .int .i64 (cel b c), .int .i64 (cel b d)]) w = .ok (.int .i64 t) w := fun w ts t' => by rw [run_max4, VB.out]
  clear hp hq hr hs hp2 hq2 hr2 hs2 hm ht
  rcases hcd with hcd | ⟨hcd, hdd⟩
  · go_enter Try.func44, Try.ntmps44
    go_wp2_with (first | (go_at_call 89; refine (isIvS _ _ _).mono ?_; rintro e w1 ⟨rfl, hb1⟩; obtain ⟨hc1, hf1⟩ := bcell hb1; have hs1 := hb1.size; (try simp at hs1); (try have hl1 := Nat.lt_of_succ_le hs1); (try have hz10 : w.heap.size < w1.heap.size := (by have := hb1.size; (try simp at this); omega)); (try have hn10 : ¬ w.heap.size = w1.heap.size := (by omega)); (try have hm10 : ¬ w1.heap.size = w.heap.size := (by omega)); (try have hz11 : w.heap.size + 1 < w1.heap.size := (by have := hb1.size; (try simp at this); omega)); (try have hn11 : ¬ w.heap.size + 1 = w1.heap.size := (by omega)); (try have hm11 : ¬ w1.heap.size = w.heap.size + 1 := (by omega)); (try have hz12 : w.heap.size + 1 + 1 < w1.heap.size := (by have := hb1.size; (try simp at this); omega)); (try have hn12 : ¬ w.heap.size + 1 + 1 = w1.heap.size := (by omega)); (try have hm12 : ¬ w1.heap.size = w.heap.size + 1 + 1 := (by omega)); (try have c100 := hc1 (w.heap.size) 0 (by first | omega | (simp; done) | (simp; omega))); (try have f100 := hf1 (w.heap.size) 0 (by first | omega | (simp; done) | (simp; omega))); (try have c101 := hc1 (w.heap.size) 1 (by first | omega | (simp; done) | (simp; omega))); (try have f101 := hf1 (w.heap.size) 1 (by first | omega | (simp; done) | (simp; omega))); (try have c110 := hc1 (w.heap.size + 1) 0 (by first | omega | (simp; done) | (simp; omega))); (try have f110 := hf1 (w.heap.size + 1) 0 (by first | omega | (simp; done) | (simp; omega))); (try have c111 := hc1 (w.heap.size + 1) 1 (by first | omega | (simp; done) | (simp; omega))); (try have f111 := hf1 (w.heap.size + 1) 1 (by first | omega | (simp; done) | (simp; omega))); (try have c120 := hc1 (w.heap.size + 1 + 1) 0 (by first | omega | (simp; done) | (simp; omega))); (try have f120 := hf1 (w.heap.size + 1 + 1) 0 (by first | omega | (simp; done) | (simp; omega))); (try have c121 := hc1 (w.heap.size + 1 + 1) 1 (by first | omega | (simp; done) | (simp; omega))); (try have f121 := hf1 (w.heap.size + 1 + 1) 1 (by first | omega | (simp; done) | (simp; omega))); (try have d120 := hc1 (w.heap.size + 2) 0 (by first | omega | (simp; done) | (simp; omega))); (try have g120 := hf1 (w.heap.size + 2) 0 (by first | omega | (simp; done) | (simp; omega))); (try have d121 := hc1 (w.heap.size + 2) 1 (by first | omega | (simp; done) | (simp; omega))); (try have g121 := hf1 (w.heap.size + 2) 1 (by first | omega | (simp; done) | (simp; omega)))))
    go_quiet (first | (go_at_call 93; exact Calls.quiet_of_same (floQ _ _ _ (by omega) (by omega) (by assumption))))
    go_wp2_with fail
    obtain ⟨w5, hw5⟩ : ∃ w5, w1.drewN nq = w5 := ⟨_, rfl⟩
    have hb5 : Below w1.heap.size w1 w5 := by rw [← hw5]; exact below_drewN (Below.refl _ _) _
    simp only [hw5]
    clear hw5
    (obtain ⟨hc5, hf5⟩ := bcell hb5; have hs5 := hb5.size; (try simp at hs5); (try have hl5 := Nat.lt_of_succ_le hs5); (try have hz50 : w.heap.size < w5.heap.size := (by have := hb5.size; (try simp at this); omega)); (try have hn50 : ¬ w.heap.size = w5.heap.size := (by omega)); (try have hm50 : ¬ w5.heap.size = w.heap.size := (by omega)); (try have hz51 : w.heap.size + 1 < w5.heap.size := (by have := hb5.size; (try simp at this); omega)); (try have hn51 : ¬ w.heap.size + 1 = w5.heap.size := (by omega)); (try have hm51 : ¬ w5.heap.size = w.heap.size + 1 := (by omega)); (try have hz52 : w.heap.size + 1 + 1 < w5.heap.size := (by have := hb5.size; (try simp at this); omega)); (try have hn52 : ¬ w.heap.size + 1 + 1 = w5.heap.size := (by omega)); (try have hm52 : ¬ w5.heap.size = w.heap.size + 1 + 1 := (by omega)); (try have c500 := hc5 (w.heap.size) 0 (by first | omega | (simp; done) | (simp; omega))); (try have f500 := hf5 (w.heap.size) 0 (by first | omega | (simp; done) | (simp; omega))); (try have c501 := hc5 (w.heap.size) 1 (by first | omega | (simp; done) | (simp; omega))); (try have f501 := hf5 (w.heap.size) 1 (by first | omega | (simp; done) | (simp; omega))); (try have c510 := hc5 (w.heap.size + 1) 0 (by first | omega | (simp; done) | (simp; omega))); (try have f510 := hf5 (w.heap.size + 1) 0 (by first | omega | (simp; done) | (simp; omega))); (try have c511 := hc5 (w.heap.size + 1) 1 (by first | omega | (simp; done) | (simp; omega))); (try have f511 := hf5 (w.heap.size + 1) 1 (by first | omega | (simp; done) | (simp; omega))); (try have c520 := hc5 (w.heap.size + 1 + 1) 0 (by first | omega | (simp; done) | (simp; omega))); (try have f520 := hf5 (w.heap.size + 1 + 1) 0 (by first | omega | (simp; done) | (simp; omega))); (try have c521 := hc5 (w.heap.size + 1 + 1) 1 (by first | omega | (simp; done) | (simp; omega))); (try have f521 := hf5 (w.heap.size + 1 + 1) 1 (by first | omega | (simp; done) | (simp; omega))); (try have d520 := hc5 (w.heap.size + 2) 0 (by first | omega | (simp; done) | (simp; omega))); (try have g520 := hf5 (w.heap.size + 2) 0 (by first | omega | (simp; done) | (simp; omega))); (try have d521 := hc5 (w.heap.size + 2) 1 (by first | omega | (simp; done) | (simp; omega))); (try have g521 := hf5 (w.heap.size + 2) 1 (by first | omega | (simp; done) | (simp; omega))))
    go_quiet (first | (go_at_call 94; exact Calls.quiet_of_same (celQ _ _ _ (by omega) (by omega) (by assumption))))
    go_wp2_with (first | (go_at_call 74; refine (resS _ _ _).mono ?_; rintro e w3 ⟨rfl, hb3⟩; obtain ⟨hc3, hf3⟩ := bcell hb3; have hs3 := hb3.size; (try simp at hs3); (try have hl3 := Nat.lt_of_succ_le hs3); (try have hz30 : w.heap.size < w3.heap.size := (by have := hb3.size; (try simp at this); omega)); (try have hn30 : ¬ w.heap.size = w3.heap.size := (by omega)); (try have hm30 : ¬ w3.heap.size = w.heap.size := (by omega)); (try have hz31 : w.heap.size + 1 < w3.heap.size := (by have := hb3.size; (try simp at this); omega)); (try have hn31 : ¬ w.heap.size + 1 = w3.heap.size := (by omega)); (try have hm31 : ¬ w3.heap.size = w.heap.size + 1 := (by omega)); (try have hz32 : w.heap.size + 1 + 1 < w3.heap.size := (by have := hb3.size; (try simp at this); omega)); (try have hn32 : ¬ w.heap.size + 1 + 1 = w3.heap.size := (by omega)); (try have hm32 : ¬ w3.heap.size = w.heap.size + 1 + 1 := (by omega)); (try have c300 := hc3 (w.heap.size) 0 (by first | omega | (simp; done) | (simp; omega))); (try have f300 := hf3 (w.heap.size) 0 (by first | omega | (simp; done) | (simp; omega))); (try have c301 := hc3 (w.heap.size) 1 (by first | omega | (simp; done) | (simp; omega))); (try have f301 := hf3 (w.heap.size) 1 (by first | omega | (simp; done) | (simp; omega))); (try have c310 := hc3 (w.heap.size + 1) 0 (by first | omega | (simp; done) | (simp; omega))); (try have f310 := hf3 (w.heap.size + 1) 0 (by first | omega | (simp; done) | (simp; omega))); (try have c311 := hc3 (w.heap.size + 1) 1 (by first | omega | (simp; done) | (simp; omega))); (try have f311 := hf3 (w.heap.size + 1) 1 (by first | omega | (simp; done) | (simp; omega))); (try have c320 := hc3 (w.heap.size + 1 + 1) 0 (by first | omega | (simp; done) | (simp; omega))); (try have f320 := hf3 (w.heap.size + 1 + 1) 0 (by first | omega | (simp; done) | (simp; omega))); (try have c321 := hc3 (w.heap.size + 1 + 1) 1 (by first | omega | (simp; done) | (simp; omega))); (try have f321 := hf3 (w.heap.size + 1 + 1) 1 (by first | omega | (simp; done) | (simp; omega))); (try have d320 := hc3 (w.heap.size + 2) 0 (by first | omega | (simp; done) | (simp; omega))); (try have g320 := hf3 (w.heap.size + 2) 0 (by first | omega | (simp; done) | (simp; omega))); (try have d321 := hc3 (w.heap.size + 2) 1 (by first | omega | (simp; done) | (simp; omega))); (try have g321 := hf3 (w.heap.size + 2) 1 (by first | omega | (simp; done) | (simp; omega)))))
    first | go_ret2 | (refine bodyPost_ret (by simp [results, Try.results44, go_sem, *]; try rfl) rfl ?_)
    exact ⟨by simp [qnL, qnH, qnC, qnOk, K0.out, QZ.out, VA.out, VB.out, RS.out], by (repeat' (first | (with_reducible exact Below.refl _ _) | (with_reducible assumption) | (with_reducible refine bStep ?_ (by with_reducible assumption)) | (with_reducible refine bAlloc ?_ _) | (with_reducible refine bDrew ?_) | (with_reducible refine bDrewN ?_ _) | (with_reducible refine Below.setCell ?_ ?_ _) | (with_reducible exact Nat.le_refl _) | (simp; done) | (simp; omega)))⟩
  · go_enter Try.func44, Try.ntmps44
    go_wp2_with (first | (go_at_call 89; refine (isIvS _ _ _).mono ?_; rintro e w1 ⟨rfl, hb1⟩; obtain ⟨hc1, hf1⟩ := bcell hb1; have hs1 := hb1.size; (try simp at hs1); (try have hl1 := Nat.lt_of_succ_le hs1); (try have hz10 : w.heap.size < w1.heap.size := (by have := hb1.size; (try simp at this); omega)); (try have hn10 : ¬ w.heap.size = w1.heap.size := (by omega)); (try have hm10 : ¬ w1.heap.size = w.heap.size := (by omega)); (try have hz11 : w.heap.size + 1 < w1.heap.size := (by have := hb1.size; (try simp at this); omega)); (try have hn11 : ¬ w.heap.size + 1 = w1.heap.size := (by omega)); (try have hm11 : ¬ w1.heap.size = w.heap.size + 1 := (by omega)); (try have hz12 : w.heap.size + 1 + 1 < w1.heap.size := (by have := hb1.size; (try simp at this); omega)); (try have hn12 : ¬ w.heap.size + 1 + 1 = w1.heap.size := (by omega)); (try have hm12 : ¬ w1.heap.size = w.heap.size + 1 + 1 := (by omega)); (try have c100 := hc1 (w.heap.size) 0 (by first | omega | (simp; done) | (simp; omega))); (try have f100 := hf1 (w.heap.size) 0 (by first | omega | (simp; done) | (simp; omega))); (try have c101 := hc1 (w.heap.size) 1 (by first | omega | (simp; done) | (simp; omega))); (try have f101 := hf1 (w.heap.size) 1 (by first | omega | (simp; done) | (simp; omega))); (try have c110 := hc1 (w.heap.size + 1) 0 (by first | omega | (simp; done) | (simp; omega))); (try have f110 := hf1 (w.heap.size + 1) 0 (by first | omega | (simp; done) | (simp; omega))); (try have c111 := hc1 (w.heap.size + 1) 1 (by first | omega | (simp; done) | (simp; omega))); (try have f111 := hf1 (w.heap.size + 1) 1 (by first | omega | (simp; done) | (simp; omega))); (try have c120 := hc1 (w.heap.size + 1 + 1) 0 (by first | omega | (simp; done) | (simp; omega))); (try have f120 := hf1 (w.heap.size + 1 + 1) 0 (by first | omega | (simp; done) | (simp; omega))); (try have c121 := hc1 (w.heap.size + 1 + 1) 1 (by first | omega | (simp; done) | (simp; omega))); (try have f121 := hf1 (w.heap.size + 1 + 1) 1 (by first | omega | (simp; done) | (simp; omega))); (try have d120 := hc1 (w.heap.size + 2) 0 (by first | omega | (simp; done) | (simp; omega))); (try have g120 := hf1 (w.heap.size + 2) 0 (by first | omega | (simp; done) | (simp; omega))); (try have d121 := hc1 (w.heap.size + 2) 1 (by first | omega | (simp; done) | (simp; omega))); (try have g121 := hf1 (w.heap.size + 2) 1 (by first | omega | (simp; done) | (simp; omega)))))
    go_quiet (first | (go_at_call 93; exact Calls.quiet_of_same (floQ _ _ _ (by omega) (by omega) (by assumption))))
    go_wp2_with fail
    obtain ⟨w5, hw5⟩ : ∃ w5, w1.drewN nq = w5 := ⟨_, rfl⟩
    have hb5 : Below w1.heap.size w1 w5 := by rw [← hw5]; exact below_drewN (Below.refl _ _) _
    simp only [hw5]
    clear hw5
    (obtain ⟨hc5, hf5⟩ := bcell hb5; have hs5 := hb5.size; (try simp at hs5); (try have hl5 := Nat.lt_of_succ_le hs5); (try have hz50 : w.heap.size < w5.heap.size := (by have := hb5.size; (try simp at this); omega)); (try have hn50 : ¬ w.heap.size = w5.heap.size := (by omega)); (try have hm50 : ¬ w5.heap.size = w.heap.size := (by omega)); (try have hz51 : w.heap.size + 1 < w5.heap.size := (by have := hb5.size; (try simp at this); omega)); (try have hn51 : ¬ w.heap.size + 1 = w5.heap.size := (by omega)); (try have hm51 : ¬ w5.heap.size = w.heap.size + 1 := (by omega)); (try have hz52 : w.heap.size + 1 + 1 < w5.heap.size := (by have := hb5.size; (try simp at this); omega)); (try have hn52 : ¬ w.heap.size + 1 + 1 = w5.heap.size := (by omega)); (try have hm52 : ¬ w5.heap.size = w.heap.size + 1 + 1 := (by omega)); (try have c500 := hc5 (w.heap.size) 0 (by first | omega | (simp; done) | (simp; omega))); (try have f500 := hf5 (w.heap.size) 0 (by first | omega | (simp; done) | (simp; omega))); (try have c501 := hc5 (w.heap.size) 1 (by first | omega | (simp; done) | (simp; omega))); (try have f501 := hf5 (w.heap.size) 1 (by first | omega | (simp; done) | (simp; omega))); (try have c510 := hc5 (w.heap.size + 1) 0 (by first | omega | (simp; done) | (simp; omega))); (try have f510 := hf5 (w.heap.size + 1) 0 (by first | omega | (simp; done) | (simp; omega))); (try have c511 := hc5 (w.heap.size + 1) 1 (by first | omega | (simp; done) | (simp; omega))); (try have f511 := hf5 (w.heap.size + 1) 1 (by first | omega | (simp; done) | (simp; omega))); (try have c520 := hc5 (w.heap.size + 1 + 1) 0 (by first | omega | (simp; done) | (simp; omega))); (try have f520 := hf5 (w.heap.size + 1 + 1) 0 (by first | omega | (simp; done) | (simp; omega))); (try have c521 := hc5 (w.heap.size + 1 + 1) 1 (by first | omega | (simp; done) | (simp; omega))); (try have f521 := hf5 (w.heap.size + 1 + 1) 1 (by first | omega | (simp; done) | (simp; omega))); (try have d520 := hc5 (w.heap.size + 2) 0 (by first | omega | (simp; done) | (simp; omega))); (try have g520 := hf5 (w.heap.size + 2) 0 (by first | omega | (simp; done) | (simp; omega))); (try have d521 := hc5 (w.heap.size + 2) 1 (by first | omega | (simp; done) | (simp; omega))); (try have g521 := hf5 (w.heap.size + 2) 1 (by first | omega | (simp; done) | (simp; omega))))
    go_quiet (first | (go_at_call 94; exact Calls.quiet_of_same (celQ _ _ _ (by omega) (by omega) (by assumption))))
    go_wp2_with (first | (go_at_call 74; refine (resS _ _ _).mono ?_; rintro e w3 ⟨rfl, hb3⟩; obtain ⟨hc3, hf3⟩ := bcell hb3; have hs3 := hb3.size; (try simp at hs3); (try have hl3 := Nat.lt_of_succ_le hs3); (try have hz30 : w.heap.size < w3.heap.size := (by have := hb3.size; (try simp at this); omega)); (try have hn30 : ¬ w.heap.size = w3.heap.size := (by omega)); (try have hm30 : ¬ w3.heap.size = w.heap.size := (by omega)); (try have hz31 : w.heap.size + 1 < w3.heap.size := (by have := hb3.size; (try simp at this); omega)); (try have hn31 : ¬ w.heap.size + 1 = w3.heap.size := (by omega)); (try have hm31 : ¬ w3.heap.size = w.heap.size + 1 := (by omega)); (try have hz32 : w.heap.size + 1 + 1 < w3.heap.size := (by have := hb3.size; (try simp at this); omega)); (try have hn32 : ¬ w.heap.size + 1 + 1 = w3.heap.size := (by omega)); (try have hm32 : ¬ w3.heap.size = w.heap.size + 1 + 1 := (by omega)); (try have c300 := hc3 (w.heap.size) 0 (by first | omega | (simp; done) | (simp; omega))); (try have f300 := hf3 (w.heap.size) 0 (by first | omega | (simp; done) | (simp; omega))); (try have c301 := hc3 (w.heap.size) 1 (by first | omega | (simp; done) | (simp; omega))); (try have f301 := hf3 (w.heap.size) 1 (by first | omega | (simp; done) | (simp; omega))); (try have c310 := hc3 (w.heap.size + 1) 0 (by first | omega | (simp; done) | (simp; omega))); (try have f310 := hf3 (w.heap.size + 1) 0 (by first | omega | (simp; done) | (simp; omega))); (try have c311 := hc3 (w.heap.size + 1) 1 (by first | omega | (simp; done) | (simp; omega))); (try have f311 := hf3 (w.heap.size + 1) 1 (by first | omega | (simp; done) | (simp; omega))); (try have c320 := hc3 (w.heap.size + 1 + 1) 0 (by first | omega | (simp; done) | (simp; omega))); (try have f320 := hf3 (w.heap.size + 1 + 1) 0 (by first | omega | (simp; done) | (simp; omega))); (try have c321 := hc3 (w.heap.size + 1 + 1) 1 (by first | omega | (simp; done) | (simp; omega))); (try have f321 := hf3 (w.heap.size + 1 + 1) 1 (by first | omega | (simp; done) | (simp; omega))); (try have d320 := hc3 (w.heap.size + 2) 0 (by first | omega | (simp; done) | (simp; omega))); (try have g320 := hf3 (w.heap.size + 2) 0 (by first | omega | (simp; done) | (simp; omega))); (try have d321 := hc3 (w.heap.size + 2) 1 (by first | omega | (simp; done) | (simp; omega))); (try have g321 := hf3 (w.heap.size + 2) 1 (by first | omega | (simp; done) | (simp; omega)))))
    first | go_ret2 | (refine bodyPost_ret (by simp [results, Try.results44, go_sem, *]; try rfl) rfl ?_)
    exact ⟨by simp [qnL, qnH, qnC, qnOk, K0.out, QZ.out, VA.out, VB.out, RS.out], by (repeat' (first | (with_reducible exact Below.refl _ _) | (with_reducible assumption) | (with_reducible refine bStep ?_ (by with_reducible assumption)) | (with_reducible refine bAlloc ?_ _) | (with_reducible refine bDrew ?_) | (with_reducible refine bDrewN ?_ _) | (with_reducible refine Below.setCell ?_ ?_ _) | (with_reducible exact Nat.le_refl _) | (simp; done) | (simp; omega)))⟩
set_option maxHeartbeats 3200000 in
set_option maxRecDepth 20000 in
theorem quoI (a b c d : Int) (wa : -9223372036854775808 ≤ a ∧ a ≤ 9223372036854775807) (wb : -9223372036854775808 ≤ b ∧ b ≤ 9223372036854775807) (wc : -9223372036854775808 ≤ c ∧ c ≤ 9223372036854775807) (wd : -9223372036854775808 ≤ d ∧ d ≤ 9223372036854775807) (w : World) : Calls Try.prog 43 #[.agg #[.int .i64 a, .int .i64 b], .agg #[.int .i64 c, .int .i64 d]] w fun e w' => e = .returned (.tuple #[.agg #[.int .i64 (qnL a b c d), .int .i64 (qnH a b c d)], .int .i64 (qnC a b c d)]) ∧ Below w.heap.size w w' := by
  rcases k0 : iv2 a b c d
  · go_enter Try.func43, Try.ntmps43
    go_wp2_with (first | (go_at_call 69; refine (areTwoI (a := a) (b := b) (c := c) (d := d) (by simp) (by go_simp) (by go_simp) (by go_simp) (by go_simp) wa wb wc wd _).mono ?_; rintro e w1 ⟨rfl, hb1⟩; obtain ⟨hc1, hf1⟩ := bcell hb1; have hs1 := hb1.size; (try simp at hs1); (try have hl1 := Nat.lt_of_succ_le hs1); (try have hz10 : w.heap.size < w1.heap.size := (by have := hb1.size; (try simp at this); omega)); (try have hn10 : ¬ w.heap.size = w1.heap.size := (by omega)); (try have hm10 : ¬ w1.heap.size = w.heap.size := (by omega)); (try have hz11 : w.heap.size + 1 < w1.heap.size := (by have := hb1.size; (try simp at this); omega)); (try have hn11 : ¬ w.heap.size + 1 = w1.heap.size := (by omega)); (try have hm11 : ¬ w1.heap.size = w.heap.size + 1 := (by omega)); (try have hz12 : w.heap.size + 1 + 1 < w1.heap.size := (by have := hb1.size; (try simp at this); omega)); (try have hn12 : ¬ w.heap.size + 1 + 1 = w1.heap.size := (by omega)); (try have hm12 : ¬ w1.heap.size = w.heap.size + 1 + 1 := (by omega)); (try have c100 := hc1 (w.heap.size) 0 (by first | omega | (simp; done) | (simp; omega))); (try have f100 := hf1 (w.heap.size) 0 (by first | omega | (simp; done) | (simp; omega))); (try have c101 := hc1 (w.heap.size) 1 (by first | omega | (simp; done) | (simp; omega))); (try have f101 := hf1 (w.heap.size) 1 (by first | omega | (simp; done) | (simp; omega))); (try have c110 := hc1 (w.heap.size + 1) 0 (by first | omega | (simp; done) | (simp; omega))); (try have f110 := hf1 (w.heap.size + 1) 0 (by first | omega | (simp; done) | (simp; omega))); (try have c111 := hc1 (w.heap.size + 1) 1 (by first | omega | (simp; done) | (simp; omega))); (try have f111 := hf1 (w.heap.size + 1) 1 (by first | omega | (simp; done) | (simp; omega))); (try have c120 := hc1 (w.heap.size + 1 + 1) 0 (by first | omega | (simp; done) | (simp; omega))); (try have f120 := hf1 (w.heap.size + 1 + 1) 0 (by first | omega | (simp; done) | (simp; omega))); (try have c121 := hc1 (w.heap.size + 1 + 1) 1 (by first | omega | (simp; done) | (simp; omega))); (try have f121 := hf1 (w.heap.size + 1 + 1) 1 (by first | omega | (simp; done) | (simp; omega))); (try have d120 := hc1 (w.heap.size + 2) 0 (by first | omega | (simp; done) | (simp; omega))); (try have g120 := hf1 (w.heap.size + 2) 0 (by first | omega | (simp; done) | (simp; omega))); (try have d121 := hc1 (w.heap.size + 2) 1 (by first | omega | (simp; done) | (simp; omega))); (try have g121 := hf1 (w.heap.size + 2) 1 (by first | omega | (simp; done) | (simp; omega)))))
    first | go_ret2 | (refine bodyPost_ret (by simp [results, Try.results43, go_sem, *]; try rfl) rfl ?_)
    exact ⟨by simp [qnL, qnH, qnC, qnOk, k0], by (repeat' (first | (with_reducible exact Below.refl _ _) | (with_reducible assumption) | (with_reducible refine bStep ?_ (by with_reducible assumption)) | (with_reducible refine bAlloc ?_ _) | (with_reducible refine bDrew ?_) | (with_reducible refine bDrewN ?_ _) | (with_reducible refine Below.setCell ?_ ?_ _) | (with_reducible exact Nat.le_refl _) | (simp; done) | (simp; omega)))⟩
  have q12 : isIv a b = true ∧ isIv c d = true := by simpa [iv2] using k0
  have B1 := isIv_bdp q12.1
  have B2 := isIv_bdp q12.2
  clear q12
  have K0 := Lib.hid k0
  rcases qz : qnZ c d
  case true =>
    have QZ := Lib.hid qz
    have hz : c ≤ 0 ∧ 0 ≤ d := by simpa [qnZ] using qz
    obtain ⟨hz1, hz2⟩ := hz
    go_enter Try.func43, Try.ntmps43
    go_wp2_with (first | (go_at_call 69; refine (areTwoI (a := a) (b := b) (c := c) (d := d) (by simp) (by go_simp) (by go_simp) (by go_simp) (by go_simp) wa wb wc wd _).mono ?_; rintro e w1 ⟨rfl, hb1⟩; obtain ⟨hc1, hf1⟩ := bcell hb1; have hs1 := hb1.size; (try simp at hs1); (try have hl1 := Nat.lt_of_succ_le hs1); (try have hz10 : w.heap.size < w1.heap.size := (by have := hb1.size; (try simp at this); omega)); (try have hn10 : ¬ w.heap.size = w1.heap.size := (by omega)); (try have hm10 : ¬ w1.heap.size = w.heap.size := (by omega)); (try have hz11 : w.heap.size + 1 < w1.heap.size := (by have := hb1.size; (try simp at this); omega)); (try have hn11 : ¬ w.heap.size + 1 = w1.heap.size := (by omega)); (try have hm11 : ¬ w1.heap.size = w.heap.size + 1 := (by omega)); (try have hz12 : w.heap.size + 1 + 1 < w1.heap.size := (by have := hb1.size; (try simp at this); omega)); (try have hn12 : ¬ w.heap.size + 1 + 1 = w1.heap.size := (by omega)); (try have hm12 : ¬ w1.heap.size = w.heap.size + 1 + 1 := (by omega)); (try have c100 := hc1 (w.heap.size) 0 (by first | omega | (simp; done) | (simp; omega))); (try have f100 := hf1 (w.heap.size) 0 (by first | omega | (simp; done) | (simp; omega))); (try have c101 := hc1 (w.heap.size) 1 (by first | omega | (simp; done) | (simp; omega))); (try have f101 := hf1 (w.heap.size) 1 (by first | omega | (simp; done) | (simp; omega))); (try have c110 := hc1 (w.heap.size + 1) 0 (by first | omega | (simp; done) | (simp; omega))); (try have f110 := hf1 (w.heap.size + 1) 0 (by first | omega | (simp; done) | (simp; omega))); (try have c111 := hc1 (w.heap.size + 1) 1 (by first | omega | (simp; done) | (simp; omega))); (try have f111 := hf1 (w.heap.size + 1) 1 (by first | omega | (simp; done) | (simp; omega))); (try have c120 := hc1 (w.heap.size + 1 + 1) 0 (by first | omega | (simp; done) | (simp; omega))); (try have f120 := hf1 (w.heap.size + 1 + 1) 0 (by first | omega | (simp; done) | (simp; omega))); (try have c121 := hc1 (w.heap.size + 1 + 1) 1 (by first | omega | (simp; done) | (simp; omega))); (try have f121 := hf1 (w.heap.size + 1 + 1) 1 (by first | omega | (simp; done) | (simp; omega))); (try have d120 := hc1 (w.heap.size + 2) 0 (by first | omega | (simp; done) | (simp; omega))); (try have g120 := hf1 (w.heap.size + 2) 0 (by first | omega | (simp; done) | (simp; omega))); (try have d121 := hc1 (w.heap.size + 2) 1 (by first | omega | (simp; done) | (simp; omega))); (try have g121 := hf1 (w.heap.size + 2) 1 (by first | omega | (simp; done) | (simp; omega)))))
    first | go_ret2 | (refine bodyPost_ret (by simp [results, Try.results43, go_sem, *]; try rfl) rfl ?_)
    exact ⟨by simp [qnL, qnH, qnC, qnOk, K0.out, QZ.out], by (repeat' (first | (with_reducible exact Below.refl _ _) | (with_reducible assumption) | (with_reducible refine bStep ?_ (by with_reducible assumption)) | (with_reducible refine bAlloc ?_ _) | (with_reducible refine bDrew ?_) | (with_reducible refine bDrewN ?_ _) | (with_reducible refine Below.setCell ?_ ?_ _) | (with_reducible exact Nat.le_refl _) | (simp; done) | (simp; omega)))⟩
  have QZ := Lib.hid qz
  obtain ⟨hcd, hc0, hd0⟩ := qnZ_no qz B2.2.2
  have LW : Hid (∀ x ∈ [flo a c, flo a d, flo b c, flo b d], (Lit.int .i64 x).wf = true) := by
    have bp := flo_tight (a := a) (b := c) hc0 (k := 1000000000000) (by omega)
    have bq := flo_tight (a := a) (b := d) hd0 (k := 1000000000000) (by omega)
    have br := flo_tight (a := b) (b := c) hc0 (k := 1000000000000) (by omega)
    have bs := flo_tight (a := b) (b := d) hd0 (k := 1000000000000) (by omega)
    intro x hx
    simp only [List.mem_cons, List.not_mem_nil, or_false] at hx
    rcases hx with rfl | rfl | rfl | rfl <;> exact WalkArith.wf_i64 (by omega)
  have HW : Hid (∀ x ∈ [cel a c, cel a d, cel b c, cel b d], (Lit.int .i64 x).wf = true) := by
    have bp2 := cel_tight (a := a) (b := c) hc0 (k := 1000000000000) (by omega)
    have bq2 := cel_tight (a := a) (b := d) hd0 (k := 1000000000000) (by omega)
    have br2 := cel_tight (a := b) (b := c) hc0 (k := 1000000000000) (by omega)
    have bs2 := cel_tight (a := b) (b := d) hd0 (k := 1000000000000) (by omega)
    intro x hx
    simp only [List.mem_cons, List.not_mem_nil, or_false] at hx
    rcases hx with rfl | rfl | rfl | rfl <;> exact WalkArith.wf_i64 (by omega)
  obtain ⟨i0, hi, hz0, hz1, hz2⟩ := info_parts infoI64
  rcases hcd with hcd | ⟨hcd, hdd⟩
  · go_enter Try.func43, Try.ntmps43
    go_wp2_with (first | (go_at_call 69; refine (areTwoI (a := a) (b := b) (c := c) (d := d) (by simp) (by go_simp) (by go_simp) (by go_simp) (by go_simp) wa wb wc wd _).mono ?_; rintro e w1 ⟨rfl, hb1⟩; obtain ⟨hc1, hf1⟩ := bcell hb1; have hs1 := hb1.size; (try simp at hs1); (try have hl1 := Nat.lt_of_succ_le hs1); (try have hz10 : w.heap.size < w1.heap.size := (by have := hb1.size; (try simp at this); omega)); (try have hn10 : ¬ w.heap.size = w1.heap.size := (by omega)); (try have hm10 : ¬ w1.heap.size = w.heap.size := (by omega)); (try have hz11 : w.heap.size + 1 < w1.heap.size := (by have := hb1.size; (try simp at this); omega)); (try have hn11 : ¬ w.heap.size + 1 = w1.heap.size := (by omega)); (try have hm11 : ¬ w1.heap.size = w.heap.size + 1 := (by omega)); (try have hz12 : w.heap.size + 1 + 1 < w1.heap.size := (by have := hb1.size; (try simp at this); omega)); (try have hn12 : ¬ w.heap.size + 1 + 1 = w1.heap.size := (by omega)); (try have hm12 : ¬ w1.heap.size = w.heap.size + 1 + 1 := (by omega)); (try have c100 := hc1 (w.heap.size) 0 (by first | omega | (simp; done) | (simp; omega))); (try have f100 := hf1 (w.heap.size) 0 (by first | omega | (simp; done) | (simp; omega))); (try have c101 := hc1 (w.heap.size) 1 (by first | omega | (simp; done) | (simp; omega))); (try have f101 := hf1 (w.heap.size) 1 (by first | omega | (simp; done) | (simp; omega))); (try have c110 := hc1 (w.heap.size + 1) 0 (by first | omega | (simp; done) | (simp; omega))); (try have f110 := hf1 (w.heap.size + 1) 0 (by first | omega | (simp; done) | (simp; omega))); (try have c111 := hc1 (w.heap.size + 1) 1 (by first | omega | (simp; done) | (simp; omega))); (try have f111 := hf1 (w.heap.size + 1) 1 (by first | omega | (simp; done) | (simp; omega))); (try have c120 := hc1 (w.heap.size + 1 + 1) 0 (by first | omega | (simp; done) | (simp; omega))); (try have f120 := hf1 (w.heap.size + 1 + 1) 0 (by first | omega | (simp; done) | (simp; omega))); (try have c121 := hc1 (w.heap.size + 1 + 1) 1 (by first | omega | (simp; done) | (simp; omega))); (try have f121 := hf1 (w.heap.size + 1 + 1) 1 (by first | omega | (simp; done) | (simp; omega))); (try have d120 := hc1 (w.heap.size + 2) 0 (by first | omega | (simp; done) | (simp; omega))); (try have g120 := hf1 (w.heap.size + 2) 0 (by first | omega | (simp; done) | (simp; omega))); (try have d121 := hc1 (w.heap.size + 2) 1 (by first | omega | (simp; done) | (simp; omega))); (try have g121 := hf1 (w.heap.size + 2) 1 (by first | omega | (simp; done) | (simp; omega)))))
    have hst := Lib.hid (rows2_start w1 (.cells #[.int .i64 a, .int .i64 b] 2))
    go_loopw [6, 7, 37] (fun v6 v7 i wr => ∃ k : Nat, k ≤ 2 ∧ i = .int .i64 k ∧ Hid (Rows2 w1.heap.size wr v6 v7 (loQ a b c d k) (hiQ a b c d k) [w1.heap.size + 1 + 1]) ∧ wr.cell? ⟨w1.heap.size + 1 + 1, 0, none⟩ = some (.int .i64 a) ∧ wr.cell? ⟨w1.heap.size + 1 + 1, 1, none⟩ = some (.int .i64 b) ∧ Below w1.heap.size w1 wr) (fun _ _ i _ => 2 - (intOf i).toNat)
    case atStart => exact ⟨0, by omega, rfl, hst, by go_simp, by go_simp, by (repeat' (first | (with_reducible exact Below.refl _ _) | (with_reducible assumption) | (with_reducible refine bStep ?_ (by with_reducible assumption)) | (with_reducible refine bAlloc ?_ _) | (with_reducible refine bDrew ?_) | (with_reducible refine bDrewN ?_ _) | (with_reducible refine Below.setCell ?_ ?_ _) | (with_reducible exact Nat.le_refl _) | (simp; done) | (simp; omega)))⟩
    case round =>
      obtain ⟨k, hk, rfl, HR, ca, cb, hbel⟩ := hrel
      rename World => wo
      have hbs := hbel.size
      obtain ⟨hcr, hfr⟩ := bcell hbel
      clear hst
      by_cases hlt : k < 2
      · obtain ⟨x, hcx, hxb, elo, ehi⟩ : ∃ x, wo.cell? ⟨w1.heap.size + 1 + 1, k, none⟩ = some (.int .i64 x) ∧ (-1000000000000 ≤ x ∧ x ≤ 1000000000000) ∧ Hid (loQ a b c d (k + 1) = loQ a b c d k ++ [flo x c, flo x d]) ∧ Hid (hiQ a b c d (k + 1) = hiQ a b c d k ++ [cel x c, cel x d]) := by
          rcases (by omega : k = 0 ∨ k = 1) with rfl | rfl
          · exact ⟨a, ca, by omega, rfl, rfl⟩
          · exact ⟨b, cb, by omega, rfl, rfl⟩
        have LQ := loQ_len a b c d k
        have v0 := (hcr (w.heap.size + 1) 0 (by omega))
        have v1 := (hcr (w.heap.size + 1) 1 (by omega))
        have HR2 := Lib.hid (HR.out.alloc_ (.cells #[.int .i64 c, .int .i64 d] 2))
        go_wp2
        have dk : decide ((k : Int) < 2) = true := by simp; omega
        simp only [dk]
        go_loopw [6, 7, 47] (fun v6 v7 i wr => ∃ m : Nat, m ≤ 2 ∧ i = .int .i64 m ∧ Hid (Rows2 w1.heap.size wr v6 v7 (loQ a b c d k ++ [flo x c, flo x d].take m) (hiQ a b c d k ++ [cel x c, cel x d].take m) [wo.heap.size, w1.heap.size + 1 + 1]) ∧ wr.cell? ⟨wo.heap.size, 0, none⟩ = some (.int .i64 c) ∧ wr.cell? ⟨wo.heap.size, 1, none⟩ = some (.int .i64 d) ∧ wr.cell? ⟨w1.heap.size + 1 + 1, 0, none⟩ = some (.int .i64 a) ∧ wr.cell? ⟨w1.heap.size + 1 + 1, 1, none⟩ = some (.int .i64 b) ∧ Below w1.heap.size w1 wr) (fun _ _ i _ => 2 - (intOf i).toNat)
        case atStart => exact ⟨0, by omega, rfl, by simpa using HR2, by go_simp, by go_simp, by have h3 := (HR.out.out _ (List.mem_singleton.2 rfl)).2.2; go_simp, by have h3 := (HR.out.out _ (List.mem_singleton.2 rfl)).2.2; go_simp, by (repeat' (first | (with_reducible exact Below.refl _ _) | (with_reducible assumption) | (with_reducible refine bStep ?_ (by with_reducible assumption)) | (with_reducible refine bAlloc ?_ _) | (with_reducible refine bDrew ?_) | (with_reducible refine bDrewN ?_ _) | (with_reducible refine Below.setCell ?_ ?_ _) | (with_reducible exact Nat.le_refl _) | (simp; done) | (simp; omega)))⟩
        case round =>
          obtain ⟨m, hm, rfl, HI, cc, cd, ca2, cb2, hbi⟩ := hrel
          clear ca cb HR HR2
          have hbs2 := hbi.size
          by_cases hml : m < 2
          · obtain ⟨y, hcy, hy0, etl, eth⟩ : ∃ y, wr.cell? ⟨wo.heap.size, m, none⟩ = some (.int .i64 y) ∧ ¬ y = 0 ∧ Hid ([flo x c, flo x d].take (m + 1) = [flo x c, flo x d].take m ++ [flo x y]) ∧ Hid ([cel x c, cel x d].take (m + 1) = [cel x c, cel x d].take m ++ [cel x y]) := by
              rcases (by omega : m = 0 ∨ m = 1) with rfl | rfl
              · exact ⟨c, cc, hc0, rfl, rfl⟩
              · exact ⟨d, cd, hd0, rfl, rfl⟩
            have L1 := two_le (m := m) (x := flo x c) (y := flo x d) LQ.1
            have L2 := two_le (m := m) (x := cel x c) (y := cel x d) LQ.2
            have H1 := HI.out.one
            have H2 := HI.out.two
            go_wp2_with (first | (go_at_call 91; refine (floI x y _ (by omega) (by omega) hy0).mono ?_; rintro e w' ⟨rfl, rfl⟩) | (at_builtin; refine wpList_append_own_at _ rfl _ _ 64 rfl w1.heap.size 2 i0 (.int .i64 0) 1 8 Try.underlying64 hi hz0 hz1 hz2 rfl (by decide) _ _ _ rfl (H1.alloc _) ⟨_, 0, none⟩ 1 1 [.int .i64 (flo x y)] rfl rfl (cell_one_new _ _ _) (ints_oneCell .i64 [flo x y]) (by unfold maxLen; omega) (by omega) (by simp; omega) ?_; intro v' w2 hown' hgrow hnil hloc; have HP := HI.out.push (by omega) hown' hgrow hloc; clear hown' hgrow hnil hloc; obtain ⟨HJ, kc1, ks1, kb1⟩ := HP; have HJ := Lib.hid HJ; have H2 := HJ.out.two; have kc1 := Lib.hid kc1; have kb1 := Lib.hid kb1) | (go_at_call 92; refine (celI x y _ (by omega) (by omega) hy0).mono ?_; rintro e w' ⟨rfl, rfl⟩) | (at_builtin; refine wpList_append_own_at _ rfl _ _ 64 rfl w1.heap.size 2 i0 (.int .i64 0) 1 8 Try.underlying64 hi hz0 hz1 hz2 rfl (by decide) _ _ _ rfl (H2.alloc _) ⟨_, 0, none⟩ 1 1 [.int .i64 (cel x y)] rfl rfl (cell_one_new _ _ _) (ints_oneCell .i64 [cel x y]) (by unfold maxLen; omega) (by omega) (by simp; omega) ?_; intro v'' w3 hown' hgrow hnil hloc; have HP := HJ.out.swap.push (by omega) hown' hgrow hloc; clear hown' hgrow hnil hloc; obtain ⟨HK, kc2, ks2, kb2⟩ := HP; have HK := Lib.hid HK.swap; have kc2 := Lib.hid kc2; have kb2 := Lib.hid kb2))
            go_roundw
            case rel => exact ⟨m + 1, by omega, by go_num, by rw [etl.out, eth.out, ← List.append_assoc, ← List.append_assoc]; exact HK, by rw [kc2.out _ (by simp) 0, kc1.out _ (by simp) 0]; exact cc, by rw [kc2.out _ (by simp) 1, kc1.out _ (by simp) 1]; exact cd, by rw [kc2.out _ (by simp) 0, kc1.out _ (by simp) 0]; exact ca2, by rw [kc2.out _ (by simp) 1, kc1.out _ (by simp) 1]; exact cb2, kb2.out _ (kb1.out _ hbi)⟩
            case measure => simp [intOf]; omega
          · obtain rfl : m = 2 := by omega
            have HO2 := HI.out.less
            rw [show [flo x c, flo x d].take 2 = [flo x c, flo x d] from rfl, show [cel x c, cel x d].take 2 = [cel x c, cel x d] from rfl, ← elo.out, ← ehi.out] at HO2
            have HO2 := Lib.hid HO2
            clear HI
            go_wp2
            go_roundw
            case rel => exact ⟨k + 1, by omega, by go_num, HO2, ca2, cb2, hbi⟩
            case measure => simp [intOf]; omega
      · obtain rfl : k = 2 := by omega
        have O6 : wo.ownsRow w1.heap.size 2 1 _ 4 ([flo a c, flo a d, flo b c, flo b d].map (Value.int .i64)) := HR.out.one
        have O7 : wo.ownsRow w1.heap.size 2 1 _ 4 ([cel a c, cel a d, cel b c, cel b d].map (Value.int .i64)) := HR.out.two
        obtain ⟨A6, c6, rfl⟩ := qn_slice O6
        obtain ⟨A7, c7, rfl⟩ := qn_slice O7
        have I6 := Lib.hid (Ints.of_own O6 (by omega) LW.out)
        have I7 := Lib.hid (Ints.of_own O7 (by omega) HW.out)
        clear O6 O7 HR ca cb
        have hf0 := fld0
        have hf1 := fld1
        go_wp2_with fail
        (refine (aroI I6.out _ (by omega)).mono ?_; rintro e w2 ⟨rfl, hb2⟩; rw [(lo_four _ _ _ _).1, (lo_four _ _ _ _).2])
        have hs2 := hb2.size
        go_wp2_with fail
        (refine (aroI (I7.out.below hb2) _ (by omega)).mono ?_; rintro e w3 ⟨rfl, hb3⟩; rw [(lo_four _ _ _ _).1, (lo_four _ _ _ _).2])
        have T : Below w1.heap.size w1 w3 := by (repeat' (first | (with_reducible exact Below.refl _ _) | (with_reducible assumption) | (with_reducible refine bStep ?_ (by with_reducible assumption)) | (with_reducible refine bAlloc ?_ _) | (with_reducible refine bDrew ?_) | (with_reducible refine bDrewN ?_ _) | (with_reducible refine Below.setCell ?_ ?_ _) | (with_reducible exact Nat.le_refl _) | (simp; done) | (simp; omega)))
        obtain ⟨hc3, hf3⟩ := bcell T
        have z0 : w3.cell? ⟨w.heap.size + 1 + 1, 0, none⟩ = some (.int .i64 0) := (hc3 (w.heap.size + 1 + 1) 0 (by omega)).trans (by go_simp)
        have z1 : w3.cell? ⟨w.heap.size + 1 + 1, 1, none⟩ = some (.int .i64 0) := (hc3 (w.heap.size + 1 + 1) 1 (by omega)).trans (by go_simp)
        have y0 : w3.frozen? ⟨w.heap.size + 1 + 1, 0, none⟩ = false := (hf3 (w.heap.size + 1 + 1) 0 (by omega)).trans (by go_simp)
        have y1 : w3.frozen? ⟨w.heap.size + 1 + 1, 1, none⟩ = false := (hf3 (w.heap.size + 1 + 1) 1 (by omega)).trans (by go_simp)
        clear hc3 hf3 hcr hfr I6 I7
        go_wp2
        first | go_ret2 | (refine bodyPost_ret (by simp [results, Try.results43, go_sem, *]; try rfl) rfl ?_)
        exact ⟨by simp [qnL, qnH, qnC, qnOk, K0.out, QZ.out], by (repeat' (first | (with_reducible exact Below.refl _ _) | (with_reducible assumption) | (with_reducible refine bStep ?_ (by with_reducible assumption)) | (with_reducible refine bAlloc ?_ _) | (with_reducible refine bDrew ?_) | (with_reducible refine bDrewN ?_ _) | (with_reducible refine Below.setCell ?_ ?_ _) | (with_reducible exact Nat.le_refl _) | (simp; done) | (simp; omega)))⟩
  · go_enter Try.func43, Try.ntmps43
    go_wp2_with (first | (go_at_call 69; refine (areTwoI (a := a) (b := b) (c := c) (d := d) (by simp) (by go_simp) (by go_simp) (by go_simp) (by go_simp) wa wb wc wd _).mono ?_; rintro e w1 ⟨rfl, hb1⟩; obtain ⟨hc1, hf1⟩ := bcell hb1; have hs1 := hb1.size; (try simp at hs1); (try have hl1 := Nat.lt_of_succ_le hs1); (try have hz10 : w.heap.size < w1.heap.size := (by have := hb1.size; (try simp at this); omega)); (try have hn10 : ¬ w.heap.size = w1.heap.size := (by omega)); (try have hm10 : ¬ w1.heap.size = w.heap.size := (by omega)); (try have hz11 : w.heap.size + 1 < w1.heap.size := (by have := hb1.size; (try simp at this); omega)); (try have hn11 : ¬ w.heap.size + 1 = w1.heap.size := (by omega)); (try have hm11 : ¬ w1.heap.size = w.heap.size + 1 := (by omega)); (try have hz12 : w.heap.size + 1 + 1 < w1.heap.size := (by have := hb1.size; (try simp at this); omega)); (try have hn12 : ¬ w.heap.size + 1 + 1 = w1.heap.size := (by omega)); (try have hm12 : ¬ w1.heap.size = w.heap.size + 1 + 1 := (by omega)); (try have c100 := hc1 (w.heap.size) 0 (by first | omega | (simp; done) | (simp; omega))); (try have f100 := hf1 (w.heap.size) 0 (by first | omega | (simp; done) | (simp; omega))); (try have c101 := hc1 (w.heap.size) 1 (by first | omega | (simp; done) | (simp; omega))); (try have f101 := hf1 (w.heap.size) 1 (by first | omega | (simp; done) | (simp; omega))); (try have c110 := hc1 (w.heap.size + 1) 0 (by first | omega | (simp; done) | (simp; omega))); (try have f110 := hf1 (w.heap.size + 1) 0 (by first | omega | (simp; done) | (simp; omega))); (try have c111 := hc1 (w.heap.size + 1) 1 (by first | omega | (simp; done) | (simp; omega))); (try have f111 := hf1 (w.heap.size + 1) 1 (by first | omega | (simp; done) | (simp; omega))); (try have c120 := hc1 (w.heap.size + 1 + 1) 0 (by first | omega | (simp; done) | (simp; omega))); (try have f120 := hf1 (w.heap.size + 1 + 1) 0 (by first | omega | (simp; done) | (simp; omega))); (try have c121 := hc1 (w.heap.size + 1 + 1) 1 (by first | omega | (simp; done) | (simp; omega))); (try have f121 := hf1 (w.heap.size + 1 + 1) 1 (by first | omega | (simp; done) | (simp; omega))); (try have d120 := hc1 (w.heap.size + 2) 0 (by first | omega | (simp; done) | (simp; omega))); (try have g120 := hf1 (w.heap.size + 2) 0 (by first | omega | (simp; done) | (simp; omega))); (try have d121 := hc1 (w.heap.size + 2) 1 (by first | omega | (simp; done) | (simp; omega))); (try have g121 := hf1 (w.heap.size + 2) 1 (by first | omega | (simp; done) | (simp; omega)))))
    have hst := Lib.hid (rows2_start w1 (.cells #[.int .i64 a, .int .i64 b] 2))
    go_loopw [6, 7, 37] (fun v6 v7 i wr => ∃ k : Nat, k ≤ 2 ∧ i = .int .i64 k ∧ Hid (Rows2 w1.heap.size wr v6 v7 (loQ a b c d k) (hiQ a b c d k) [w1.heap.size + 1 + 1]) ∧ wr.cell? ⟨w1.heap.size + 1 + 1, 0, none⟩ = some (.int .i64 a) ∧ wr.cell? ⟨w1.heap.size + 1 + 1, 1, none⟩ = some (.int .i64 b) ∧ Below w1.heap.size w1 wr) (fun _ _ i _ => 2 - (intOf i).toNat)
    case atStart => exact ⟨0, by omega, rfl, hst, by go_simp, by go_simp, by (repeat' (first | (with_reducible exact Below.refl _ _) | (with_reducible assumption) | (with_reducible refine bStep ?_ (by with_reducible assumption)) | (with_reducible refine bAlloc ?_ _) | (with_reducible refine bDrew ?_) | (with_reducible refine bDrewN ?_ _) | (with_reducible refine Below.setCell ?_ ?_ _) | (with_reducible exact Nat.le_refl _) | (simp; done) | (simp; omega)))⟩
    case round =>
      obtain ⟨k, hk, rfl, HR, ca, cb, hbel⟩ := hrel
      rename World => wo
      have hbs := hbel.size
      obtain ⟨hcr, hfr⟩ := bcell hbel
      clear hst
      by_cases hlt : k < 2
      · obtain ⟨x, hcx, hxb, elo, ehi⟩ : ∃ x, wo.cell? ⟨w1.heap.size + 1 + 1, k, none⟩ = some (.int .i64 x) ∧ (-1000000000000 ≤ x ∧ x ≤ 1000000000000) ∧ Hid (loQ a b c d (k + 1) = loQ a b c d k ++ [flo x c, flo x d]) ∧ Hid (hiQ a b c d (k + 1) = hiQ a b c d k ++ [cel x c, cel x d]) := by
          rcases (by omega : k = 0 ∨ k = 1) with rfl | rfl
          · exact ⟨a, ca, by omega, rfl, rfl⟩
          · exact ⟨b, cb, by omega, rfl, rfl⟩
        have LQ := loQ_len a b c d k
        have v0 := (hcr (w.heap.size + 1) 0 (by omega))
        have v1 := (hcr (w.heap.size + 1) 1 (by omega))
        have HR2 := Lib.hid (HR.out.alloc_ (.cells #[.int .i64 c, .int .i64 d] 2))
        go_wp2
        have dk : decide ((k : Int) < 2) = true := by simp; omega
        simp only [dk]
        go_loopw [6, 7, 47] (fun v6 v7 i wr => ∃ m : Nat, m ≤ 2 ∧ i = .int .i64 m ∧ Hid (Rows2 w1.heap.size wr v6 v7 (loQ a b c d k ++ [flo x c, flo x d].take m) (hiQ a b c d k ++ [cel x c, cel x d].take m) [wo.heap.size, w1.heap.size + 1 + 1]) ∧ wr.cell? ⟨wo.heap.size, 0, none⟩ = some (.int .i64 c) ∧ wr.cell? ⟨wo.heap.size, 1, none⟩ = some (.int .i64 d) ∧ wr.cell? ⟨w1.heap.size + 1 + 1, 0, none⟩ = some (.int .i64 a) ∧ wr.cell? ⟨w1.heap.size + 1 + 1, 1, none⟩ = some (.int .i64 b) ∧ Below w1.heap.size w1 wr) (fun _ _ i _ => 2 - (intOf i).toNat)
        case atStart => exact ⟨0, by omega, rfl, by simpa using HR2, by go_simp, by go_simp, by have h3 := (HR.out.out _ (List.mem_singleton.2 rfl)).2.2; go_simp, by have h3 := (HR.out.out _ (List.mem_singleton.2 rfl)).2.2; go_simp, by (repeat' (first | (with_reducible exact Below.refl _ _) | (with_reducible assumption) | (with_reducible refine bStep ?_ (by with_reducible assumption)) | (with_reducible refine bAlloc ?_ _) | (with_reducible refine bDrew ?_) | (with_reducible refine bDrewN ?_ _) | (with_reducible refine Below.setCell ?_ ?_ _) | (with_reducible exact Nat.le_refl _) | (simp; done) | (simp; omega)))⟩
        case round =>
          obtain ⟨m, hm, rfl, HI, cc, cd, ca2, cb2, hbi⟩ := hrel
          clear ca cb HR HR2
          have hbs2 := hbi.size
          by_cases hml : m < 2
          · obtain ⟨y, hcy, hy0, etl, eth⟩ : ∃ y, wr.cell? ⟨wo.heap.size, m, none⟩ = some (.int .i64 y) ∧ ¬ y = 0 ∧ Hid ([flo x c, flo x d].take (m + 1) = [flo x c, flo x d].take m ++ [flo x y]) ∧ Hid ([cel x c, cel x d].take (m + 1) = [cel x c, cel x d].take m ++ [cel x y]) := by
              rcases (by omega : m = 0 ∨ m = 1) with rfl | rfl
              · exact ⟨c, cc, hc0, rfl, rfl⟩
              · exact ⟨d, cd, hd0, rfl, rfl⟩
            have L1 := two_le (m := m) (x := flo x c) (y := flo x d) LQ.1
            have L2 := two_le (m := m) (x := cel x c) (y := cel x d) LQ.2
            have H1 := HI.out.one
            have H2 := HI.out.two
            go_wp2_with (first | (go_at_call 91; refine (floI x y _ (by omega) (by omega) hy0).mono ?_; rintro e w' ⟨rfl, rfl⟩) | (at_builtin; refine wpList_append_own_at _ rfl _ _ 64 rfl w1.heap.size 2 i0 (.int .i64 0) 1 8 Try.underlying64 hi hz0 hz1 hz2 rfl (by decide) _ _ _ rfl (H1.alloc _) ⟨_, 0, none⟩ 1 1 [.int .i64 (flo x y)] rfl rfl (cell_one_new _ _ _) (ints_oneCell .i64 [flo x y]) (by unfold maxLen; omega) (by omega) (by simp; omega) ?_; intro v' w2 hown' hgrow hnil hloc; have HP := HI.out.push (by omega) hown' hgrow hloc; clear hown' hgrow hnil hloc; obtain ⟨HJ, kc1, ks1, kb1⟩ := HP; have HJ := Lib.hid HJ; have H2 := HJ.out.two; have kc1 := Lib.hid kc1; have kb1 := Lib.hid kb1) | (go_at_call 92; refine (celI x y _ (by omega) (by omega) hy0).mono ?_; rintro e w' ⟨rfl, rfl⟩) | (at_builtin; refine wpList_append_own_at _ rfl _ _ 64 rfl w1.heap.size 2 i0 (.int .i64 0) 1 8 Try.underlying64 hi hz0 hz1 hz2 rfl (by decide) _ _ _ rfl (H2.alloc _) ⟨_, 0, none⟩ 1 1 [.int .i64 (cel x y)] rfl rfl (cell_one_new _ _ _) (ints_oneCell .i64 [cel x y]) (by unfold maxLen; omega) (by omega) (by simp; omega) ?_; intro v'' w3 hown' hgrow hnil hloc; have HP := HJ.out.swap.push (by omega) hown' hgrow hloc; clear hown' hgrow hnil hloc; obtain ⟨HK, kc2, ks2, kb2⟩ := HP; have HK := Lib.hid HK.swap; have kc2 := Lib.hid kc2; have kb2 := Lib.hid kb2))
            go_roundw
            case rel => exact ⟨m + 1, by omega, by go_num, by rw [etl.out, eth.out, ← List.append_assoc, ← List.append_assoc]; exact HK, by rw [kc2.out _ (by simp) 0, kc1.out _ (by simp) 0]; exact cc, by rw [kc2.out _ (by simp) 1, kc1.out _ (by simp) 1]; exact cd, by rw [kc2.out _ (by simp) 0, kc1.out _ (by simp) 0]; exact ca2, by rw [kc2.out _ (by simp) 1, kc1.out _ (by simp) 1]; exact cb2, kb2.out _ (kb1.out _ hbi)⟩
            case measure => simp [intOf]; omega
          · obtain rfl : m = 2 := by omega
            have HO2 := HI.out.less
            rw [show [flo x c, flo x d].take 2 = [flo x c, flo x d] from rfl, show [cel x c, cel x d].take 2 = [cel x c, cel x d] from rfl, ← elo.out, ← ehi.out] at HO2
            have HO2 := Lib.hid HO2
            clear HI
            go_wp2
            go_roundw
            case rel => exact ⟨k + 1, by omega, by go_num, HO2, ca2, cb2, hbi⟩
            case measure => simp [intOf]; omega
      · obtain rfl : k = 2 := by omega
        have O6 : wo.ownsRow w1.heap.size 2 1 _ 4 ([flo a c, flo a d, flo b c, flo b d].map (Value.int .i64)) := HR.out.one
        have O7 : wo.ownsRow w1.heap.size 2 1 _ 4 ([cel a c, cel a d, cel b c, cel b d].map (Value.int .i64)) := HR.out.two
        obtain ⟨A6, c6, rfl⟩ := qn_slice O6
        obtain ⟨A7, c7, rfl⟩ := qn_slice O7
        have I6 := Lib.hid (Ints.of_own O6 (by omega) LW.out)
        have I7 := Lib.hid (Ints.of_own O7 (by omega) HW.out)
        clear O6 O7 HR ca cb
        have hf0 := fld0
        have hf1 := fld1
        go_wp2_with fail
        (refine (aroI I6.out _ (by omega)).mono ?_; rintro e w2 ⟨rfl, hb2⟩; rw [(lo_four _ _ _ _).1, (lo_four _ _ _ _).2])
        have hs2 := hb2.size
        go_wp2_with fail
        (refine (aroI (I7.out.below hb2) _ (by omega)).mono ?_; rintro e w3 ⟨rfl, hb3⟩; rw [(lo_four _ _ _ _).1, (lo_four _ _ _ _).2])
        have T : Below w1.heap.size w1 w3 := by (repeat' (first | (with_reducible exact Below.refl _ _) | (with_reducible assumption) | (with_reducible refine bStep ?_ (by with_reducible assumption)) | (with_reducible refine bAlloc ?_ _) | (with_reducible refine bDrew ?_) | (with_reducible refine bDrewN ?_ _) | (with_reducible refine Below.setCell ?_ ?_ _) | (with_reducible exact Nat.le_refl _) | (simp; done) | (simp; omega)))
        obtain ⟨hc3, hf3⟩ := bcell T
        have z0 : w3.cell? ⟨w.heap.size + 1 + 1, 0, none⟩ = some (.int .i64 0) := (hc3 (w.heap.size + 1 + 1) 0 (by omega)).trans (by go_simp)
        have z1 : w3.cell? ⟨w.heap.size + 1 + 1, 1, none⟩ = some (.int .i64 0) := (hc3 (w.heap.size + 1 + 1) 1 (by omega)).trans (by go_simp)
        have y0 : w3.frozen? ⟨w.heap.size + 1 + 1, 0, none⟩ = false := (hf3 (w.heap.size + 1 + 1) 0 (by omega)).trans (by go_simp)
        have y1 : w3.frozen? ⟨w.heap.size + 1 + 1, 1, none⟩ = false := (hf3 (w.heap.size + 1 + 1) 1 (by omega)).trans (by go_simp)
        clear hc3 hf3 hcr hfr I6 I7
        go_wp2
        first | go_ret2 | (refine bodyPost_ret (by simp [results, Try.results43, go_sem, *]; try rfl) rfl ?_)
        exact ⟨by simp [qnL, qnH, qnC, qnOk, K0.out, QZ.out], by (repeat' (first | (with_reducible exact Below.refl _ _) | (with_reducible assumption) | (with_reducible refine bStep ?_ (by with_reducible assumption)) | (with_reducible refine bAlloc ?_ _) | (with_reducible refine bDrew ?_) | (with_reducible refine bDrewN ?_ _) | (with_reducible refine Below.setCell ?_ ?_ _) | (with_reducible exact Nat.le_refl _) | (simp; done) | (simp; omega)))⟩
end Go.Proofs.Ytincelkcbdjcjaa
