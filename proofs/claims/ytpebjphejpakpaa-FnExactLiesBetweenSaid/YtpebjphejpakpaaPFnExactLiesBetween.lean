/- FnExactLiesBetween: the given statement, for every input: the walk of the law (YtpebjphejpakpaaWLies) put into the row's frame. -/
import Derived.Test.YtpebjphejpakpaaHead
import Derived.Test.YtpebjphejpakpaaWLies
import Derived.WalkKit
import Derived.ProofKit
import Derived.OpenShut
import Derived.ShutString
import Derived.ChangeOld
import Derived.Below
import Derived.Lib.SmallJoins
namespace Go.Proofs.Ytpebjphejpakpaa.fnExactLiesBetweenDone
open Go.ChangeShapes Go.WideShapes Go.ChangeAt Go.RowKit Go.Joins
open Go.ChangeMaps (open_string shut_string)
set_option linter.unusedVariables false

theorem own : ownKnob Try.prog.godebug = none := by kernel_rfl
theorem laidOut : laidOutB Try.prog = true := by kernel_rfl

set_option maxRecDepth 100000 in
theorem lifted (os : Os) (started : os.Started) (H : Type) (enc : TypeId × Value → H) :
    ReturnsInHanded {} Try.checked os 7 .any (Rows.fnExactLiesBetweenSpec.pre6 enc Try.prog Try.f7 Rows.fnExactLiesBetweenRow.domain false) (Rows.fnExactLiesBetweenSpec.post enc Try.prog Try.f7 false true false false) := by
  refine returnsInHanded_of_change (C := Try.checked) own started (by as_aux_lemma => kernel_rfl) Try.func7
    (ChangeSpec.witness6 (enc := enc) (C := Try.checked) false ⟨#[], #[.agg #[.int .i64 0, .int .i64 0, .int .i64 0], .agg #[.int .i64 0, .int .i64 0, .int .i64 0], .agg #[.int .i64 0, .int .i64 0, .int .i64 0]], []⟩ 8 (by as_aux_lemma => kernel_rfl) (by as_aux_lemma => kernel_rfl) (by as_aux_lemma => kernel_rfl) (by as_aux_lemma => kernel_rfl)) ?_
  intro W base args ds gs before hval0 hW hcnd _
  have hval : ∀ (j : Nat) t v, Try.f7.params[j]? = some t → args[j]? = some v → Value.okWide Try.prog W .any base t v := hval0
  have hW' := hW
  obtain ⟨p, q, hA0, hV, rfl, hfz, hnd⟩ := hW
  have hA : DataW.TrodAll enc Try.prog W 0 (fun _ => true) true Try.f7.params.toList args.toList ds p := hA0
  rw [Try.params7] at hA hval
  obtain ⟨v0, vs0, d0, ds0, p0, q0, hargs, rfl, rfl, h0, r0⟩ := trodAll_cons hA
  obtain ⟨v1, vs1, d1, ds1, p1, q1, rfl, rfl, rfl, h1, r1⟩ := trodAll_cons r0
  obtain ⟨v2, vs2, d2, ds2, p2, q2, rfl, rfl, rfl, h2, r2⟩ := trodAll_cons r1
  obtain ⟨rfl, rfl, rfl⟩ := trodAll_nil r2
  obtain rfl : args = #[v0, v1, v2] := by cases args; simp_all
  obtain ⟨rfl, rfl⟩ := trodVars_none hV
  have k0 := h0
  have lt0 : ∀ x ∈ p0, x.block < W.heap.size := by obtain ⟨m, hm⟩ := k0; exact DataW.trod_lt m _ _ _ hm
  have k1 := h1
  have lt1 : ∀ x ∈ p1, x.block < W.heap.size := by obtain ⟨m, hm⟩ := k1; exact DataW.trod_lt m _ _ _ hm
  have k2 := h2
  have lt2 : ∀ x ∈ p2, x.block < W.heap.size := by obtain ⟨m, hm⟩ := k2; exact DataW.trod_lt m _ _ _ hm
  have z0k := fun (W' : World) (bel : Below W.heap.size W W') => Below.trod laidOut (by as_aux_lemma => kernel_rfl) (of_decide_eq_true (by as_aux_lemma => kernel_rfl)) k0 bel lt0
  have z1k := fun (W' : World) (bel : Below W.heap.size W W') => Below.trod laidOut (by as_aux_lemma => kernel_rfl) (of_decide_eq_true (by as_aux_lemma => kernel_rfl)) k1 bel lt1
  have z2k := fun (W' : World) (bel : Below W.heap.size W W') => Below.trod laidOut (by as_aux_lemma => kernel_rfl) (of_decide_eq_true (by as_aux_lemma => kernel_rfl)) k2 bel lt2
  obtain ⟨c00, c01, c02, y00, y01, y02, m0, rfl, rfl, rfl, g00, g01, g02⟩ := open_agg3 Try.underlying30 (by as_aux_lemma => kernel_rfl) (by as_aux_lemma => kernel_rfl) (hval 0 30 v0 rfl rfl) h0
  obtain ⟨a00, e00, q00, w00⟩ := DataW.trod_int Try.underlying2 g00
  simp only [List.cons.injEq, and_true] at e00; subst e00
  obtain ⟨a01, e01, q01, w01⟩ := DataW.trod_int Try.underlying2 g01
  simp only [List.cons.injEq, and_true] at e01; subst e01
  obtain ⟨a02, e02, q02, w02⟩ := DataW.trod_int Try.underlying2 g02
  simp only [List.cons.injEq, and_true] at e02; subst e02
  obtain ⟨c10, c11, c12, y10, y11, y12, m1, rfl, rfl, rfl, g10, g11, g12⟩ := open_agg3 Try.underlying30 (by as_aux_lemma => kernel_rfl) (by as_aux_lemma => kernel_rfl) (hval 1 30 v1 rfl rfl) h1
  obtain ⟨a10, e10, q10, w10⟩ := DataW.trod_int Try.underlying2 g10
  simp only [List.cons.injEq, and_true] at e10; subst e10
  obtain ⟨a11, e11, q11, w11⟩ := DataW.trod_int Try.underlying2 g11
  simp only [List.cons.injEq, and_true] at e11; subst e11
  obtain ⟨a12, e12, q12, w12⟩ := DataW.trod_int Try.underlying2 g12
  simp only [List.cons.injEq, and_true] at e12; subst e12
  obtain ⟨c20, c21, c22, y20, y21, y22, m2, rfl, rfl, rfl, g20, g21, g22⟩ := open_agg3 Try.underlying30 (by as_aux_lemma => kernel_rfl) (by as_aux_lemma => kernel_rfl) (hval 2 30 v2 rfl rfl) h2
  obtain ⟨a20, e20, q20, w20⟩ := DataW.trod_int Try.underlying2 g20
  simp only [List.cons.injEq, and_true] at e20; subst e20
  obtain ⟨a21, e21, q21, w21⟩ := DataW.trod_int Try.underlying2 g21
  simp only [List.cons.injEq, and_true] at e21; subst e21
  obtain ⟨a22, e22, q22, w22⟩ := DataW.trod_int Try.underlying2 g22
  simp only [List.cons.injEq, and_true] at e22; subst e22
  clear hA0 hval0
  refine (wLiesBetween a00 a01 a02 a10 a11 a12 a20 a21 a22 (wfB w00) (wfB w01) (wfB w02) (wfB w10) (wfB w11) (wfB w12) (wfB w20) (wfB w21) (wfB w22) (w := W)).mono fun e W' ⟨he, bel⟩ => ?_
  subst he
  exact ⟨_, rfl, _, _, _, [], _, [], hW', trodAll_mk1 (shut_bool Try.underlying4 _), (trodAll_cons_mk (z0k _ bel) (trodAll_cons_mk (z1k _ bel) (trodAll_cons_mk (z2k _ bel) trodAll_mk0))), rfl, bel.frame _, fun h => by cases h⟩

theorem closed : joinedFacts Try.checked.prog 7 Try.f7 Rows.fnExactLiesBetweenSpec Rows.fnExactLiesBetweenRow = true := by
  unfold joinedFacts
  simp only [Bool.and_eq_true]
  repeat' apply And.intro
  all_goals (first | (with_reducible exact head_may) | (with_reducible exact head_laid) | (with_reducible exact head_maps) | (with_reducible exact head_heard) | (rw [head_final]; as_aux_lemma => kernel_rfl) | (rw [head_make]; as_aux_lemma => kernel_rfl) | (rw [head_keys]; as_aux_lemma => kernel_rfl) | (as_aux_lemma => kernel_rfl))

theorem over : Rows.fnExactLiesBetweenRow.holds Try.pinned (OpenSpec.ofChange Rows.fnExactLiesBetweenSpec) :=
  OpenClaim.holds_of_wide 7 Try.f7 rfl rfl rfl rfl rfl rfl rfl ⟨rfl, rfl, rfl, rfl, rfl⟩ rfl rfl rfl rfl rfl (by as_aux_lemma => kernel_rfl) Try.func7 closed
    (of_decide_eq_true (by as_aux_lemma => kernel_rfl)) (by unfold Func.isWrapper; first | (rw [if_pos (by decide +kernel)]; kernel_rfl) | (rw [if_neg (by decide +kernel)]; exact ⟨rfl, rfl⟩))
    (fun os started H enc _ => lifted os started H enc)

theorem proved : Rows.FnExactLiesBetweenSaid := over
#print axioms proved
end Go.Proofs.Ytpebjphejpakpaa.fnExactLiesBetweenDone
