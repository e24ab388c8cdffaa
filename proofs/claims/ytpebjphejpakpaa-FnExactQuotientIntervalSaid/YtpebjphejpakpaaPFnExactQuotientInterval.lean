/- FnExactQuotientInterval: the given statement, for every input: the walk of the law (YtpebjphejpakpaaWQuoIv) put into the row's frame. -/
import Derived.Test.YtpebjphejpakpaaHead
import Derived.Test.YtpebjphejpakpaaWQuoIv
import Derived.WalkKit
import Derived.ProofKit
import Derived.OpenShut
import Derived.ShutString
import Derived.ChangeOld
import Derived.Below
import Derived.Lib.SmallJoins
namespace Go.Proofs.Ytpebjphejpakpaa.fnExactQuotientIntervalDone
open Go.ChangeShapes Go.WideShapes Go.ChangeAt Go.RowKit Go.Joins
open Go.ChangeMaps (open_string shut_string)
set_option linter.unusedVariables false

theorem own : ownKnob Try.prog.godebug = none := by kernel_rfl
theorem laidOut : laidOutB Try.prog = true := by kernel_rfl

set_option maxRecDepth 100000 in
theorem lifted (os : Os) (started : os.Started) (H : Type) (enc : TypeId × Value → H) :
    ReturnsInHanded {} Try.checked os 16 .any (Rows.fnExactQuotientIntervalSpec.pre6 enc Try.prog Try.f16 Rows.fnExactQuotientIntervalRow.domain false) (Rows.fnExactQuotientIntervalSpec.post enc Try.prog Try.f16 false true false false) := by
  refine returnsInHanded_of_change (C := Try.checked) own started (by as_aux_lemma => kernel_rfl) Try.func16
    (ChangeSpec.witness6 (enc := enc) (C := Try.checked) false ⟨#[], #[.agg #[.int .i64 0, .int .i64 0], .agg #[.int .i64 0, .int .i64 0]], []⟩ 8 (by as_aux_lemma => kernel_rfl) (by as_aux_lemma => kernel_rfl) (by as_aux_lemma => kernel_rfl) (by as_aux_lemma => kernel_rfl)) ?_
  intro W base args ds gs before hval0 hW hcnd _
  have hval : ∀ (j : Nat) t v, Try.f16.params[j]? = some t → args[j]? = some v → Value.okWide Try.prog W .any base t v := hval0
  have hW' := hW
  obtain ⟨p, q, hA0, hV, rfl, hfz, hnd⟩ := hW
  have hA : DataW.TrodAll enc Try.prog W 0 (fun _ => true) true Try.f16.params.toList args.toList ds p := hA0
  rw [Try.params16] at hA hval
  obtain ⟨v0, vs0, d0, ds0, p0, q0, hargs, rfl, rfl, h0, r0⟩ := trodAll_cons hA
  obtain ⟨v1, vs1, d1, ds1, p1, q1, rfl, rfl, rfl, h1, r1⟩ := trodAll_cons r0
  obtain ⟨rfl, rfl, rfl⟩ := trodAll_nil r1
  obtain rfl : args = #[v0, v1] := by cases args; simp_all
  obtain ⟨rfl, rfl⟩ := trodVars_none hV
  have k0 := h0
  have lt0 : ∀ x ∈ p0, x.block < W.heap.size := by obtain ⟨m, hm⟩ := k0; exact DataW.trod_lt m _ _ _ hm
  have k1 := h1
  have lt1 : ∀ x ∈ p1, x.block < W.heap.size := by obtain ⟨m, hm⟩ := k1; exact DataW.trod_lt m _ _ _ hm
  have z0k := fun (W' : World) (bel : Below W.heap.size W W') => Below.trod laidOut (by as_aux_lemma => kernel_rfl) (of_decide_eq_true (by as_aux_lemma => kernel_rfl)) k0 bel lt0
  have z1k := fun (W' : World) (bel : Below W.heap.size W W') => Below.trod laidOut (by as_aux_lemma => kernel_rfl) (of_decide_eq_true (by as_aux_lemma => kernel_rfl)) k1 bel lt1
  obtain ⟨c00, c01, y00, y01, m0, rfl, rfl, rfl, g00, g01⟩ := open_agg2 Try.underlying46 (by as_aux_lemma => kernel_rfl) (by as_aux_lemma => kernel_rfl) (hval 0 46 v0 rfl rfl) h0
  obtain ⟨a00, e00, q00, w00⟩ := DataW.trod_int Try.underlying2 g00
  simp only [List.cons.injEq, and_true] at e00; subst e00
  obtain ⟨a01, e01, q01, w01⟩ := DataW.trod_int Try.underlying2 g01
  simp only [List.cons.injEq, and_true] at e01; subst e01
  obtain ⟨c10, c11, y10, y11, m1, rfl, rfl, rfl, g10, g11⟩ := open_agg2 Try.underlying46 (by as_aux_lemma => kernel_rfl) (by as_aux_lemma => kernel_rfl) (hval 1 46 v1 rfl rfl) h1
  obtain ⟨a10, e10, q10, w10⟩ := DataW.trod_int Try.underlying2 g10
  simp only [List.cons.injEq, and_true] at e10; subst e10
  obtain ⟨a11, e11, q11, w11⟩ := DataW.trod_int Try.underlying2 g11
  simp only [List.cons.injEq, and_true] at e11; subst e11
  clear hA0 hval0
  refine (wQuotientInterval a00 a01 a10 a11 (wfB w00) (wfB w01) (wfB w10) (wfB w11) (w := W)).mono fun e W' ⟨he, bel⟩ => ?_
  subst he
  exact ⟨_, rfl, _, _, _, [], _, [], hW', trodAll_mk1 (shut_bool Try.underlying4 _), (trodAll_cons_mk (z0k _ bel) (trodAll_cons_mk (z1k _ bel) trodAll_mk0)), rfl, bel.frame _, fun h => by cases h⟩

theorem closed : joinedFacts Try.checked.prog 16 Try.f16 Rows.fnExactQuotientIntervalSpec Rows.fnExactQuotientIntervalRow = true := by
  unfold joinedFacts
  simp only [Bool.and_eq_true]
  repeat' apply And.intro
  all_goals (first | (with_reducible exact head_may) | (with_reducible exact head_laid) | (with_reducible exact head_maps) | (with_reducible exact head_heard) | (rw [head_final]; as_aux_lemma => kernel_rfl) | (rw [head_make]; as_aux_lemma => kernel_rfl) | (rw [head_keys]; as_aux_lemma => kernel_rfl) | (as_aux_lemma => kernel_rfl))

theorem over : Rows.fnExactQuotientIntervalRow.holds Try.pinned (OpenSpec.ofChange Rows.fnExactQuotientIntervalSpec) :=
  OpenClaim.holds_of_wide 16 Try.f16 rfl rfl rfl rfl rfl rfl rfl ⟨rfl, rfl, rfl, rfl, rfl⟩ rfl rfl rfl rfl rfl (by as_aux_lemma => kernel_rfl) Try.func16 closed
    (of_decide_eq_true (by as_aux_lemma => kernel_rfl)) (by unfold Func.isWrapper; first | (rw [if_pos (by decide +kernel)]; kernel_rfl) | (rw [if_neg (by decide +kernel)]; exact ⟨rfl, rfl⟩))
    (fun os started H enc _ => lifted os started H enc)

theorem proved : Rows.FnExactQuotientIntervalSaid := over
#print axioms proved
end Go.Proofs.Ytpebjphejpakpaa.fnExactQuotientIntervalDone
