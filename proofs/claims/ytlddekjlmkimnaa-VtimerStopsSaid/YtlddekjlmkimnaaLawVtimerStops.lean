import Derived.Test.YtlddekjlmkimnaaRows
import Derived.Test.YtlddekjlmkimnaaJ46
import Derived.Test.YtlddekjlmkimnaaLstops
import Derived.WalkKit
import Derived.ProofKit
import Derived.OpenShut
import Derived.ShutString
import Derived.ChangeOld
import Derived.Below
import Derived.SizedLaws
import Derived.WideKeyPair
/-
 PROVED: the law mainsheetlaw18.VtimerStops returns true at every input, and its arguments read behind the call as they read before (what is started and stopped). CONDITIONS: none beyond the row's own.
-/
namespace Go.Proofs.Ytlddekjlmkimnaa.vtimerStops
open Go.WideMaps (open_pair)
open Go.ChangeShapes Go.WideShapes Go.ChangeAt Go.RowKit Go.Proofs.YtlddekjlmkimnaaW.PrintWords Go.Proofs.YtlddekjlmkimnaaW.PrintLast Go.Proofs.YtlddekjlmkimnaaW.PrintMore
set_option linter.unusedVariables false
theorem own : ownKnob Try.prog.godebug = none := by kernel_rfl
theorem laidOut : laidOutB Try.prog = true := by kernel_rfl
set_option maxRecDepth 100000 in
theorem lifted (os : Os) (started : os.Started) (H : Type) (enc : TypeId × Value → H) :
 ReturnsInHanded {} Try.checked os 6 .any (Rows.vtimerStopsSpec.pre6 enc Try.prog Try.f6 Rows.vtimerStopsRow.domain false) (Rows.vtimerStopsSpec.post enc Try.prog Try.f6 false true false false) := by
 refine returnsInHanded_of_change_sized (C := Try.checked) own started (by kernel_rfl) Try.func6
  (ChangeSpec.witness6 (enc := enc) (C := Try.checked) false ⟨#[], #[.agg #[.int .i64 0, .slice none 0 0, .slice none 0 0], .agg #[.int .i64 0, .int .i64 0, .int .i64 0, .int .i64 0, .int .i64 0, .int .i64 0, .bool false]], []⟩ 8 (by kernel_rfl) (by kernel_rfl) (by kernel_rfl) (by kernel_rfl)) ?_
 intro W base args ds gs before hval0 hW hcnd hsz0 _
 have hval : ∀ (j : Nat) t v, Try.f6.params[j]? = some t → args[j]? = some v → Value.okWide Try.prog W .any base t v := hval0
 have hW' := hW
 obtain ⟨p, q, hA0, hV, rfl, hfz, hnd⟩ := hW
 have hA : DataW.TrodAll enc Try.prog W 0 (fun _ => true) true Try.f6.params.toList args.toList ds p := hA0
 rw [Try.params6] at hA hval
 obtain ⟨v0, vs0, d0, ds0, p0, q0, hargs, rfl, rfl, h0, r0⟩ := trodAll_cons hA
 obtain ⟨v1, vs1, d1, ds1, p1, q1, rfl, rfl, rfl, h1, r1⟩ := trodAll_cons r0
 obtain ⟨rfl, rfl, rfl⟩ := trodAll_nil r1
 obtain rfl : args = #[v0, v1] := by cases args; simp_all
 obtain ⟨rfl, rfl⟩ := trodVars_none hV
 have lt0 : ∀ x ∈ p0, x.block < W.heap.size := by obtain ⟨m, hm⟩ := h0; exact DataW.trod_lt m _ _ _ hm
 obtain ⟨now0, A0, c0, l0, B0, e0, m0, rfl, hC0, hlc0, hD0, hld0⟩ := C.open_al (hval 0 27 v0 rfl rfl) h0
 have lt1 : ∀ x ∈ p1, x.block < W.heap.size := by obtain ⟨m, hm⟩ := h1; exact DataW.trod_lt m _ _ _ hm
 obtain ⟨o1_0, o1_1, o1_2, o1_3, o1_4, o1_5, o1_6, rfl⟩ := C.open_op (hval 1 58 v1 rfl rfl) h1
 clear hA0 hval0 hsz0 hval
 refine (C.mainsheetlaw18_VtimerStops.calls 1000 now0 A0 c0 l0 B0 e0 m0 o1_0 o1_1 o1_2 o1_3 o1_4 o1_5 o1_6 true W hC0 hlc0 hD0 hld0 rfl (C.vtimerStops_true now0 l0 m0 o1_0 o1_1 o1_2 o1_3 o1_4 o1_5 o1_6)).mono fun e W' ⟨he, bel⟩ => ?_
 subst he
 exact ⟨_, rfl, _, _, _, [], _, [], hW', trodAll_mk1 (shut_bool Try.underlying4 _), (trodAll_cons_mk (Below.trod laidOut (by kernel_rfl) (of_decide_eq_true (by kernel_rfl)) h0 bel lt0) (trodAll_cons_mk (Below.trod laidOut (by kernel_rfl) (of_decide_eq_true (by kernel_rfl)) h1 bel lt1) trodAll_mk0)), rfl, bel.frame _, fun h => by cases h⟩
theorem over : Rows.vtimerStopsRow.holds Try.pinned (OpenSpec.ofChange Rows.vtimerStopsSpec) :=
 OpenClaim.holds_of_wide 6 Try.f6 rfl rfl rfl rfl rfl rfl rfl ⟨rfl, rfl, rfl, rfl, rfl⟩ rfl rfl rfl rfl rfl (by kernel_rfl) Try.func6 (by kernel_rfl)
  (of_decide_eq_true (by kernel_rfl)) (by unfold Func.isWrapper; first | (rw [if_pos (by decide +kernel)]; kernel_rfl) | (rw [if_neg (by decide +kernel)]; exact ⟨rfl, rfl⟩))
  (fun os started H enc _ => lifted os started H enc)
theorem proved : Rows.VtimerStopsSaid := over
#print axioms proved
end Go.Proofs.Ytlddekjlmkimnaa.vtimerStops
namespace Go.Proofs.Ytlddekjlmkimnaa
/-- The row, under a short name, for the claim. -/
theorem vtimerStops_holds : Rows.VtimerStopsSaid := vtimerStops.proved
end Go.Proofs.Ytlddekjlmkimnaa
