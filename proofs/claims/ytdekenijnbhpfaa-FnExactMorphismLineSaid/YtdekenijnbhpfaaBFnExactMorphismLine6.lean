/- Texts of the claim on FnExactMorphismLine, joined (part 6 of 6): walks of the functions, what they come to, and in the last part the row. No condition of mine. -/
import Derived.Test.YtdekenijnbhpfaaBFnExactMorphismLine0
import Derived.Test.YtdekenijnbhpfaaRows
import Derived.Test.YtdekenijnbhpfaaBFnExactMorphismLine1
import Derived.Test.YtdekenijnbhpfaaBFnExactMorphismLine5
import Derived.WalkKit
import Derived.ProofKit
import Derived.OpenShut
import Derived.ShutString
import Derived.ChangeOld
import Derived.Below
import Derived.SizedLaws
/- FnExactMorphismLine: the program's function does what the law says, for all arguments: the row. No condition of mine. -/
namespace Go.Proofs.Ytdekenijnbhpfaa.fnExactMorphismLine
open Go.ChangeShapes Go.WideShapes Go.ChangeAt Go.RowKit Go.Proofs.YtdekenijnbhpfaaW.PrintWords Go.Proofs.Ytdekenijnbhpfaa.Open
open Go.ChangeMaps (open_string shut_string)
set_option linter.unusedVariables false
theorem own : ownKnob Try.prog.godebug = none := by kernel_rfl
theorem laidOut : laidOutB Try.prog = true := by kernel_rfl
theorem cells1_ (cs : Array Value) (h : cs.size = 1) : ∃ c0, cs = #[c0] := by
 obtain ⟨l⟩ := cs
 match l, h with
 | [c0], _ => exact ⟨c0, rfl⟩
set_option maxHeartbeats 2000000 in
set_option maxRecDepth 100000 in
theorem lifted (os : Os) (started : os.Started) (H : Type) (enc : TypeId × Value → H) :
  ReturnsInHanded {} Try.checked os 3 .any (Rows.fnExactMorphismLineSpec.pre6 enc Try.prog Try.f3 Rows.fnExactMorphismLineRow.domain false) (Rows.fnExactMorphismLineSpec.post enc Try.prog Try.f3 false true false false) := by
 refine returnsInHanded_of_change_sized (C := Try.checked) own started (by kernel_rfl) Try.func3
  (ChangeSpec.witness6 (enc := enc) (C := Try.checked) false ⟨#[], #[.agg #[.slice none 0 0]], []⟩ 8 (by kernel_rfl) (by kernel_rfl) (by kernel_rfl) (by kernel_rfl)) ?_
 intro W base args ds gs before hval0 hW hcnd hsz0 _; have hsz : (DataW.weightsEach Try.prog (Try.f3.params.toList ++ Rows.fnExactMorphismLineSpec.plain.varTypes Try.prog) (ds ++ gs)).all (· ≤ reachBytes) = true := hsz0; have hval : ∀ (j : Nat) t v, Try.f3.params[j]? = some t → args[j]? = some v → Value.okWide Try.prog W .any base t v := hval0; have hW' := hW; obtain ⟨p, q, hA0, hV, rfl, hfz, hnd⟩ := hW; have hA : DataW.TrodAll enc Try.prog W 0 (fun _ => true) true Try.f3.params.toList args.toList ds p := hA0; rw [Try.params3] at hA hval hsz; obtain ⟨v0, vs0, d0, ds0, p0, q0, hargs, rfl, rfl, h0, r0⟩ := trodAll_cons hA; obtain ⟨rfl, rfl, rfl⟩ := trodAll_nil r0; obtain rfl : args = #[v0] := by cases args; simp_all
 obtain ⟨rfl, rfl⟩ := trodVars_none hV; have k0 := h0; have lt0 : ∀ x ∈ p0, x.block < W.heap.size := by obtain ⟨m, hm⟩ := k0; exact DataW.trod_lt m _ _ _ hm
 obtain ⟨cs0, rfl, hz0⟩ := okWide_struct Try.underlying24 (hval 0 24 v0 rfl rfl); obtain ⟨fu0, hf0⟩ := h0; have hz0 : cs0.size = 1 := hz0.trans (by kernel_rfl); obtain ⟨x0_0, rfl⟩ := cells1_ cs0 hz0; obtain ⟨n0_0, y0_0, e0_0⟩ := struct_field Try.underlying24 hf0 0 0 22 1 _ rfl rfl rfl (by kernel_rfl); have e0_0 : DataW.trod enc Try.prog W 0 (fun _ => true) true n0_0 22 [x0_0] = some y0_0 := e0_0; obtain ⟨A0_0, c0_0, l0_0, rfl, hc0_0, hr0_0, hm0_0, hw0_0⟩ := Opens.field Try.underlying22 (by kernel_rfl) (Opens.slice Try.underlying31 (by kernel_rfl) (Opens.int Try.underlying3)) e0_0; clear hA0 hval0 hsz0 hsz; refine (M.lawMorph W A0_0 c0_0 l0_0 hr0_0 hc0_0 hm0_0 hw0_0).mono fun e W' ⟨he, bel⟩ => ?_
 subst he; exact ⟨_, rfl, _, _, _, [], _, [], hW', trodAll_mk1 (shut_bool Try.underlying4 _), (trodAll_cons_mk (Below.trod laidOut (by kernel_rfl) (of_decide_eq_true (by kernel_rfl)) k0 bel lt0) trodAll_mk0), rfl, bel.frame _, fun h => by cases h⟩
theorem over : Rows.fnExactMorphismLineRow.holds Try.pinned (OpenSpec.ofChange Rows.fnExactMorphismLineSpec) :=
 OpenClaim.holds_of_wide 3 Try.f3 rfl rfl rfl rfl rfl rfl rfl ⟨rfl, rfl, rfl, rfl, rfl⟩ rfl rfl rfl rfl rfl (by kernel_rfl) Try.func3 (by kernel_rfl)
  (of_decide_eq_true (by kernel_rfl)) (by unfold Func.isWrapper; first | (rw [if_pos (by decide +kernel)]; kernel_rfl) | (rw [if_neg (by decide +kernel)]; exact ⟨rfl, rfl⟩))
  (fun os started H enc _ => lifted os started H enc)
theorem proved : Rows.FnExactMorphismLineSaid := over
end Go.Proofs.Ytdekenijnbhpfaa.fnExactMorphismLine
namespace Go.Proofs.Ytdekenijnbhpfaa
/-- The row, under a short name, for the claim. -/
theorem fnExactMorphismLine_holds : Rows.FnExactMorphismLineSaid := fnExactMorphismLine.proved
end Go.Proofs.Ytdekenijnbhpfaa
