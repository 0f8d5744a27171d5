/- Texts of the claim on FnExactParseFormula, joined (part 7 of 7): walks of the functions, what they come to, and in the last part the row. No condition of mine. -/
import Derived.Test.YtdekenijnbhpfaaDoorBFnExactParseFormula0
import Derived.Test.YtdekenijnbhpfaaDoorRows
import Derived.Test.YtdekenijnbhpfaaDoorCards
import Derived.Test.YtdekenijnbhpfaaDoorTie
import Derived.Test.YtdekenijnbhpfaaDoorBFnExactParseFormula1
import Derived.SevenTiedAt
import Derived.Test.YtdekenijnbhpfaaDoorBFnExactParseFormula5
import Derived.Test.YtdekenijnbhpfaaDoorBFnExactParseFormula6
import Derived.WalkKit
import Derived.ProofKit
import Derived.OpenShut
import Derived.ShutString
import Derived.ChangeOld
import Derived.Below
import Derived.SizedLaws
namespace Go.Proofs.YtdekenijnbhpfaaDoor.fnExactParseFormula
open Go.ChangeShapes Go.WideShapes Go.ChangeAt Go.RowKit
open Go.ChangeMaps (open_string shut_string)
set_option linter.unusedVariables false
theorem own : ownKnob Tryd.prog.godebug = none := by kernel_rfl
set_option maxRecDepth 100000 in
theorem lifted (os : Os) (started : os.Started) (H : Type) (enc : TypeId × Value → H) :
  ReturnsInHanded {} Tryd.checked os 5 .any (fun w args => (Rows.fnExactParseFormulaSpec.pre enc Tryd.prog Tryd.f5 Rows.fnExactParseFormulaRow.domain false w args ∧ laidMet Tryd.prog KD.tabs w) ∧ sizedMet enc Tryd.prog Tryd.f5 (OpenSpec.ofChange Rows.fnExactParseFormulaSpec) false w args) (Rows.fnExactParseFormulaSpec.post enc Tryd.prog Tryd.f5 false true false false) := by
 refine KD.returnsInHanded_laid (C := Tryd.checked) own started (by kernel_rfl) Tryd.func5
  (ChangeSpec.witness_at (enc := enc) (C := Tryd.checked) (X := fun w _ => laidMet Tryd.prog KD.tabs w) false (KD.laidWorld os) #[.string ByteArray.empty] 8 rfl (by kernel_rfl) (by kernel_rfl) (by kernel_rfl) (by kernel_rfl) (by kernel_rfl) (KD.laid_met os _)) ?_
 intro W base args ds gs before hval0 hW hcnd hsz0 hL _; have HT := KD.tb_of_laid hL; clear hL; have hsz : (DataW.weightsEach Tryd.prog (Tryd.f5.params.toList ++ Rows.fnExactParseFormulaSpec.plain.varTypes Tryd.prog) (ds ++ gs)).all (· ≤ reachBytes) = true := hsz0; have hval : ∀ (j : Nat) t v, Tryd.f5.params[j]? = some t → args[j]? = some v → Value.okWide Tryd.prog W .any base t v := hval0; have hW' := hW; obtain ⟨p, q, hA0, hV, rfl, hfz, hnd⟩ := hW; have hA : DataW.TrodAll enc Tryd.prog W 0 (fun _ => true) true Tryd.f5.params.toList args.toList ds p := hA0; rw [Tryd.params5] at hA hval hsz; obtain ⟨v0, vs0, d0, ds0, p0, q0, hargs, rfl, rfl, h0, r0⟩ := trodAll_cons hA; obtain ⟨rfl, rfl, rfl⟩ := trodAll_nil r0; obtain rfl : args = #[v0] := by cases args; simp_all
 obtain ⟨rfl, rfl⟩ := trodVars_none hV; obtain ⟨a0, rfl, rfl, rfl, y0⟩ := open_string Tryd.underlying9 (hval 0 9 v0 rfl rfl) h0; have w0 : a0.size ≤ 140737488351232 := by
  have z := sized_string hsz (j := 0) (t := 9) rfl rfl; rw [Array.length_toList] at z; exact z
 clear hA0 hval0 hsz0 hsz; refine (M.laws_FnExactParseFormula.walk Pure.FnExactParseFormula a0 W HT w0).mono fun e W' ⟨he, bel⟩ => ?_
 subst he; exact ⟨_, rfl, _, _, _, [], _, [], hW', trodAll_mk1 (shut_bool Tryd.underlying4 _), (trodAll_cons_mk (shut_string Tryd.underlying9 y0) trodAll_mk0), rfl, bel.frame _, fun h => by cases h⟩
theorem over : Rows.fnExactParseFormulaRow.holds Tryd.pinned (OpenSpec.ofChange Rows.fnExactParseFormulaSpec) :=
 OpenClaim.holds_of_wide 5 Tryd.f5 rfl rfl rfl rfl rfl rfl rfl ⟨rfl, rfl, rfl, rfl, rfl⟩ rfl rfl rfl rfl rfl (by kernel_rfl) Tryd.func5 (by kernel_rfl)
  (of_decide_eq_true (by kernel_rfl)) (by unfold Func.isWrapper; first | (rw [if_pos (by decide +kernel)]; kernel_rfl) | (rw [if_neg (by decide +kernel)]; exact ⟨rfl, rfl⟩))
  (fun os started H enc _ => lifted os started H enc)
set_option maxRecDepth 100000 in
theorem card : Rows.FnExactParseFormulaCardSaid :=
 Claim7.holds_tied_plain_at .later [] [.data, .data, .data, .sentinel, .sentinel] true (true, "51e832e5fd1114ec3c4e4bf2be7090e31498a1570e358f72cfca34bb68ffdd01") true
  over (fun _ h => by cases h) (by kernel_rfl) (fun _ h => by cases h) fnExactParseFormula_row_tie rfl ⟨rfl, rfl⟩ (by kernel_rfl) rfl
  (fun f fn hf hfn => by
   obtain rfl : f = 5 := Option.some.inj (hf.symm.trans (show Tryd.prog.funcNamed "loop.example/g02079/laws.FnExactParseFormula" = some 5 by kernel_rfl)); obtain rfl : fn = Tryd.f5 := (Option.some.inj (Tryd.func5.symm.trans hfn)).symm
   exact ⟨by kernel_rfl, fun j t ht => by
    rw [Tryd.params5] at ht; have hj : j < 1 := by have := (Array.getElem?_eq_some_iff.1 ht).1; simpa using this
    match j, hj, ht with
    | 0, _, ht => obtain rfl : t = 9 := (Option.some.inj ht).symm; exact (show Tryd.prog.wantsStandIn 9 = false by kernel_rfl)
    | j + 1, hj, _ => exact absurd hj (by omega)⟩)
  (by kernel_rfl)
end Go.Proofs.YtdekenijnbhpfaaDoor.fnExactParseFormula
namespace Go.Proofs.YtdekenijnbhpfaaDoor
/-- The card, under a short name, for the claim. -/
theorem fnExactParseFormula_holds : Rows.FnExactParseFormulaCardSaid := fnExactParseFormula.card
end Go.Proofs.YtdekenijnbhpfaaDoor
