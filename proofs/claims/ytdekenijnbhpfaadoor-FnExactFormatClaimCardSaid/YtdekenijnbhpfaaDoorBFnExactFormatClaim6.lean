/- Texts of the claim on FnExactFormatClaim, joined (part 6 of 6): walks of the functions, what they come to, and in the last part the row. No condition of mine. -/
import Derived.Test.YtdekenijnbhpfaaDoorBFnExactFormatClaim0
import Derived.Test.YtdekenijnbhpfaaDoorRows
import Derived.Test.YtdekenijnbhpfaaDoorCards
import Derived.Test.YtdekenijnbhpfaaDoorTie
import Derived.Test.YtdekenijnbhpfaaDoorBFnExactFormatClaim1
import Derived.SevenTiedAt
import Derived.Test.YtdekenijnbhpfaaDoorBFnExactFormatClaim5
import Derived.WalkKit
import Derived.ProofKit
import Derived.OpenShut
import Derived.ShutString
import Derived.ChangeOld
import Derived.Below
import Derived.SizedLaws
/- FnExactFormatClaim: the program's function does what the law says, for all arguments: the row. No condition of mine. -/
namespace Go.Proofs.YtdekenijnbhpfaaDoor.fnExactFormatClaim
open Go.ChangeShapes Go.WideShapes Go.ChangeAt Go.RowKit Go.Proofs.YtdekenijnbhpfaaDoorW.PrintWords Go.Proofs.YtdekenijnbhpfaaDoor.Open
open Go.ChangeMaps (open_string shut_string)
set_option linter.unusedVariables false
theorem own : ownKnob Tryd.prog.godebug = none := by kernel_rfl
theorem laidOut : laidOutB Tryd.prog = true := by kernel_rfl
instance inh102 : Inhabited M.S102 := ⟨M.z102⟩
theorem cells11_ (cs : Array Value) (h : cs.size = 11) : ∃ c0 c1 c2 c3 c4 c5 c6 c7 c8 c9 c10, cs = #[c0, c1, c2, c3, c4, c5, c6, c7, c8, c9, c10] := by
 obtain ⟨l⟩ := cs
 match l, h with
 | [c0, c1, c2, c3, c4, c5, c6, c7, c8, c9, c10], _ => exact ⟨c0, c1, c2, c3, c4, c5, c6, c7, c8, c9, c10, rfl⟩
set_option maxHeartbeats 2000000 in
set_option maxRecDepth 100000 in
theorem lifted (os : Os) (started : os.Started) (H : Type) (enc : TypeId × Value → H) :
  ReturnsInHanded {} Tryd.checked os 4 .any (fun w args => (Rows.fnExactFormatClaimSpec.pre enc Tryd.prog Tryd.f4 Rows.fnExactFormatClaimRow.domain false w args ∧ laidMet Tryd.prog KD.tabs w) ∧ sizedMet enc Tryd.prog Tryd.f4 (OpenSpec.ofChange Rows.fnExactFormatClaimSpec) false w args) (Rows.fnExactFormatClaimSpec.post enc Tryd.prog Tryd.f4 false true false false) := by
 refine KD.returnsInHanded_laid (C := Tryd.checked) own started (by kernel_rfl) Tryd.func4
  (ChangeSpec.witness_at (enc := enc) (C := Tryd.checked) (X := fun w _ => laidMet Tryd.prog KD.tabs w) false (KD.laidWorld os) #[.agg #[.int .i64 0, .int .i64 0, .slice none 0 0, .slice none 0 0, .int .i64 0, .slice none 0 0, .slice none 0 0, .slice none 0 0, .slice none 0 0, .int .i64 0, .slice none 0 0]] 8 rfl (by kernel_rfl) (by kernel_rfl) (by kernel_rfl) (by kernel_rfl) (by kernel_rfl) (KD.laid_met os _)) ?_
 intro W base args ds gs before hval0 hW hcnd hsz0 hL _; have HT := KD.tb_of_laid hL; clear hL; have hsz : (DataW.weightsEach Tryd.prog (Tryd.f4.params.toList ++ Rows.fnExactFormatClaimSpec.plain.varTypes Tryd.prog) (ds ++ gs)).all (· ≤ reachBytes) = true := hsz0; have hval : ∀ (j : Nat) t v, Tryd.f4.params[j]? = some t → args[j]? = some v → Value.okWide Tryd.prog W .any base t v := hval0; have hW' := hW; obtain ⟨p, q, hA0, hV, rfl, hfz, hnd⟩ := hW; have hA : DataW.TrodAll enc Tryd.prog W 0 (fun _ => true) true Tryd.f4.params.toList args.toList ds p := hA0; rw [Tryd.params4] at hA hval hsz; obtain ⟨v0, vs0, d0, ds0, p0, q0, hargs, rfl, rfl, h0, r0⟩ := trodAll_cons hA; obtain ⟨rfl, rfl, rfl⟩ := trodAll_nil r0; obtain rfl : args = #[v0] := by cases args; simp_all
 obtain ⟨rfl, rfl⟩ := trodVars_none hV; have k0 := h0; have lt0 : ∀ x ∈ p0, x.block < W.heap.size := by obtain ⟨m, hm⟩ := k0; exact DataW.trod_lt m _ _ _ hm
 obtain ⟨cs0, rfl, hz0⟩ := okWide_struct Tryd.underlying32 (hval 0 32 v0 rfl rfl); obtain ⟨fu0, hf0⟩ := h0; have hz0 : cs0.size = 11 := hz0.trans (by kernel_rfl); obtain ⟨x0_0, x0_1, x0_2, x0_3, x0_4, x0_5, x0_6, x0_7, x0_8, x0_9, x0_10, rfl⟩ := cells11_ cs0 hz0; obtain ⟨n0_0, y0_0, e0_0⟩ := struct_field Tryd.underlying32 hf0 0 0 3 1 _ rfl rfl rfl (by kernel_rfl); have e0_0 : DataW.trod enc Tryd.prog W 0 (fun _ => true) true n0_0 3 [x0_0] = some y0_0 := e0_0; obtain ⟨a0_0, rfl, w0_0⟩ := Opens.num Tryd.underlying3 e0_0; obtain ⟨n0_1, y0_1, e0_1⟩ := struct_field Tryd.underlying32 hf0 1 1 29 3 _ rfl rfl rfl (by kernel_rfl); have e0_1 : DataW.trod enc Tryd.prog W 0 (fun _ => true) true n0_1 29 [x0_1, x0_2, x0_3] = some y0_1 := e0_1; obtain ⟨n0_1_0, y0_1_0, e0_1_0⟩ := struct_field Tryd.underlying29 e0_1 0 0 3 1 _ rfl rfl rfl (by kernel_rfl); have e0_1_0 : DataW.trod enc Tryd.prog W 0 (fun _ => true) true n0_1_0 3 [x0_1] = some y0_1_0 := e0_1_0; obtain ⟨a0_1_0, rfl, w0_1_0⟩ := Opens.num Tryd.underlying3 e0_1_0; obtain ⟨n0_1_1, y0_1_1, e0_1_1⟩ := struct_field Tryd.underlying29 e0_1 1 1 27 1 _ rfl rfl rfl (by kernel_rfl); have e0_1_1 : DataW.trod enc Tryd.prog W 0 (fun _ => true) true n0_1_1 27 [x0_2] = some y0_1_1 := e0_1_1; obtain ⟨A0_1_1, c0_1_1, l0_1_1, rfl, hc0_1_1, hr0_1_1, hm0_1_1, hw0_1_1⟩ := Opens.field Tryd.underlying27 (by kernel_rfl) (Opens.slice Tryd.underlying22 (by kernel_rfl) (Opens.int Tryd.underlying3)) e0_1_1; obtain ⟨n0_1_2, y0_1_2, e0_1_2⟩ := struct_field Tryd.underlying29 e0_1 2 2 22 1 _ rfl rfl rfl (by kernel_rfl); have e0_1_2 : DataW.trod enc Tryd.prog W 0 (fun _ => true) true n0_1_2 22 [x0_3] = some y0_1_2 := e0_1_2; obtain ⟨A0_1_2, c0_1_2, l0_1_2, rfl, hc0_1_2, hr0_1_2, hm0_1_2, hw0_1_2⟩ := Opens.field Tryd.underlying22 (by kernel_rfl) (Opens.int Tryd.underlying3) e0_1_2; obtain ⟨n0_2, y0_2, e0_2⟩ := struct_field Tryd.underlying32 hf0 2 4 29 3 _ rfl rfl rfl (by kernel_rfl); have e0_2 : DataW.trod enc Tryd.prog W 0 (fun _ => true) true n0_2 29 [x0_4, x0_5, x0_6] = some y0_2 := e0_2; obtain ⟨n0_2_0, y0_2_0, e0_2_0⟩ := struct_field Tryd.underlying29 e0_2 0 0 3 1 _ rfl rfl rfl (by kernel_rfl); have e0_2_0 : DataW.trod enc Tryd.prog W 0 (fun _ => true) true n0_2_0 3 [x0_4] = some y0_2_0 := e0_2_0; obtain ⟨a0_2_0, rfl, w0_2_0⟩ := Opens.num Tryd.underlying3 e0_2_0; obtain ⟨n0_2_1, y0_2_1, e0_2_1⟩ := struct_field Tryd.underlying29 e0_2 1 1 27 1 _ rfl rfl rfl (by kernel_rfl); have e0_2_1 : DataW.trod enc Tryd.prog W 0 (fun _ => true) true n0_2_1 27 [x0_5] = some y0_2_1 := e0_2_1; obtain ⟨A0_2_1, c0_2_1, l0_2_1, rfl, hc0_2_1, hr0_2_1, hm0_2_1, hw0_2_1⟩ := Opens.field Tryd.underlying27 (by kernel_rfl) (Opens.slice Tryd.underlying22 (by kernel_rfl) (Opens.int Tryd.underlying3)) e0_2_1; obtain ⟨n0_2_2, y0_2_2, e0_2_2⟩ := struct_field Tryd.underlying29 e0_2 2 2 22 1 _ rfl rfl rfl (by kernel_rfl); have e0_2_2 : DataW.trod enc Tryd.prog W 0 (fun _ => true) true n0_2_2 22 [x0_6] = some y0_2_2 := e0_2_2; obtain ⟨A0_2_2, c0_2_2, l0_2_2, rfl, hc0_2_2, hr0_2_2, hm0_2_2, hw0_2_2⟩ := Opens.field Tryd.underlying22 (by kernel_rfl) (Opens.int Tryd.underlying3) e0_2_2; obtain ⟨n0_3, y0_3, e0_3⟩ := struct_field Tryd.underlying32 hf0 3 7 30 1 _ rfl rfl rfl (by kernel_rfl); have e0_3 : DataW.trod enc Tryd.prog W 0 (fun _ => true) true n0_3 30 [x0_7] = some y0_3 := e0_3; obtain ⟨A0_3, c0_3, l0_3, rfl, hc0_3, hr0_3, hm0_3, hw0_3⟩ := Opens.field Tryd.underlying30 (by kernel_rfl) (show Opens Tryd.prog M.k102 _ 102 from Opens.iso (Opens.four Tryd.underlying102 Tryd.underlying3 (by kernel_rfl) (by kernel_rfl) rfl rfl rfl rfl rfl rfl rfl rfl rfl rfl rfl rfl) (fun x : M.S102 => (x.f0, x.f1, x.f2, x.f3)) (fun y => ⟨y.1, y.2.1, y.2.2.1, y.2.2.2⟩) (fun _ => rfl)) e0_3; obtain ⟨n0_4, y0_4, e0_4⟩ := struct_field Tryd.underlying32 hf0 4 8 22 1 _ rfl rfl rfl (by kernel_rfl); have e0_4 : DataW.trod enc Tryd.prog W 0 (fun _ => true) true n0_4 22 [x0_8] = some y0_4 := e0_4; obtain ⟨A0_4, c0_4, l0_4, rfl, hc0_4, hr0_4, hm0_4, hw0_4⟩ := Opens.field Tryd.underlying22 (by kernel_rfl) (Opens.int Tryd.underlying3) e0_4; obtain ⟨n0_5, y0_5, e0_5⟩ := struct_field Tryd.underlying32 hf0 5 9 3 1 _ rfl rfl rfl (by kernel_rfl); have e0_5 : DataW.trod enc Tryd.prog W 0 (fun _ => true) true n0_5 3 [x0_9] = some y0_5 := e0_5; obtain ⟨a0_5, rfl, w0_5⟩ := Opens.num Tryd.underlying3 e0_5; obtain ⟨n0_6, y0_6, e0_6⟩ := struct_field Tryd.underlying32 hf0 6 10 22 1 _ rfl rfl rfl (by kernel_rfl); have e0_6 : DataW.trod enc Tryd.prog W 0 (fun _ => true) true n0_6 22 [x0_10] = some y0_6 := e0_6; obtain ⟨A0_6, c0_6, l0_6, rfl, hc0_6, hr0_6, hm0_6, hw0_6⟩ := Opens.field Tryd.underlying22 (by kernel_rfl) (Opens.int Tryd.underlying3) e0_6; clear hA0 hval0 hsz0 hsz; refine (M.lawFmtC W HT a0_0 w0_0 a0_1_0 w0_1_0 A0_1_1 c0_1_1 l0_1_1 hr0_1_1 hc0_1_1 hm0_1_1 hw0_1_1 A0_1_2 c0_1_2 l0_1_2 hr0_1_2 hc0_1_2 hm0_1_2 hw0_1_2 a0_2_0 w0_2_0 A0_2_1 c0_2_1 l0_2_1 hr0_2_1 hc0_2_1 hm0_2_1 hw0_2_1 A0_2_2 c0_2_2 l0_2_2 hr0_2_2 hc0_2_2 hm0_2_2 hw0_2_2 A0_3 c0_3 l0_3 hr0_3 hc0_3 hm0_3 A0_4 c0_4 l0_4 hr0_4 hc0_4 hm0_4 hw0_4 a0_5 w0_5 A0_6 c0_6 l0_6 hr0_6 hc0_6 hm0_6 hw0_6).mono fun e W' ⟨he, bel⟩ => ?_
 subst he; exact ⟨_, rfl, _, _, _, [], _, [], hW', trodAll_mk1 (shut_bool Tryd.underlying4 _), (trodAll_cons_mk (Below.trod laidOut (by kernel_rfl) (of_decide_eq_true (by kernel_rfl)) k0 bel lt0) trodAll_mk0), rfl, bel.frame _, fun h => by cases h⟩
theorem over : Rows.fnExactFormatClaimRow.holds Tryd.pinned (OpenSpec.ofChange Rows.fnExactFormatClaimSpec) :=
 OpenClaim.holds_of_wide 4 Tryd.f4 rfl rfl rfl rfl rfl rfl rfl ⟨rfl, rfl, rfl, rfl, rfl⟩ rfl rfl rfl rfl rfl (by kernel_rfl) Tryd.func4 (by kernel_rfl)
  (of_decide_eq_true (by kernel_rfl)) (by unfold Func.isWrapper; first | (rw [if_pos (by decide +kernel)]; kernel_rfl) | (rw [if_neg (by decide +kernel)]; exact ⟨rfl, rfl⟩))
  (fun os started H enc _ => lifted os started H enc)
set_option maxRecDepth 100000 in
theorem card : Rows.FnExactFormatClaimCardSaid :=
 Claim7.holds_tied_plain_at .later [] [.data, .data, .data] true (true, "51e832e5fd1114ec3c4e4bf2be7090e31498a1570e358f72cfca34bb68ffdd01") true
  over (fun _ h => by cases h) (by kernel_rfl) (fun _ h => by cases h) fnExactFormatClaim_row_tie rfl ⟨rfl, rfl⟩ (by kernel_rfl) rfl
  (fun f fn hf hfn => by
   obtain rfl : f = 4 := Option.some.inj (hf.symm.trans (show Tryd.prog.funcNamed "loop.example/g02079/laws.FnExactFormatClaim" = some 4 by kernel_rfl)); obtain rfl : fn = Tryd.f4 := (Option.some.inj (Tryd.func4.symm.trans hfn)).symm
   exact ⟨by kernel_rfl, fun j t ht => by
    rw [Tryd.params4] at ht; have hj : j < 1 := by have := (Array.getElem?_eq_some_iff.1 ht).1; simpa using this
    match j, hj, ht with
    | 0, _, ht => obtain rfl : t = 32 := (Option.some.inj ht).symm; exact (show Tryd.prog.wantsStandIn 32 = false by kernel_rfl)
    | j + 1, hj, _ => exact absurd hj (by omega)⟩)
  (by kernel_rfl)
end Go.Proofs.YtdekenijnbhpfaaDoor.fnExactFormatClaim
namespace Go.Proofs.YtdekenijnbhpfaaDoor
/-- The card, under a short name, for the claim. -/
theorem fnExactFormatClaim_holds : Rows.FnExactFormatClaimCardSaid := fnExactFormatClaim.card
end Go.Proofs.YtdekenijnbhpfaaDoor
