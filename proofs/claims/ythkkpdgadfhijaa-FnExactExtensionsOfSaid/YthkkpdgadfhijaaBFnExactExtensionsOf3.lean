/- Texts of the claim on FnExactExtensionsOf, joined (part 3 of 4): walks of the functions, what they come to, and in the last part the row. No condition of mine. -/
import Derived.Test.YthkkpdgadfhijaaBFnExactExtensionsOf1
import Derived.Test.YthkkpdgadfhijaaBFnExactExtensionsOf2
/- Walks for this claim, written by a program of mine over the kit's print. No condition of mine. -/
namespace Go.Proofs.Ythkkpdgadfhijaa.M
open Go.RowKit Go.Proofs.Ythkkpdgadfhijaa.KW Go.Proofs.YthkkpdgadfhijaaW.PrintWords Go.Proofs.YthkkpdgadfhijaaW.PrintLast Go.Proofs.YthkkpdgadfhijaaW.PrintMore
attribute [local go_sem] max2_int min2_int max_two min_two max_three min_three max_four min_four   -- for this text's walks alone
set_option linter.unusedVariables false
set_option linter.unusedSimpArgs false

/-! ### laws_FnExactExtensionsOf: function 7 -/
def laws_FnExactExtensionsOf.j0 : Nat → List Int → Int → List Int → List Int → List Int → Bool → Option (Bool)
 | 0, _, _, _, _, _, _ => none
 | k + 1, x0, x1, x2, x7, x10, x62 => if x62 = true then (some false) else ((laws_markIntS.f k x10 1).bind fun bt1009 => ((laws_heldIntS.f k bt1009.2 1).bind fun t1011 => (if t1011 < 0 then (some false) else (if t1011 = bt1009.1 then ((laws_toIntS.f k x0).bind fun t1012 => ((laws_toIntS.f k x2).bind fun t1015 => ((impl_ExtensionsOf.f k t1012 x1 t1015).bind fun t1018 => ((laws_eqIntS.f k t1018 x7).bind fun t1021 => (if t1021 = true then ((laws_heldIntS.f k bt1009.2 1).bind fun t1022 => (if t1022 < 0 then (some false) else (if t1022 = bt1009.1 then (some true) else (some false)))) else (some false)))))) else (some false)))))
def laws_FnExactExtensionsOf.f (k : Nat) (l0 : List Int) (a1 : Int) (l2 : List Int) : Option (Bool) := if (l0.length : Int) > 1048576 then (some true) else (if (l2.length : Int) > 1048576 then (some true) else ((laws_toIntS.f k l0).bind fun t977 => ((laws_toIntS.f k l2).bind fun t980 => ((spec_ExtensionsOf.f k t977 a1 t980).bind fun t983 => ((laws_toIntS.f k l0).bind fun t986 => ((laws_toIntS.f k l2).bind fun t989 => ((impl_ExtensionsOf.f k t986 a1 t989).bind fun t992 => ((laws_eqIntS.f k t992 t983).bind fun t995 => (if t995 = true then ((laws_toIntS.f k l0).bind fun t996 => ((laws_eqIntS.f k t986 t996).bind fun t999 => (if t999 = true then ((laws_toIntS.f k l2).bind fun t1000 => ((laws_eqIntS.f k t989 t1000).bind fun t1003 => (if t1003 = true then ((laws_markIntS.f k t986 1).bind fun bt1004 => ((laws_markIntS.f k t989 bt1004.1).bind fun bt1006 => (if bt1006.1 < 0 then (laws_FnExactExtensionsOf.j0 k l0 a1 l2 t983 t992 true) else ((laws_eqIntS.f k t992 t983).bind fun t1008 => (laws_FnExactExtensionsOf.j0 k l0 a1 l2 t983 t992 (!t1008)))))) else (some false)))) else (some false)))) else (some false))))))))))
theorem laws_FnExactExtensionsOf.mono_l : ∀ k, (∀ y0 y1 y2 y3 y4 y5, LeO (laws_FnExactExtensionsOf.j0 k y0 y1 y2 y3 y4 y5) (laws_FnExactExtensionsOf.j0 (k + 1) y0 y1 y2 y3 y4 y5))
 | 0 => fun _ _ _ _ _ _ r h => by simp [laws_FnExactExtensionsOf.j0] at h
 | k + 1 => by
  have ih0 := laws_FnExactExtensionsOf.mono_l k
  ·intro y0 y1 y2 y3 y4 y5
   unfold laws_FnExactExtensionsOf.j0
   repeat' first
   | (with_reducible exact ih0 _ _ _ _ _ _)
   | (with_reducible exact impl_ExtensionsOf.mono _ _ _ _)
   | (with_reducible exact laws_eqIntS.mono _ _ _)
   | (with_reducible exact laws_heldIntS.mono _ _ _)
   | (with_reducible exact laws_markIntS.mono _ _ _)
   | (with_reducible exact laws_toIntS.mono _ _)
   | (with_reducible exact spec_ExtensionsOf.mono _ _ _ _)
   | (with_reducible exact LeO.refl _)
   | (with_reducible exact LeO.none _)
   | (with_reducible refine LeO.ite ?_ ?_)
   | (with_reducible refine LeO.bind ?_ (fun _ => ?_))
   | exact ih0 _ _ _ _ _ _
   | exact impl_ExtensionsOf.mono _ _ _ _
   | exact laws_eqIntS.mono _ _ _
   | exact laws_heldIntS.mono _ _ _
   | exact laws_markIntS.mono _ _ _
   | exact laws_toIntS.mono _ _
   | exact spec_ExtensionsOf.mono _ _ _ _
   | exact LeO.none _
   | refine LeO.ite ?_ ?_
   | refine LeO.bind ?_ (fun _ => ?_)
theorem laws_FnExactExtensionsOf.mono : ∀ a0 a1 a2 k, LeO (laws_FnExactExtensionsOf.f k a0 a1 a2) (laws_FnExactExtensionsOf.f (k + 1) a0 a1 a2) := by
 intro a0 a1 a2 k
 have ih0 := laws_FnExactExtensionsOf.mono_l k
 unfold laws_FnExactExtensionsOf.f
 repeat' first
   | (with_reducible exact ih0 _ _ _ _ _ _)
   | (with_reducible exact impl_ExtensionsOf.mono _ _ _ _)
   | (with_reducible exact laws_eqIntS.mono _ _ _)
   | (with_reducible exact laws_heldIntS.mono _ _ _)
   | (with_reducible exact laws_markIntS.mono _ _ _)
   | (with_reducible exact laws_toIntS.mono _ _)
   | (with_reducible exact spec_ExtensionsOf.mono _ _ _ _)
   | (with_reducible exact LeO.refl _)
   | (with_reducible exact LeO.none _)
   | (with_reducible refine LeO.ite ?_ ?_)
   | (with_reducible refine LeO.bind ?_ (fun _ => ?_))
   | exact ih0 _ _ _ _ _ _
   | exact impl_ExtensionsOf.mono _ _ _ _
   | exact laws_eqIntS.mono _ _ _
   | exact laws_heldIntS.mono _ _ _
   | exact laws_markIntS.mono _ _ _
   | exact laws_toIntS.mono _ _
   | exact spec_ExtensionsOf.mono _ _ _ _
   | exact LeO.none _
   | refine LeO.ite ?_ ?_
   | refine LeO.bind ?_ (fun _ => ?_)
set_option maxHeartbeats 8000000 in
set_option maxRecDepth 100000 in
theorem laws_FnExactExtensionsOf.calls (k : Nat) (A0 : Option Addr) (c0 : Nat) (l0 : List Int) (a1 : Int) (A2 : Option Addr) (c2 : Nat) (l2 : List Int) (r : Bool) (w : World) (hr0 : Kd.C (Kd.int .i64) w A0 l0.length l0) (hc0 : l0.length ≤ c0) (hr2 : Kd.C (Kd.int .i64) w A2 l2.length l2) (hc2 : l2.length ≤ c2) (h : laws_FnExactExtensionsOf.f k l0 a1 l2 = some r) :
  Calls Try.prog 7 #[.slice A0 l0.length c0, .int .i64 a1, .slice A2 l2.length c2] w fun e w' => e = .returned (.bool r) ∧ Below w.heap.size w w' := by
 have HR0 := Aside0.mk hr0
 have HC0 := Aside0.mk hc0
 clear hr0 hc0
 have HR2 := Aside0.mk hr2
 have HC2 := Aside0.mk hc2
 clear hr2 hc2
 have HB := Aside0.mk (Below.refl w.heap.size w)
 have H : (if (l0.length : Int) > 1048576 then (some true) else (if (l2.length : Int) > 1048576 then (some true) else ((laws_toIntS.f k l0).bind fun t977 => ((laws_toIntS.f k l2).bind fun t980 => ((spec_ExtensionsOf.f k t977 a1 t980).bind fun t983 => ((laws_toIntS.f k l0).bind fun t986 => ((laws_toIntS.f k l2).bind fun t989 => ((impl_ExtensionsOf.f k t986 a1 t989).bind fun t992 => ((laws_eqIntS.f k t992 t983).bind fun t995 => (if t995 = true then ((laws_toIntS.f k l0).bind fun t996 => ((laws_eqIntS.f k t986 t996).bind fun t999 => (if t999 = true then ((laws_toIntS.f k l2).bind fun t1000 => ((laws_eqIntS.f k t989 t1000).bind fun t1003 => (if t1003 = true then ((laws_markIntS.f k t986 1).bind fun bt1004 => ((laws_markIntS.f k t989 bt1004.1).bind fun bt1006 => (if bt1006.1 < 0 then (laws_FnExactExtensionsOf.j0 k l0 a1 l2 t983 t992 true) else ((laws_eqIntS.f k t992 t983).bind fun t1008 => (laws_FnExactExtensionsOf.j0 k l0 a1 l2 t983 t992 (!t1008)))))) else (some false)))) else (some false)))) else (some false))))))))))) = some r := h
 clear h
 by_cases c4 : (l0.length : Int) > 1048576
 ·rw [if_pos c4] at H
  have c4b0 : decide (1048576 < (l0.length : Int)) = true := decide_eq_true c4
  have c4b1 : decide (1048576 < l0.length) = true := decide_eq_true (by omega)
  clear c4
  obtain rfl := Option.some.inj H
  go_enter Try.func7, Try.ntmps7
  go_wp2
  go_ret
  exact ⟨by first | rfl | (simp [errW_none, errW_some] <;> rfl) | (simp [*, errW_none, errW_some] <;> rfl), by repeat (first | (with_reducible first | exact HB.out | apply below_alloc | apply pw_below_drewN | apply below_drew1) | exact HB.out)⟩
 ·rw [if_neg c4] at H
  have c4b0 : decide (1048576 < (l0.length : Int)) = false := decide_eq_false c4
  have c4b1 : decide (1048576 < l0.length) = false := decide_eq_false (by omega)
  clear c4
  by_cases c5 : (l2.length : Int) > 1048576
  ·rw [if_pos c5] at H
   have c5b0 : decide (1048576 < (l2.length : Int)) = true := decide_eq_true c5
   have c5b1 : decide (1048576 < l2.length) = true := decide_eq_true (by omega)
   clear c5
   obtain rfl := Option.some.inj H
   go_enter Try.func7, Try.ntmps7
   go_wp2
   go_ret
   exact ⟨by first | rfl | (simp [errW_none, errW_some] <;> rfl) | (simp [*, errW_none, errW_some] <;> rfl), by repeat (first | (with_reducible first | exact HB.out | apply below_alloc | apply pw_below_drewN | apply below_drew1) | exact HB.out)⟩
  ·rw [if_neg c5] at H
   have c5b0 : decide (1048576 < (l2.length : Int)) = false := decide_eq_false c5
   have c5b1 : decide (1048576 < l2.length) = false := decide_eq_false (by omega)
   clear c5
   replace H := Option.bind_eq_some_iff.mp H
   obtain ⟨t977, A60, H⟩ := H
   replace H : ((laws_toIntS.f k l2).bind fun t980 => ((spec_ExtensionsOf.f k t977 a1 t980).bind fun t983 => ((laws_toIntS.f k l0).bind fun t986 => ((laws_toIntS.f k l2).bind fun t989 => ((impl_ExtensionsOf.f k t986 a1 t989).bind fun t992 => ((laws_eqIntS.f k t992 t983).bind fun t995 => (if t995 = true then ((laws_toIntS.f k l0).bind fun t996 => ((laws_eqIntS.f k t986 t996).bind fun t999 => (if t999 = true then ((laws_toIntS.f k l2).bind fun t1000 => ((laws_eqIntS.f k t989 t1000).bind fun t1003 => (if t1003 = true then ((laws_markIntS.f k t986 1).bind fun bt1004 => ((laws_markIntS.f k t989 bt1004.1).bind fun bt1006 => (if bt1006.1 < 0 then (laws_FnExactExtensionsOf.j0 k l0 a1 l2 t983 t992 true) else ((laws_eqIntS.f k t992 t983).bind fun t1008 => (laws_FnExactExtensionsOf.j0 k l0 a1 l2 t983 t992 (!t1008)))))) else (some false)))) else (some false)))) else (some false)))))))) = some r := H
   have A6 := Aside0.mk A60
   clear A60
   replace H := Option.bind_eq_some_iff.mp H
   obtain ⟨t980, A70, H⟩ := H
   replace H : ((spec_ExtensionsOf.f k t977 a1 t980).bind fun t983 => ((laws_toIntS.f k l0).bind fun t986 => ((laws_toIntS.f k l2).bind fun t989 => ((impl_ExtensionsOf.f k t986 a1 t989).bind fun t992 => ((laws_eqIntS.f k t992 t983).bind fun t995 => (if t995 = true then ((laws_toIntS.f k l0).bind fun t996 => ((laws_eqIntS.f k t986 t996).bind fun t999 => (if t999 = true then ((laws_toIntS.f k l2).bind fun t1000 => ((laws_eqIntS.f k t989 t1000).bind fun t1003 => (if t1003 = true then ((laws_markIntS.f k t986 1).bind fun bt1004 => ((laws_markIntS.f k t989 bt1004.1).bind fun bt1006 => (if bt1006.1 < 0 then (laws_FnExactExtensionsOf.j0 k l0 a1 l2 t983 t992 true) else ((laws_eqIntS.f k t992 t983).bind fun t1008 => (laws_FnExactExtensionsOf.j0 k l0 a1 l2 t983 t992 (!t1008)))))) else (some false)))) else (some false)))) else (some false))))))) = some r := H
   have A7 := Aside0.mk A70
   clear A70
   replace H := Option.bind_eq_some_iff.mp H
   obtain ⟨t983, A80, H⟩ := H
   replace H : ((laws_toIntS.f k l0).bind fun t986 => ((laws_toIntS.f k l2).bind fun t989 => ((impl_ExtensionsOf.f k t986 a1 t989).bind fun t992 => ((laws_eqIntS.f k t992 t983).bind fun t995 => (if t995 = true then ((laws_toIntS.f k l0).bind fun t996 => ((laws_eqIntS.f k t986 t996).bind fun t999 => (if t999 = true then ((laws_toIntS.f k l2).bind fun t1000 => ((laws_eqIntS.f k t989 t1000).bind fun t1003 => (if t1003 = true then ((laws_markIntS.f k t986 1).bind fun bt1004 => ((laws_markIntS.f k t989 bt1004.1).bind fun bt1006 => (if bt1006.1 < 0 then (laws_FnExactExtensionsOf.j0 k l0 a1 l2 t983 t992 true) else ((laws_eqIntS.f k t992 t983).bind fun t1008 => (laws_FnExactExtensionsOf.j0 k l0 a1 l2 t983 t992 (!t1008)))))) else (some false)))) else (some false)))) else (some false)))))) = some r := H
   have A8 := Aside0.mk A80
   clear A80
   replace H := Option.bind_eq_some_iff.mp H
   obtain ⟨t986, A90, H⟩ := H
   replace H : ((laws_toIntS.f k l2).bind fun t989 => ((impl_ExtensionsOf.f k t986 a1 t989).bind fun t992 => ((laws_eqIntS.f k t992 t983).bind fun t995 => (if t995 = true then ((laws_toIntS.f k l0).bind fun t996 => ((laws_eqIntS.f k t986 t996).bind fun t999 => (if t999 = true then ((laws_toIntS.f k l2).bind fun t1000 => ((laws_eqIntS.f k t989 t1000).bind fun t1003 => (if t1003 = true then ((laws_markIntS.f k t986 1).bind fun bt1004 => ((laws_markIntS.f k t989 bt1004.1).bind fun bt1006 => (if bt1006.1 < 0 then (laws_FnExactExtensionsOf.j0 k l0 a1 l2 t983 t992 true) else ((laws_eqIntS.f k t992 t983).bind fun t1008 => (laws_FnExactExtensionsOf.j0 k l0 a1 l2 t983 t992 (!t1008)))))) else (some false)))) else (some false)))) else (some false))))) = some r := H
   have A9 := Aside0.mk A90
   clear A90
   replace H := Option.bind_eq_some_iff.mp H
   obtain ⟨t989, A100, H⟩ := H
   replace H : ((impl_ExtensionsOf.f k t986 a1 t989).bind fun t992 => ((laws_eqIntS.f k t992 t983).bind fun t995 => (if t995 = true then ((laws_toIntS.f k l0).bind fun t996 => ((laws_eqIntS.f k t986 t996).bind fun t999 => (if t999 = true then ((laws_toIntS.f k l2).bind fun t1000 => ((laws_eqIntS.f k t989 t1000).bind fun t1003 => (if t1003 = true then ((laws_markIntS.f k t986 1).bind fun bt1004 => ((laws_markIntS.f k t989 bt1004.1).bind fun bt1006 => (if bt1006.1 < 0 then (laws_FnExactExtensionsOf.j0 k l0 a1 l2 t983 t992 true) else ((laws_eqIntS.f k t992 t983).bind fun t1008 => (laws_FnExactExtensionsOf.j0 k l0 a1 l2 t983 t992 (!t1008)))))) else (some false)))) else (some false)))) else (some false)))) = some r := H
   have A10 := Aside0.mk A100
   clear A100
   replace H := Option.bind_eq_some_iff.mp H
   obtain ⟨t992, A110, H⟩ := H
   replace H : ((laws_eqIntS.f k t992 t983).bind fun t995 => (if t995 = true then ((laws_toIntS.f k l0).bind fun t996 => ((laws_eqIntS.f k t986 t996).bind fun t999 => (if t999 = true then ((laws_toIntS.f k l2).bind fun t1000 => ((laws_eqIntS.f k t989 t1000).bind fun t1003 => (if t1003 = true then ((laws_markIntS.f k t986 1).bind fun bt1004 => ((laws_markIntS.f k t989 bt1004.1).bind fun bt1006 => (if bt1006.1 < 0 then (laws_FnExactExtensionsOf.j0 k l0 a1 l2 t983 t992 true) else ((laws_eqIntS.f k t992 t983).bind fun t1008 => (laws_FnExactExtensionsOf.j0 k l0 a1 l2 t983 t992 (!t1008)))))) else (some false)))) else (some false)))) else (some false))) = some r := H
   have A11 := Aside0.mk A110
   clear A110
   replace H := Option.bind_eq_some_iff.mp H
   obtain ⟨t995, A120, H⟩ := H
   replace H : (if t995 = true then ((laws_toIntS.f k l0).bind fun t996 => ((laws_eqIntS.f k t986 t996).bind fun t999 => (if t999 = true then ((laws_toIntS.f k l2).bind fun t1000 => ((laws_eqIntS.f k t989 t1000).bind fun t1003 => (if t1003 = true then ((laws_markIntS.f k t986 1).bind fun bt1004 => ((laws_markIntS.f k t989 bt1004.1).bind fun bt1006 => (if bt1006.1 < 0 then (laws_FnExactExtensionsOf.j0 k l0 a1 l2 t983 t992 true) else ((laws_eqIntS.f k t992 t983).bind fun t1008 => (laws_FnExactExtensionsOf.j0 k l0 a1 l2 t983 t992 (!t1008)))))) else (some false)))) else (some false)))) else (some false)) = some r := H
   have A12 := Aside0.mk A120
   clear A120
   by_cases c13 : t995 = true
   ·subst c13
    have H1 : ((laws_toIntS.f k l0).bind fun t996 => ((laws_eqIntS.f k t986 t996).bind fun t999 => (if t999 = true then ((laws_toIntS.f k l2).bind fun t1000 => ((laws_eqIntS.f k t989 t1000).bind fun t1003 => (if t1003 = true then ((laws_markIntS.f k t986 1).bind fun bt1004 => ((laws_markIntS.f k t989 bt1004.1).bind fun bt1006 => (if bt1006.1 < 0 then (laws_FnExactExtensionsOf.j0 k l0 a1 l2 t983 t992 true) else ((laws_eqIntS.f k t992 t983).bind fun t1008 => (laws_FnExactExtensionsOf.j0 k l0 a1 l2 t983 t992 (!t1008)))))) else (some false)))) else (some false)))) = some r := by rw [if_pos rfl] at H; exact H
    clear H
    have H := H1
    clear H1
    replace H := Option.bind_eq_some_iff.mp H
    obtain ⟨t996, A140, H⟩ := H
    replace H : ((laws_eqIntS.f k t986 t996).bind fun t999 => (if t999 = true then ((laws_toIntS.f k l2).bind fun t1000 => ((laws_eqIntS.f k t989 t1000).bind fun t1003 => (if t1003 = true then ((laws_markIntS.f k t986 1).bind fun bt1004 => ((laws_markIntS.f k t989 bt1004.1).bind fun bt1006 => (if bt1006.1 < 0 then (laws_FnExactExtensionsOf.j0 k l0 a1 l2 t983 t992 true) else ((laws_eqIntS.f k t992 t983).bind fun t1008 => (laws_FnExactExtensionsOf.j0 k l0 a1 l2 t983 t992 (!t1008)))))) else (some false)))) else (some false))) = some r := H
    have A14 := Aside0.mk A140
    clear A140
    replace H := Option.bind_eq_some_iff.mp H
    obtain ⟨t999, A150, H⟩ := H
    replace H : (if t999 = true then ((laws_toIntS.f k l2).bind fun t1000 => ((laws_eqIntS.f k t989 t1000).bind fun t1003 => (if t1003 = true then ((laws_markIntS.f k t986 1).bind fun bt1004 => ((laws_markIntS.f k t989 bt1004.1).bind fun bt1006 => (if bt1006.1 < 0 then (laws_FnExactExtensionsOf.j0 k l0 a1 l2 t983 t992 true) else ((laws_eqIntS.f k t992 t983).bind fun t1008 => (laws_FnExactExtensionsOf.j0 k l0 a1 l2 t983 t992 (!t1008)))))) else (some false)))) else (some false)) = some r := H
    have A15 := Aside0.mk A150
    clear A150
    by_cases c16 : t999 = true
    ·subst c16
     have H1 : ((laws_toIntS.f k l2).bind fun t1000 => ((laws_eqIntS.f k t989 t1000).bind fun t1003 => (if t1003 = true then ((laws_markIntS.f k t986 1).bind fun bt1004 => ((laws_markIntS.f k t989 bt1004.1).bind fun bt1006 => (if bt1006.1 < 0 then (laws_FnExactExtensionsOf.j0 k l0 a1 l2 t983 t992 true) else ((laws_eqIntS.f k t992 t983).bind fun t1008 => (laws_FnExactExtensionsOf.j0 k l0 a1 l2 t983 t992 (!t1008)))))) else (some false)))) = some r := by rw [if_pos rfl] at H; exact H
     clear H
     have H := H1
     clear H1
     replace H := Option.bind_eq_some_iff.mp H
     obtain ⟨t1000, A170, H⟩ := H
     replace H : ((laws_eqIntS.f k t989 t1000).bind fun t1003 => (if t1003 = true then ((laws_markIntS.f k t986 1).bind fun bt1004 => ((laws_markIntS.f k t989 bt1004.1).bind fun bt1006 => (if bt1006.1 < 0 then (laws_FnExactExtensionsOf.j0 k l0 a1 l2 t983 t992 true) else ((laws_eqIntS.f k t992 t983).bind fun t1008 => (laws_FnExactExtensionsOf.j0 k l0 a1 l2 t983 t992 (!t1008)))))) else (some false))) = some r := H
     have A17 := Aside0.mk A170
     clear A170
     replace H := Option.bind_eq_some_iff.mp H
     obtain ⟨t1003, A180, H⟩ := H
     replace H : (if t1003 = true then ((laws_markIntS.f k t986 1).bind fun bt1004 => ((laws_markIntS.f k t989 bt1004.1).bind fun bt1006 => (if bt1006.1 < 0 then (laws_FnExactExtensionsOf.j0 k l0 a1 l2 t983 t992 true) else ((laws_eqIntS.f k t992 t983).bind fun t1008 => (laws_FnExactExtensionsOf.j0 k l0 a1 l2 t983 t992 (!t1008)))))) else (some false)) = some r := H
     have A18 := Aside0.mk A180
     clear A180
     by_cases c19 : t1003 = true
     ·subst c19
      have H1 : ((laws_markIntS.f k t986 1).bind fun bt1004 => ((laws_markIntS.f k t989 bt1004.1).bind fun bt1006 => (if bt1006.1 < 0 then (laws_FnExactExtensionsOf.j0 k l0 a1 l2 t983 t992 true) else ((laws_eqIntS.f k t992 t983).bind fun t1008 => (laws_FnExactExtensionsOf.j0 k l0 a1 l2 t983 t992 (!t1008)))))) = some r := by rw [if_pos rfl] at H; exact H
      clear H
      have H := H1
      clear H1
      replace H := Option.bind_eq_some_iff.mp H
      obtain ⟨⟨t1004, t1005⟩, A200, H⟩ := H
      replace H : ((laws_markIntS.f k t989 t1004).bind fun bt1006 => (if bt1006.1 < 0 then (laws_FnExactExtensionsOf.j0 k l0 a1 l2 t983 t992 true) else ((laws_eqIntS.f k t992 t983).bind fun t1008 => (laws_FnExactExtensionsOf.j0 k l0 a1 l2 t983 t992 (!t1008))))) = some r := H
      have A20 := Aside0.mk A200
      clear A200
      replace H := Option.bind_eq_some_iff.mp H
      obtain ⟨⟨t1006, t1007⟩, A210, H⟩ := H
      replace H : (if t1006 < 0 then (laws_FnExactExtensionsOf.j0 k l0 a1 l2 t983 t992 true) else ((laws_eqIntS.f k t992 t983).bind fun t1008 => (laws_FnExactExtensionsOf.j0 k l0 a1 l2 t983 t992 (!t1008)))) = some r := H
      have A21 := Aside0.mk A210
      clear A210
      have HC22 := Aside0.mk H
      clear H
      go_enter Try.func7, Try.ntmps7
      go_upto_region 18 with (first | ((with_reducible refine gate_callee (f := 44) rfl ?_); refine goesL_ (some 22) rfl rfl Try.func44 (by kernel_rfl) rfl #[.slice A0 l0.length c0] rfl (by (try simp only [List.map_toArray, List.map_cons, List.map_nil]); first | done | rfl | (simp only [List.length_drop, List.length_take]; rfl)) ?_; (with_reducible refine (laws_toIntS.calls k _ _ l0 t977 _ ?side1 ?side2 A6.out).mono ?_); (case side1 => repeat (first | exact HR0.out | (with_reducible refine Kd.C_alloc ?_ _) | (with_reducible refine Kd.C_drewN ?_ _) | (with_reducible refine Kd.C_drew ?_))); (case side2 => exact HC0.out); rintro e w23 ⟨v978, rfl, ho0, hb⟩; refine ⟨_, rfl, ?_⟩; have n0_ := Aside0.mk (Kd.R_lower ho0 (below_size (by repeat (first | (with_reducible first | exact HB.out | apply below_alloc | apply pw_below_drewN | apply below_drew1) | exact HB.out)))); have n1_ := Aside0.mk (below_step (by repeat (first | (with_reducible first | exact HB.out | apply below_alloc | apply pw_below_drewN | apply below_drew1) | exact HB.out)) hb); clear HB; have HO979 := n0_; have HB := n1_; clear n0_ n1_; (try clear hb); (try clear hb2); (try clear hk); (try clear hi); (try clear ho0)) | ((with_reducible refine gate_callee (f := 44) rfl ?_); refine goesL_ (some 25) rfl rfl Try.func44 (by kernel_rfl) rfl #[.slice A2 l2.length c2] rfl (by (try simp only [List.map_toArray, List.map_cons, List.map_nil]); first | done | rfl | (simp only [List.length_drop, List.length_take]; rfl)) ?_; (with_reducible refine (laws_toIntS.calls k _ _ l2 t980 _ ?side1 ?side2 A7.out).mono ?_); (case side1 => repeat (first | exact (Kd.C_below HR2.out HB.out) | (with_reducible refine Kd.C_alloc ?_ _) | (with_reducible refine Kd.C_drewN ?_ _) | (with_reducible refine Kd.C_drew ?_))); (case side2 => exact HC2.out); rintro e w24 ⟨v981, rfl, ho0, hb⟩; refine ⟨_, rfl, ?_⟩; have n0_ := Aside0.mk (Kd.R_elder' (by (with_reducible repeat (first | apply Kd.R_alloc | apply Kd.R_drewN | apply Kd.R_drew)); exact HO979.out) (Kd.R_base ho0) hb); have n1_ := Aside0.mk (Kd.R_lower (Kd.R_new' ho0 (Kd.R_lt (by (with_reducible repeat (first | apply Kd.R_alloc | apply Kd.R_drewN | apply Kd.R_drew)); exact HO979.out))) (below_size (by repeat (first | (with_reducible first | exact HB.out | apply below_alloc | apply pw_below_drewN | apply below_drew1) | exact HB.out)))); have n2_ := Aside0.mk (below_step (by repeat (first | (with_reducible first | exact HB.out | apply below_alloc | apply pw_below_drewN | apply below_drew1) | exact HB.out)) hb); clear HO979; clear HB; have HO979 := n0_; have HO982 := n1_; have HB := n2_; clear n0_ n1_ n2_; (try clear hb); (try clear hb2); (try clear hk); (try clear hi); (try clear ho0); obtain ⟨Ao25, co25, eo25⟩ := Kd.R_slice HO979.out; subst eo25; obtain ⟨Ao26, co26, eo26⟩ := Kd.R_slice HO982.out; subst eo26) | ((with_reducible refine gate_callee (f := 46) rfl ?_); refine goesL_ (some 26) rfl rfl Try.func46 (by kernel_rfl) rfl #[.slice Ao25 t977.length co25, .int .i64 a1, .slice Ao26 t980.length co26] rfl (by (try simp only [List.map_toArray, List.map_cons, List.map_nil]); first | done | rfl | (simp only [List.length_drop, List.length_take]; rfl)) ?_; (with_reducible refine (spec_ExtensionsOf.calls k _ _ t977 a1 _ _ t980 t983 _ ?side1 ?side2 ?side3 ?side4 A8.out).mono ?_); (case side1 => repeat (first | exact (Kd.R_reads' HO979.out).2.2 | (with_reducible refine Kd.C_alloc ?_ _) | (with_reducible refine Kd.C_drewN ?_ _) | (with_reducible refine Kd.C_drew ?_))); (case side2 => exact (Kd.R_reads' HO979.out).2.1); (case side3 => repeat (first | exact (Kd.R_reads' HO982.out).2.2 | (with_reducible refine Kd.C_alloc ?_ _) | (with_reducible refine Kd.C_drewN ?_ _) | (with_reducible refine Kd.C_drew ?_))); (case side4 => exact (Kd.R_reads' HO982.out).2.1); rintro e w27 ⟨v984, rfl, ho0, hb⟩; refine ⟨_, rfl, ?_⟩; have n0_ := Aside0.mk (Kd.R_elder' (by (with_reducible repeat (first | apply Kd.R_alloc | apply Kd.R_drewN | apply Kd.R_drew)); exact HO979.out) (Kd.R_base ho0) hb); have n1_ := Aside0.mk (Kd.R_elder' (by (with_reducible repeat (first | apply Kd.R_alloc | apply Kd.R_drewN | apply Kd.R_drew)); exact HO982.out) (Kd.R_base ho0) hb); have n2_ := Aside0.mk (Kd.R_lower (Kd.R_new' (Kd.R_new' ho0 (Kd.R_lt (by (with_reducible repeat (first | apply Kd.R_alloc | apply Kd.R_drewN | apply Kd.R_drew)); exact HO979.out))) (Kd.R_lt (by (with_reducible repeat (first | apply Kd.R_alloc | apply Kd.R_drewN | apply Kd.R_drew)); exact HO982.out))) (below_size (by repeat (first | (with_reducible first | exact HB.out | apply below_alloc | apply pw_below_drewN | apply below_drew1) | exact HB.out)))); have n3_ := Aside0.mk (below_step (by repeat (first | (with_reducible first | exact HB.out | apply below_alloc | apply pw_below_drewN | apply below_drew1) | exact HB.out)) hb); clear HO979; clear HO982; clear HB; have HO979 := n0_; have HO982 := n1_; have HO985 := n2_; have HB := n3_; clear n0_ n1_ n2_ n3_; (try clear hb); (try clear hb2); (try clear hk); (try clear hi); (try clear ho0)) | ((with_reducible refine gate_callee (f := 44) rfl ?_); refine goesL_ (some 28) rfl rfl Try.func44 (by kernel_rfl) rfl #[.slice A0 l0.length c0] rfl (by (try simp only [List.map_toArray, List.map_cons, List.map_nil]); first | done | rfl | (simp only [List.length_drop, List.length_take]; rfl)) ?_; (with_reducible refine (laws_toIntS.calls k _ _ l0 t986 _ ?side1 ?side2 A9.out).mono ?_); (case side1 => repeat (first | exact (Kd.C_below HR0.out HB.out) | (with_reducible refine Kd.C_alloc ?_ _) | (with_reducible refine Kd.C_drewN ?_ _) | (with_reducible refine Kd.C_drew ?_))); (case side2 => exact HC0.out); rintro e w28 ⟨v987, rfl, ho0, hb⟩; refine ⟨_, rfl, ?_⟩; have n0_ := Aside0.mk (Kd.R_elder' (by (with_reducible repeat (first | apply Kd.R_alloc | apply Kd.R_drewN | apply Kd.R_drew)); exact HO979.out) (Kd.R_base ho0) hb); have n1_ := Aside0.mk (Kd.R_elder' (by (with_reducible repeat (first | apply Kd.R_alloc | apply Kd.R_drewN | apply Kd.R_drew)); exact HO982.out) (Kd.R_base ho0) hb); have n2_ := Aside0.mk (Kd.R_elder' (by (with_reducible repeat (first | apply Kd.R_alloc | apply Kd.R_drewN | apply Kd.R_drew)); exact HO985.out) (Kd.R_base ho0) hb); have n3_ := Aside0.mk (Kd.R_lower (Kd.R_new' (Kd.R_new' (Kd.R_new' ho0 (Kd.R_lt (by (with_reducible repeat (first | apply Kd.R_alloc | apply Kd.R_drewN | apply Kd.R_drew)); exact HO979.out))) (Kd.R_lt (by (with_reducible repeat (first | apply Kd.R_alloc | apply Kd.R_drewN | apply Kd.R_drew)); exact HO982.out))) (Kd.R_lt (by (with_reducible repeat (first | apply Kd.R_alloc | apply Kd.R_drewN | apply Kd.R_drew)); exact HO985.out))) (below_size (by repeat (first | (with_reducible first | exact HB.out | apply below_alloc | apply pw_below_drewN | apply below_drew1) | exact HB.out)))); have n4_ := Aside0.mk (below_step (by repeat (first | (with_reducible first | exact HB.out | apply below_alloc | apply pw_below_drewN | apply below_drew1) | exact HB.out)) hb); clear HO979; clear HO982; clear HO985; clear HB; have HO979 := n0_; have HO982 := n1_; have HO985 := n2_; have HO988 := n3_; have HB := n4_; clear n0_ n1_ n2_ n3_ n4_; (try clear hb); (try clear hb2); (try clear hk); (try clear hi); (try clear ho0)) | ((with_reducible refine gate_callee (f := 44) rfl ?_); refine goesL_ (some 30) rfl rfl Try.func44 (by kernel_rfl) rfl #[.slice A2 l2.length c2] rfl (by (try simp only [List.map_toArray, List.map_cons, List.map_nil]); first | done | rfl | (simp only [List.length_drop, List.length_take]; rfl)) ?_; (with_reducible refine (laws_toIntS.calls k _ _ l2 t989 _ ?side1 ?side2 A10.out).mono ?_); (case side1 => repeat (first | exact (Kd.C_below HR2.out HB.out) | (with_reducible refine Kd.C_alloc ?_ _) | (with_reducible refine Kd.C_drewN ?_ _) | (with_reducible refine Kd.C_drew ?_))); (case side2 => exact HC2.out); rintro e w29 ⟨v990, rfl, ho0, hb⟩; refine ⟨_, rfl, ?_⟩; have n0_ := Aside0.mk (Kd.R_elder' (by (with_reducible repeat (first | apply Kd.R_alloc | apply Kd.R_drewN | apply Kd.R_drew)); exact HO979.out) (Kd.R_base ho0) hb); have n1_ := Aside0.mk (Kd.R_elder' (by (with_reducible repeat (first | apply Kd.R_alloc | apply Kd.R_drewN | apply Kd.R_drew)); exact HO982.out) (Kd.R_base ho0) hb); have n2_ := Aside0.mk (Kd.R_elder' (by (with_reducible repeat (first | apply Kd.R_alloc | apply Kd.R_drewN | apply Kd.R_drew)); exact HO985.out) (Kd.R_base ho0) hb); have n3_ := Aside0.mk (Kd.R_elder' (by (with_reducible repeat (first | apply Kd.R_alloc | apply Kd.R_drewN | apply Kd.R_drew)); exact HO988.out) (Kd.R_base ho0) hb); have n4_ := Aside0.mk (Kd.R_lower (Kd.R_new' (Kd.R_new' (Kd.R_new' (Kd.R_new' ho0 (Kd.R_lt (by (with_reducible repeat (first | apply Kd.R_alloc | apply Kd.R_drewN | apply Kd.R_drew)); exact HO979.out))) (Kd.R_lt (by (with_reducible repeat (first | apply Kd.R_alloc | apply Kd.R_drewN | apply Kd.R_drew)); exact HO982.out))) (Kd.R_lt (by (with_reducible repeat (first | apply Kd.R_alloc | apply Kd.R_drewN | apply Kd.R_drew)); exact HO985.out))) (Kd.R_lt (by (with_reducible repeat (first | apply Kd.R_alloc | apply Kd.R_drewN | apply Kd.R_drew)); exact HO988.out))) (below_size (by repeat (first | (with_reducible first | exact HB.out | apply below_alloc | apply pw_below_drewN | apply below_drew1) | exact HB.out)))); have n5_ := Aside0.mk (below_step (by repeat (first | (with_reducible first | exact HB.out | apply below_alloc | apply pw_below_drewN | apply below_drew1) | exact HB.out)) hb); clear HO979; clear HO982; clear HO985; clear HO988; clear HB; have HO979 := n0_; have HO982 := n1_; have HO985 := n2_; have HO988 := n3_; have HO991 := n4_; have HB := n5_; clear n0_ n1_ n2_ n3_ n4_ n5_; (try clear hb); (try clear hb2); (try clear hk); (try clear hi); (try clear ho0); obtain ⟨Ao30, co30, eo30⟩ := Kd.R_slice HO988.out; subst eo30; obtain ⟨Ao31, co31, eo31⟩ := Kd.R_slice HO991.out; subst eo31) | ((with_reducible refine gate_callee (f := 47) rfl ?_); refine goesL_ (some 34) rfl rfl Try.func47 (by kernel_rfl) rfl #[.slice Ao30 t986.length co30, .int .i64 a1, .slice Ao31 t989.length co31] rfl (by (try simp only [List.map_toArray, List.map_cons, List.map_nil]); first | done | rfl | (simp only [List.length_drop, List.length_take]; rfl)) ?_; (with_reducible refine (impl_ExtensionsOf.calls k _ _ t986 a1 _ _ t989 t992 _ ?side1 ?side2 ?side3 ?side4 A11.out).mono ?_); (case side1 => repeat (first | exact (Kd.R_reads' HO988.out).2.2 | (with_reducible refine Kd.C_alloc ?_ _) | (with_reducible refine Kd.C_drewN ?_ _) | (with_reducible refine Kd.C_drew ?_))); (case side2 => exact (Kd.R_reads' HO988.out).2.1); (case side3 => repeat (first | exact (Kd.R_reads' HO991.out).2.2 | (with_reducible refine Kd.C_alloc ?_ _) | (with_reducible refine Kd.C_drewN ?_ _) | (with_reducible refine Kd.C_drew ?_))); (case side4 => exact (Kd.R_reads' HO991.out).2.1); rintro e w32 ⟨v993, rfl, ho0, hb⟩; refine ⟨_, rfl, ?_⟩; have n0_ := Aside0.mk (Kd.R_elder' (by (with_reducible repeat (first | apply Kd.R_alloc | apply Kd.R_drewN | apply Kd.R_drew)); exact HO979.out) (Kd.R_base ho0) hb); have n1_ := Aside0.mk (Kd.R_elder' (by (with_reducible repeat (first | apply Kd.R_alloc | apply Kd.R_drewN | apply Kd.R_drew)); exact HO982.out) (Kd.R_base ho0) hb); have n2_ := Aside0.mk (Kd.R_elder' (by (with_reducible repeat (first | apply Kd.R_alloc | apply Kd.R_drewN | apply Kd.R_drew)); exact HO985.out) (Kd.R_base ho0) hb); have n3_ := Aside0.mk (Kd.R_elder' (by (with_reducible repeat (first | apply Kd.R_alloc | apply Kd.R_drewN | apply Kd.R_drew)); exact HO988.out) (Kd.R_base ho0) hb); have n4_ := Aside0.mk (Kd.R_elder' (by (with_reducible repeat (first | apply Kd.R_alloc | apply Kd.R_drewN | apply Kd.R_drew)); exact HO991.out) (Kd.R_base ho0) hb); have n5_ := Aside0.mk (Kd.R_lower (Kd.R_new' (Kd.R_new' (Kd.R_new' (Kd.R_new' (Kd.R_new' ho0 (Kd.R_lt (by (with_reducible repeat (first | apply Kd.R_alloc | apply Kd.R_drewN | apply Kd.R_drew)); exact HO979.out))) (Kd.R_lt (by (with_reducible repeat (first | apply Kd.R_alloc | apply Kd.R_drewN | apply Kd.R_drew)); exact HO982.out))) (Kd.R_lt (by (with_reducible repeat (first | apply Kd.R_alloc | apply Kd.R_drewN | apply Kd.R_drew)); exact HO985.out))) (Kd.R_lt (by (with_reducible repeat (first | apply Kd.R_alloc | apply Kd.R_drewN | apply Kd.R_drew)); exact HO988.out))) (Kd.R_lt (by (with_reducible repeat (first | apply Kd.R_alloc | apply Kd.R_drewN | apply Kd.R_drew)); exact HO991.out))) (below_size (by repeat (first | (with_reducible first | exact HB.out | apply below_alloc | apply pw_below_drewN | apply below_drew1) | exact HB.out)))); have n6_ := Aside0.mk (below_step (by repeat (first | (with_reducible first | exact HB.out | apply below_alloc | apply pw_below_drewN | apply below_drew1) | exact HB.out)) hb); clear HO979; clear HO982; clear HO985; clear HO988; clear HO991; clear HB; have HO979 := n0_; have HO982 := n1_; have HO985 := n2_; have HO988 := n3_; have HO991 := n4_; have HO994 := n5_; have HB := n6_; clear n0_ n1_ n2_ n3_ n4_ n5_ n6_; (try clear hb); (try clear hb2); (try clear hk); (try clear hi); (try clear ho0); obtain ⟨Ao33, co33, eo33⟩ := Kd.R_slice HO994.out; subst eo33; obtain ⟨Ao34, co34, eo34⟩ := Kd.R_slice HO985.out; subst eo34) | ((with_reducible refine gate_callee (f := 16) rfl ?_); refine goesL_ (some 37) rfl rfl Try.func16 (by kernel_rfl) rfl #[.slice Ao33 t992.length co33, .slice Ao34 t983.length co34] rfl (by (try simp only [List.map_toArray, List.map_cons, List.map_nil]); first | done | rfl | (simp only [List.length_drop, List.length_take]; rfl)) ?_; (with_reducible refine (laws_eqIntS.calls k _ _ t992 _ _ t983 true _ ?side1 ?side2 ?side3 ?side4 A12.out).mono ?_); (case side1 => repeat (first | exact (Kd.R_reads' HO994.out).2.2 | (with_reducible refine Kd.C_alloc ?_ _) | (with_reducible refine Kd.C_drewN ?_ _) | (with_reducible refine Kd.C_drew ?_))); (case side2 => exact (Kd.R_reads' HO994.out).2.1); (case side3 => repeat (first | exact (Kd.R_reads' HO985.out).2.2 | (with_reducible refine Kd.C_alloc ?_ _) | (with_reducible refine Kd.C_drewN ?_ _) | (with_reducible refine Kd.C_drew ?_))); (case side4 => exact (Kd.R_reads' HO985.out).2.1); rintro e w' ⟨rfl, ⟨nd, rfl⟩⟩; refine ⟨_, rfl, ?_⟩) | ((with_reducible refine gate_callee (f := 44) rfl ?_); refine goesL_ (some 41) rfl rfl Try.func44 (by kernel_rfl) rfl #[.slice A0 l0.length c0] rfl (by (try simp only [List.map_toArray, List.map_cons, List.map_nil]); first | done | rfl | (simp only [List.length_drop, List.length_take]; rfl)) ?_; (with_reducible refine (laws_toIntS.calls k _ _ l0 t996 _ ?side1 ?side2 A14.out).mono ?_); (case side1 => repeat (first | exact (Kd.C_below HR0.out (by repeat (first | (with_reducible first | exact HB.out | apply below_alloc | apply pw_below_drewN | apply below_drew1) | exact HB.out))) | (with_reducible refine Kd.C_alloc ?_ _) | (with_reducible refine Kd.C_drewN ?_ _) | (with_reducible refine Kd.C_drew ?_))); (case side2 => exact HC0.out); rintro e w35 ⟨v997, rfl, ho0, hb⟩; refine ⟨_, rfl, ?_⟩; have n0_ := Aside0.mk (Kd.R_elder' (by (with_reducible repeat (first | apply Kd.R_alloc | apply Kd.R_drewN | apply Kd.R_drew)); exact HO979.out) (Kd.R_base ho0) hb); have n1_ := Aside0.mk (Kd.R_elder' (by (with_reducible repeat (first | apply Kd.R_alloc | apply Kd.R_drewN | apply Kd.R_drew)); exact HO982.out) (Kd.R_base ho0) hb); have n2_ := Aside0.mk (Kd.R_elder' (by (with_reducible repeat (first | apply Kd.R_alloc | apply Kd.R_drewN | apply Kd.R_drew)); exact HO985.out) (Kd.R_base ho0) hb); have n3_ := Aside0.mk (Kd.R_elder' (by (with_reducible repeat (first | apply Kd.R_alloc | apply Kd.R_drewN | apply Kd.R_drew)); exact HO988.out) (Kd.R_base ho0) hb); have n4_ := Aside0.mk (Kd.R_elder' (by (with_reducible repeat (first | apply Kd.R_alloc | apply Kd.R_drewN | apply Kd.R_drew)); exact HO991.out) (Kd.R_base ho0) hb); have n5_ := Aside0.mk (Kd.R_elder' (by (with_reducible repeat (first | apply Kd.R_alloc | apply Kd.R_drewN | apply Kd.R_drew)); exact HO994.out) (Kd.R_base ho0) hb); have n6_ := Aside0.mk (Kd.R_lower (Kd.R_new' (Kd.R_new' (Kd.R_new' (Kd.R_new' (Kd.R_new' (Kd.R_new' ho0 (Kd.R_lt (by (with_reducible repeat (first | apply Kd.R_alloc | apply Kd.R_drewN | apply Kd.R_drew)); exact HO979.out))) (Kd.R_lt (by (with_reducible repeat (first | apply Kd.R_alloc | apply Kd.R_drewN | apply Kd.R_drew)); exact HO982.out))) (Kd.R_lt (by (with_reducible repeat (first | apply Kd.R_alloc | apply Kd.R_drewN | apply Kd.R_drew)); exact HO985.out))) (Kd.R_lt (by (with_reducible repeat (first | apply Kd.R_alloc | apply Kd.R_drewN | apply Kd.R_drew)); exact HO988.out))) (Kd.R_lt (by (with_reducible repeat (first | apply Kd.R_alloc | apply Kd.R_drewN | apply Kd.R_drew)); exact HO991.out))) (Kd.R_lt (by (with_reducible repeat (first | apply Kd.R_alloc | apply Kd.R_drewN | apply Kd.R_drew)); exact HO994.out))) (below_size (by repeat (first | (with_reducible first | exact HB.out | apply below_alloc | apply pw_below_drewN | apply below_drew1) | exact HB.out)))); have n7_ := Aside0.mk (below_step (by repeat (first | (with_reducible first | exact HB.out | apply below_alloc | apply pw_below_drewN | apply below_drew1) | exact HB.out)) hb); clear HO979; clear HO982; clear HO985; clear HO988; clear HO991; clear HO994; clear HB; have HO979 := n0_; have HO982 := n1_; have HO985 := n2_; have HO988 := n3_; have HO991 := n4_; have HO994 := n5_; have HO998 := n6_; have HB := n7_; clear n0_ n1_ n2_ n3_ n4_ n5_ n6_ n7_; (try clear hb); (try clear hb2); (try clear hk); (try clear hi); (try clear ho0); obtain ⟨Ao36, co36, eo36⟩ := Kd.R_slice HO998.out; subst eo36) | ((with_reducible refine gate_callee (f := 16) rfl ?_); refine goesL_ (some 42) rfl rfl Try.func16 (by kernel_rfl) rfl #[.slice Ao30 t986.length co30, .slice Ao36 t996.length co36] rfl (by (try simp only [List.map_toArray, List.map_cons, List.map_nil]); first | done | rfl | (simp only [List.length_drop, List.length_take]; rfl)) ?_; (with_reducible refine (laws_eqIntS.calls k _ _ t986 _ _ t996 true _ ?side1 ?side2 ?side3 ?side4 A15.out).mono ?_); (case side1 => repeat (first | exact (Kd.R_reads' HO988.out).2.2 | (with_reducible refine Kd.C_alloc ?_ _) | (with_reducible refine Kd.C_drewN ?_ _) | (with_reducible refine Kd.C_drew ?_))); (case side2 => exact (Kd.R_reads' HO988.out).2.1); (case side3 => repeat (first | exact (Kd.R_reads' HO998.out).2.2 | (with_reducible refine Kd.C_alloc ?_ _) | (with_reducible refine Kd.C_drewN ?_ _) | (with_reducible refine Kd.C_drew ?_))); (case side4 => exact (Kd.R_reads' HO998.out).2.1); rintro e w' ⟨rfl, ⟨nd, rfl⟩⟩; refine ⟨_, rfl, ?_⟩) | ((with_reducible refine gate_callee (f := 44) rfl ?_); refine goesL_ (some 46) rfl rfl Try.func44 (by kernel_rfl) rfl #[.slice A2 l2.length c2] rfl (by (try simp only [List.map_toArray, List.map_cons, List.map_nil]); first | done | rfl | (simp only [List.length_drop, List.length_take]; rfl)) ?_; (with_reducible refine (laws_toIntS.calls k _ _ l2 t1000 _ ?side1 ?side2 A17.out).mono ?_); (case side1 => repeat (first | exact (Kd.C_below HR2.out (by repeat (first | (with_reducible first | exact HB.out | apply below_alloc | apply pw_below_drewN | apply below_drew1) | exact HB.out))) | (with_reducible refine Kd.C_alloc ?_ _) | (with_reducible refine Kd.C_drewN ?_ _) | (with_reducible refine Kd.C_drew ?_))); (case side2 => exact HC2.out); rintro e w37 ⟨v1001, rfl, ho0, hb⟩; refine ⟨_, rfl, ?_⟩; have n0_ := Aside0.mk (Kd.R_elder' (by (with_reducible repeat (first | apply Kd.R_alloc | apply Kd.R_drewN | apply Kd.R_drew)); exact HO979.out) (Kd.R_base ho0) hb); have n1_ := Aside0.mk (Kd.R_elder' (by (with_reducible repeat (first | apply Kd.R_alloc | apply Kd.R_drewN | apply Kd.R_drew)); exact HO982.out) (Kd.R_base ho0) hb); have n2_ := Aside0.mk (Kd.R_elder' (by (with_reducible repeat (first | apply Kd.R_alloc | apply Kd.R_drewN | apply Kd.R_drew)); exact HO985.out) (Kd.R_base ho0) hb); have n3_ := Aside0.mk (Kd.R_elder' (by (with_reducible repeat (first | apply Kd.R_alloc | apply Kd.R_drewN | apply Kd.R_drew)); exact HO988.out) (Kd.R_base ho0) hb); have n4_ := Aside0.mk (Kd.R_elder' (by (with_reducible repeat (first | apply Kd.R_alloc | apply Kd.R_drewN | apply Kd.R_drew)); exact HO991.out) (Kd.R_base ho0) hb); have n5_ := Aside0.mk (Kd.R_elder' (by (with_reducible repeat (first | apply Kd.R_alloc | apply Kd.R_drewN | apply Kd.R_drew)); exact HO994.out) (Kd.R_base ho0) hb); have n6_ := Aside0.mk (Kd.R_elder' (by (with_reducible repeat (first | apply Kd.R_alloc | apply Kd.R_drewN | apply Kd.R_drew)); exact HO998.out) (Kd.R_base ho0) hb); have n7_ := Aside0.mk (Kd.R_lower (Kd.R_new' (Kd.R_new' (Kd.R_new' (Kd.R_new' (Kd.R_new' (Kd.R_new' (Kd.R_new' ho0 (Kd.R_lt (by (with_reducible repeat (first | apply Kd.R_alloc | apply Kd.R_drewN | apply Kd.R_drew)); exact HO979.out))) (Kd.R_lt (by (with_reducible repeat (first | apply Kd.R_alloc | apply Kd.R_drewN | apply Kd.R_drew)); exact HO982.out))) (Kd.R_lt (by (with_reducible repeat (first | apply Kd.R_alloc | apply Kd.R_drewN | apply Kd.R_drew)); exact HO985.out))) (Kd.R_lt (by (with_reducible repeat (first | apply Kd.R_alloc | apply Kd.R_drewN | apply Kd.R_drew)); exact HO988.out))) (Kd.R_lt (by (with_reducible repeat (first | apply Kd.R_alloc | apply Kd.R_drewN | apply Kd.R_drew)); exact HO991.out))) (Kd.R_lt (by (with_reducible repeat (first | apply Kd.R_alloc | apply Kd.R_drewN | apply Kd.R_drew)); exact HO994.out))) (Kd.R_lt (by (with_reducible repeat (first | apply Kd.R_alloc | apply Kd.R_drewN | apply Kd.R_drew)); exact HO998.out))) (below_size (by repeat (first | (with_reducible first | exact HB.out | apply below_alloc | apply pw_below_drewN | apply below_drew1) | exact HB.out)))); have n8_ := Aside0.mk (below_step (by repeat (first | (with_reducible first | exact HB.out | apply below_alloc | apply pw_below_drewN | apply below_drew1) | exact HB.out)) hb); clear HO979; clear HO982; clear HO985; clear HO988; clear HO991; clear HO994; clear HO998; clear HB; have HO979 := n0_; have HO982 := n1_; have HO985 := n2_; have HO988 := n3_; have HO991 := n4_; have HO994 := n5_; have HO998 := n6_; have HO1002 := n7_; have HB := n8_; clear n0_ n1_ n2_ n3_ n4_ n5_ n6_ n7_ n8_; (try clear hb); (try clear hb2); (try clear hk); (try clear hi); (try clear ho0); obtain ⟨Ao38, co38, eo38⟩ := Kd.R_slice HO1002.out; subst eo38) | ((with_reducible refine gate_callee (f := 16) rfl ?_); refine goesL_ (some 47) rfl rfl Try.func16 (by kernel_rfl) rfl #[.slice Ao31 t989.length co31, .slice Ao38 t1000.length co38] rfl (by (try simp only [List.map_toArray, List.map_cons, List.map_nil]); first | done | rfl | (simp only [List.length_drop, List.length_take]; rfl)) ?_; (with_reducible refine (laws_eqIntS.calls k _ _ t989 _ _ t1000 true _ ?side1 ?side2 ?side3 ?side4 A18.out).mono ?_); (case side1 => repeat (first | exact (Kd.R_reads' HO991.out).2.2 | (with_reducible refine Kd.C_alloc ?_ _) | (with_reducible refine Kd.C_drewN ?_ _) | (with_reducible refine Kd.C_drew ?_))); (case side2 => exact (Kd.R_reads' HO991.out).2.1); (case side3 => repeat (first | exact (Kd.R_reads' HO1002.out).2.2 | (with_reducible refine Kd.C_alloc ?_ _) | (with_reducible refine Kd.C_drewN ?_ _) | (with_reducible refine Kd.C_drew ?_))); (case side4 => exact (Kd.R_reads' HO1002.out).2.1); rintro e w' ⟨rfl, ⟨nd, rfl⟩⟩; refine ⟨_, rfl, ?_⟩) | ((with_reducible refine gate_callee (f := 17) rfl ?_); refine goesL_ (some 51) rfl rfl Try.func17 (by kernel_rfl) rfl #[.slice Ao30 t986.length co30, .int .i64 1] rfl (by (try simp only [List.map_toArray, List.map_cons, List.map_nil]); first | done | rfl | (simp only [List.length_drop, List.length_take]; rfl)) ?_; (with_reducible refine (laws_markIntS.calls k (fun k_ => some k_ = (.slice Ao30 t986.length co30 : Value).ownBlock) (.slice Ao30 t986.length co30) t986 1 t1004 t1005 w _ ?side1 ?side2 A20.out).mono ?_); (case side1 => repeat (first | (with_reducible first | exact HB.out | apply below_alloc | apply pw_below_drewN | apply below_drew1) | exact HB.out)); (case side2 => exact Kd.R_tight rfl HO988.out); rintro e w39 ⟨rfl, hy0, hb, hkp⟩; refine ⟨_, rfl, ?_⟩; have n0_ := Aside0.mk (Kd.R_mono (ok' := fun k_ => some k_ ≠ (.slice Ao26 t980.length co26 : Value).ownBlock ∧ some k_ ≠ (.slice Ao34 t983.length co34 : Value).ownBlock ∧ some k_ ≠ (.slice Ao30 t986.length co30 : Value).ownBlock ∧ some k_ ≠ (.slice Ao31 t989.length co31 : Value).ownBlock ∧ some k_ ≠ (.slice Ao33 t992.length co33 : Value).ownBlock ∧ some k_ ≠ (.slice Ao36 t996.length co36 : Value).ownBlock ∧ some k_ ≠ (.slice Ao38 t1000.length co38 : Value).ownBlock) (Kd.R_keptB (HO979.out) hkp (fun k_ hk_ hs_ => (hk_.1.1.1.1.2) hs_)) (fun k_ hk_ => ⟨hk_.1.1.1.1.1.1.1.2, hk_.1.1.1.1.1.1.2, hk_.1.1.1.1.1.2, hk_.1.1.1.1.2, hk_.1.1.1.2, hk_.1.1.2, hk_.1.2⟩)); have n1_ := Aside0.mk (Kd.R_mono (ok' := fun k_ => some k_ ≠ (.slice Ao25 t977.length co25 : Value).ownBlock ∧ some k_ ≠ (.slice Ao34 t983.length co34 : Value).ownBlock ∧ some k_ ≠ (.slice Ao30 t986.length co30 : Value).ownBlock ∧ some k_ ≠ (.slice Ao31 t989.length co31 : Value).ownBlock ∧ some k_ ≠ (.slice Ao33 t992.length co33 : Value).ownBlock ∧ some k_ ≠ (.slice Ao36 t996.length co36 : Value).ownBlock ∧ some k_ ≠ (.slice Ao38 t1000.length co38 : Value).ownBlock) (Kd.R_keptB (HO982.out) hkp (fun k_ hk_ hs_ => (hk_.1.1.1.1.2) hs_)) (fun k_ hk_ => ⟨hk_.1.1.1.1.1.1.1.2, hk_.1.1.1.1.1.1.2, hk_.1.1.1.1.1.2, hk_.1.1.1.1.2, hk_.1.1.1.2, hk_.1.1.2, hk_.1.2⟩)); have n2_ := Aside0.mk (Kd.R_mono (ok' := fun k_ => some k_ ≠ (.slice Ao25 t977.length co25 : Value).ownBlock ∧ some k_ ≠ (.slice Ao26 t980.length co26 : Value).ownBlock ∧ some k_ ≠ (.slice Ao30 t986.length co30 : Value).ownBlock ∧ some k_ ≠ (.slice Ao31 t989.length co31 : Value).ownBlock ∧ some k_ ≠ (.slice Ao33 t992.length co33 : Value).ownBlock ∧ some k_ ≠ (.slice Ao36 t996.length co36 : Value).ownBlock ∧ some k_ ≠ (.slice Ao38 t1000.length co38 : Value).ownBlock) (Kd.R_keptB (HO985.out) hkp (fun k_ hk_ hs_ => (hk_.1.1.1.1.2) hs_)) (fun k_ hk_ => ⟨hk_.1.1.1.1.1.1.1.2, hk_.1.1.1.1.1.1.2, hk_.1.1.1.1.1.2, hk_.1.1.1.1.2, hk_.1.1.1.2, hk_.1.1.2, hk_.1.2⟩)); have n3_ := Aside0.mk (Kd.R_reok rfl hy0 (fun k_ e_ => HO988.out.1 k_ e_)); have n4_ := Aside0.mk (Kd.R_mono (ok' := fun k_ => some k_ ≠ (.slice Ao25 t977.length co25 : Value).ownBlock ∧ some k_ ≠ (.slice Ao26 t980.length co26 : Value).ownBlock ∧ some k_ ≠ (.slice Ao34 t983.length co34 : Value).ownBlock ∧ some k_ ≠ (.slice Ao30 t986.length co30 : Value).ownBlock ∧ some k_ ≠ (.slice Ao33 t992.length co33 : Value).ownBlock ∧ some k_ ≠ (.slice Ao36 t996.length co36 : Value).ownBlock ∧ some k_ ≠ (.slice Ao38 t1000.length co38 : Value).ownBlock) (Kd.R_keptB (HO991.out) hkp (fun k_ hk_ hs_ => (hk_.1.1.1.2) hs_)) (fun k_ hk_ => ⟨hk_.1.1.1.1.1.1.1.2, hk_.1.1.1.1.1.1.2, hk_.1.1.1.1.1.2, hk_.1.1.1.1.2, hk_.1.1.1.2, hk_.1.1.2, hk_.1.2⟩)); have n5_ := Aside0.mk (Kd.R_mono (ok' := fun k_ => some k_ ≠ (.slice Ao25 t977.length co25 : Value).ownBlock ∧ some k_ ≠ (.slice Ao26 t980.length co26 : Value).ownBlock ∧ some k_ ≠ (.slice Ao34 t983.length co34 : Value).ownBlock ∧ some k_ ≠ (.slice Ao30 t986.length co30 : Value).ownBlock ∧ some k_ ≠ (.slice Ao31 t989.length co31 : Value).ownBlock ∧ some k_ ≠ (.slice Ao36 t996.length co36 : Value).ownBlock ∧ some k_ ≠ (.slice Ao38 t1000.length co38 : Value).ownBlock) (Kd.R_keptB (HO994.out) hkp (fun k_ hk_ hs_ => (hk_.1.1.1.2) hs_)) (fun k_ hk_ => ⟨hk_.1.1.1.1.1.1.1.2, hk_.1.1.1.1.1.1.2, hk_.1.1.1.1.1.2, hk_.1.1.1.1.2, hk_.1.1.1.2, hk_.1.1.2, hk_.1.2⟩)); have n6_ := Aside0.mk (Kd.R_mono (ok' := fun k_ => some k_ ≠ (.slice Ao25 t977.length co25 : Value).ownBlock ∧ some k_ ≠ (.slice Ao26 t980.length co26 : Value).ownBlock ∧ some k_ ≠ (.slice Ao34 t983.length co34 : Value).ownBlock ∧ some k_ ≠ (.slice Ao30 t986.length co30 : Value).ownBlock ∧ some k_ ≠ (.slice Ao31 t989.length co31 : Value).ownBlock ∧ some k_ ≠ (.slice Ao33 t992.length co33 : Value).ownBlock ∧ some k_ ≠ (.slice Ao38 t1000.length co38 : Value).ownBlock) (Kd.R_keptB (HO998.out) hkp (fun k_ hk_ hs_ => (hk_.1.1.1.2) hs_)) (fun k_ hk_ => ⟨hk_.1.1.1.1.1.1.1.2, hk_.1.1.1.1.1.1.2, hk_.1.1.1.1.1.2, hk_.1.1.1.1.2, hk_.1.1.1.2, hk_.1.1.2, hk_.1.2⟩)); have n7_ := Aside0.mk (Kd.R_mono (ok' := fun k_ => some k_ ≠ (.slice Ao25 t977.length co25 : Value).ownBlock ∧ some k_ ≠ (.slice Ao26 t980.length co26 : Value).ownBlock ∧ some k_ ≠ (.slice Ao34 t983.length co34 : Value).ownBlock ∧ some k_ ≠ (.slice Ao30 t986.length co30 : Value).ownBlock ∧ some k_ ≠ (.slice Ao31 t989.length co31 : Value).ownBlock ∧ some k_ ≠ (.slice Ao33 t992.length co33 : Value).ownBlock ∧ some k_ ≠ (.slice Ao36 t996.length co36 : Value).ownBlock) (Kd.R_keptB (HO1002.out) hkp (fun k_ hk_ hs_ => (hk_.1.1.1.2) hs_)) (fun k_ hk_ => ⟨hk_.1.1.1.1.1.1.1.2, hk_.1.1.1.1.1.1.2, hk_.1.1.1.1.1.2, hk_.1.1.1.1.2, hk_.1.1.1.2, hk_.1.1.2, hk_.1.2⟩)); have n8_ := Aside0.mk (hb); clear HO979; clear HO982; clear HO985; clear HO988; clear HO991; clear HO994; clear HO998; clear HO1002; clear HB; have HO979 := n0_; have HO982 := n1_; have HO985 := n2_; have HO988 := n3_; have HO991 := n4_; have HO994 := n5_; have HO998 := n6_; have HO1002 := n7_; have HB := n8_; clear n0_ n1_ n2_ n3_ n4_ n5_ n6_ n7_ n8_; (try clear hb); (try clear hkp); (try clear hy0)) | ((with_reducible refine gate_callee (f := 17) rfl ?_); refine goesL_ (some 54) rfl rfl Try.func17 (by kernel_rfl) rfl #[.slice Ao31 t989.length co31, .int .i64 t1004] rfl (by (try simp only [List.map_toArray, List.map_cons, List.map_nil]); first | done | rfl | (simp only [List.length_drop, List.length_take]; rfl)) ?_; (with_reducible refine (laws_markIntS.calls k (fun k_ => some k_ = (.slice Ao31 t989.length co31 : Value).ownBlock) (.slice Ao31 t989.length co31) t989 t1004 t1006 t1007 w _ ?side1 ?side2 A21.out).mono ?_); (case side1 => repeat (first | (with_reducible first | exact HB.out | apply below_alloc | apply pw_below_drewN | apply below_drew1) | exact HB.out)); (case side2 => exact Kd.R_tight rfl HO991.out); rintro e w40 ⟨rfl, hy0, hb, hkp⟩; refine ⟨_, rfl, ?_⟩; have n0_ := Aside0.mk (Kd.R_mono (ok' := fun k_ => some k_ ≠ (.slice Ao26 t980.length co26 : Value).ownBlock ∧ some k_ ≠ (.slice Ao34 t983.length co34 : Value).ownBlock ∧ some k_ ≠ (.slice Ao30 t986.length co30 : Value).ownBlock ∧ some k_ ≠ (.slice Ao31 t989.length co31 : Value).ownBlock ∧ some k_ ≠ (.slice Ao33 t992.length co33 : Value).ownBlock ∧ some k_ ≠ (.slice Ao36 t996.length co36 : Value).ownBlock ∧ some k_ ≠ (.slice Ao38 t1000.length co38 : Value).ownBlock) (Kd.R_keptB (HO979.out) hkp (fun k_ hk_ hs_ => (hk_.2.2.2.1) hs_)) (fun k_ hk_ => ⟨hk_.1.1, hk_.1.2.1, hk_.1.2.2.1, hk_.1.2.2.2.1, hk_.1.2.2.2.2.1, hk_.1.2.2.2.2.2.1, hk_.1.2.2.2.2.2.2⟩)); have n1_ := Aside0.mk (Kd.R_mono (ok' := fun k_ => some k_ ≠ (.slice Ao25 t977.length co25 : Value).ownBlock ∧ some k_ ≠ (.slice Ao34 t983.length co34 : Value).ownBlock ∧ some k_ ≠ (.slice Ao30 t986.length co30 : Value).ownBlock ∧ some k_ ≠ (.slice Ao31 t989.length co31 : Value).ownBlock ∧ some k_ ≠ (.slice Ao33 t992.length co33 : Value).ownBlock ∧ some k_ ≠ (.slice Ao36 t996.length co36 : Value).ownBlock ∧ some k_ ≠ (.slice Ao38 t1000.length co38 : Value).ownBlock) (Kd.R_keptB (HO982.out) hkp (fun k_ hk_ hs_ => (hk_.2.2.2.1) hs_)) (fun k_ hk_ => ⟨hk_.1.1, hk_.1.2.1, hk_.1.2.2.1, hk_.1.2.2.2.1, hk_.1.2.2.2.2.1, hk_.1.2.2.2.2.2.1, hk_.1.2.2.2.2.2.2⟩)); have n2_ := Aside0.mk (Kd.R_mono (ok' := fun k_ => some k_ ≠ (.slice Ao25 t977.length co25 : Value).ownBlock ∧ some k_ ≠ (.slice Ao26 t980.length co26 : Value).ownBlock ∧ some k_ ≠ (.slice Ao30 t986.length co30 : Value).ownBlock ∧ some k_ ≠ (.slice Ao31 t989.length co31 : Value).ownBlock ∧ some k_ ≠ (.slice Ao33 t992.length co33 : Value).ownBlock ∧ some k_ ≠ (.slice Ao36 t996.length co36 : Value).ownBlock ∧ some k_ ≠ (.slice Ao38 t1000.length co38 : Value).ownBlock) (Kd.R_keptB (HO985.out) hkp (fun k_ hk_ hs_ => (hk_.2.2.2.1) hs_)) (fun k_ hk_ => ⟨hk_.1.1, hk_.1.2.1, hk_.1.2.2.1, hk_.1.2.2.2.1, hk_.1.2.2.2.2.1, hk_.1.2.2.2.2.2.1, hk_.1.2.2.2.2.2.2⟩)); have n3_ := Aside0.mk (Kd.R_mono (ok' := fun k_ => some k_ ≠ (.slice Ao25 t977.length co25 : Value).ownBlock ∧ some k_ ≠ (.slice Ao26 t980.length co26 : Value).ownBlock ∧ some k_ ≠ (.slice Ao34 t983.length co34 : Value).ownBlock ∧ some k_ ≠ (.slice Ao31 t989.length co31 : Value).ownBlock ∧ some k_ ≠ (.slice Ao33 t992.length co33 : Value).ownBlock ∧ some k_ ≠ (.slice Ao36 t996.length co36 : Value).ownBlock ∧ some k_ ≠ (.slice Ao38 t1000.length co38 : Value).ownBlock) (Kd.R_keptB (HO988.out) hkp (fun k_ hk_ hs_ => (hk_.1.1.1.2) hs_)) (fun k_ hk_ => ⟨hk_.1.1.1.1.1.1.1.2, hk_.1.1.1.1.1.1.2, hk_.1.1.1.1.1.2, hk_.1.1.1.1.2, hk_.1.1.1.2, hk_.1.1.2, hk_.1.2⟩)); have n4_ := Aside0.mk (Kd.R_reok rfl hy0 (fun k_ e_ => HO991.out.1 k_ e_)); have n5_ := Aside0.mk (Kd.R_mono (ok' := fun k_ => some k_ ≠ (.slice Ao25 t977.length co25 : Value).ownBlock ∧ some k_ ≠ (.slice Ao26 t980.length co26 : Value).ownBlock ∧ some k_ ≠ (.slice Ao34 t983.length co34 : Value).ownBlock ∧ some k_ ≠ (.slice Ao30 t986.length co30 : Value).ownBlock ∧ some k_ ≠ (.slice Ao31 t989.length co31 : Value).ownBlock ∧ some k_ ≠ (.slice Ao36 t996.length co36 : Value).ownBlock ∧ some k_ ≠ (.slice Ao38 t1000.length co38 : Value).ownBlock) (Kd.R_keptB (HO994.out) hkp (fun k_ hk_ hs_ => (hk_.2.2.2.2.1) hs_)) (fun k_ hk_ => ⟨hk_.1.1, hk_.1.2.1, hk_.1.2.2.1, hk_.1.2.2.2.1, hk_.1.2.2.2.2.1, hk_.1.2.2.2.2.2.1, hk_.1.2.2.2.2.2.2⟩)); have n6_ := Aside0.mk (Kd.R_mono (ok' := fun k_ => some k_ ≠ (.slice Ao25 t977.length co25 : Value).ownBlock ∧ some k_ ≠ (.slice Ao26 t980.length co26 : Value).ownBlock ∧ some k_ ≠ (.slice Ao34 t983.length co34 : Value).ownBlock ∧ some k_ ≠ (.slice Ao30 t986.length co30 : Value).ownBlock ∧ some k_ ≠ (.slice Ao31 t989.length co31 : Value).ownBlock ∧ some k_ ≠ (.slice Ao33 t992.length co33 : Value).ownBlock ∧ some k_ ≠ (.slice Ao38 t1000.length co38 : Value).ownBlock) (Kd.R_keptB (HO998.out) hkp (fun k_ hk_ hs_ => (hk_.2.2.2.2.1) hs_)) (fun k_ hk_ => ⟨hk_.1.1, hk_.1.2.1, hk_.1.2.2.1, hk_.1.2.2.2.1, hk_.1.2.2.2.2.1, hk_.1.2.2.2.2.2.1, hk_.1.2.2.2.2.2.2⟩)); have n7_ := Aside0.mk (Kd.R_mono (ok' := fun k_ => some k_ ≠ (.slice Ao25 t977.length co25 : Value).ownBlock ∧ some k_ ≠ (.slice Ao26 t980.length co26 : Value).ownBlock ∧ some k_ ≠ (.slice Ao34 t983.length co34 : Value).ownBlock ∧ some k_ ≠ (.slice Ao30 t986.length co30 : Value).ownBlock ∧ some k_ ≠ (.slice Ao31 t989.length co31 : Value).ownBlock ∧ some k_ ≠ (.slice Ao33 t992.length co33 : Value).ownBlock ∧ some k_ ≠ (.slice Ao36 t996.length co36 : Value).ownBlock) (Kd.R_keptB (HO1002.out) hkp (fun k_ hk_ hs_ => (hk_.2.2.2.2.1) hs_)) (fun k_ hk_ => ⟨hk_.1.1, hk_.1.2.1, hk_.1.2.2.1, hk_.1.2.2.2.1, hk_.1.2.2.2.2.1, hk_.1.2.2.2.2.2.1, hk_.1.2.2.2.2.2.2⟩)); have n8_ := Aside0.mk (hb); clear HO979; clear HO982; clear HO985; clear HO988; clear HO991; clear HO994; clear HO998; clear HO1002; clear HB; have HO979 := n0_; have HO982 := n1_; have HO985 := n2_; have HO988 := n3_; have HO991 := n4_; have HO994 := n5_; have HO998 := n6_; have HO1002 := n7_; have HB := n8_; clear n0_ n1_ n2_ n3_ n4_ n5_ n6_ n7_ n8_; (try clear hb); (try clear hkp); (try clear hy0)))
      (try simp only [Act.put, List.setIfInBounds_toArray, List.set_cons_zero, List.set_cons_succ])
      go_cut [62] (fun v62 wc => ∃ (kq : Nat) (x62_21 : Bool), v62 = .bool x62_21 ∧ Aside0 (laws_FnExactExtensionsOf.j0 kq l0 a1 l2 t983 t992 x62_21 = some r) ∧ Aside0 (kq ≤ k) ∧ Aside0 (Kd.R (Kd.int .i64) 3 wc w.heap.size (fun k_ => some k_ ≠ ((.slice Ao33 t992.length co33) : Value).ownBlock) (.slice Ao34 t983.length co34) t983) ∧ Aside0 (Kd.R (Kd.int .i64) 3 wc w.heap.size (fun k_ => some k_ ≠ ((.slice Ao34 t983.length co34) : Value).ownBlock) (.slice Ao33 t992.length co33) t992) ∧ Aside0 (Below w.heap.size w wc))
      case first =>
       have H := HC22.out
       clear HC22
       by_cases c41 : t1006 < 0
       ·rw [if_pos c41] at H
        have c41b0 : decide (t1006 < 0) = true := decide_eq_true c41
        clear c41
        (first | rw [c41b0] | (simp only [i64_w, i32_w]; rw [c41b0]) | skip)
        have H' := Aside0.mk H
        clear H
        go_wp2
        go_meet
        case rel => exact ⟨_, (true), (by first | rfl | (simp; done) | (simp [*]; done)), H', ⟨by first | omega | exact Nat.le_refl _⟩, ⟨by (with_reducible repeat (first | apply Kd.R_alloc | apply Kd.R_drewN | apply Kd.R_drew)); exact Kd.R_mono HO985.out (fun _ hk => hk.2.2.2.2.1)⟩, ⟨by (with_reducible repeat (first | apply Kd.R_alloc | apply Kd.R_drewN | apply Kd.R_drew)); exact Kd.R_mono HO994.out (fun _ hk => hk.2.2.1)⟩, ⟨by repeat (first | (with_reducible first | exact HB.out | apply below_alloc | apply pw_below_drewN | apply below_drew1) | exact HB.out)⟩⟩
       ·rw [if_neg c41] at H
        have c41b0 : decide (t1006 < 0) = false := decide_eq_false c41
        clear c41
        (first | rw [c41b0] | (simp only [i64_w, i32_w]; rw [c41b0]) | skip)
        replace H := Option.bind_eq_some_iff.mp H
        obtain ⟨t1008, A420, H⟩ := H
        replace H : (laws_FnExactExtensionsOf.j0 k l0 a1 l2 t983 t992 (!t1008)) = some r := H
        have A42 := Aside0.mk A420
        clear A420
        have H' := Aside0.mk H
        clear H
        go_wp2_with (first | (go_at_call 16; (with_reducible refine (laws_eqIntS.calls k _ _ t992 _ _ t983 t1008 _ ?side1 ?side2 ?side3 ?side4 A42.out).mono ?_); (case side1 => repeat (first | exact (Kd.R_reads' HO994.out).2.2 | (with_reducible refine Kd.C_alloc ?_ _) | (with_reducible refine Kd.C_drewN ?_ _) | (with_reducible refine Kd.C_drew ?_))); (case side2 => exact (Kd.R_reads' HO994.out).2.1); (case side3 => repeat (first | exact (Kd.R_reads' HO985.out).2.2 | (with_reducible refine Kd.C_alloc ?_ _) | (with_reducible refine Kd.C_drewN ?_ _) | (with_reducible refine Kd.C_drew ?_))); (case side4 => exact (Kd.R_reads' HO985.out).2.1); rintro e w' ⟨rfl, ⟨nd, rfl⟩⟩))
        go_meet
        case rel => exact ⟨_, (!t1008), (by first | rfl | (simp; done) | (simp [*]; done)), H', ⟨by first | omega | exact Nat.le_refl _⟩, ⟨by (with_reducible repeat (first | apply Kd.R_alloc | apply Kd.R_drewN | apply Kd.R_drew)); exact Kd.R_mono HO985.out (fun _ hk => hk.2.2.2.2.1)⟩, ⟨by (with_reducible repeat (first | apply Kd.R_alloc | apply Kd.R_drewN | apply Kd.R_drew)); exact Kd.R_mono HO994.out (fun _ hk => hk.2.2.1)⟩, ⟨by repeat (first | (with_reducible first | exact HB.out | apply below_alloc | apply pw_below_drewN | apply below_drew1) | exact HB.out)⟩⟩
      case rest =>
       clear HC22
       try clear c1
       try clear c2
       try clear p2
       try clear c4
       try clear c4b0
       try clear c4b1
       try clear c5
       try clear c5b0
       try clear c5b1
       try clear c7
       try clear c13
       try clear c16
       try clear c17
       try clear c19
       try clear c41
       try clear c41b0
       obtain ⟨kq, x62_21, rfl, HA, HJ21, HO_7, HO_10, HB⟩ := hcut
       cases kq with
       | zero => exact absurd HA.out (by simp [laws_FnExactExtensionsOf.j0])
       | succ kj21 =>
        have H := HA.out
        clear HA
        simp only [laws_FnExactExtensionsOf.j0] at H
        by_cases c43 : x62_21 = true
        ·subst c43
         have H1 : (some false) = some r := by rw [if_pos rfl] at H; exact H
         clear H
         have H := H1
         clear H1
         obtain rfl := Option.some.inj H
         go_wp2
         go_ret
         exact ⟨by first | rfl | (simp [errW_none, errW_some] <;> rfl) | (simp [*, errW_none, errW_some] <;> rfl), by repeat (first | (with_reducible first | exact HB.out | apply below_alloc | apply pw_below_drewN | apply below_drew1) | exact HB.out)⟩
        ·replace c43 := Bool.eq_false_iff.mpr c43
         subst c43
         have H1 : ((laws_markIntS.f kj21 t992 1).bind fun bt1009 => ((laws_heldIntS.f kj21 bt1009.2 1).bind fun t1011 => (if t1011 < 0 then (some false) else (if t1011 = bt1009.1 then ((laws_toIntS.f kj21 l0).bind fun t1012 => ((laws_toIntS.f kj21 l2).bind fun t1015 => ((impl_ExtensionsOf.f kj21 t1012 a1 t1015).bind fun t1018 => ((laws_eqIntS.f kj21 t1018 t983).bind fun t1021 => (if t1021 = true then ((laws_heldIntS.f kj21 bt1009.2 1).bind fun t1022 => (if t1022 < 0 then (some false) else (if t1022 = bt1009.1 then (some true) else (some false)))) else (some false)))))) else (some false))))) = some r := by rw [if_neg (show ¬ (false = true) by decide)] at H; exact H
         clear H
         have H := H1
         clear H1
         replace H := Option.bind_eq_some_iff.mp H
         obtain ⟨⟨t1009, t1010⟩, A440, H⟩ := H
         replace H : ((laws_heldIntS.f kj21 t1010 1).bind fun t1011 => (if t1011 < 0 then (some false) else (if t1011 = t1009 then ((laws_toIntS.f kj21 l0).bind fun t1012 => ((laws_toIntS.f kj21 l2).bind fun t1015 => ((impl_ExtensionsOf.f kj21 t1012 a1 t1015).bind fun t1018 => ((laws_eqIntS.f kj21 t1018 t983).bind fun t1021 => (if t1021 = true then ((laws_heldIntS.f kj21 t1010 1).bind fun t1022 => (if t1022 < 0 then (some false) else (if t1022 = t1009 then (some true) else (some false)))) else (some false)))))) else (some false)))) = some r := H
         have A44 := Aside0.mk A440
         clear A440
         replace H := Option.bind_eq_some_iff.mp H
         obtain ⟨t1011, A450, H⟩ := H
         replace H : (if t1011 < 0 then (some false) else (if t1011 = t1009 then ((laws_toIntS.f kj21 l0).bind fun t1012 => ((laws_toIntS.f kj21 l2).bind fun t1015 => ((impl_ExtensionsOf.f kj21 t1012 a1 t1015).bind fun t1018 => ((laws_eqIntS.f kj21 t1018 t983).bind fun t1021 => (if t1021 = true then ((laws_heldIntS.f kj21 t1010 1).bind fun t1022 => (if t1022 < 0 then (some false) else (if t1022 = t1009 then (some true) else (some false)))) else (some false)))))) else (some false))) = some r := H
         have A45 := Aside0.mk A450
         clear A450
         by_cases c46 : t1011 < 0
         ·rw [if_pos c46] at H
          have c46b0 : decide (t1011 < 0) = true := decide_eq_true c46
          clear c46
          obtain rfl := Option.some.inj H
          go_wp2_with (first | ((with_reducible refine gate_callee (f := 17) rfl ?_); refine goesL_ (some 65) rfl rfl Try.func17 (by kernel_rfl) rfl #[.slice Ao33 t992.length co33, .int .i64 1] rfl (by (try simp only [List.map_toArray, List.map_cons, List.map_nil]); first | done | rfl | (simp only [List.length_drop, List.length_take]; rfl)) ?_; (with_reducible refine (laws_markIntS.calls kj21 (fun k_ => some k_ = (.slice Ao33 t992.length co33 : Value).ownBlock) (.slice Ao33 t992.length co33) t992 1 t1009 t1010 w _ ?side1 ?side2 A44.out).mono ?_); (case side1 => repeat (first | (with_reducible first | exact HB.out | apply below_alloc | apply pw_below_drewN | apply below_drew1) | exact HB.out)); (case side2 => exact Kd.R_tight rfl HO_10.out); rintro e w47 ⟨rfl, hy0, hb, hkp⟩; refine ⟨_, rfl, ?_⟩; have n0_ := Aside0.mk (Kd.R_mono (ok' := fun k_ => some k_ ≠ (.slice Ao33 t992.length co33 : Value).ownBlock) (Kd.R_keptB (HO_7.out) hkp (fun k_ hk_ hs_ => (hk_) hs_)) (fun k_ hk_ => hk_.1)); have n1_ := Aside0.mk (Kd.R_reok rfl hy0 (fun k_ e_ => HO_10.out.1 k_ e_)); have n2_ := Aside0.mk (hb); clear HO_7; clear HO_10; clear HB; have HO_7 := n0_; have HO_10 := n1_; have HB := n2_; clear n0_ n1_ n2_; (try clear hb); (try clear hkp); (try clear hy0)) | ((with_reducible refine gate_callee (f := 18) rfl ?_); refine goesL_ (some 68) rfl rfl Try.func18 (by kernel_rfl) rfl #[.slice Ao33 t1010.length co33, .int .i64 1] rfl (by (try simp only [List.map_toArray, List.map_cons, List.map_nil]); first | done | (rw [show t1010.length = t992.length from (Kd.R_reads' HO_10.out).1.symm] <;> rfl) | rfl | (simp only [List.length_drop, List.length_take]; rfl)) ?_; (with_reducible refine (laws_heldIntS.calls kj21 _ _ t1010 1 t1011 _ ?side1 ?side2 A45.out).mono ?_); (case side1 => repeat (first | exact (Kd.R_reads' HO_10.out).2.2 | (with_reducible refine Kd.C_alloc ?_ _) | (with_reducible refine Kd.C_drewN ?_ _) | (with_reducible refine Kd.C_drew ?_))); (case side2 => rw [show t1010.length = t992.length from (Kd.R_reads' HO_10.out).1.symm]; exact (Kd.R_reads' HO_10.out).2.1); rintro e w' ⟨rfl, ⟨nd, rfl⟩⟩; refine ⟨_, rfl, ?_⟩))
          go_ret
          exact ⟨by first | rfl | (simp [errW_none, errW_some] <;> rfl) | (simp [*, errW_none, errW_some] <;> rfl), by repeat (first | (with_reducible first | exact HB.out | apply below_alloc | apply pw_below_drewN | apply below_drew1) | exact HB.out)⟩
         ·rw [if_neg c46] at H
          have c46b0 : decide (t1011 < 0) = false := decide_eq_false c46
          clear c46
          by_cases c48 : t1011 = t1009
          ·rw [if_pos c48] at H
           have c48b0 : (t1011 == t1009) = true := beq_iff_eq.mpr c48
           have c48b1 : (t1011 != t1009) = false := bne_eq_false_iff_eq.mpr c48
           clear c48
           replace H := Option.bind_eq_some_iff.mp H
           obtain ⟨t1012, A490, H⟩ := H
           replace H : ((laws_toIntS.f kj21 l2).bind fun t1015 => ((impl_ExtensionsOf.f kj21 t1012 a1 t1015).bind fun t1018 => ((laws_eqIntS.f kj21 t1018 t983).bind fun t1021 => (if t1021 = true then ((laws_heldIntS.f kj21 t1010 1).bind fun t1022 => (if t1022 < 0 then (some false) else (if t1022 = t1009 then (some true) else (some false)))) else (some false))))) = some r := H
           have A49 := Aside0.mk A490
           clear A490
           replace H := Option.bind_eq_some_iff.mp H
           obtain ⟨t1015, A500, H⟩ := H
           replace H : ((impl_ExtensionsOf.f kj21 t1012 a1 t1015).bind fun t1018 => ((laws_eqIntS.f kj21 t1018 t983).bind fun t1021 => (if t1021 = true then ((laws_heldIntS.f kj21 t1010 1).bind fun t1022 => (if t1022 < 0 then (some false) else (if t1022 = t1009 then (some true) else (some false)))) else (some false)))) = some r := H
           have A50 := Aside0.mk A500
           clear A500
           replace H := Option.bind_eq_some_iff.mp H
           obtain ⟨t1018, A510, H⟩ := H
           replace H : ((laws_eqIntS.f kj21 t1018 t983).bind fun t1021 => (if t1021 = true then ((laws_heldIntS.f kj21 t1010 1).bind fun t1022 => (if t1022 < 0 then (some false) else (if t1022 = t1009 then (some true) else (some false)))) else (some false))) = some r := H
           have A51 := Aside0.mk A510
           clear A510
           replace H := Option.bind_eq_some_iff.mp H
           obtain ⟨t1021, A520, H⟩ := H
           replace H : (if t1021 = true then ((laws_heldIntS.f kj21 t1010 1).bind fun t1022 => (if t1022 < 0 then (some false) else (if t1022 = t1009 then (some true) else (some false)))) else (some false)) = some r := H
           have A52 := Aside0.mk A520
           clear A520
           by_cases c53 : t1021 = true
           ·subst c53
            have H1 : ((laws_heldIntS.f kj21 t1010 1).bind fun t1022 => (if t1022 < 0 then (some false) else (if t1022 = t1009 then (some true) else (some false)))) = some r := by rw [if_pos rfl] at H; exact H
            clear H
            have H := H1
            clear H1
            replace H := Option.bind_eq_some_iff.mp H
            obtain ⟨t1022, A540, H⟩ := H
            replace H : (if t1022 < 0 then (some false) else (if t1022 = t1009 then (some true) else (some false))) = some r := H
            have A54 := Aside0.mk A540
            clear A540
            by_cases c55 : t1022 < 0
            ·rw [if_pos c55] at H
             have c55b0 : decide (t1022 < 0) = true := decide_eq_true c55
             clear c55
             obtain rfl := Option.some.inj H
             go_wp2_with (first | ((with_reducible refine gate_callee (f := 17) rfl ?_); refine goesL_ (some 65) rfl rfl Try.func17 (by kernel_rfl) rfl #[.slice Ao33 t992.length co33, .int .i64 1] rfl (by (try simp only [List.map_toArray, List.map_cons, List.map_nil]); first | done | rfl | (simp only [List.length_drop, List.length_take]; rfl)) ?_; (with_reducible refine (laws_markIntS.calls kj21 (fun k_ => some k_ = (.slice Ao33 t992.length co33 : Value).ownBlock) (.slice Ao33 t992.length co33) t992 1 t1009 t1010 w _ ?side1 ?side2 A44.out).mono ?_); (case side1 => repeat (first | (with_reducible first | exact HB.out | apply below_alloc | apply pw_below_drewN | apply below_drew1) | exact HB.out)); (case side2 => exact Kd.R_tight rfl HO_10.out); rintro e w56 ⟨rfl, hy0, hb, hkp⟩; refine ⟨_, rfl, ?_⟩; have n0_ := Aside0.mk (Kd.R_mono (ok' := fun k_ => some k_ ≠ (.slice Ao33 t992.length co33 : Value).ownBlock) (Kd.R_keptB (HO_7.out) hkp (fun k_ hk_ hs_ => (hk_) hs_)) (fun k_ hk_ => hk_.1)); have n1_ := Aside0.mk (Kd.R_reok rfl hy0 (fun k_ e_ => HO_10.out.1 k_ e_)); have n2_ := Aside0.mk (hb); clear HO_7; clear HO_10; clear HB; have HO_7 := n0_; have HO_10 := n1_; have HB := n2_; clear n0_ n1_ n2_; (try clear hb); (try clear hkp); (try clear hy0)) | ((with_reducible refine gate_callee (f := 18) rfl ?_); refine goesL_ (some 68) rfl rfl Try.func18 (by kernel_rfl) rfl #[.slice Ao33 t1010.length co33, .int .i64 1] rfl (by (try simp only [List.map_toArray, List.map_cons, List.map_nil]); first | done | (rw [show t1010.length = t992.length from (Kd.R_reads' HO_10.out).1.symm] <;> rfl) | rfl | (simp only [List.length_drop, List.length_take]; rfl)) ?_; (with_reducible refine (laws_heldIntS.calls kj21 _ _ t1010 1 t1011 _ ?side1 ?side2 A45.out).mono ?_); (case side1 => repeat (first | exact (Kd.R_reads' HO_10.out).2.2 | (with_reducible refine Kd.C_alloc ?_ _) | (with_reducible refine Kd.C_drewN ?_ _) | (with_reducible refine Kd.C_drew ?_))); (case side2 => rw [show t1010.length = t992.length from (Kd.R_reads' HO_10.out).1.symm]; exact (Kd.R_reads' HO_10.out).2.1); rintro e w' ⟨rfl, ⟨nd, rfl⟩⟩; refine ⟨_, rfl, ?_⟩) | ((with_reducible refine gate_callee (f := 44) rfl ?_); refine goesL_ (some 75) rfl rfl Try.func44 (by kernel_rfl) rfl #[.slice A0 l0.length c0] rfl (by (try simp only [List.map_toArray, List.map_cons, List.map_nil]); first | done | rfl | (simp only [List.length_drop, List.length_take]; rfl)) ?_; (with_reducible refine (laws_toIntS.calls kj21 _ _ l0 t1012 _ ?side1 ?side2 A49.out).mono ?_); (case side1 => repeat (first | exact (Kd.C_below HR0.out (by repeat (first | (with_reducible first | exact HB.out | apply below_alloc | apply pw_below_drewN | apply below_drew1) | exact HB.out))) | (with_reducible refine Kd.C_alloc ?_ _) | (with_reducible refine Kd.C_drewN ?_ _) | (with_reducible refine Kd.C_drew ?_))); (case side2 => exact HC0.out); rintro e w57 ⟨v1013, rfl, ho0, hb⟩; refine ⟨_, rfl, ?_⟩; have n0_ := Aside0.mk (Kd.R_elder' (by (with_reducible repeat (first | apply Kd.R_alloc | apply Kd.R_drewN | apply Kd.R_drew)); exact HO_7.out) (Kd.R_base ho0) hb); have n1_ := Aside0.mk (Kd.R_elder' (by (with_reducible repeat (first | apply Kd.R_alloc | apply Kd.R_drewN | apply Kd.R_drew)); exact HO_10.out) (Kd.R_base ho0) hb); have n2_ := Aside0.mk (Kd.R_lower (Kd.R_new' (Kd.R_new' ho0 (Kd.R_lt (by (with_reducible repeat (first | apply Kd.R_alloc | apply Kd.R_drewN | apply Kd.R_drew)); exact HO_7.out))) (Kd.R_lt (by (with_reducible repeat (first | apply Kd.R_alloc | apply Kd.R_drewN | apply Kd.R_drew)); exact HO_10.out))) (below_size (by repeat (first | (with_reducible first | exact HB.out | apply below_alloc | apply pw_below_drewN | apply below_drew1) | exact HB.out)))); have n3_ := Aside0.mk (below_step (by repeat (first | (with_reducible first | exact HB.out | apply below_alloc | apply pw_below_drewN | apply below_drew1) | exact HB.out)) hb); clear HO_7; clear HO_10; clear HB; have HO_7 := n0_; have HO_10 := n1_; have HO1014 := n2_; have HB := n3_; clear n0_ n1_ n2_ n3_; (try clear hb); (try clear hb2); (try clear hk); (try clear hi); (try clear ho0)) | ((with_reducible refine gate_callee (f := 44) rfl ?_); refine goesL_ (some 78) rfl rfl Try.func44 (by kernel_rfl) rfl #[.slice A2 l2.length c2] rfl (by (try simp only [List.map_toArray, List.map_cons, List.map_nil]); first | done | rfl | (simp only [List.length_drop, List.length_take]; rfl)) ?_; (with_reducible refine (laws_toIntS.calls kj21 _ _ l2 t1015 _ ?side1 ?side2 A50.out).mono ?_); (case side1 => repeat (first | exact (Kd.C_below HR2.out HB.out) | (with_reducible refine Kd.C_alloc ?_ _) | (with_reducible refine Kd.C_drewN ?_ _) | (with_reducible refine Kd.C_drew ?_))); (case side2 => exact HC2.out); rintro e w58 ⟨v1016, rfl, ho0, hb⟩; refine ⟨_, rfl, ?_⟩; have n0_ := Aside0.mk (Kd.R_elder' (by (with_reducible repeat (first | apply Kd.R_alloc | apply Kd.R_drewN | apply Kd.R_drew)); exact HO_7.out) (Kd.R_base ho0) hb); have n1_ := Aside0.mk (Kd.R_elder' (by (with_reducible repeat (first | apply Kd.R_alloc | apply Kd.R_drewN | apply Kd.R_drew)); exact HO_10.out) (Kd.R_base ho0) hb); have n2_ := Aside0.mk (Kd.R_elder' (by (with_reducible repeat (first | apply Kd.R_alloc | apply Kd.R_drewN | apply Kd.R_drew)); exact HO1014.out) (Kd.R_base ho0) hb); have n3_ := Aside0.mk (Kd.R_lower (Kd.R_new' (Kd.R_new' (Kd.R_new' ho0 (Kd.R_lt (by (with_reducible repeat (first | apply Kd.R_alloc | apply Kd.R_drewN | apply Kd.R_drew)); exact HO_7.out))) (Kd.R_lt (by (with_reducible repeat (first | apply Kd.R_alloc | apply Kd.R_drewN | apply Kd.R_drew)); exact HO_10.out))) (Kd.R_lt (by (with_reducible repeat (first | apply Kd.R_alloc | apply Kd.R_drewN | apply Kd.R_drew)); exact HO1014.out))) (below_size (by repeat (first | (with_reducible first | exact HB.out | apply below_alloc | apply pw_below_drewN | apply below_drew1) | exact HB.out)))); have n4_ := Aside0.mk (below_step (by repeat (first | (with_reducible first | exact HB.out | apply below_alloc | apply pw_below_drewN | apply below_drew1) | exact HB.out)) hb); clear HO_7; clear HO_10; clear HO1014; clear HB; have HO_7 := n0_; have HO_10 := n1_; have HO1014 := n2_; have HO1017 := n3_; have HB := n4_; clear n0_ n1_ n2_ n3_ n4_; (try clear hb); (try clear hb2); (try clear hk); (try clear hi); (try clear ho0); obtain ⟨Ao59, co59, eo59⟩ := Kd.R_slice HO1014.out; subst eo59; obtain ⟨Ao60, co60, eo60⟩ := Kd.R_slice HO1017.out; subst eo60) | ((with_reducible refine gate_callee (f := 47) rfl ?_); refine goesL_ (some 79) rfl rfl Try.func47 (by kernel_rfl) rfl #[.slice Ao59 t1012.length co59, .int .i64 a1, .slice Ao60 t1015.length co60] rfl (by (try simp only [List.map_toArray, List.map_cons, List.map_nil]); first | done | rfl | (simp only [List.length_drop, List.length_take]; rfl)) ?_; (with_reducible refine (impl_ExtensionsOf.calls kj21 _ _ t1012 a1 _ _ t1015 t1018 _ ?side1 ?side2 ?side3 ?side4 A51.out).mono ?_); (case side1 => repeat (first | exact (Kd.R_reads' HO1014.out).2.2 | (with_reducible refine Kd.C_alloc ?_ _) | (with_reducible refine Kd.C_drewN ?_ _) | (with_reducible refine Kd.C_drew ?_))); (case side2 => exact (Kd.R_reads' HO1014.out).2.1); (case side3 => repeat (first | exact (Kd.R_reads' HO1017.out).2.2 | (with_reducible refine Kd.C_alloc ?_ _) | (with_reducible refine Kd.C_drewN ?_ _) | (with_reducible refine Kd.C_drew ?_))); (case side4 => exact (Kd.R_reads' HO1017.out).2.1); rintro e w61 ⟨v1019, rfl, ho0, hb⟩; refine ⟨_, rfl, ?_⟩; have n0_ := Aside0.mk (Kd.R_elder' (by (with_reducible repeat (first | apply Kd.R_alloc | apply Kd.R_drewN | apply Kd.R_drew)); exact HO_7.out) (Kd.R_base ho0) hb); have n1_ := Aside0.mk (Kd.R_elder' (by (with_reducible repeat (first | apply Kd.R_alloc | apply Kd.R_drewN | apply Kd.R_drew)); exact HO_10.out) (Kd.R_base ho0) hb); have n2_ := Aside0.mk (Kd.R_elder' (by (with_reducible repeat (first | apply Kd.R_alloc | apply Kd.R_drewN | apply Kd.R_drew)); exact HO1014.out) (Kd.R_base ho0) hb); have n3_ := Aside0.mk (Kd.R_elder' (by (with_reducible repeat (first | apply Kd.R_alloc | apply Kd.R_drewN | apply Kd.R_drew)); exact HO1017.out) (Kd.R_base ho0) hb); have n4_ := Aside0.mk (Kd.R_lower (Kd.R_new' (Kd.R_new' (Kd.R_new' (Kd.R_new' ho0 (Kd.R_lt (by (with_reducible repeat (first | apply Kd.R_alloc | apply Kd.R_drewN | apply Kd.R_drew)); exact HO_7.out))) (Kd.R_lt (by (with_reducible repeat (first | apply Kd.R_alloc | apply Kd.R_drewN | apply Kd.R_drew)); exact HO_10.out))) (Kd.R_lt (by (with_reducible repeat (first | apply Kd.R_alloc | apply Kd.R_drewN | apply Kd.R_drew)); exact HO1014.out))) (Kd.R_lt (by (with_reducible repeat (first | apply Kd.R_alloc | apply Kd.R_drewN | apply Kd.R_drew)); exact HO1017.out))) (below_size (by repeat (first | (with_reducible first | exact HB.out | apply below_alloc | apply pw_below_drewN | apply below_drew1) | exact HB.out)))); have n5_ := Aside0.mk (below_step (by repeat (first | (with_reducible first | exact HB.out | apply below_alloc | apply pw_below_drewN | apply below_drew1) | exact HB.out)) hb); clear HO_7; clear HO_10; clear HO1014; clear HO1017; clear HB; have HO_7 := n0_; have HO_10 := n1_; have HO1014 := n2_; have HO1017 := n3_; have HO1020 := n4_; have HB := n5_; clear n0_ n1_ n2_ n3_ n4_ n5_; (try clear hb); (try clear hb2); (try clear hk); (try clear hi); (try clear ho0); obtain ⟨Ao62, co62, eo62⟩ := Kd.R_slice HO1020.out; subst eo62) | ((with_reducible refine gate_callee (f := 16) rfl ?_); refine goesL_ (some 82) rfl rfl Try.func16 (by kernel_rfl) rfl #[.slice Ao62 t1018.length co62, .slice Ao34 t983.length co34] rfl (by (try simp only [List.map_toArray, List.map_cons, List.map_nil]); first | done | rfl | (simp only [List.length_drop, List.length_take]; rfl)) ?_; (with_reducible refine (laws_eqIntS.calls kj21 _ _ t1018 _ _ t983 true _ ?side1 ?side2 ?side3 ?side4 A52.out).mono ?_); (case side1 => repeat (first | exact (Kd.R_reads' HO1020.out).2.2 | (with_reducible refine Kd.C_alloc ?_ _) | (with_reducible refine Kd.C_drewN ?_ _) | (with_reducible refine Kd.C_drew ?_))); (case side2 => exact (Kd.R_reads' HO1020.out).2.1); (case side3 => repeat (first | exact (Kd.R_reads' HO_7.out).2.2 | (with_reducible refine Kd.C_alloc ?_ _) | (with_reducible refine Kd.C_drewN ?_ _) | (with_reducible refine Kd.C_drew ?_))); (case side4 => exact (Kd.R_reads' HO_7.out).2.1); rintro e w' ⟨rfl, ⟨nd, rfl⟩⟩; refine ⟨_, rfl, ?_⟩) | ((with_reducible refine gate_callee (f := 18) rfl ?_); refine goesL_ (some 86) rfl rfl Try.func18 (by kernel_rfl) rfl #[.slice Ao33 t1010.length co33, .int .i64 1] rfl (by (try simp only [List.map_toArray, List.map_cons, List.map_nil]); first | done | (rw [show t1010.length = t992.length from (Kd.R_reads' HO_10.out).1.symm] <;> rfl) | rfl | (simp only [List.length_drop, List.length_take]; rfl)) ?_; (with_reducible refine (laws_heldIntS.calls kj21 _ _ t1010 1 t1022 _ ?side1 ?side2 A54.out).mono ?_); (case side1 => repeat (first | exact (Kd.R_reads' HO_10.out).2.2 | (with_reducible refine Kd.C_alloc ?_ _) | (with_reducible refine Kd.C_drewN ?_ _) | (with_reducible refine Kd.C_drew ?_))); (case side2 => rw [show t1010.length = t992.length from (Kd.R_reads' HO_10.out).1.symm]; exact (Kd.R_reads' HO_10.out).2.1); rintro e w' ⟨rfl, ⟨nd, rfl⟩⟩; refine ⟨_, rfl, ?_⟩))
             go_ret
             exact ⟨by first | rfl | (simp [errW_none, errW_some] <;> rfl) | (simp [*, errW_none, errW_some] <;> rfl), by repeat (first | (with_reducible first | exact HB.out | apply below_alloc | apply pw_below_drewN | apply below_drew1) | exact HB.out)⟩
            ·rw [if_neg c55] at H
             have c55b0 : decide (t1022 < 0) = false := decide_eq_false c55
             clear c55
             by_cases c63 : t1022 = t1009
             ·rw [if_pos c63] at H
              have c63b0 : (t1022 == t1009) = true := beq_iff_eq.mpr c63
              have c63b1 : (t1022 != t1009) = false := bne_eq_false_iff_eq.mpr c63
              clear c63
              obtain rfl := Option.some.inj H
              go_wp2_with (first | ((with_reducible refine gate_callee (f := 17) rfl ?_); refine goesL_ (some 65) rfl rfl Try.func17 (by kernel_rfl) rfl #[.slice Ao33 t992.length co33, .int .i64 1] rfl (by (try simp only [List.map_toArray, List.map_cons, List.map_nil]); first | done | rfl | (simp only [List.length_drop, List.length_take]; rfl)) ?_; (with_reducible refine (laws_markIntS.calls kj21 (fun k_ => some k_ = (.slice Ao33 t992.length co33 : Value).ownBlock) (.slice Ao33 t992.length co33) t992 1 t1009 t1010 w _ ?side1 ?side2 A44.out).mono ?_); (case side1 => repeat (first | (with_reducible first | exact HB.out | apply below_alloc | apply pw_below_drewN | apply below_drew1) | exact HB.out)); (case side2 => exact Kd.R_tight rfl HO_10.out); rintro e w64 ⟨rfl, hy0, hb, hkp⟩; refine ⟨_, rfl, ?_⟩; have n0_ := Aside0.mk (Kd.R_mono (ok' := fun k_ => some k_ ≠ (.slice Ao33 t992.length co33 : Value).ownBlock) (Kd.R_keptB (HO_7.out) hkp (fun k_ hk_ hs_ => (hk_) hs_)) (fun k_ hk_ => hk_.1)); have n1_ := Aside0.mk (Kd.R_reok rfl hy0 (fun k_ e_ => HO_10.out.1 k_ e_)); have n2_ := Aside0.mk (hb); clear HO_7; clear HO_10; clear HB; have HO_7 := n0_; have HO_10 := n1_; have HB := n2_; clear n0_ n1_ n2_; (try clear hb); (try clear hkp); (try clear hy0)) | ((with_reducible refine gate_callee (f := 18) rfl ?_); refine goesL_ (some 68) rfl rfl Try.func18 (by kernel_rfl) rfl #[.slice Ao33 t1010.length co33, .int .i64 1] rfl (by (try simp only [List.map_toArray, List.map_cons, List.map_nil]); first | done | (rw [show t1010.length = t992.length from (Kd.R_reads' HO_10.out).1.symm] <;> rfl) | rfl | (simp only [List.length_drop, List.length_take]; rfl)) ?_; (with_reducible refine (laws_heldIntS.calls kj21 _ _ t1010 1 t1011 _ ?side1 ?side2 A45.out).mono ?_); (case side1 => repeat (first | exact (Kd.R_reads' HO_10.out).2.2 | (with_reducible refine Kd.C_alloc ?_ _) | (with_reducible refine Kd.C_drewN ?_ _) | (with_reducible refine Kd.C_drew ?_))); (case side2 => rw [show t1010.length = t992.length from (Kd.R_reads' HO_10.out).1.symm]; exact (Kd.R_reads' HO_10.out).2.1); rintro e w' ⟨rfl, ⟨nd, rfl⟩⟩; refine ⟨_, rfl, ?_⟩) | ((with_reducible refine gate_callee (f := 44) rfl ?_); refine goesL_ (some 75) rfl rfl Try.func44 (by kernel_rfl) rfl #[.slice A0 l0.length c0] rfl (by (try simp only [List.map_toArray, List.map_cons, List.map_nil]); first | done | rfl | (simp only [List.length_drop, List.length_take]; rfl)) ?_; (with_reducible refine (laws_toIntS.calls kj21 _ _ l0 t1012 _ ?side1 ?side2 A49.out).mono ?_); (case side1 => repeat (first | exact (Kd.C_below HR0.out (by repeat (first | (with_reducible first | exact HB.out | apply below_alloc | apply pw_below_drewN | apply below_drew1) | exact HB.out))) | (with_reducible refine Kd.C_alloc ?_ _) | (with_reducible refine Kd.C_drewN ?_ _) | (with_reducible refine Kd.C_drew ?_))); (case side2 => exact HC0.out); rintro e w65 ⟨v1013, rfl, ho0, hb⟩; refine ⟨_, rfl, ?_⟩; have n0_ := Aside0.mk (Kd.R_elder' (by (with_reducible repeat (first | apply Kd.R_alloc | apply Kd.R_drewN | apply Kd.R_drew)); exact HO_7.out) (Kd.R_base ho0) hb); have n1_ := Aside0.mk (Kd.R_elder' (by (with_reducible repeat (first | apply Kd.R_alloc | apply Kd.R_drewN | apply Kd.R_drew)); exact HO_10.out) (Kd.R_base ho0) hb); have n2_ := Aside0.mk (Kd.R_lower (Kd.R_new' (Kd.R_new' ho0 (Kd.R_lt (by (with_reducible repeat (first | apply Kd.R_alloc | apply Kd.R_drewN | apply Kd.R_drew)); exact HO_7.out))) (Kd.R_lt (by (with_reducible repeat (first | apply Kd.R_alloc | apply Kd.R_drewN | apply Kd.R_drew)); exact HO_10.out))) (below_size (by repeat (first | (with_reducible first | exact HB.out | apply below_alloc | apply pw_below_drewN | apply below_drew1) | exact HB.out)))); have n3_ := Aside0.mk (below_step (by repeat (first | (with_reducible first | exact HB.out | apply below_alloc | apply pw_below_drewN | apply below_drew1) | exact HB.out)) hb); clear HO_7; clear HO_10; clear HB; have HO_7 := n0_; have HO_10 := n1_; have HO1014 := n2_; have HB := n3_; clear n0_ n1_ n2_ n3_; (try clear hb); (try clear hb2); (try clear hk); (try clear hi); (try clear ho0)) | ((with_reducible refine gate_callee (f := 44) rfl ?_); refine goesL_ (some 78) rfl rfl Try.func44 (by kernel_rfl) rfl #[.slice A2 l2.length c2] rfl (by (try simp only [List.map_toArray, List.map_cons, List.map_nil]); first | done | rfl | (simp only [List.length_drop, List.length_take]; rfl)) ?_; (with_reducible refine (laws_toIntS.calls kj21 _ _ l2 t1015 _ ?side1 ?side2 A50.out).mono ?_); (case side1 => repeat (first | exact (Kd.C_below HR2.out HB.out) | (with_reducible refine Kd.C_alloc ?_ _) | (with_reducible refine Kd.C_drewN ?_ _) | (with_reducible refine Kd.C_drew ?_))); (case side2 => exact HC2.out); rintro e w66 ⟨v1016, rfl, ho0, hb⟩; refine ⟨_, rfl, ?_⟩; have n0_ := Aside0.mk (Kd.R_elder' (by (with_reducible repeat (first | apply Kd.R_alloc | apply Kd.R_drewN | apply Kd.R_drew)); exact HO_7.out) (Kd.R_base ho0) hb); have n1_ := Aside0.mk (Kd.R_elder' (by (with_reducible repeat (first | apply Kd.R_alloc | apply Kd.R_drewN | apply Kd.R_drew)); exact HO_10.out) (Kd.R_base ho0) hb); have n2_ := Aside0.mk (Kd.R_elder' (by (with_reducible repeat (first | apply Kd.R_alloc | apply Kd.R_drewN | apply Kd.R_drew)); exact HO1014.out) (Kd.R_base ho0) hb); have n3_ := Aside0.mk (Kd.R_lower (Kd.R_new' (Kd.R_new' (Kd.R_new' ho0 (Kd.R_lt (by (with_reducible repeat (first | apply Kd.R_alloc | apply Kd.R_drewN | apply Kd.R_drew)); exact HO_7.out))) (Kd.R_lt (by (with_reducible repeat (first | apply Kd.R_alloc | apply Kd.R_drewN | apply Kd.R_drew)); exact HO_10.out))) (Kd.R_lt (by (with_reducible repeat (first | apply Kd.R_alloc | apply Kd.R_drewN | apply Kd.R_drew)); exact HO1014.out))) (below_size (by repeat (first | (with_reducible first | exact HB.out | apply below_alloc | apply pw_below_drewN | apply below_drew1) | exact HB.out)))); have n4_ := Aside0.mk (below_step (by repeat (first | (with_reducible first | exact HB.out | apply below_alloc | apply pw_below_drewN | apply below_drew1) | exact HB.out)) hb); clear HO_7; clear HO_10; clear HO1014; clear HB; have HO_7 := n0_; have HO_10 := n1_; have HO1014 := n2_; have HO1017 := n3_; have HB := n4_; clear n0_ n1_ n2_ n3_ n4_; (try clear hb); (try clear hb2); (try clear hk); (try clear hi); (try clear ho0); obtain ⟨Ao67, co67, eo67⟩ := Kd.R_slice HO1014.out; subst eo67; obtain ⟨Ao68, co68, eo68⟩ := Kd.R_slice HO1017.out; subst eo68) | ((with_reducible refine gate_callee (f := 47) rfl ?_); refine goesL_ (some 79) rfl rfl Try.func47 (by kernel_rfl) rfl #[.slice Ao67 t1012.length co67, .int .i64 a1, .slice Ao68 t1015.length co68] rfl (by (try simp only [List.map_toArray, List.map_cons, List.map_nil]); first | done | rfl | (simp only [List.length_drop, List.length_take]; rfl)) ?_; (with_reducible refine (impl_ExtensionsOf.calls kj21 _ _ t1012 a1 _ _ t1015 t1018 _ ?side1 ?side2 ?side3 ?side4 A51.out).mono ?_); (case side1 => repeat (first | exact (Kd.R_reads' HO1014.out).2.2 | (with_reducible refine Kd.C_alloc ?_ _) | (with_reducible refine Kd.C_drewN ?_ _) | (with_reducible refine Kd.C_drew ?_))); (case side2 => exact (Kd.R_reads' HO1014.out).2.1); (case side3 => repeat (first | exact (Kd.R_reads' HO1017.out).2.2 | (with_reducible refine Kd.C_alloc ?_ _) | (with_reducible refine Kd.C_drewN ?_ _) | (with_reducible refine Kd.C_drew ?_))); (case side4 => exact (Kd.R_reads' HO1017.out).2.1); rintro e w69 ⟨v1019, rfl, ho0, hb⟩; refine ⟨_, rfl, ?_⟩; have n0_ := Aside0.mk (Kd.R_elder' (by (with_reducible repeat (first | apply Kd.R_alloc | apply Kd.R_drewN | apply Kd.R_drew)); exact HO_7.out) (Kd.R_base ho0) hb); have n1_ := Aside0.mk (Kd.R_elder' (by (with_reducible repeat (first | apply Kd.R_alloc | apply Kd.R_drewN | apply Kd.R_drew)); exact HO_10.out) (Kd.R_base ho0) hb); have n2_ := Aside0.mk (Kd.R_elder' (by (with_reducible repeat (first | apply Kd.R_alloc | apply Kd.R_drewN | apply Kd.R_drew)); exact HO1014.out) (Kd.R_base ho0) hb); have n3_ := Aside0.mk (Kd.R_elder' (by (with_reducible repeat (first | apply Kd.R_alloc | apply Kd.R_drewN | apply Kd.R_drew)); exact HO1017.out) (Kd.R_base ho0) hb); have n4_ := Aside0.mk (Kd.R_lower (Kd.R_new' (Kd.R_new' (Kd.R_new' (Kd.R_new' ho0 (Kd.R_lt (by (with_reducible repeat (first | apply Kd.R_alloc | apply Kd.R_drewN | apply Kd.R_drew)); exact HO_7.out))) (Kd.R_lt (by (with_reducible repeat (first | apply Kd.R_alloc | apply Kd.R_drewN | apply Kd.R_drew)); exact HO_10.out))) (Kd.R_lt (by (with_reducible repeat (first | apply Kd.R_alloc | apply Kd.R_drewN | apply Kd.R_drew)); exact HO1014.out))) (Kd.R_lt (by (with_reducible repeat (first | apply Kd.R_alloc | apply Kd.R_drewN | apply Kd.R_drew)); exact HO1017.out))) (below_size (by repeat (first | (with_reducible first | exact HB.out | apply below_alloc | apply pw_below_drewN | apply below_drew1) | exact HB.out)))); have n5_ := Aside0.mk (below_step (by repeat (first | (with_reducible first | exact HB.out | apply below_alloc | apply pw_below_drewN | apply below_drew1) | exact HB.out)) hb); clear HO_7; clear HO_10; clear HO1014; clear HO1017; clear HB; have HO_7 := n0_; have HO_10 := n1_; have HO1014 := n2_; have HO1017 := n3_; have HO1020 := n4_; have HB := n5_; clear n0_ n1_ n2_ n3_ n4_ n5_; (try clear hb); (try clear hb2); (try clear hk); (try clear hi); (try clear ho0); obtain ⟨Ao70, co70, eo70⟩ := Kd.R_slice HO1020.out; subst eo70) | ((with_reducible refine gate_callee (f := 16) rfl ?_); refine goesL_ (some 82) rfl rfl Try.func16 (by kernel_rfl) rfl #[.slice Ao70 t1018.length co70, .slice Ao34 t983.length co34] rfl (by (try simp only [List.map_toArray, List.map_cons, List.map_nil]); first | done | rfl | (simp only [List.length_drop, List.length_take]; rfl)) ?_; (with_reducible refine (laws_eqIntS.calls kj21 _ _ t1018 _ _ t983 true _ ?side1 ?side2 ?side3 ?side4 A52.out).mono ?_); (case side1 => repeat (first | exact (Kd.R_reads' HO1020.out).2.2 | (with_reducible refine Kd.C_alloc ?_ _) | (with_reducible refine Kd.C_drewN ?_ _) | (with_reducible refine Kd.C_drew ?_))); (case side2 => exact (Kd.R_reads' HO1020.out).2.1); (case side3 => repeat (first | exact (Kd.R_reads' HO_7.out).2.2 | (with_reducible refine Kd.C_alloc ?_ _) | (with_reducible refine Kd.C_drewN ?_ _) | (with_reducible refine Kd.C_drew ?_))); (case side4 => exact (Kd.R_reads' HO_7.out).2.1); rintro e w' ⟨rfl, ⟨nd, rfl⟩⟩; refine ⟨_, rfl, ?_⟩) | ((with_reducible refine gate_callee (f := 18) rfl ?_); refine goesL_ (some 86) rfl rfl Try.func18 (by kernel_rfl) rfl #[.slice Ao33 t1010.length co33, .int .i64 1] rfl (by (try simp only [List.map_toArray, List.map_cons, List.map_nil]); first | done | (rw [show t1010.length = t992.length from (Kd.R_reads' HO_10.out).1.symm] <;> rfl) | rfl | (simp only [List.length_drop, List.length_take]; rfl)) ?_; (with_reducible refine (laws_heldIntS.calls kj21 _ _ t1010 1 t1022 _ ?side1 ?side2 A54.out).mono ?_); (case side1 => repeat (first | exact (Kd.R_reads' HO_10.out).2.2 | (with_reducible refine Kd.C_alloc ?_ _) | (with_reducible refine Kd.C_drewN ?_ _) | (with_reducible refine Kd.C_drew ?_))); (case side2 => rw [show t1010.length = t992.length from (Kd.R_reads' HO_10.out).1.symm]; exact (Kd.R_reads' HO_10.out).2.1); rintro e w' ⟨rfl, ⟨nd, rfl⟩⟩; refine ⟨_, rfl, ?_⟩))
              go_ret
              exact ⟨by first | rfl | (simp [errW_none, errW_some] <;> rfl) | (simp [*, errW_none, errW_some] <;> rfl), by repeat (first | (with_reducible first | exact HB.out | apply below_alloc | apply pw_below_drewN | apply below_drew1) | exact HB.out)⟩
             ·rw [if_neg c63] at H
              have c63b0 : (t1022 == t1009) = false := beq_eq_false_iff_ne.mpr c63
              have c63b1 : (t1022 != t1009) = true := bne_iff_ne.mpr c63
              obtain rfl := Option.some.inj H
              go_wp2_with (first | ((with_reducible refine gate_callee (f := 17) rfl ?_); refine goesL_ (some 65) rfl rfl Try.func17 (by kernel_rfl) rfl #[.slice Ao33 t992.length co33, .int .i64 1] rfl (by (try simp only [List.map_toArray, List.map_cons, List.map_nil]); first | done | rfl | (simp only [List.length_drop, List.length_take]; rfl)) ?_; (with_reducible refine (laws_markIntS.calls kj21 (fun k_ => some k_ = (.slice Ao33 t992.length co33 : Value).ownBlock) (.slice Ao33 t992.length co33) t992 1 t1009 t1010 w _ ?side1 ?side2 A44.out).mono ?_); (case side1 => repeat (first | (with_reducible first | exact HB.out | apply below_alloc | apply pw_below_drewN | apply below_drew1) | exact HB.out)); (case side2 => exact Kd.R_tight rfl HO_10.out); rintro e w71 ⟨rfl, hy0, hb, hkp⟩; refine ⟨_, rfl, ?_⟩; have n0_ := Aside0.mk (Kd.R_mono (ok' := fun k_ => some k_ ≠ (.slice Ao33 t992.length co33 : Value).ownBlock) (Kd.R_keptB (HO_7.out) hkp (fun k_ hk_ hs_ => (hk_) hs_)) (fun k_ hk_ => hk_.1)); have n1_ := Aside0.mk (Kd.R_reok rfl hy0 (fun k_ e_ => HO_10.out.1 k_ e_)); have n2_ := Aside0.mk (hb); clear HO_7; clear HO_10; clear HB; have HO_7 := n0_; have HO_10 := n1_; have HB := n2_; clear n0_ n1_ n2_; (try clear hb); (try clear hkp); (try clear hy0)) | ((with_reducible refine gate_callee (f := 18) rfl ?_); refine goesL_ (some 68) rfl rfl Try.func18 (by kernel_rfl) rfl #[.slice Ao33 t1010.length co33, .int .i64 1] rfl (by (try simp only [List.map_toArray, List.map_cons, List.map_nil]); first | done | (rw [show t1010.length = t992.length from (Kd.R_reads' HO_10.out).1.symm] <;> rfl) | rfl | (simp only [List.length_drop, List.length_take]; rfl)) ?_; (with_reducible refine (laws_heldIntS.calls kj21 _ _ t1010 1 t1011 _ ?side1 ?side2 A45.out).mono ?_); (case side1 => repeat (first | exact (Kd.R_reads' HO_10.out).2.2 | (with_reducible refine Kd.C_alloc ?_ _) | (with_reducible refine Kd.C_drewN ?_ _) | (with_reducible refine Kd.C_drew ?_))); (case side2 => rw [show t1010.length = t992.length from (Kd.R_reads' HO_10.out).1.symm]; exact (Kd.R_reads' HO_10.out).2.1); rintro e w' ⟨rfl, ⟨nd, rfl⟩⟩; refine ⟨_, rfl, ?_⟩) | ((with_reducible refine gate_callee (f := 44) rfl ?_); refine goesL_ (some 75) rfl rfl Try.func44 (by kernel_rfl) rfl #[.slice A0 l0.length c0] rfl (by (try simp only [List.map_toArray, List.map_cons, List.map_nil]); first | done | rfl | (simp only [List.length_drop, List.length_take]; rfl)) ?_; (with_reducible refine (laws_toIntS.calls kj21 _ _ l0 t1012 _ ?side1 ?side2 A49.out).mono ?_); (case side1 => repeat (first | exact (Kd.C_below HR0.out (by repeat (first | (with_reducible first | exact HB.out | apply below_alloc | apply pw_below_drewN | apply below_drew1) | exact HB.out))) | (with_reducible refine Kd.C_alloc ?_ _) | (with_reducible refine Kd.C_drewN ?_ _) | (with_reducible refine Kd.C_drew ?_))); (case side2 => exact HC0.out); rintro e w72 ⟨v1013, rfl, ho0, hb⟩; refine ⟨_, rfl, ?_⟩; have n0_ := Aside0.mk (Kd.R_elder' (by (with_reducible repeat (first | apply Kd.R_alloc | apply Kd.R_drewN | apply Kd.R_drew)); exact HO_7.out) (Kd.R_base ho0) hb); have n1_ := Aside0.mk (Kd.R_elder' (by (with_reducible repeat (first | apply Kd.R_alloc | apply Kd.R_drewN | apply Kd.R_drew)); exact HO_10.out) (Kd.R_base ho0) hb); have n2_ := Aside0.mk (Kd.R_lower (Kd.R_new' (Kd.R_new' ho0 (Kd.R_lt (by (with_reducible repeat (first | apply Kd.R_alloc | apply Kd.R_drewN | apply Kd.R_drew)); exact HO_7.out))) (Kd.R_lt (by (with_reducible repeat (first | apply Kd.R_alloc | apply Kd.R_drewN | apply Kd.R_drew)); exact HO_10.out))) (below_size (by repeat (first | (with_reducible first | exact HB.out | apply below_alloc | apply pw_below_drewN | apply below_drew1) | exact HB.out)))); have n3_ := Aside0.mk (below_step (by repeat (first | (with_reducible first | exact HB.out | apply below_alloc | apply pw_below_drewN | apply below_drew1) | exact HB.out)) hb); clear HO_7; clear HO_10; clear HB; have HO_7 := n0_; have HO_10 := n1_; have HO1014 := n2_; have HB := n3_; clear n0_ n1_ n2_ n3_; (try clear hb); (try clear hb2); (try clear hk); (try clear hi); (try clear ho0)) | ((with_reducible refine gate_callee (f := 44) rfl ?_); refine goesL_ (some 78) rfl rfl Try.func44 (by kernel_rfl) rfl #[.slice A2 l2.length c2] rfl (by (try simp only [List.map_toArray, List.map_cons, List.map_nil]); first | done | rfl | (simp only [List.length_drop, List.length_take]; rfl)) ?_; (with_reducible refine (laws_toIntS.calls kj21 _ _ l2 t1015 _ ?side1 ?side2 A50.out).mono ?_); (case side1 => repeat (first | exact (Kd.C_below HR2.out HB.out) | (with_reducible refine Kd.C_alloc ?_ _) | (with_reducible refine Kd.C_drewN ?_ _) | (with_reducible refine Kd.C_drew ?_))); (case side2 => exact HC2.out); rintro e w73 ⟨v1016, rfl, ho0, hb⟩; refine ⟨_, rfl, ?_⟩; have n0_ := Aside0.mk (Kd.R_elder' (by (with_reducible repeat (first | apply Kd.R_alloc | apply Kd.R_drewN | apply Kd.R_drew)); exact HO_7.out) (Kd.R_base ho0) hb); have n1_ := Aside0.mk (Kd.R_elder' (by (with_reducible repeat (first | apply Kd.R_alloc | apply Kd.R_drewN | apply Kd.R_drew)); exact HO_10.out) (Kd.R_base ho0) hb); have n2_ := Aside0.mk (Kd.R_elder' (by (with_reducible repeat (first | apply Kd.R_alloc | apply Kd.R_drewN | apply Kd.R_drew)); exact HO1014.out) (Kd.R_base ho0) hb); have n3_ := Aside0.mk (Kd.R_lower (Kd.R_new' (Kd.R_new' (Kd.R_new' ho0 (Kd.R_lt (by (with_reducible repeat (first | apply Kd.R_alloc | apply Kd.R_drewN | apply Kd.R_drew)); exact HO_7.out))) (Kd.R_lt (by (with_reducible repeat (first | apply Kd.R_alloc | apply Kd.R_drewN | apply Kd.R_drew)); exact HO_10.out))) (Kd.R_lt (by (with_reducible repeat (first | apply Kd.R_alloc | apply Kd.R_drewN | apply Kd.R_drew)); exact HO1014.out))) (below_size (by repeat (first | (with_reducible first | exact HB.out | apply below_alloc | apply pw_below_drewN | apply below_drew1) | exact HB.out)))); have n4_ := Aside0.mk (below_step (by repeat (first | (with_reducible first | exact HB.out | apply below_alloc | apply pw_below_drewN | apply below_drew1) | exact HB.out)) hb); clear HO_7; clear HO_10; clear HO1014; clear HB; have HO_7 := n0_; have HO_10 := n1_; have HO1014 := n2_; have HO1017 := n3_; have HB := n4_; clear n0_ n1_ n2_ n3_ n4_; (try clear hb); (try clear hb2); (try clear hk); (try clear hi); (try clear ho0); obtain ⟨Ao74, co74, eo74⟩ := Kd.R_slice HO1014.out; subst eo74; obtain ⟨Ao75, co75, eo75⟩ := Kd.R_slice HO1017.out; subst eo75) | ((with_reducible refine gate_callee (f := 47) rfl ?_); refine goesL_ (some 79) rfl rfl Try.func47 (by kernel_rfl) rfl #[.slice Ao74 t1012.length co74, .int .i64 a1, .slice Ao75 t1015.length co75] rfl (by (try simp only [List.map_toArray, List.map_cons, List.map_nil]); first | done | rfl | (simp only [List.length_drop, List.length_take]; rfl)) ?_; (with_reducible refine (impl_ExtensionsOf.calls kj21 _ _ t1012 a1 _ _ t1015 t1018 _ ?side1 ?side2 ?side3 ?side4 A51.out).mono ?_); (case side1 => repeat (first | exact (Kd.R_reads' HO1014.out).2.2 | (with_reducible refine Kd.C_alloc ?_ _) | (with_reducible refine Kd.C_drewN ?_ _) | (with_reducible refine Kd.C_drew ?_))); (case side2 => exact (Kd.R_reads' HO1014.out).2.1); (case side3 => repeat (first | exact (Kd.R_reads' HO1017.out).2.2 | (with_reducible refine Kd.C_alloc ?_ _) | (with_reducible refine Kd.C_drewN ?_ _) | (with_reducible refine Kd.C_drew ?_))); (case side4 => exact (Kd.R_reads' HO1017.out).2.1); rintro e w76 ⟨v1019, rfl, ho0, hb⟩; refine ⟨_, rfl, ?_⟩; have n0_ := Aside0.mk (Kd.R_elder' (by (with_reducible repeat (first | apply Kd.R_alloc | apply Kd.R_drewN | apply Kd.R_drew)); exact HO_7.out) (Kd.R_base ho0) hb); have n1_ := Aside0.mk (Kd.R_elder' (by (with_reducible repeat (first | apply Kd.R_alloc | apply Kd.R_drewN | apply Kd.R_drew)); exact HO_10.out) (Kd.R_base ho0) hb); have n2_ := Aside0.mk (Kd.R_elder' (by (with_reducible repeat (first | apply Kd.R_alloc | apply Kd.R_drewN | apply Kd.R_drew)); exact HO1014.out) (Kd.R_base ho0) hb); have n3_ := Aside0.mk (Kd.R_elder' (by (with_reducible repeat (first | apply Kd.R_alloc | apply Kd.R_drewN | apply Kd.R_drew)); exact HO1017.out) (Kd.R_base ho0) hb); have n4_ := Aside0.mk (Kd.R_lower (Kd.R_new' (Kd.R_new' (Kd.R_new' (Kd.R_new' ho0 (Kd.R_lt (by (with_reducible repeat (first | apply Kd.R_alloc | apply Kd.R_drewN | apply Kd.R_drew)); exact HO_7.out))) (Kd.R_lt (by (with_reducible repeat (first | apply Kd.R_alloc | apply Kd.R_drewN | apply Kd.R_drew)); exact HO_10.out))) (Kd.R_lt (by (with_reducible repeat (first | apply Kd.R_alloc | apply Kd.R_drewN | apply Kd.R_drew)); exact HO1014.out))) (Kd.R_lt (by (with_reducible repeat (first | apply Kd.R_alloc | apply Kd.R_drewN | apply Kd.R_drew)); exact HO1017.out))) (below_size (by repeat (first | (with_reducible first | exact HB.out | apply below_alloc | apply pw_below_drewN | apply below_drew1) | exact HB.out)))); have n5_ := Aside0.mk (below_step (by repeat (first | (with_reducible first | exact HB.out | apply below_alloc | apply pw_below_drewN | apply below_drew1) | exact HB.out)) hb); clear HO_7; clear HO_10; clear HO1014; clear HO1017; clear HB; have HO_7 := n0_; have HO_10 := n1_; have HO1014 := n2_; have HO1017 := n3_; have HO1020 := n4_; have HB := n5_; clear n0_ n1_ n2_ n3_ n4_ n5_; (try clear hb); (try clear hb2); (try clear hk); (try clear hi); (try clear ho0); obtain ⟨Ao77, co77, eo77⟩ := Kd.R_slice HO1020.out; subst eo77) | ((with_reducible refine gate_callee (f := 16) rfl ?_); refine goesL_ (some 82) rfl rfl Try.func16 (by kernel_rfl) rfl #[.slice Ao77 t1018.length co77, .slice Ao34 t983.length co34] rfl (by (try simp only [List.map_toArray, List.map_cons, List.map_nil]); first | done | rfl | (simp only [List.length_drop, List.length_take]; rfl)) ?_; (with_reducible refine (laws_eqIntS.calls kj21 _ _ t1018 _ _ t983 true _ ?side1 ?side2 ?side3 ?side4 A52.out).mono ?_); (case side1 => repeat (first | exact (Kd.R_reads' HO1020.out).2.2 | (with_reducible refine Kd.C_alloc ?_ _) | (with_reducible refine Kd.C_drewN ?_ _) | (with_reducible refine Kd.C_drew ?_))); (case side2 => exact (Kd.R_reads' HO1020.out).2.1); (case side3 => repeat (first | exact (Kd.R_reads' HO_7.out).2.2 | (with_reducible refine Kd.C_alloc ?_ _) | (with_reducible refine Kd.C_drewN ?_ _) | (with_reducible refine Kd.C_drew ?_))); (case side4 => exact (Kd.R_reads' HO_7.out).2.1); rintro e w' ⟨rfl, ⟨nd, rfl⟩⟩; refine ⟨_, rfl, ?_⟩) | ((with_reducible refine gate_callee (f := 18) rfl ?_); refine goesL_ (some 86) rfl rfl Try.func18 (by kernel_rfl) rfl #[.slice Ao33 t1010.length co33, .int .i64 1] rfl (by (try simp only [List.map_toArray, List.map_cons, List.map_nil]); first | done | (rw [show t1010.length = t992.length from (Kd.R_reads' HO_10.out).1.symm] <;> rfl) | rfl | (simp only [List.length_drop, List.length_take]; rfl)) ?_; (with_reducible refine (laws_heldIntS.calls kj21 _ _ t1010 1 t1022 _ ?side1 ?side2 A54.out).mono ?_); (case side1 => repeat (first | exact (Kd.R_reads' HO_10.out).2.2 | (with_reducible refine Kd.C_alloc ?_ _) | (with_reducible refine Kd.C_drewN ?_ _) | (with_reducible refine Kd.C_drew ?_))); (case side2 => rw [show t1010.length = t992.length from (Kd.R_reads' HO_10.out).1.symm]; exact (Kd.R_reads' HO_10.out).2.1); rintro e w' ⟨rfl, ⟨nd, rfl⟩⟩; refine ⟨_, rfl, ?_⟩))
              go_ret
              exact ⟨by first | rfl | (simp [errW_none, errW_some] <;> rfl) | (simp [*, errW_none, errW_some] <;> rfl), by repeat (first | (with_reducible first | exact HB.out | apply below_alloc | apply pw_below_drewN | apply below_drew1) | exact HB.out)⟩
           ·replace c53 := Bool.eq_false_iff.mpr c53
            subst c53
            have H1 : (some false) = some r := by rw [if_neg (show ¬ (false = true) by decide)] at H; exact H
            clear H
            have H := H1
            clear H1
            obtain rfl := Option.some.inj H
            go_wp2_with (first | ((with_reducible refine gate_callee (f := 17) rfl ?_); refine goesL_ (some 65) rfl rfl Try.func17 (by kernel_rfl) rfl #[.slice Ao33 t992.length co33, .int .i64 1] rfl (by (try simp only [List.map_toArray, List.map_cons, List.map_nil]); first | done | rfl | (simp only [List.length_drop, List.length_take]; rfl)) ?_; (with_reducible refine (laws_markIntS.calls kj21 (fun k_ => some k_ = (.slice Ao33 t992.length co33 : Value).ownBlock) (.slice Ao33 t992.length co33) t992 1 t1009 t1010 w _ ?side1 ?side2 A44.out).mono ?_); (case side1 => repeat (first | (with_reducible first | exact HB.out | apply below_alloc | apply pw_below_drewN | apply below_drew1) | exact HB.out)); (case side2 => exact Kd.R_tight rfl HO_10.out); rintro e w78 ⟨rfl, hy0, hb, hkp⟩; refine ⟨_, rfl, ?_⟩; have n0_ := Aside0.mk (Kd.R_mono (ok' := fun k_ => some k_ ≠ (.slice Ao33 t992.length co33 : Value).ownBlock) (Kd.R_keptB (HO_7.out) hkp (fun k_ hk_ hs_ => (hk_) hs_)) (fun k_ hk_ => hk_.1)); have n1_ := Aside0.mk (Kd.R_reok rfl hy0 (fun k_ e_ => HO_10.out.1 k_ e_)); have n2_ := Aside0.mk (hb); clear HO_7; clear HO_10; clear HB; have HO_7 := n0_; have HO_10 := n1_; have HB := n2_; clear n0_ n1_ n2_; (try clear hb); (try clear hkp); (try clear hy0)) | ((with_reducible refine gate_callee (f := 18) rfl ?_); refine goesL_ (some 68) rfl rfl Try.func18 (by kernel_rfl) rfl #[.slice Ao33 t1010.length co33, .int .i64 1] rfl (by (try simp only [List.map_toArray, List.map_cons, List.map_nil]); first | done | (rw [show t1010.length = t992.length from (Kd.R_reads' HO_10.out).1.symm] <;> rfl) | rfl | (simp only [List.length_drop, List.length_take]; rfl)) ?_; (with_reducible refine (laws_heldIntS.calls kj21 _ _ t1010 1 t1011 _ ?side1 ?side2 A45.out).mono ?_); (case side1 => repeat (first | exact (Kd.R_reads' HO_10.out).2.2 | (with_reducible refine Kd.C_alloc ?_ _) | (with_reducible refine Kd.C_drewN ?_ _) | (with_reducible refine Kd.C_drew ?_))); (case side2 => rw [show t1010.length = t992.length from (Kd.R_reads' HO_10.out).1.symm]; exact (Kd.R_reads' HO_10.out).2.1); rintro e w' ⟨rfl, ⟨nd, rfl⟩⟩; refine ⟨_, rfl, ?_⟩) | ((with_reducible refine gate_callee (f := 44) rfl ?_); refine goesL_ (some 75) rfl rfl Try.func44 (by kernel_rfl) rfl #[.slice A0 l0.length c0] rfl (by (try simp only [List.map_toArray, List.map_cons, List.map_nil]); first | done | rfl | (simp only [List.length_drop, List.length_take]; rfl)) ?_; (with_reducible refine (laws_toIntS.calls kj21 _ _ l0 t1012 _ ?side1 ?side2 A49.out).mono ?_); (case side1 => repeat (first | exact (Kd.C_below HR0.out (by repeat (first | (with_reducible first | exact HB.out | apply below_alloc | apply pw_below_drewN | apply below_drew1) | exact HB.out))) | (with_reducible refine Kd.C_alloc ?_ _) | (with_reducible refine Kd.C_drewN ?_ _) | (with_reducible refine Kd.C_drew ?_))); (case side2 => exact HC0.out); rintro e w79 ⟨v1013, rfl, ho0, hb⟩; refine ⟨_, rfl, ?_⟩; have n0_ := Aside0.mk (Kd.R_elder' (by (with_reducible repeat (first | apply Kd.R_alloc | apply Kd.R_drewN | apply Kd.R_drew)); exact HO_7.out) (Kd.R_base ho0) hb); have n1_ := Aside0.mk (Kd.R_elder' (by (with_reducible repeat (first | apply Kd.R_alloc | apply Kd.R_drewN | apply Kd.R_drew)); exact HO_10.out) (Kd.R_base ho0) hb); have n2_ := Aside0.mk (Kd.R_lower (Kd.R_new' (Kd.R_new' ho0 (Kd.R_lt (by (with_reducible repeat (first | apply Kd.R_alloc | apply Kd.R_drewN | apply Kd.R_drew)); exact HO_7.out))) (Kd.R_lt (by (with_reducible repeat (first | apply Kd.R_alloc | apply Kd.R_drewN | apply Kd.R_drew)); exact HO_10.out))) (below_size (by repeat (first | (with_reducible first | exact HB.out | apply below_alloc | apply pw_below_drewN | apply below_drew1) | exact HB.out)))); have n3_ := Aside0.mk (below_step (by repeat (first | (with_reducible first | exact HB.out | apply below_alloc | apply pw_below_drewN | apply below_drew1) | exact HB.out)) hb); clear HO_7; clear HO_10; clear HB; have HO_7 := n0_; have HO_10 := n1_; have HO1014 := n2_; have HB := n3_; clear n0_ n1_ n2_ n3_; (try clear hb); (try clear hb2); (try clear hk); (try clear hi); (try clear ho0)) | ((with_reducible refine gate_callee (f := 44) rfl ?_); refine goesL_ (some 78) rfl rfl Try.func44 (by kernel_rfl) rfl #[.slice A2 l2.length c2] rfl (by (try simp only [List.map_toArray, List.map_cons, List.map_nil]); first | done | rfl | (simp only [List.length_drop, List.length_take]; rfl)) ?_; (with_reducible refine (laws_toIntS.calls kj21 _ _ l2 t1015 _ ?side1 ?side2 A50.out).mono ?_); (case side1 => repeat (first | exact (Kd.C_below HR2.out HB.out) | (with_reducible refine Kd.C_alloc ?_ _) | (with_reducible refine Kd.C_drewN ?_ _) | (with_reducible refine Kd.C_drew ?_))); (case side2 => exact HC2.out); rintro e w80 ⟨v1016, rfl, ho0, hb⟩; refine ⟨_, rfl, ?_⟩; have n0_ := Aside0.mk (Kd.R_elder' (by (with_reducible repeat (first | apply Kd.R_alloc | apply Kd.R_drewN | apply Kd.R_drew)); exact HO_7.out) (Kd.R_base ho0) hb); have n1_ := Aside0.mk (Kd.R_elder' (by (with_reducible repeat (first | apply Kd.R_alloc | apply Kd.R_drewN | apply Kd.R_drew)); exact HO_10.out) (Kd.R_base ho0) hb); have n2_ := Aside0.mk (Kd.R_elder' (by (with_reducible repeat (first | apply Kd.R_alloc | apply Kd.R_drewN | apply Kd.R_drew)); exact HO1014.out) (Kd.R_base ho0) hb); have n3_ := Aside0.mk (Kd.R_lower (Kd.R_new' (Kd.R_new' (Kd.R_new' ho0 (Kd.R_lt (by (with_reducible repeat (first | apply Kd.R_alloc | apply Kd.R_drewN | apply Kd.R_drew)); exact HO_7.out))) (Kd.R_lt (by (with_reducible repeat (first | apply Kd.R_alloc | apply Kd.R_drewN | apply Kd.R_drew)); exact HO_10.out))) (Kd.R_lt (by (with_reducible repeat (first | apply Kd.R_alloc | apply Kd.R_drewN | apply Kd.R_drew)); exact HO1014.out))) (below_size (by repeat (first | (with_reducible first | exact HB.out | apply below_alloc | apply pw_below_drewN | apply below_drew1) | exact HB.out)))); have n4_ := Aside0.mk (below_step (by repeat (first | (with_reducible first | exact HB.out | apply below_alloc | apply pw_below_drewN | apply below_drew1) | exact HB.out)) hb); clear HO_7; clear HO_10; clear HO1014; clear HB; have HO_7 := n0_; have HO_10 := n1_; have HO1014 := n2_; have HO1017 := n3_; have HB := n4_; clear n0_ n1_ n2_ n3_ n4_; (try clear hb); (try clear hb2); (try clear hk); (try clear hi); (try clear ho0); obtain ⟨Ao81, co81, eo81⟩ := Kd.R_slice HO1014.out; subst eo81; obtain ⟨Ao82, co82, eo82⟩ := Kd.R_slice HO1017.out; subst eo82) | ((with_reducible refine gate_callee (f := 47) rfl ?_); refine goesL_ (some 79) rfl rfl Try.func47 (by kernel_rfl) rfl #[.slice Ao81 t1012.length co81, .int .i64 a1, .slice Ao82 t1015.length co82] rfl (by (try simp only [List.map_toArray, List.map_cons, List.map_nil]); first | done | rfl | (simp only [List.length_drop, List.length_take]; rfl)) ?_; (with_reducible refine (impl_ExtensionsOf.calls kj21 _ _ t1012 a1 _ _ t1015 t1018 _ ?side1 ?side2 ?side3 ?side4 A51.out).mono ?_); (case side1 => repeat (first | exact (Kd.R_reads' HO1014.out).2.2 | (with_reducible refine Kd.C_alloc ?_ _) | (with_reducible refine Kd.C_drewN ?_ _) | (with_reducible refine Kd.C_drew ?_))); (case side2 => exact (Kd.R_reads' HO1014.out).2.1); (case side3 => repeat (first | exact (Kd.R_reads' HO1017.out).2.2 | (with_reducible refine Kd.C_alloc ?_ _) | (with_reducible refine Kd.C_drewN ?_ _) | (with_reducible refine Kd.C_drew ?_))); (case side4 => exact (Kd.R_reads' HO1017.out).2.1); rintro e w83 ⟨v1019, rfl, ho0, hb⟩; refine ⟨_, rfl, ?_⟩; have n0_ := Aside0.mk (Kd.R_elder' (by (with_reducible repeat (first | apply Kd.R_alloc | apply Kd.R_drewN | apply Kd.R_drew)); exact HO_7.out) (Kd.R_base ho0) hb); have n1_ := Aside0.mk (Kd.R_elder' (by (with_reducible repeat (first | apply Kd.R_alloc | apply Kd.R_drewN | apply Kd.R_drew)); exact HO_10.out) (Kd.R_base ho0) hb); have n2_ := Aside0.mk (Kd.R_elder' (by (with_reducible repeat (first | apply Kd.R_alloc | apply Kd.R_drewN | apply Kd.R_drew)); exact HO1014.out) (Kd.R_base ho0) hb); have n3_ := Aside0.mk (Kd.R_elder' (by (with_reducible repeat (first | apply Kd.R_alloc | apply Kd.R_drewN | apply Kd.R_drew)); exact HO1017.out) (Kd.R_base ho0) hb); have n4_ := Aside0.mk (Kd.R_lower (Kd.R_new' (Kd.R_new' (Kd.R_new' (Kd.R_new' ho0 (Kd.R_lt (by (with_reducible repeat (first | apply Kd.R_alloc | apply Kd.R_drewN | apply Kd.R_drew)); exact HO_7.out))) (Kd.R_lt (by (with_reducible repeat (first | apply Kd.R_alloc | apply Kd.R_drewN | apply Kd.R_drew)); exact HO_10.out))) (Kd.R_lt (by (with_reducible repeat (first | apply Kd.R_alloc | apply Kd.R_drewN | apply Kd.R_drew)); exact HO1014.out))) (Kd.R_lt (by (with_reducible repeat (first | apply Kd.R_alloc | apply Kd.R_drewN | apply Kd.R_drew)); exact HO1017.out))) (below_size (by repeat (first | (with_reducible first | exact HB.out | apply below_alloc | apply pw_below_drewN | apply below_drew1) | exact HB.out)))); have n5_ := Aside0.mk (below_step (by repeat (first | (with_reducible first | exact HB.out | apply below_alloc | apply pw_below_drewN | apply below_drew1) | exact HB.out)) hb); clear HO_7; clear HO_10; clear HO1014; clear HO1017; clear HB; have HO_7 := n0_; have HO_10 := n1_; have HO1014 := n2_; have HO1017 := n3_; have HO1020 := n4_; have HB := n5_; clear n0_ n1_ n2_ n3_ n4_ n5_; (try clear hb); (try clear hb2); (try clear hk); (try clear hi); (try clear ho0); obtain ⟨Ao84, co84, eo84⟩ := Kd.R_slice HO1020.out; subst eo84) | ((with_reducible refine gate_callee (f := 16) rfl ?_); refine goesL_ (some 82) rfl rfl Try.func16 (by kernel_rfl) rfl #[.slice Ao84 t1018.length co84, .slice Ao34 t983.length co34] rfl (by (try simp only [List.map_toArray, List.map_cons, List.map_nil]); first | done | rfl | (simp only [List.length_drop, List.length_take]; rfl)) ?_; (with_reducible refine (laws_eqIntS.calls kj21 _ _ t1018 _ _ t983 false _ ?side1 ?side2 ?side3 ?side4 A52.out).mono ?_); (case side1 => repeat (first | exact (Kd.R_reads' HO1020.out).2.2 | (with_reducible refine Kd.C_alloc ?_ _) | (with_reducible refine Kd.C_drewN ?_ _) | (with_reducible refine Kd.C_drew ?_))); (case side2 => exact (Kd.R_reads' HO1020.out).2.1); (case side3 => repeat (first | exact (Kd.R_reads' HO_7.out).2.2 | (with_reducible refine Kd.C_alloc ?_ _) | (with_reducible refine Kd.C_drewN ?_ _) | (with_reducible refine Kd.C_drew ?_))); (case side4 => exact (Kd.R_reads' HO_7.out).2.1); rintro e w' ⟨rfl, ⟨nd, rfl⟩⟩; refine ⟨_, rfl, ?_⟩))
            go_ret
            exact ⟨by first | rfl | (simp [errW_none, errW_some] <;> rfl) | (simp [*, errW_none, errW_some] <;> rfl), by repeat (first | (with_reducible first | exact HB.out | apply below_alloc | apply pw_below_drewN | apply below_drew1) | exact HB.out)⟩
          ·rw [if_neg c48] at H
           have c48b0 : (t1011 == t1009) = false := beq_eq_false_iff_ne.mpr c48
           have c48b1 : (t1011 != t1009) = true := bne_iff_ne.mpr c48
           obtain rfl := Option.some.inj H
           go_wp2_with (first | ((with_reducible refine gate_callee (f := 17) rfl ?_); refine goesL_ (some 65) rfl rfl Try.func17 (by kernel_rfl) rfl #[.slice Ao33 t992.length co33, .int .i64 1] rfl (by (try simp only [List.map_toArray, List.map_cons, List.map_nil]); first | done | rfl | (simp only [List.length_drop, List.length_take]; rfl)) ?_; (with_reducible refine (laws_markIntS.calls kj21 (fun k_ => some k_ = (.slice Ao33 t992.length co33 : Value).ownBlock) (.slice Ao33 t992.length co33) t992 1 t1009 t1010 w _ ?side1 ?side2 A44.out).mono ?_); (case side1 => repeat (first | (with_reducible first | exact HB.out | apply below_alloc | apply pw_below_drewN | apply below_drew1) | exact HB.out)); (case side2 => exact Kd.R_tight rfl HO_10.out); rintro e w85 ⟨rfl, hy0, hb, hkp⟩; refine ⟨_, rfl, ?_⟩; have n0_ := Aside0.mk (Kd.R_mono (ok' := fun k_ => some k_ ≠ (.slice Ao33 t992.length co33 : Value).ownBlock) (Kd.R_keptB (HO_7.out) hkp (fun k_ hk_ hs_ => (hk_) hs_)) (fun k_ hk_ => hk_.1)); have n1_ := Aside0.mk (Kd.R_reok rfl hy0 (fun k_ e_ => HO_10.out.1 k_ e_)); have n2_ := Aside0.mk (hb); clear HO_7; clear HO_10; clear HB; have HO_7 := n0_; have HO_10 := n1_; have HB := n2_; clear n0_ n1_ n2_; (try clear hb); (try clear hkp); (try clear hy0)) | ((with_reducible refine gate_callee (f := 18) rfl ?_); refine goesL_ (some 68) rfl rfl Try.func18 (by kernel_rfl) rfl #[.slice Ao33 t1010.length co33, .int .i64 1] rfl (by (try simp only [List.map_toArray, List.map_cons, List.map_nil]); first | done | (rw [show t1010.length = t992.length from (Kd.R_reads' HO_10.out).1.symm] <;> rfl) | rfl | (simp only [List.length_drop, List.length_take]; rfl)) ?_; (with_reducible refine (laws_heldIntS.calls kj21 _ _ t1010 1 t1011 _ ?side1 ?side2 A45.out).mono ?_); (case side1 => repeat (first | exact (Kd.R_reads' HO_10.out).2.2 | (with_reducible refine Kd.C_alloc ?_ _) | (with_reducible refine Kd.C_drewN ?_ _) | (with_reducible refine Kd.C_drew ?_))); (case side2 => rw [show t1010.length = t992.length from (Kd.R_reads' HO_10.out).1.symm]; exact (Kd.R_reads' HO_10.out).2.1); rintro e w' ⟨rfl, ⟨nd, rfl⟩⟩; refine ⟨_, rfl, ?_⟩))
           go_ret
           exact ⟨by first | rfl | (simp [errW_none, errW_some] <;> rfl) | (simp [*, errW_none, errW_some] <;> rfl), by repeat (first | (with_reducible first | exact HB.out | apply below_alloc | apply pw_below_drewN | apply below_drew1) | exact HB.out)⟩
     ·replace c19 := Bool.eq_false_iff.mpr c19
      subst c19
      have H1 : (some false) = some r := by rw [if_neg (show ¬ (false = true) by decide)] at H; exact H
      clear H
      have H := H1
      clear H1
      obtain rfl := Option.some.inj H
      go_enter Try.func7, Try.ntmps7
      go_wp2_with (first | ((with_reducible refine gate_callee (f := 44) rfl ?_); refine goesL_ (some 22) rfl rfl Try.func44 (by kernel_rfl) rfl #[.slice A0 l0.length c0] rfl (by (try simp only [List.map_toArray, List.map_cons, List.map_nil]); first | done | rfl | (simp only [List.length_drop, List.length_take]; rfl)) ?_; (with_reducible refine (laws_toIntS.calls k _ _ l0 t977 _ ?side1 ?side2 A6.out).mono ?_); (case side1 => repeat (first | exact HR0.out | (with_reducible refine Kd.C_alloc ?_ _) | (with_reducible refine Kd.C_drewN ?_ _) | (with_reducible refine Kd.C_drew ?_))); (case side2 => exact HC0.out); rintro e w86 ⟨v978, rfl, ho0, hb⟩; refine ⟨_, rfl, ?_⟩; have n0_ := Aside0.mk (Kd.R_lower ho0 (below_size (by repeat (first | (with_reducible first | exact HB.out | apply below_alloc | apply pw_below_drewN | apply below_drew1) | exact HB.out)))); have n1_ := Aside0.mk (below_step (by repeat (first | (with_reducible first | exact HB.out | apply below_alloc | apply pw_below_drewN | apply below_drew1) | exact HB.out)) hb); clear HB; have HO979 := n0_; have HB := n1_; clear n0_ n1_; (try clear hb); (try clear hb2); (try clear hk); (try clear hi); (try clear ho0)) | ((with_reducible refine gate_callee (f := 44) rfl ?_); refine goesL_ (some 25) rfl rfl Try.func44 (by kernel_rfl) rfl #[.slice A2 l2.length c2] rfl (by (try simp only [List.map_toArray, List.map_cons, List.map_nil]); first | done | rfl | (simp only [List.length_drop, List.length_take]; rfl)) ?_; (with_reducible refine (laws_toIntS.calls k _ _ l2 t980 _ ?side1 ?side2 A7.out).mono ?_); (case side1 => repeat (first | exact (Kd.C_below HR2.out HB.out) | (with_reducible refine Kd.C_alloc ?_ _) | (with_reducible refine Kd.C_drewN ?_ _) | (with_reducible refine Kd.C_drew ?_))); (case side2 => exact HC2.out); rintro e w87 ⟨v981, rfl, ho0, hb⟩; refine ⟨_, rfl, ?_⟩; have n0_ := Aside0.mk (Kd.R_elder' (by (with_reducible repeat (first | apply Kd.R_alloc | apply Kd.R_drewN | apply Kd.R_drew)); exact HO979.out) (Kd.R_base ho0) hb); have n1_ := Aside0.mk (Kd.R_lower (Kd.R_new' ho0 (Kd.R_lt (by (with_reducible repeat (first | apply Kd.R_alloc | apply Kd.R_drewN | apply Kd.R_drew)); exact HO979.out))) (below_size (by repeat (first | (with_reducible first | exact HB.out | apply below_alloc | apply pw_below_drewN | apply below_drew1) | exact HB.out)))); have n2_ := Aside0.mk (below_step (by repeat (first | (with_reducible first | exact HB.out | apply below_alloc | apply pw_below_drewN | apply below_drew1) | exact HB.out)) hb); clear HO979; clear HB; have HO979 := n0_; have HO982 := n1_; have HB := n2_; clear n0_ n1_ n2_; (try clear hb); (try clear hb2); (try clear hk); (try clear hi); (try clear ho0); obtain ⟨Ao88, co88, eo88⟩ := Kd.R_slice HO979.out; subst eo88; obtain ⟨Ao89, co89, eo89⟩ := Kd.R_slice HO982.out; subst eo89) | ((with_reducible refine gate_callee (f := 46) rfl ?_); refine goesL_ (some 26) rfl rfl Try.func46 (by kernel_rfl) rfl #[.slice Ao88 t977.length co88, .int .i64 a1, .slice Ao89 t980.length co89] rfl (by (try simp only [List.map_toArray, List.map_cons, List.map_nil]); first | done | rfl | (simp only [List.length_drop, List.length_take]; rfl)) ?_; (with_reducible refine (spec_ExtensionsOf.calls k _ _ t977 a1 _ _ t980 t983 _ ?side1 ?side2 ?side3 ?side4 A8.out).mono ?_); (case side1 => repeat (first | exact (Kd.R_reads' HO979.out).2.2 | (with_reducible refine Kd.C_alloc ?_ _) | (with_reducible refine Kd.C_drewN ?_ _) | (with_reducible refine Kd.C_drew ?_))); (case side2 => exact (Kd.R_reads' HO979.out).2.1); (case side3 => repeat (first | exact (Kd.R_reads' HO982.out).2.2 | (with_reducible refine Kd.C_alloc ?_ _) | (with_reducible refine Kd.C_drewN ?_ _) | (with_reducible refine Kd.C_drew ?_))); (case side4 => exact (Kd.R_reads' HO982.out).2.1); rintro e w90 ⟨v984, rfl, ho0, hb⟩; refine ⟨_, rfl, ?_⟩; have n0_ := Aside0.mk (Kd.R_elder' (by (with_reducible repeat (first | apply Kd.R_alloc | apply Kd.R_drewN | apply Kd.R_drew)); exact HO979.out) (Kd.R_base ho0) hb); have n1_ := Aside0.mk (Kd.R_elder' (by (with_reducible repeat (first | apply Kd.R_alloc | apply Kd.R_drewN | apply Kd.R_drew)); exact HO982.out) (Kd.R_base ho0) hb); have n2_ := Aside0.mk (Kd.R_lower (Kd.R_new' (Kd.R_new' ho0 (Kd.R_lt (by (with_reducible repeat (first | apply Kd.R_alloc | apply Kd.R_drewN | apply Kd.R_drew)); exact HO979.out))) (Kd.R_lt (by (with_reducible repeat (first | apply Kd.R_alloc | apply Kd.R_drewN | apply Kd.R_drew)); exact HO982.out))) (below_size (by repeat (first | (with_reducible first | exact HB.out | apply below_alloc | apply pw_below_drewN | apply below_drew1) | exact HB.out)))); have n3_ := Aside0.mk (below_step (by repeat (first | (with_reducible first | exact HB.out | apply below_alloc | apply pw_below_drewN | apply below_drew1) | exact HB.out)) hb); clear HO979; clear HO982; clear HB; have HO979 := n0_; have HO982 := n1_; have HO985 := n2_; have HB := n3_; clear n0_ n1_ n2_ n3_; (try clear hb); (try clear hb2); (try clear hk); (try clear hi); (try clear ho0)) | ((with_reducible refine gate_callee (f := 44) rfl ?_); refine goesL_ (some 28) rfl rfl Try.func44 (by kernel_rfl) rfl #[.slice A0 l0.length c0] rfl (by (try simp only [List.map_toArray, List.map_cons, List.map_nil]); first | done | rfl | (simp only [List.length_drop, List.length_take]; rfl)) ?_; (with_reducible refine (laws_toIntS.calls k _ _ l0 t986 _ ?side1 ?side2 A9.out).mono ?_); (case side1 => repeat (first | exact (Kd.C_below HR0.out HB.out) | (with_reducible refine Kd.C_alloc ?_ _) | (with_reducible refine Kd.C_drewN ?_ _) | (with_reducible refine Kd.C_drew ?_))); (case side2 => exact HC0.out); rintro e w91 ⟨v987, rfl, ho0, hb⟩; refine ⟨_, rfl, ?_⟩; have n0_ := Aside0.mk (Kd.R_elder' (by (with_reducible repeat (first | apply Kd.R_alloc | apply Kd.R_drewN | apply Kd.R_drew)); exact HO979.out) (Kd.R_base ho0) hb); have n1_ := Aside0.mk (Kd.R_elder' (by (with_reducible repeat (first | apply Kd.R_alloc | apply Kd.R_drewN | apply Kd.R_drew)); exact HO982.out) (Kd.R_base ho0) hb); have n2_ := Aside0.mk (Kd.R_elder' (by (with_reducible repeat (first | apply Kd.R_alloc | apply Kd.R_drewN | apply Kd.R_drew)); exact HO985.out) (Kd.R_base ho0) hb); have n3_ := Aside0.mk (Kd.R_lower (Kd.R_new' (Kd.R_new' (Kd.R_new' ho0 (Kd.R_lt (by (with_reducible repeat (first | apply Kd.R_alloc | apply Kd.R_drewN | apply Kd.R_drew)); exact HO979.out))) (Kd.R_lt (by (with_reducible repeat (first | apply Kd.R_alloc | apply Kd.R_drewN | apply Kd.R_drew)); exact HO982.out))) (Kd.R_lt (by (with_reducible repeat (first | apply Kd.R_alloc | apply Kd.R_drewN | apply Kd.R_drew)); exact HO985.out))) (below_size (by repeat (first | (with_reducible first | exact HB.out | apply below_alloc | apply pw_below_drewN | apply below_drew1) | exact HB.out)))); have n4_ := Aside0.mk (below_step (by repeat (first | (with_reducible first | exact HB.out | apply below_alloc | apply pw_below_drewN | apply below_drew1) | exact HB.out)) hb); clear HO979; clear HO982; clear HO985; clear HB; have HO979 := n0_; have HO982 := n1_; have HO985 := n2_; have HO988 := n3_; have HB := n4_; clear n0_ n1_ n2_ n3_ n4_; (try clear hb); (try clear hb2); (try clear hk); (try clear hi); (try clear ho0)) | ((with_reducible refine gate_callee (f := 44) rfl ?_); refine goesL_ (some 30) rfl rfl Try.func44 (by kernel_rfl) rfl #[.slice A2 l2.length c2] rfl (by (try simp only [List.map_toArray, List.map_cons, List.map_nil]); first | done | rfl | (simp only [List.length_drop, List.length_take]; rfl)) ?_; (with_reducible refine (laws_toIntS.calls k _ _ l2 t989 _ ?side1 ?side2 A10.out).mono ?_); (case side1 => repeat (first | exact (Kd.C_below HR2.out HB.out) | (with_reducible refine Kd.C_alloc ?_ _) | (with_reducible refine Kd.C_drewN ?_ _) | (with_reducible refine Kd.C_drew ?_))); (case side2 => exact HC2.out); rintro e w92 ⟨v990, rfl, ho0, hb⟩; refine ⟨_, rfl, ?_⟩; have n0_ := Aside0.mk (Kd.R_elder' (by (with_reducible repeat (first | apply Kd.R_alloc | apply Kd.R_drewN | apply Kd.R_drew)); exact HO979.out) (Kd.R_base ho0) hb); have n1_ := Aside0.mk (Kd.R_elder' (by (with_reducible repeat (first | apply Kd.R_alloc | apply Kd.R_drewN | apply Kd.R_drew)); exact HO982.out) (Kd.R_base ho0) hb); have n2_ := Aside0.mk (Kd.R_elder' (by (with_reducible repeat (first | apply Kd.R_alloc | apply Kd.R_drewN | apply Kd.R_drew)); exact HO985.out) (Kd.R_base ho0) hb); have n3_ := Aside0.mk (Kd.R_elder' (by (with_reducible repeat (first | apply Kd.R_alloc | apply Kd.R_drewN | apply Kd.R_drew)); exact HO988.out) (Kd.R_base ho0) hb); have n4_ := Aside0.mk (Kd.R_lower (Kd.R_new' (Kd.R_new' (Kd.R_new' (Kd.R_new' ho0 (Kd.R_lt (by (with_reducible repeat (first | apply Kd.R_alloc | apply Kd.R_drewN | apply Kd.R_drew)); exact HO979.out))) (Kd.R_lt (by (with_reducible repeat (first | apply Kd.R_alloc | apply Kd.R_drewN | apply Kd.R_drew)); exact HO982.out))) (Kd.R_lt (by (with_reducible repeat (first | apply Kd.R_alloc | apply Kd.R_drewN | apply Kd.R_drew)); exact HO985.out))) (Kd.R_lt (by (with_reducible repeat (first | apply Kd.R_alloc | apply Kd.R_drewN | apply Kd.R_drew)); exact HO988.out))) (below_size (by repeat (first | (with_reducible first | exact HB.out | apply below_alloc | apply pw_below_drewN | apply below_drew1) | exact HB.out)))); have n5_ := Aside0.mk (below_step (by repeat (first | (with_reducible first | exact HB.out | apply below_alloc | apply pw_below_drewN | apply below_drew1) | exact HB.out)) hb); clear HO979; clear HO982; clear HO985; clear HO988; clear HB; have HO979 := n0_; have HO982 := n1_; have HO985 := n2_; have HO988 := n3_; have HO991 := n4_; have HB := n5_; clear n0_ n1_ n2_ n3_ n4_ n5_; (try clear hb); (try clear hb2); (try clear hk); (try clear hi); (try clear ho0); obtain ⟨Ao93, co93, eo93⟩ := Kd.R_slice HO988.out; subst eo93; obtain ⟨Ao94, co94, eo94⟩ := Kd.R_slice HO991.out; subst eo94) | ((with_reducible refine gate_callee (f := 47) rfl ?_); refine goesL_ (some 34) rfl rfl Try.func47 (by kernel_rfl) rfl #[.slice Ao93 t986.length co93, .int .i64 a1, .slice Ao94 t989.length co94] rfl (by (try simp only [List.map_toArray, List.map_cons, List.map_nil]); first | done | rfl | (simp only [List.length_drop, List.length_take]; rfl)) ?_; (with_reducible refine (impl_ExtensionsOf.calls k _ _ t986 a1 _ _ t989 t992 _ ?side1 ?side2 ?side3 ?side4 A11.out).mono ?_); (case side1 => repeat (first | exact (Kd.R_reads' HO988.out).2.2 | (with_reducible refine Kd.C_alloc ?_ _) | (with_reducible refine Kd.C_drewN ?_ _) | (with_reducible refine Kd.C_drew ?_))); (case side2 => exact (Kd.R_reads' HO988.out).2.1); (case side3 => repeat (first | exact (Kd.R_reads' HO991.out).2.2 | (with_reducible refine Kd.C_alloc ?_ _) | (with_reducible refine Kd.C_drewN ?_ _) | (with_reducible refine Kd.C_drew ?_))); (case side4 => exact (Kd.R_reads' HO991.out).2.1); rintro e w95 ⟨v993, rfl, ho0, hb⟩; refine ⟨_, rfl, ?_⟩; have n0_ := Aside0.mk (Kd.R_elder' (by (with_reducible repeat (first | apply Kd.R_alloc | apply Kd.R_drewN | apply Kd.R_drew)); exact HO979.out) (Kd.R_base ho0) hb); have n1_ := Aside0.mk (Kd.R_elder' (by (with_reducible repeat (first | apply Kd.R_alloc | apply Kd.R_drewN | apply Kd.R_drew)); exact HO982.out) (Kd.R_base ho0) hb); have n2_ := Aside0.mk (Kd.R_elder' (by (with_reducible repeat (first | apply Kd.R_alloc | apply Kd.R_drewN | apply Kd.R_drew)); exact HO985.out) (Kd.R_base ho0) hb); have n3_ := Aside0.mk (Kd.R_elder' (by (with_reducible repeat (first | apply Kd.R_alloc | apply Kd.R_drewN | apply Kd.R_drew)); exact HO988.out) (Kd.R_base ho0) hb); have n4_ := Aside0.mk (Kd.R_elder' (by (with_reducible repeat (first | apply Kd.R_alloc | apply Kd.R_drewN | apply Kd.R_drew)); exact HO991.out) (Kd.R_base ho0) hb); have n5_ := Aside0.mk (Kd.R_lower (Kd.R_new' (Kd.R_new' (Kd.R_new' (Kd.R_new' (Kd.R_new' ho0 (Kd.R_lt (by (with_reducible repeat (first | apply Kd.R_alloc | apply Kd.R_drewN | apply Kd.R_drew)); exact HO979.out))) (Kd.R_lt (by (with_reducible repeat (first | apply Kd.R_alloc | apply Kd.R_drewN | apply Kd.R_drew)); exact HO982.out))) (Kd.R_lt (by (with_reducible repeat (first | apply Kd.R_alloc | apply Kd.R_drewN | apply Kd.R_drew)); exact HO985.out))) (Kd.R_lt (by (with_reducible repeat (first | apply Kd.R_alloc | apply Kd.R_drewN | apply Kd.R_drew)); exact HO988.out))) (Kd.R_lt (by (with_reducible repeat (first | apply Kd.R_alloc | apply Kd.R_drewN | apply Kd.R_drew)); exact HO991.out))) (below_size (by repeat (first | (with_reducible first | exact HB.out | apply below_alloc | apply pw_below_drewN | apply below_drew1) | exact HB.out)))); have n6_ := Aside0.mk (below_step (by repeat (first | (with_reducible first | exact HB.out | apply below_alloc | apply pw_below_drewN | apply below_drew1) | exact HB.out)) hb); clear HO979; clear HO982; clear HO985; clear HO988; clear HO991; clear HB; have HO979 := n0_; have HO982 := n1_; have HO985 := n2_; have HO988 := n3_; have HO991 := n4_; have HO994 := n5_; have HB := n6_; clear n0_ n1_ n2_ n3_ n4_ n5_ n6_; (try clear hb); (try clear hb2); (try clear hk); (try clear hi); (try clear ho0); obtain ⟨Ao96, co96, eo96⟩ := Kd.R_slice HO994.out; subst eo96; obtain ⟨Ao97, co97, eo97⟩ := Kd.R_slice HO985.out; subst eo97) | ((with_reducible refine gate_callee (f := 16) rfl ?_); refine goesL_ (some 37) rfl rfl Try.func16 (by kernel_rfl) rfl #[.slice Ao96 t992.length co96, .slice Ao97 t983.length co97] rfl (by (try simp only [List.map_toArray, List.map_cons, List.map_nil]); first | done | rfl | (simp only [List.length_drop, List.length_take]; rfl)) ?_; (with_reducible refine (laws_eqIntS.calls k _ _ t992 _ _ t983 true _ ?side1 ?side2 ?side3 ?side4 A12.out).mono ?_); (case side1 => repeat (first | exact (Kd.R_reads' HO994.out).2.2 | (with_reducible refine Kd.C_alloc ?_ _) | (with_reducible refine Kd.C_drewN ?_ _) | (with_reducible refine Kd.C_drew ?_))); (case side2 => exact (Kd.R_reads' HO994.out).2.1); (case side3 => repeat (first | exact (Kd.R_reads' HO985.out).2.2 | (with_reducible refine Kd.C_alloc ?_ _) | (with_reducible refine Kd.C_drewN ?_ _) | (with_reducible refine Kd.C_drew ?_))); (case side4 => exact (Kd.R_reads' HO985.out).2.1); rintro e w' ⟨rfl, ⟨nd, rfl⟩⟩; refine ⟨_, rfl, ?_⟩) | ((with_reducible refine gate_callee (f := 44) rfl ?_); refine goesL_ (some 41) rfl rfl Try.func44 (by kernel_rfl) rfl #[.slice A0 l0.length c0] rfl (by (try simp only [List.map_toArray, List.map_cons, List.map_nil]); first | done | rfl | (simp only [List.length_drop, List.length_take]; rfl)) ?_; (with_reducible refine (laws_toIntS.calls k _ _ l0 t996 _ ?side1 ?side2 A14.out).mono ?_); (case side1 => repeat (first | exact (Kd.C_below HR0.out (by repeat (first | (with_reducible first | exact HB.out | apply below_alloc | apply pw_below_drewN | apply below_drew1) | exact HB.out))) | (with_reducible refine Kd.C_alloc ?_ _) | (with_reducible refine Kd.C_drewN ?_ _) | (with_reducible refine Kd.C_drew ?_))); (case side2 => exact HC0.out); rintro e w98 ⟨v997, rfl, ho0, hb⟩; refine ⟨_, rfl, ?_⟩; have n0_ := Aside0.mk (Kd.R_elder' (by (with_reducible repeat (first | apply Kd.R_alloc | apply Kd.R_drewN | apply Kd.R_drew)); exact HO979.out) (Kd.R_base ho0) hb); have n1_ := Aside0.mk (Kd.R_elder' (by (with_reducible repeat (first | apply Kd.R_alloc | apply Kd.R_drewN | apply Kd.R_drew)); exact HO982.out) (Kd.R_base ho0) hb); have n2_ := Aside0.mk (Kd.R_elder' (by (with_reducible repeat (first | apply Kd.R_alloc | apply Kd.R_drewN | apply Kd.R_drew)); exact HO985.out) (Kd.R_base ho0) hb); have n3_ := Aside0.mk (Kd.R_elder' (by (with_reducible repeat (first | apply Kd.R_alloc | apply Kd.R_drewN | apply Kd.R_drew)); exact HO988.out) (Kd.R_base ho0) hb); have n4_ := Aside0.mk (Kd.R_elder' (by (with_reducible repeat (first | apply Kd.R_alloc | apply Kd.R_drewN | apply Kd.R_drew)); exact HO991.out) (Kd.R_base ho0) hb); have n5_ := Aside0.mk (Kd.R_elder' (by (with_reducible repeat (first | apply Kd.R_alloc | apply Kd.R_drewN | apply Kd.R_drew)); exact HO994.out) (Kd.R_base ho0) hb); have n6_ := Aside0.mk (Kd.R_lower (Kd.R_new' (Kd.R_new' (Kd.R_new' (Kd.R_new' (Kd.R_new' (Kd.R_new' ho0 (Kd.R_lt (by (with_reducible repeat (first | apply Kd.R_alloc | apply Kd.R_drewN | apply Kd.R_drew)); exact HO979.out))) (Kd.R_lt (by (with_reducible repeat (first | apply Kd.R_alloc | apply Kd.R_drewN | apply Kd.R_drew)); exact HO982.out))) (Kd.R_lt (by (with_reducible repeat (first | apply Kd.R_alloc | apply Kd.R_drewN | apply Kd.R_drew)); exact HO985.out))) (Kd.R_lt (by (with_reducible repeat (first | apply Kd.R_alloc | apply Kd.R_drewN | apply Kd.R_drew)); exact HO988.out))) (Kd.R_lt (by (with_reducible repeat (first | apply Kd.R_alloc | apply Kd.R_drewN | apply Kd.R_drew)); exact HO991.out))) (Kd.R_lt (by (with_reducible repeat (first | apply Kd.R_alloc | apply Kd.R_drewN | apply Kd.R_drew)); exact HO994.out))) (below_size (by repeat (first | (with_reducible first | exact HB.out | apply below_alloc | apply pw_below_drewN | apply below_drew1) | exact HB.out)))); have n7_ := Aside0.mk (below_step (by repeat (first | (with_reducible first | exact HB.out | apply below_alloc | apply pw_below_drewN | apply below_drew1) | exact HB.out)) hb); clear HO979; clear HO982; clear HO985; clear HO988; clear HO991; clear HO994; clear HB; have HO979 := n0_; have HO982 := n1_; have HO985 := n2_; have HO988 := n3_; have HO991 := n4_; have HO994 := n5_; have HO998 := n6_; have HB := n7_; clear n0_ n1_ n2_ n3_ n4_ n5_ n6_ n7_; (try clear hb); (try clear hb2); (try clear hk); (try clear hi); (try clear ho0); obtain ⟨Ao99, co99, eo99⟩ := Kd.R_slice HO998.out; subst eo99) | ((with_reducible refine gate_callee (f := 16) rfl ?_); refine goesL_ (some 42) rfl rfl Try.func16 (by kernel_rfl) rfl #[.slice Ao93 t986.length co93, .slice Ao99 t996.length co99] rfl (by (try simp only [List.map_toArray, List.map_cons, List.map_nil]); first | done | rfl | (simp only [List.length_drop, List.length_take]; rfl)) ?_; (with_reducible refine (laws_eqIntS.calls k _ _ t986 _ _ t996 true _ ?side1 ?side2 ?side3 ?side4 A15.out).mono ?_); (case side1 => repeat (first | exact (Kd.R_reads' HO988.out).2.2 | (with_reducible refine Kd.C_alloc ?_ _) | (with_reducible refine Kd.C_drewN ?_ _) | (with_reducible refine Kd.C_drew ?_))); (case side2 => exact (Kd.R_reads' HO988.out).2.1); (case side3 => repeat (first | exact (Kd.R_reads' HO998.out).2.2 | (with_reducible refine Kd.C_alloc ?_ _) | (with_reducible refine Kd.C_drewN ?_ _) | (with_reducible refine Kd.C_drew ?_))); (case side4 => exact (Kd.R_reads' HO998.out).2.1); rintro e w' ⟨rfl, ⟨nd, rfl⟩⟩; refine ⟨_, rfl, ?_⟩) | ((with_reducible refine gate_callee (f := 44) rfl ?_); refine goesL_ (some 46) rfl rfl Try.func44 (by kernel_rfl) rfl #[.slice A2 l2.length c2] rfl (by (try simp only [List.map_toArray, List.map_cons, List.map_nil]); first | done | rfl | (simp only [List.length_drop, List.length_take]; rfl)) ?_; (with_reducible refine (laws_toIntS.calls k _ _ l2 t1000 _ ?side1 ?side2 A17.out).mono ?_); (case side1 => repeat (first | exact (Kd.C_below HR2.out (by repeat (first | (with_reducible first | exact HB.out | apply below_alloc | apply pw_below_drewN | apply below_drew1) | exact HB.out))) | (with_reducible refine Kd.C_alloc ?_ _) | (with_reducible refine Kd.C_drewN ?_ _) | (with_reducible refine Kd.C_drew ?_))); (case side2 => exact HC2.out); rintro e w100 ⟨v1001, rfl, ho0, hb⟩; refine ⟨_, rfl, ?_⟩; have n0_ := Aside0.mk (Kd.R_elder' (by (with_reducible repeat (first | apply Kd.R_alloc | apply Kd.R_drewN | apply Kd.R_drew)); exact HO979.out) (Kd.R_base ho0) hb); have n1_ := Aside0.mk (Kd.R_elder' (by (with_reducible repeat (first | apply Kd.R_alloc | apply Kd.R_drewN | apply Kd.R_drew)); exact HO982.out) (Kd.R_base ho0) hb); have n2_ := Aside0.mk (Kd.R_elder' (by (with_reducible repeat (first | apply Kd.R_alloc | apply Kd.R_drewN | apply Kd.R_drew)); exact HO985.out) (Kd.R_base ho0) hb); have n3_ := Aside0.mk (Kd.R_elder' (by (with_reducible repeat (first | apply Kd.R_alloc | apply Kd.R_drewN | apply Kd.R_drew)); exact HO988.out) (Kd.R_base ho0) hb); have n4_ := Aside0.mk (Kd.R_elder' (by (with_reducible repeat (first | apply Kd.R_alloc | apply Kd.R_drewN | apply Kd.R_drew)); exact HO991.out) (Kd.R_base ho0) hb); have n5_ := Aside0.mk (Kd.R_elder' (by (with_reducible repeat (first | apply Kd.R_alloc | apply Kd.R_drewN | apply Kd.R_drew)); exact HO994.out) (Kd.R_base ho0) hb); have n6_ := Aside0.mk (Kd.R_elder' (by (with_reducible repeat (first | apply Kd.R_alloc | apply Kd.R_drewN | apply Kd.R_drew)); exact HO998.out) (Kd.R_base ho0) hb); have n7_ := Aside0.mk (Kd.R_lower (Kd.R_new' (Kd.R_new' (Kd.R_new' (Kd.R_new' (Kd.R_new' (Kd.R_new' (Kd.R_new' ho0 (Kd.R_lt (by (with_reducible repeat (first | apply Kd.R_alloc | apply Kd.R_drewN | apply Kd.R_drew)); exact HO979.out))) (Kd.R_lt (by (with_reducible repeat (first | apply Kd.R_alloc | apply Kd.R_drewN | apply Kd.R_drew)); exact HO982.out))) (Kd.R_lt (by (with_reducible repeat (first | apply Kd.R_alloc | apply Kd.R_drewN | apply Kd.R_drew)); exact HO985.out))) (Kd.R_lt (by (with_reducible repeat (first | apply Kd.R_alloc | apply Kd.R_drewN | apply Kd.R_drew)); exact HO988.out))) (Kd.R_lt (by (with_reducible repeat (first | apply Kd.R_alloc | apply Kd.R_drewN | apply Kd.R_drew)); exact HO991.out))) (Kd.R_lt (by (with_reducible repeat (first | apply Kd.R_alloc | apply Kd.R_drewN | apply Kd.R_drew)); exact HO994.out))) (Kd.R_lt (by (with_reducible repeat (first | apply Kd.R_alloc | apply Kd.R_drewN | apply Kd.R_drew)); exact HO998.out))) (below_size (by repeat (first | (with_reducible first | exact HB.out | apply below_alloc | apply pw_below_drewN | apply below_drew1) | exact HB.out)))); have n8_ := Aside0.mk (below_step (by repeat (first | (with_reducible first | exact HB.out | apply below_alloc | apply pw_below_drewN | apply below_drew1) | exact HB.out)) hb); clear HO979; clear HO982; clear HO985; clear HO988; clear HO991; clear HO994; clear HO998; clear HB; have HO979 := n0_; have HO982 := n1_; have HO985 := n2_; have HO988 := n3_; have HO991 := n4_; have HO994 := n5_; have HO998 := n6_; have HO1002 := n7_; have HB := n8_; clear n0_ n1_ n2_ n3_ n4_ n5_ n6_ n7_ n8_; (try clear hb); (try clear hb2); (try clear hk); (try clear hi); (try clear ho0); obtain ⟨Ao101, co101, eo101⟩ := Kd.R_slice HO1002.out; subst eo101) | ((with_reducible refine gate_callee (f := 16) rfl ?_); refine goesL_ (some 47) rfl rfl Try.func16 (by kernel_rfl) rfl #[.slice Ao94 t989.length co94, .slice Ao101 t1000.length co101] rfl (by (try simp only [List.map_toArray, List.map_cons, List.map_nil]); first | done | rfl | (simp only [List.length_drop, List.length_take]; rfl)) ?_; (with_reducible refine (laws_eqIntS.calls k _ _ t989 _ _ t1000 false _ ?side1 ?side2 ?side3 ?side4 A18.out).mono ?_); (case side1 => repeat (first | exact (Kd.R_reads' HO991.out).2.2 | (with_reducible refine Kd.C_alloc ?_ _) | (with_reducible refine Kd.C_drewN ?_ _) | (with_reducible refine Kd.C_drew ?_))); (case side2 => exact (Kd.R_reads' HO991.out).2.1); (case side3 => repeat (first | exact (Kd.R_reads' HO1002.out).2.2 | (with_reducible refine Kd.C_alloc ?_ _) | (with_reducible refine Kd.C_drewN ?_ _) | (with_reducible refine Kd.C_drew ?_))); (case side4 => exact (Kd.R_reads' HO1002.out).2.1); rintro e w' ⟨rfl, ⟨nd, rfl⟩⟩; refine ⟨_, rfl, ?_⟩))
      go_ret
      exact ⟨by first | rfl | (simp [errW_none, errW_some] <;> rfl) | (simp [*, errW_none, errW_some] <;> rfl), by repeat (first | (with_reducible first | exact HB.out | apply below_alloc | apply pw_below_drewN | apply below_drew1) | exact HB.out)⟩
    ·replace c16 := Bool.eq_false_iff.mpr c16
     subst c16
     have H1 : (some false) = some r := by rw [if_neg (show ¬ (false = true) by decide)] at H; exact H
     clear H
     have H := H1
     clear H1
     obtain rfl := Option.some.inj H
     go_enter Try.func7, Try.ntmps7
     go_wp2_with (first | ((with_reducible refine gate_callee (f := 44) rfl ?_); refine goesL_ (some 22) rfl rfl Try.func44 (by kernel_rfl) rfl #[.slice A0 l0.length c0] rfl (by (try simp only [List.map_toArray, List.map_cons, List.map_nil]); first | done | rfl | (simp only [List.length_drop, List.length_take]; rfl)) ?_; (with_reducible refine (laws_toIntS.calls k _ _ l0 t977 _ ?side1 ?side2 A6.out).mono ?_); (case side1 => repeat (first | exact HR0.out | (with_reducible refine Kd.C_alloc ?_ _) | (with_reducible refine Kd.C_drewN ?_ _) | (with_reducible refine Kd.C_drew ?_))); (case side2 => exact HC0.out); rintro e w102 ⟨v978, rfl, ho0, hb⟩; refine ⟨_, rfl, ?_⟩; have n0_ := Aside0.mk (Kd.R_lower ho0 (below_size (by repeat (first | (with_reducible first | exact HB.out | apply below_alloc | apply pw_below_drewN | apply below_drew1) | exact HB.out)))); have n1_ := Aside0.mk (below_step (by repeat (first | (with_reducible first | exact HB.out | apply below_alloc | apply pw_below_drewN | apply below_drew1) | exact HB.out)) hb); clear HB; have HO979 := n0_; have HB := n1_; clear n0_ n1_; (try clear hb); (try clear hb2); (try clear hk); (try clear hi); (try clear ho0)) | ((with_reducible refine gate_callee (f := 44) rfl ?_); refine goesL_ (some 25) rfl rfl Try.func44 (by kernel_rfl) rfl #[.slice A2 l2.length c2] rfl (by (try simp only [List.map_toArray, List.map_cons, List.map_nil]); first | done | rfl | (simp only [List.length_drop, List.length_take]; rfl)) ?_; (with_reducible refine (laws_toIntS.calls k _ _ l2 t980 _ ?side1 ?side2 A7.out).mono ?_); (case side1 => repeat (first | exact (Kd.C_below HR2.out HB.out) | (with_reducible refine Kd.C_alloc ?_ _) | (with_reducible refine Kd.C_drewN ?_ _) | (with_reducible refine Kd.C_drew ?_))); (case side2 => exact HC2.out); rintro e w103 ⟨v981, rfl, ho0, hb⟩; refine ⟨_, rfl, ?_⟩; have n0_ := Aside0.mk (Kd.R_elder' (by (with_reducible repeat (first | apply Kd.R_alloc | apply Kd.R_drewN | apply Kd.R_drew)); exact HO979.out) (Kd.R_base ho0) hb); have n1_ := Aside0.mk (Kd.R_lower (Kd.R_new' ho0 (Kd.R_lt (by (with_reducible repeat (first | apply Kd.R_alloc | apply Kd.R_drewN | apply Kd.R_drew)); exact HO979.out))) (below_size (by repeat (first | (with_reducible first | exact HB.out | apply below_alloc | apply pw_below_drewN | apply below_drew1) | exact HB.out)))); have n2_ := Aside0.mk (below_step (by repeat (first | (with_reducible first | exact HB.out | apply below_alloc | apply pw_below_drewN | apply below_drew1) | exact HB.out)) hb); clear HO979; clear HB; have HO979 := n0_; have HO982 := n1_; have HB := n2_; clear n0_ n1_ n2_; (try clear hb); (try clear hb2); (try clear hk); (try clear hi); (try clear ho0); obtain ⟨Ao104, co104, eo104⟩ := Kd.R_slice HO979.out; subst eo104; obtain ⟨Ao105, co105, eo105⟩ := Kd.R_slice HO982.out; subst eo105) | ((with_reducible refine gate_callee (f := 46) rfl ?_); refine goesL_ (some 26) rfl rfl Try.func46 (by kernel_rfl) rfl #[.slice Ao104 t977.length co104, .int .i64 a1, .slice Ao105 t980.length co105] rfl (by (try simp only [List.map_toArray, List.map_cons, List.map_nil]); first | done | rfl | (simp only [List.length_drop, List.length_take]; rfl)) ?_; (with_reducible refine (spec_ExtensionsOf.calls k _ _ t977 a1 _ _ t980 t983 _ ?side1 ?side2 ?side3 ?side4 A8.out).mono ?_); (case side1 => repeat (first | exact (Kd.R_reads' HO979.out).2.2 | (with_reducible refine Kd.C_alloc ?_ _) | (with_reducible refine Kd.C_drewN ?_ _) | (with_reducible refine Kd.C_drew ?_))); (case side2 => exact (Kd.R_reads' HO979.out).2.1); (case side3 => repeat (first | exact (Kd.R_reads' HO982.out).2.2 | (with_reducible refine Kd.C_alloc ?_ _) | (with_reducible refine Kd.C_drewN ?_ _) | (with_reducible refine Kd.C_drew ?_))); (case side4 => exact (Kd.R_reads' HO982.out).2.1); rintro e w106 ⟨v984, rfl, ho0, hb⟩; refine ⟨_, rfl, ?_⟩; have n0_ := Aside0.mk (Kd.R_elder' (by (with_reducible repeat (first | apply Kd.R_alloc | apply Kd.R_drewN | apply Kd.R_drew)); exact HO979.out) (Kd.R_base ho0) hb); have n1_ := Aside0.mk (Kd.R_elder' (by (with_reducible repeat (first | apply Kd.R_alloc | apply Kd.R_drewN | apply Kd.R_drew)); exact HO982.out) (Kd.R_base ho0) hb); have n2_ := Aside0.mk (Kd.R_lower (Kd.R_new' (Kd.R_new' ho0 (Kd.R_lt (by (with_reducible repeat (first | apply Kd.R_alloc | apply Kd.R_drewN | apply Kd.R_drew)); exact HO979.out))) (Kd.R_lt (by (with_reducible repeat (first | apply Kd.R_alloc | apply Kd.R_drewN | apply Kd.R_drew)); exact HO982.out))) (below_size (by repeat (first | (with_reducible first | exact HB.out | apply below_alloc | apply pw_below_drewN | apply below_drew1) | exact HB.out)))); have n3_ := Aside0.mk (below_step (by repeat (first | (with_reducible first | exact HB.out | apply below_alloc | apply pw_below_drewN | apply below_drew1) | exact HB.out)) hb); clear HO979; clear HO982; clear HB; have HO979 := n0_; have HO982 := n1_; have HO985 := n2_; have HB := n3_; clear n0_ n1_ n2_ n3_; (try clear hb); (try clear hb2); (try clear hk); (try clear hi); (try clear ho0)) | ((with_reducible refine gate_callee (f := 44) rfl ?_); refine goesL_ (some 28) rfl rfl Try.func44 (by kernel_rfl) rfl #[.slice A0 l0.length c0] rfl (by (try simp only [List.map_toArray, List.map_cons, List.map_nil]); first | done | rfl | (simp only [List.length_drop, List.length_take]; rfl)) ?_; (with_reducible refine (laws_toIntS.calls k _ _ l0 t986 _ ?side1 ?side2 A9.out).mono ?_); (case side1 => repeat (first | exact (Kd.C_below HR0.out HB.out) | (with_reducible refine Kd.C_alloc ?_ _) | (with_reducible refine Kd.C_drewN ?_ _) | (with_reducible refine Kd.C_drew ?_))); (case side2 => exact HC0.out); rintro e w107 ⟨v987, rfl, ho0, hb⟩; refine ⟨_, rfl, ?_⟩; have n0_ := Aside0.mk (Kd.R_elder' (by (with_reducible repeat (first | apply Kd.R_alloc | apply Kd.R_drewN | apply Kd.R_drew)); exact HO979.out) (Kd.R_base ho0) hb); have n1_ := Aside0.mk (Kd.R_elder' (by (with_reducible repeat (first | apply Kd.R_alloc | apply Kd.R_drewN | apply Kd.R_drew)); exact HO982.out) (Kd.R_base ho0) hb); have n2_ := Aside0.mk (Kd.R_elder' (by (with_reducible repeat (first | apply Kd.R_alloc | apply Kd.R_drewN | apply Kd.R_drew)); exact HO985.out) (Kd.R_base ho0) hb); have n3_ := Aside0.mk (Kd.R_lower (Kd.R_new' (Kd.R_new' (Kd.R_new' ho0 (Kd.R_lt (by (with_reducible repeat (first | apply Kd.R_alloc | apply Kd.R_drewN | apply Kd.R_drew)); exact HO979.out))) (Kd.R_lt (by (with_reducible repeat (first | apply Kd.R_alloc | apply Kd.R_drewN | apply Kd.R_drew)); exact HO982.out))) (Kd.R_lt (by (with_reducible repeat (first | apply Kd.R_alloc | apply Kd.R_drewN | apply Kd.R_drew)); exact HO985.out))) (below_size (by repeat (first | (with_reducible first | exact HB.out | apply below_alloc | apply pw_below_drewN | apply below_drew1) | exact HB.out)))); have n4_ := Aside0.mk (below_step (by repeat (first | (with_reducible first | exact HB.out | apply below_alloc | apply pw_below_drewN | apply below_drew1) | exact HB.out)) hb); clear HO979; clear HO982; clear HO985; clear HB; have HO979 := n0_; have HO982 := n1_; have HO985 := n2_; have HO988 := n3_; have HB := n4_; clear n0_ n1_ n2_ n3_ n4_; (try clear hb); (try clear hb2); (try clear hk); (try clear hi); (try clear ho0)) | ((with_reducible refine gate_callee (f := 44) rfl ?_); refine goesL_ (some 30) rfl rfl Try.func44 (by kernel_rfl) rfl #[.slice A2 l2.length c2] rfl (by (try simp only [List.map_toArray, List.map_cons, List.map_nil]); first | done | rfl | (simp only [List.length_drop, List.length_take]; rfl)) ?_; (with_reducible refine (laws_toIntS.calls k _ _ l2 t989 _ ?side1 ?side2 A10.out).mono ?_); (case side1 => repeat (first | exact (Kd.C_below HR2.out HB.out) | (with_reducible refine Kd.C_alloc ?_ _) | (with_reducible refine Kd.C_drewN ?_ _) | (with_reducible refine Kd.C_drew ?_))); (case side2 => exact HC2.out); rintro e w108 ⟨v990, rfl, ho0, hb⟩; refine ⟨_, rfl, ?_⟩; have n0_ := Aside0.mk (Kd.R_elder' (by (with_reducible repeat (first | apply Kd.R_alloc | apply Kd.R_drewN | apply Kd.R_drew)); exact HO979.out) (Kd.R_base ho0) hb); have n1_ := Aside0.mk (Kd.R_elder' (by (with_reducible repeat (first | apply Kd.R_alloc | apply Kd.R_drewN | apply Kd.R_drew)); exact HO982.out) (Kd.R_base ho0) hb); have n2_ := Aside0.mk (Kd.R_elder' (by (with_reducible repeat (first | apply Kd.R_alloc | apply Kd.R_drewN | apply Kd.R_drew)); exact HO985.out) (Kd.R_base ho0) hb); have n3_ := Aside0.mk (Kd.R_elder' (by (with_reducible repeat (first | apply Kd.R_alloc | apply Kd.R_drewN | apply Kd.R_drew)); exact HO988.out) (Kd.R_base ho0) hb); have n4_ := Aside0.mk (Kd.R_lower (Kd.R_new' (Kd.R_new' (Kd.R_new' (Kd.R_new' ho0 (Kd.R_lt (by (with_reducible repeat (first | apply Kd.R_alloc | apply Kd.R_drewN | apply Kd.R_drew)); exact HO979.out))) (Kd.R_lt (by (with_reducible repeat (first | apply Kd.R_alloc | apply Kd.R_drewN | apply Kd.R_drew)); exact HO982.out))) (Kd.R_lt (by (with_reducible repeat (first | apply Kd.R_alloc | apply Kd.R_drewN | apply Kd.R_drew)); exact HO985.out))) (Kd.R_lt (by (with_reducible repeat (first | apply Kd.R_alloc | apply Kd.R_drewN | apply Kd.R_drew)); exact HO988.out))) (below_size (by repeat (first | (with_reducible first | exact HB.out | apply below_alloc | apply pw_below_drewN | apply below_drew1) | exact HB.out)))); have n5_ := Aside0.mk (below_step (by repeat (first | (with_reducible first | exact HB.out | apply below_alloc | apply pw_below_drewN | apply below_drew1) | exact HB.out)) hb); clear HO979; clear HO982; clear HO985; clear HO988; clear HB; have HO979 := n0_; have HO982 := n1_; have HO985 := n2_; have HO988 := n3_; have HO991 := n4_; have HB := n5_; clear n0_ n1_ n2_ n3_ n4_ n5_; (try clear hb); (try clear hb2); (try clear hk); (try clear hi); (try clear ho0); obtain ⟨Ao109, co109, eo109⟩ := Kd.R_slice HO988.out; subst eo109; obtain ⟨Ao110, co110, eo110⟩ := Kd.R_slice HO991.out; subst eo110) | ((with_reducible refine gate_callee (f := 47) rfl ?_); refine goesL_ (some 34) rfl rfl Try.func47 (by kernel_rfl) rfl #[.slice Ao109 t986.length co109, .int .i64 a1, .slice Ao110 t989.length co110] rfl (by (try simp only [List.map_toArray, List.map_cons, List.map_nil]); first | done | rfl | (simp only [List.length_drop, List.length_take]; rfl)) ?_; (with_reducible refine (impl_ExtensionsOf.calls k _ _ t986 a1 _ _ t989 t992 _ ?side1 ?side2 ?side3 ?side4 A11.out).mono ?_); (case side1 => repeat (first | exact (Kd.R_reads' HO988.out).2.2 | (with_reducible refine Kd.C_alloc ?_ _) | (with_reducible refine Kd.C_drewN ?_ _) | (with_reducible refine Kd.C_drew ?_))); (case side2 => exact (Kd.R_reads' HO988.out).2.1); (case side3 => repeat (first | exact (Kd.R_reads' HO991.out).2.2 | (with_reducible refine Kd.C_alloc ?_ _) | (with_reducible refine Kd.C_drewN ?_ _) | (with_reducible refine Kd.C_drew ?_))); (case side4 => exact (Kd.R_reads' HO991.out).2.1); rintro e w111 ⟨v993, rfl, ho0, hb⟩; refine ⟨_, rfl, ?_⟩; have n0_ := Aside0.mk (Kd.R_elder' (by (with_reducible repeat (first | apply Kd.R_alloc | apply Kd.R_drewN | apply Kd.R_drew)); exact HO979.out) (Kd.R_base ho0) hb); have n1_ := Aside0.mk (Kd.R_elder' (by (with_reducible repeat (first | apply Kd.R_alloc | apply Kd.R_drewN | apply Kd.R_drew)); exact HO982.out) (Kd.R_base ho0) hb); have n2_ := Aside0.mk (Kd.R_elder' (by (with_reducible repeat (first | apply Kd.R_alloc | apply Kd.R_drewN | apply Kd.R_drew)); exact HO985.out) (Kd.R_base ho0) hb); have n3_ := Aside0.mk (Kd.R_elder' (by (with_reducible repeat (first | apply Kd.R_alloc | apply Kd.R_drewN | apply Kd.R_drew)); exact HO988.out) (Kd.R_base ho0) hb); have n4_ := Aside0.mk (Kd.R_elder' (by (with_reducible repeat (first | apply Kd.R_alloc | apply Kd.R_drewN | apply Kd.R_drew)); exact HO991.out) (Kd.R_base ho0) hb); have n5_ := Aside0.mk (Kd.R_lower (Kd.R_new' (Kd.R_new' (Kd.R_new' (Kd.R_new' (Kd.R_new' ho0 (Kd.R_lt (by (with_reducible repeat (first | apply Kd.R_alloc | apply Kd.R_drewN | apply Kd.R_drew)); exact HO979.out))) (Kd.R_lt (by (with_reducible repeat (first | apply Kd.R_alloc | apply Kd.R_drewN | apply Kd.R_drew)); exact HO982.out))) (Kd.R_lt (by (with_reducible repeat (first | apply Kd.R_alloc | apply Kd.R_drewN | apply Kd.R_drew)); exact HO985.out))) (Kd.R_lt (by (with_reducible repeat (first | apply Kd.R_alloc | apply Kd.R_drewN | apply Kd.R_drew)); exact HO988.out))) (Kd.R_lt (by (with_reducible repeat (first | apply Kd.R_alloc | apply Kd.R_drewN | apply Kd.R_drew)); exact HO991.out))) (below_size (by repeat (first | (with_reducible first | exact HB.out | apply below_alloc | apply pw_below_drewN | apply below_drew1) | exact HB.out)))); have n6_ := Aside0.mk (below_step (by repeat (first | (with_reducible first | exact HB.out | apply below_alloc | apply pw_below_drewN | apply below_drew1) | exact HB.out)) hb); clear HO979; clear HO982; clear HO985; clear HO988; clear HO991; clear HB; have HO979 := n0_; have HO982 := n1_; have HO985 := n2_; have HO988 := n3_; have HO991 := n4_; have HO994 := n5_; have HB := n6_; clear n0_ n1_ n2_ n3_ n4_ n5_ n6_; (try clear hb); (try clear hb2); (try clear hk); (try clear hi); (try clear ho0); obtain ⟨Ao112, co112, eo112⟩ := Kd.R_slice HO994.out; subst eo112; obtain ⟨Ao113, co113, eo113⟩ := Kd.R_slice HO985.out; subst eo113) | ((with_reducible refine gate_callee (f := 16) rfl ?_); refine goesL_ (some 37) rfl rfl Try.func16 (by kernel_rfl) rfl #[.slice Ao112 t992.length co112, .slice Ao113 t983.length co113] rfl (by (try simp only [List.map_toArray, List.map_cons, List.map_nil]); first | done | rfl | (simp only [List.length_drop, List.length_take]; rfl)) ?_; (with_reducible refine (laws_eqIntS.calls k _ _ t992 _ _ t983 true _ ?side1 ?side2 ?side3 ?side4 A12.out).mono ?_); (case side1 => repeat (first | exact (Kd.R_reads' HO994.out).2.2 | (with_reducible refine Kd.C_alloc ?_ _) | (with_reducible refine Kd.C_drewN ?_ _) | (with_reducible refine Kd.C_drew ?_))); (case side2 => exact (Kd.R_reads' HO994.out).2.1); (case side3 => repeat (first | exact (Kd.R_reads' HO985.out).2.2 | (with_reducible refine Kd.C_alloc ?_ _) | (with_reducible refine Kd.C_drewN ?_ _) | (with_reducible refine Kd.C_drew ?_))); (case side4 => exact (Kd.R_reads' HO985.out).2.1); rintro e w' ⟨rfl, ⟨nd, rfl⟩⟩; refine ⟨_, rfl, ?_⟩) | ((with_reducible refine gate_callee (f := 44) rfl ?_); refine goesL_ (some 41) rfl rfl Try.func44 (by kernel_rfl) rfl #[.slice A0 l0.length c0] rfl (by (try simp only [List.map_toArray, List.map_cons, List.map_nil]); first | done | rfl | (simp only [List.length_drop, List.length_take]; rfl)) ?_; (with_reducible refine (laws_toIntS.calls k _ _ l0 t996 _ ?side1 ?side2 A14.out).mono ?_); (case side1 => repeat (first | exact (Kd.C_below HR0.out (by repeat (first | (with_reducible first | exact HB.out | apply below_alloc | apply pw_below_drewN | apply below_drew1) | exact HB.out))) | (with_reducible refine Kd.C_alloc ?_ _) | (with_reducible refine Kd.C_drewN ?_ _) | (with_reducible refine Kd.C_drew ?_))); (case side2 => exact HC0.out); rintro e w114 ⟨v997, rfl, ho0, hb⟩; refine ⟨_, rfl, ?_⟩; have n0_ := Aside0.mk (Kd.R_elder' (by (with_reducible repeat (first | apply Kd.R_alloc | apply Kd.R_drewN | apply Kd.R_drew)); exact HO979.out) (Kd.R_base ho0) hb); have n1_ := Aside0.mk (Kd.R_elder' (by (with_reducible repeat (first | apply Kd.R_alloc | apply Kd.R_drewN | apply Kd.R_drew)); exact HO982.out) (Kd.R_base ho0) hb); have n2_ := Aside0.mk (Kd.R_elder' (by (with_reducible repeat (first | apply Kd.R_alloc | apply Kd.R_drewN | apply Kd.R_drew)); exact HO985.out) (Kd.R_base ho0) hb); have n3_ := Aside0.mk (Kd.R_elder' (by (with_reducible repeat (first | apply Kd.R_alloc | apply Kd.R_drewN | apply Kd.R_drew)); exact HO988.out) (Kd.R_base ho0) hb); have n4_ := Aside0.mk (Kd.R_elder' (by (with_reducible repeat (first | apply Kd.R_alloc | apply Kd.R_drewN | apply Kd.R_drew)); exact HO991.out) (Kd.R_base ho0) hb); have n5_ := Aside0.mk (Kd.R_elder' (by (with_reducible repeat (first | apply Kd.R_alloc | apply Kd.R_drewN | apply Kd.R_drew)); exact HO994.out) (Kd.R_base ho0) hb); have n6_ := Aside0.mk (Kd.R_lower (Kd.R_new' (Kd.R_new' (Kd.R_new' (Kd.R_new' (Kd.R_new' (Kd.R_new' ho0 (Kd.R_lt (by (with_reducible repeat (first | apply Kd.R_alloc | apply Kd.R_drewN | apply Kd.R_drew)); exact HO979.out))) (Kd.R_lt (by (with_reducible repeat (first | apply Kd.R_alloc | apply Kd.R_drewN | apply Kd.R_drew)); exact HO982.out))) (Kd.R_lt (by (with_reducible repeat (first | apply Kd.R_alloc | apply Kd.R_drewN | apply Kd.R_drew)); exact HO985.out))) (Kd.R_lt (by (with_reducible repeat (first | apply Kd.R_alloc | apply Kd.R_drewN | apply Kd.R_drew)); exact HO988.out))) (Kd.R_lt (by (with_reducible repeat (first | apply Kd.R_alloc | apply Kd.R_drewN | apply Kd.R_drew)); exact HO991.out))) (Kd.R_lt (by (with_reducible repeat (first | apply Kd.R_alloc | apply Kd.R_drewN | apply Kd.R_drew)); exact HO994.out))) (below_size (by repeat (first | (with_reducible first | exact HB.out | apply below_alloc | apply pw_below_drewN | apply below_drew1) | exact HB.out)))); have n7_ := Aside0.mk (below_step (by repeat (first | (with_reducible first | exact HB.out | apply below_alloc | apply pw_below_drewN | apply below_drew1) | exact HB.out)) hb); clear HO979; clear HO982; clear HO985; clear HO988; clear HO991; clear HO994; clear HB; have HO979 := n0_; have HO982 := n1_; have HO985 := n2_; have HO988 := n3_; have HO991 := n4_; have HO994 := n5_; have HO998 := n6_; have HB := n7_; clear n0_ n1_ n2_ n3_ n4_ n5_ n6_ n7_; (try clear hb); (try clear hb2); (try clear hk); (try clear hi); (try clear ho0); obtain ⟨Ao115, co115, eo115⟩ := Kd.R_slice HO998.out; subst eo115) | ((with_reducible refine gate_callee (f := 16) rfl ?_); refine goesL_ (some 42) rfl rfl Try.func16 (by kernel_rfl) rfl #[.slice Ao109 t986.length co109, .slice Ao115 t996.length co115] rfl (by (try simp only [List.map_toArray, List.map_cons, List.map_nil]); first | done | rfl | (simp only [List.length_drop, List.length_take]; rfl)) ?_; (with_reducible refine (laws_eqIntS.calls k _ _ t986 _ _ t996 false _ ?side1 ?side2 ?side3 ?side4 A15.out).mono ?_); (case side1 => repeat (first | exact (Kd.R_reads' HO988.out).2.2 | (with_reducible refine Kd.C_alloc ?_ _) | (with_reducible refine Kd.C_drewN ?_ _) | (with_reducible refine Kd.C_drew ?_))); (case side2 => exact (Kd.R_reads' HO988.out).2.1); (case side3 => repeat (first | exact (Kd.R_reads' HO998.out).2.2 | (with_reducible refine Kd.C_alloc ?_ _) | (with_reducible refine Kd.C_drewN ?_ _) | (with_reducible refine Kd.C_drew ?_))); (case side4 => exact (Kd.R_reads' HO998.out).2.1); rintro e w' ⟨rfl, ⟨nd, rfl⟩⟩; refine ⟨_, rfl, ?_⟩))
     go_ret
     exact ⟨by first | rfl | (simp [errW_none, errW_some] <;> rfl) | (simp [*, errW_none, errW_some] <;> rfl), by repeat (first | (with_reducible first | exact HB.out | apply below_alloc | apply pw_below_drewN | apply below_drew1) | exact HB.out)⟩
   ·replace c13 := Bool.eq_false_iff.mpr c13
    subst c13
    have H1 : (some false) = some r := by rw [if_neg (show ¬ (false = true) by decide)] at H; exact H
    clear H
    have H := H1
    clear H1
    obtain rfl := Option.some.inj H
    go_enter Try.func7, Try.ntmps7
    go_wp2_with (first | ((with_reducible refine gate_callee (f := 44) rfl ?_); refine goesL_ (some 22) rfl rfl Try.func44 (by kernel_rfl) rfl #[.slice A0 l0.length c0] rfl (by (try simp only [List.map_toArray, List.map_cons, List.map_nil]); first | done | rfl | (simp only [List.length_drop, List.length_take]; rfl)) ?_; (with_reducible refine (laws_toIntS.calls k _ _ l0 t977 _ ?side1 ?side2 A6.out).mono ?_); (case side1 => repeat (first | exact HR0.out | (with_reducible refine Kd.C_alloc ?_ _) | (with_reducible refine Kd.C_drewN ?_ _) | (with_reducible refine Kd.C_drew ?_))); (case side2 => exact HC0.out); rintro e w116 ⟨v978, rfl, ho0, hb⟩; refine ⟨_, rfl, ?_⟩; have n0_ := Aside0.mk (Kd.R_lower ho0 (below_size (by repeat (first | (with_reducible first | exact HB.out | apply below_alloc | apply pw_below_drewN | apply below_drew1) | exact HB.out)))); have n1_ := Aside0.mk (below_step (by repeat (first | (with_reducible first | exact HB.out | apply below_alloc | apply pw_below_drewN | apply below_drew1) | exact HB.out)) hb); clear HB; have HO979 := n0_; have HB := n1_; clear n0_ n1_; (try clear hb); (try clear hb2); (try clear hk); (try clear hi); (try clear ho0)) | ((with_reducible refine gate_callee (f := 44) rfl ?_); refine goesL_ (some 25) rfl rfl Try.func44 (by kernel_rfl) rfl #[.slice A2 l2.length c2] rfl (by (try simp only [List.map_toArray, List.map_cons, List.map_nil]); first | done | rfl | (simp only [List.length_drop, List.length_take]; rfl)) ?_; (with_reducible refine (laws_toIntS.calls k _ _ l2 t980 _ ?side1 ?side2 A7.out).mono ?_); (case side1 => repeat (first | exact (Kd.C_below HR2.out HB.out) | (with_reducible refine Kd.C_alloc ?_ _) | (with_reducible refine Kd.C_drewN ?_ _) | (with_reducible refine Kd.C_drew ?_))); (case side2 => exact HC2.out); rintro e w117 ⟨v981, rfl, ho0, hb⟩; refine ⟨_, rfl, ?_⟩; have n0_ := Aside0.mk (Kd.R_elder' (by (with_reducible repeat (first | apply Kd.R_alloc | apply Kd.R_drewN | apply Kd.R_drew)); exact HO979.out) (Kd.R_base ho0) hb); have n1_ := Aside0.mk (Kd.R_lower (Kd.R_new' ho0 (Kd.R_lt (by (with_reducible repeat (first | apply Kd.R_alloc | apply Kd.R_drewN | apply Kd.R_drew)); exact HO979.out))) (below_size (by repeat (first | (with_reducible first | exact HB.out | apply below_alloc | apply pw_below_drewN | apply below_drew1) | exact HB.out)))); have n2_ := Aside0.mk (below_step (by repeat (first | (with_reducible first | exact HB.out | apply below_alloc | apply pw_below_drewN | apply below_drew1) | exact HB.out)) hb); clear HO979; clear HB; have HO979 := n0_; have HO982 := n1_; have HB := n2_; clear n0_ n1_ n2_; (try clear hb); (try clear hb2); (try clear hk); (try clear hi); (try clear ho0); obtain ⟨Ao118, co118, eo118⟩ := Kd.R_slice HO979.out; subst eo118; obtain ⟨Ao119, co119, eo119⟩ := Kd.R_slice HO982.out; subst eo119) | ((with_reducible refine gate_callee (f := 46) rfl ?_); refine goesL_ (some 26) rfl rfl Try.func46 (by kernel_rfl) rfl #[.slice Ao118 t977.length co118, .int .i64 a1, .slice Ao119 t980.length co119] rfl (by (try simp only [List.map_toArray, List.map_cons, List.map_nil]); first | done | rfl | (simp only [List.length_drop, List.length_take]; rfl)) ?_; (with_reducible refine (spec_ExtensionsOf.calls k _ _ t977 a1 _ _ t980 t983 _ ?side1 ?side2 ?side3 ?side4 A8.out).mono ?_); (case side1 => repeat (first | exact (Kd.R_reads' HO979.out).2.2 | (with_reducible refine Kd.C_alloc ?_ _) | (with_reducible refine Kd.C_drewN ?_ _) | (with_reducible refine Kd.C_drew ?_))); (case side2 => exact (Kd.R_reads' HO979.out).2.1); (case side3 => repeat (first | exact (Kd.R_reads' HO982.out).2.2 | (with_reducible refine Kd.C_alloc ?_ _) | (with_reducible refine Kd.C_drewN ?_ _) | (with_reducible refine Kd.C_drew ?_))); (case side4 => exact (Kd.R_reads' HO982.out).2.1); rintro e w120 ⟨v984, rfl, ho0, hb⟩; refine ⟨_, rfl, ?_⟩; have n0_ := Aside0.mk (Kd.R_elder' (by (with_reducible repeat (first | apply Kd.R_alloc | apply Kd.R_drewN | apply Kd.R_drew)); exact HO979.out) (Kd.R_base ho0) hb); have n1_ := Aside0.mk (Kd.R_elder' (by (with_reducible repeat (first | apply Kd.R_alloc | apply Kd.R_drewN | apply Kd.R_drew)); exact HO982.out) (Kd.R_base ho0) hb); have n2_ := Aside0.mk (Kd.R_lower (Kd.R_new' (Kd.R_new' ho0 (Kd.R_lt (by (with_reducible repeat (first | apply Kd.R_alloc | apply Kd.R_drewN | apply Kd.R_drew)); exact HO979.out))) (Kd.R_lt (by (with_reducible repeat (first | apply Kd.R_alloc | apply Kd.R_drewN | apply Kd.R_drew)); exact HO982.out))) (below_size (by repeat (first | (with_reducible first | exact HB.out | apply below_alloc | apply pw_below_drewN | apply below_drew1) | exact HB.out)))); have n3_ := Aside0.mk (below_step (by repeat (first | (with_reducible first | exact HB.out | apply below_alloc | apply pw_below_drewN | apply below_drew1) | exact HB.out)) hb); clear HO979; clear HO982; clear HB; have HO979 := n0_; have HO982 := n1_; have HO985 := n2_; have HB := n3_; clear n0_ n1_ n2_ n3_; (try clear hb); (try clear hb2); (try clear hk); (try clear hi); (try clear ho0)) | ((with_reducible refine gate_callee (f := 44) rfl ?_); refine goesL_ (some 28) rfl rfl Try.func44 (by kernel_rfl) rfl #[.slice A0 l0.length c0] rfl (by (try simp only [List.map_toArray, List.map_cons, List.map_nil]); first | done | rfl | (simp only [List.length_drop, List.length_take]; rfl)) ?_; (with_reducible refine (laws_toIntS.calls k _ _ l0 t986 _ ?side1 ?side2 A9.out).mono ?_); (case side1 => repeat (first | exact (Kd.C_below HR0.out HB.out) | (with_reducible refine Kd.C_alloc ?_ _) | (with_reducible refine Kd.C_drewN ?_ _) | (with_reducible refine Kd.C_drew ?_))); (case side2 => exact HC0.out); rintro e w121 ⟨v987, rfl, ho0, hb⟩; refine ⟨_, rfl, ?_⟩; have n0_ := Aside0.mk (Kd.R_elder' (by (with_reducible repeat (first | apply Kd.R_alloc | apply Kd.R_drewN | apply Kd.R_drew)); exact HO979.out) (Kd.R_base ho0) hb); have n1_ := Aside0.mk (Kd.R_elder' (by (with_reducible repeat (first | apply Kd.R_alloc | apply Kd.R_drewN | apply Kd.R_drew)); exact HO982.out) (Kd.R_base ho0) hb); have n2_ := Aside0.mk (Kd.R_elder' (by (with_reducible repeat (first | apply Kd.R_alloc | apply Kd.R_drewN | apply Kd.R_drew)); exact HO985.out) (Kd.R_base ho0) hb); have n3_ := Aside0.mk (Kd.R_lower (Kd.R_new' (Kd.R_new' (Kd.R_new' ho0 (Kd.R_lt (by (with_reducible repeat (first | apply Kd.R_alloc | apply Kd.R_drewN | apply Kd.R_drew)); exact HO979.out))) (Kd.R_lt (by (with_reducible repeat (first | apply Kd.R_alloc | apply Kd.R_drewN | apply Kd.R_drew)); exact HO982.out))) (Kd.R_lt (by (with_reducible repeat (first | apply Kd.R_alloc | apply Kd.R_drewN | apply Kd.R_drew)); exact HO985.out))) (below_size (by repeat (first | (with_reducible first | exact HB.out | apply below_alloc | apply pw_below_drewN | apply below_drew1) | exact HB.out)))); have n4_ := Aside0.mk (below_step (by repeat (first | (with_reducible first | exact HB.out | apply below_alloc | apply pw_below_drewN | apply below_drew1) | exact HB.out)) hb); clear HO979; clear HO982; clear HO985; clear HB; have HO979 := n0_; have HO982 := n1_; have HO985 := n2_; have HO988 := n3_; have HB := n4_; clear n0_ n1_ n2_ n3_ n4_; (try clear hb); (try clear hb2); (try clear hk); (try clear hi); (try clear ho0)) | ((with_reducible refine gate_callee (f := 44) rfl ?_); refine goesL_ (some 30) rfl rfl Try.func44 (by kernel_rfl) rfl #[.slice A2 l2.length c2] rfl (by (try simp only [List.map_toArray, List.map_cons, List.map_nil]); first | done | rfl | (simp only [List.length_drop, List.length_take]; rfl)) ?_; (with_reducible refine (laws_toIntS.calls k _ _ l2 t989 _ ?side1 ?side2 A10.out).mono ?_); (case side1 => repeat (first | exact (Kd.C_below HR2.out HB.out) | (with_reducible refine Kd.C_alloc ?_ _) | (with_reducible refine Kd.C_drewN ?_ _) | (with_reducible refine Kd.C_drew ?_))); (case side2 => exact HC2.out); rintro e w122 ⟨v990, rfl, ho0, hb⟩; refine ⟨_, rfl, ?_⟩; have n0_ := Aside0.mk (Kd.R_elder' (by (with_reducible repeat (first | apply Kd.R_alloc | apply Kd.R_drewN | apply Kd.R_drew)); exact HO979.out) (Kd.R_base ho0) hb); have n1_ := Aside0.mk (Kd.R_elder' (by (with_reducible repeat (first | apply Kd.R_alloc | apply Kd.R_drewN | apply Kd.R_drew)); exact HO982.out) (Kd.R_base ho0) hb); have n2_ := Aside0.mk (Kd.R_elder' (by (with_reducible repeat (first | apply Kd.R_alloc | apply Kd.R_drewN | apply Kd.R_drew)); exact HO985.out) (Kd.R_base ho0) hb); have n3_ := Aside0.mk (Kd.R_elder' (by (with_reducible repeat (first | apply Kd.R_alloc | apply Kd.R_drewN | apply Kd.R_drew)); exact HO988.out) (Kd.R_base ho0) hb); have n4_ := Aside0.mk (Kd.R_lower (Kd.R_new' (Kd.R_new' (Kd.R_new' (Kd.R_new' ho0 (Kd.R_lt (by (with_reducible repeat (first | apply Kd.R_alloc | apply Kd.R_drewN | apply Kd.R_drew)); exact HO979.out))) (Kd.R_lt (by (with_reducible repeat (first | apply Kd.R_alloc | apply Kd.R_drewN | apply Kd.R_drew)); exact HO982.out))) (Kd.R_lt (by (with_reducible repeat (first | apply Kd.R_alloc | apply Kd.R_drewN | apply Kd.R_drew)); exact HO985.out))) (Kd.R_lt (by (with_reducible repeat (first | apply Kd.R_alloc | apply Kd.R_drewN | apply Kd.R_drew)); exact HO988.out))) (below_size (by repeat (first | (with_reducible first | exact HB.out | apply below_alloc | apply pw_below_drewN | apply below_drew1) | exact HB.out)))); have n5_ := Aside0.mk (below_step (by repeat (first | (with_reducible first | exact HB.out | apply below_alloc | apply pw_below_drewN | apply below_drew1) | exact HB.out)) hb); clear HO979; clear HO982; clear HO985; clear HO988; clear HB; have HO979 := n0_; have HO982 := n1_; have HO985 := n2_; have HO988 := n3_; have HO991 := n4_; have HB := n5_; clear n0_ n1_ n2_ n3_ n4_ n5_; (try clear hb); (try clear hb2); (try clear hk); (try clear hi); (try clear ho0); obtain ⟨Ao123, co123, eo123⟩ := Kd.R_slice HO988.out; subst eo123; obtain ⟨Ao124, co124, eo124⟩ := Kd.R_slice HO991.out; subst eo124) | ((with_reducible refine gate_callee (f := 47) rfl ?_); refine goesL_ (some 34) rfl rfl Try.func47 (by kernel_rfl) rfl #[.slice Ao123 t986.length co123, .int .i64 a1, .slice Ao124 t989.length co124] rfl (by (try simp only [List.map_toArray, List.map_cons, List.map_nil]); first | done | rfl | (simp only [List.length_drop, List.length_take]; rfl)) ?_; (with_reducible refine (impl_ExtensionsOf.calls k _ _ t986 a1 _ _ t989 t992 _ ?side1 ?side2 ?side3 ?side4 A11.out).mono ?_); (case side1 => repeat (first | exact (Kd.R_reads' HO988.out).2.2 | (with_reducible refine Kd.C_alloc ?_ _) | (with_reducible refine Kd.C_drewN ?_ _) | (with_reducible refine Kd.C_drew ?_))); (case side2 => exact (Kd.R_reads' HO988.out).2.1); (case side3 => repeat (first | exact (Kd.R_reads' HO991.out).2.2 | (with_reducible refine Kd.C_alloc ?_ _) | (with_reducible refine Kd.C_drewN ?_ _) | (with_reducible refine Kd.C_drew ?_))); (case side4 => exact (Kd.R_reads' HO991.out).2.1); rintro e w125 ⟨v993, rfl, ho0, hb⟩; refine ⟨_, rfl, ?_⟩; have n0_ := Aside0.mk (Kd.R_elder' (by (with_reducible repeat (first | apply Kd.R_alloc | apply Kd.R_drewN | apply Kd.R_drew)); exact HO979.out) (Kd.R_base ho0) hb); have n1_ := Aside0.mk (Kd.R_elder' (by (with_reducible repeat (first | apply Kd.R_alloc | apply Kd.R_drewN | apply Kd.R_drew)); exact HO982.out) (Kd.R_base ho0) hb); have n2_ := Aside0.mk (Kd.R_elder' (by (with_reducible repeat (first | apply Kd.R_alloc | apply Kd.R_drewN | apply Kd.R_drew)); exact HO985.out) (Kd.R_base ho0) hb); have n3_ := Aside0.mk (Kd.R_elder' (by (with_reducible repeat (first | apply Kd.R_alloc | apply Kd.R_drewN | apply Kd.R_drew)); exact HO988.out) (Kd.R_base ho0) hb); have n4_ := Aside0.mk (Kd.R_elder' (by (with_reducible repeat (first | apply Kd.R_alloc | apply Kd.R_drewN | apply Kd.R_drew)); exact HO991.out) (Kd.R_base ho0) hb); have n5_ := Aside0.mk (Kd.R_lower (Kd.R_new' (Kd.R_new' (Kd.R_new' (Kd.R_new' (Kd.R_new' ho0 (Kd.R_lt (by (with_reducible repeat (first | apply Kd.R_alloc | apply Kd.R_drewN | apply Kd.R_drew)); exact HO979.out))) (Kd.R_lt (by (with_reducible repeat (first | apply Kd.R_alloc | apply Kd.R_drewN | apply Kd.R_drew)); exact HO982.out))) (Kd.R_lt (by (with_reducible repeat (first | apply Kd.R_alloc | apply Kd.R_drewN | apply Kd.R_drew)); exact HO985.out))) (Kd.R_lt (by (with_reducible repeat (first | apply Kd.R_alloc | apply Kd.R_drewN | apply Kd.R_drew)); exact HO988.out))) (Kd.R_lt (by (with_reducible repeat (first | apply Kd.R_alloc | apply Kd.R_drewN | apply Kd.R_drew)); exact HO991.out))) (below_size (by repeat (first | (with_reducible first | exact HB.out | apply below_alloc | apply pw_below_drewN | apply below_drew1) | exact HB.out)))); have n6_ := Aside0.mk (below_step (by repeat (first | (with_reducible first | exact HB.out | apply below_alloc | apply pw_below_drewN | apply below_drew1) | exact HB.out)) hb); clear HO979; clear HO982; clear HO985; clear HO988; clear HO991; clear HB; have HO979 := n0_; have HO982 := n1_; have HO985 := n2_; have HO988 := n3_; have HO991 := n4_; have HO994 := n5_; have HB := n6_; clear n0_ n1_ n2_ n3_ n4_ n5_ n6_; (try clear hb); (try clear hb2); (try clear hk); (try clear hi); (try clear ho0); obtain ⟨Ao126, co126, eo126⟩ := Kd.R_slice HO994.out; subst eo126; obtain ⟨Ao127, co127, eo127⟩ := Kd.R_slice HO985.out; subst eo127) | ((with_reducible refine gate_callee (f := 16) rfl ?_); refine goesL_ (some 37) rfl rfl Try.func16 (by kernel_rfl) rfl #[.slice Ao126 t992.length co126, .slice Ao127 t983.length co127] rfl (by (try simp only [List.map_toArray, List.map_cons, List.map_nil]); first | done | rfl | (simp only [List.length_drop, List.length_take]; rfl)) ?_; (with_reducible refine (laws_eqIntS.calls k _ _ t992 _ _ t983 false _ ?side1 ?side2 ?side3 ?side4 A12.out).mono ?_); (case side1 => repeat (first | exact (Kd.R_reads' HO994.out).2.2 | (with_reducible refine Kd.C_alloc ?_ _) | (with_reducible refine Kd.C_drewN ?_ _) | (with_reducible refine Kd.C_drew ?_))); (case side2 => exact (Kd.R_reads' HO994.out).2.1); (case side3 => repeat (first | exact (Kd.R_reads' HO985.out).2.2 | (with_reducible refine Kd.C_alloc ?_ _) | (with_reducible refine Kd.C_drewN ?_ _) | (with_reducible refine Kd.C_drew ?_))); (case side4 => exact (Kd.R_reads' HO985.out).2.1); rintro e w' ⟨rfl, ⟨nd, rfl⟩⟩; refine ⟨_, rfl, ?_⟩))
    go_ret
    exact ⟨by first | rfl | (simp [errW_none, errW_some] <;> rfl) | (simp [*, errW_none, errW_some] <;> rfl), by repeat (first | (with_reducible first | exact HB.out | apply below_alloc | apply pw_below_drewN | apply below_drew1) | exact HB.out)⟩

/-- THE ONE PURE STATEMENT of laws_FnExactExtensionsOf: yours. -/
def laws_FnExactExtensionsOf.Pure : Prop := ∀ (l0 : List Int) (a1 : Int) (l2 : List Int), l0.length ≤ maxLen → l0.length * 8 ≤ 140737488351232 → (∀ x ∈ l0, (Lit.int .i64 x).wf = true) → (Lit.int .i64 a1).wf = true → l2.length ≤ maxLen → l2.length * 8 ≤ 140737488351232 → (∀ x ∈ l2, (Lit.int .i64 x).wf = true) → ∃ k, laws_FnExactExtensionsOf.f k l0 a1 l2 = some true
theorem laws_FnExactExtensionsOf.walk (P : laws_FnExactExtensionsOf.Pure) (a0 : Option Addr) (len0 cap0 : Nat) (z0 : List Int) (a1 : Int) (a2 : Option Addr) (len2 cap2 : Nat) (z2 : List Int) (w : World) (w0 : (a0 = none ∧ len0 = 0 ∧ cap0 = 0 ∧ z0 = []) ∨ ∃ x, a0 = some x ∧ len0 ≤ cap0 ∧ cap0 ≤ maxLen ∧ z0.length = cap0 ∧ (∀ i, i < z0.length → w.cell? (x.add i) = some (.int .i64 (z0.getD i 0))) ∧ ∀ n ∈ z0, (Lit.int .i64 n).wf = true) (y0 : len0 * 8 ≤ 140737488351232) (w1 : (Lit.int .i64 a1).wf = true) (w2 : (a2 = none ∧ len2 = 0 ∧ cap2 = 0 ∧ z2 = []) ∨ ∃ x, a2 = some x ∧ len2 ≤ cap2 ∧ cap2 ≤ maxLen ∧ z2.length = cap2 ∧ (∀ i, i < z2.length → w.cell? (x.add i) = some (.int .i64 (z2.getD i 0))) ∧ ∀ n ∈ z2, (Lit.int .i64 n).wf = true) (y2 : len2 * 8 ≤ 140737488351232) :
  Calls Try.prog 7 #[.slice a0 len0 cap0, .int .i64 a1, .slice a2 len2 cap2] w fun e w' => e = .returned (.bool true) ∧ Below w.heap.size w w' := by
 obtain ⟨l0, rfl, hr0, hm0, hw0, hc0⟩ := ReadsInt.ofRowC w0
 obtain ⟨l2, rfl, hr2, hm2, hw2, hc2⟩ := ReadsInt.ofRowC w2
 obtain ⟨k, h⟩ := P l0 a1 l2 hm0 y0 hw0 w1 hm2 y2 hw2
 refine (laws_FnExactExtensionsOf.calls k _ _ l0 a1 _ _ l2 true w (Kd.C_of_reads (d := (0 : Int)) (h1 := fun _ => rfl) hr0) hc0 (Kd.C_of_reads (d := (0 : Int)) (h1 := fun _ => rfl) hr2) hc2 h).mono ?_
 rintro e w' ⟨rfl, hd⟩
 exact ⟨rfl, hd⟩

end Go.Proofs.Ythkkpdgadfhijaa.M
/- Patterns and matches as values: program and reference tell the same. No condition but lengths that fit. -/
namespace Go.Proofs.Ythkkpdgadfhijaa.M
open Go.RowKit Go.Proofs.YthkkpdgadfhijaaW.PrintWords Go.Proofs.Ythkkpdgadfhijaa.K
set_option linter.unusedVariables false
theorem in_val (x a b : Int) : spec_l1In.f x a b = some (decide (a ≤ x ∧ x ≤ b)) := by
  unfold spec_l1In.f
  by_cases h : x ≥ a
  · rw [_root_.if_pos h]
    by_cases k : x ≤ b
    · rw [decide_eq_true k, decide_eq_true ⟨h, k⟩]
    · rw [decide_eq_false k, decide_eq_false (fun q => k q.2)]
  · rw [_root_.if_neg h, decide_eq_false (fun q => h q.1)]

/-- The letters of a pattern, counted as they come; none: it is no pattern. -/
def ngo : List Int → Nat → Option Nat
  | [], m => some m
  | x :: p, m => if x < 0 ∨ (m : Int) < x then none else ngo p (if x = (m : Int) then m + 1 else m)
def isPat (p : List Int) : Bool := match ngo p 0 with
  | none => false
  | some m => decide (p.length ≤ 6 ∧ m ≤ 3 ∧ 1 ≤ m)
def nl (p : List Int) : Nat := (ngo p 0).getD 0
theorem ngo_le (p : List Int) : ∀ m m', ngo p m = some m' → m ≤ m' ∧ m' ≤ m + p.length := by
  induction p with
  | nil => intro m m' h; simp only [ngo] at h; obtain rfl := Option.some.inj h; simp
  | cons x p ih =>
    intro m m' h
    simp only [ngo] at h
    split at h
    · cases h
    · have := ih _ _ h
      simp only [List.length_cons]
      split at this <;> omega
theorem ngo_pos (p : List Int) (m' : Nat) (h : ngo p 0 = some m') : 1 ≤ m' ↔ 1 ≤ p.length := by
  cases p with
  | nil => simp only [ngo] at h; obtain rfl := Option.some.inj h; simp
  | cons x p =>
    simp only [ngo] at h
    split at h
    · cases h
    · rename_i q
      have hx : x = 0 := by omega
      subst hx
      have := ngo_le _ _ _ h
      rw [_root_.if_pos (by rfl)] at this
      simp only [List.length_cons]; omega
theorem ngo_mem (p : List Int) : ∀ m m', ngo p m = some m' → (∀ x ∈ p, 0 ≤ x ∧ x < (m' : Int)) ∧ ∀ j : Nat, m ≤ j → j < m' → (j : Int) ∈ p := by
  induction p with
  | nil => intro m m' h; simp only [ngo] at h; obtain rfl := Option.some.inj h; exact ⟨by simp, fun j h1 h2 => by omega⟩
  | cons x p ih =>
    intro m m' h
    simp only [ngo] at h
    split at h
    · cases h
    · rename_i q
      obtain ⟨h1, h2⟩ := ih _ _ h
      have h3 := ngo_le _ _ _ h
      refine ⟨fun y hy => ?_, fun j hj hj' => ?_⟩
      · rcases List.mem_cons.1 hy with rfl | hy
        · split at h3 <;> omega
        · exact h1 y hy
      · by_cases e : x = (m : Int)
        · rw [_root_.if_pos e] at h2
          by_cases e2 : j = m
          · subst e2; rw [e]; exact List.mem_cons_self ..
          · exact List.mem_cons_of_mem _ (h2 j (by omega) hj')
        · rw [_root_.if_neg e] at h2
          exact List.mem_cons_of_mem _ (h2 j hj hj')
theorem specIsPattern_ev (p : List Int) (hp : p.length ≤ 1048576) : Ev (fun k => spec_IsPattern.f k p) (isPat p) := by
  have key : ∀ i, i ≤ p.length → ∀ m : Nat, m ≤ 3 → m ≤ i → Ev (fun k => spec_IsPattern.l0 k p (m : Int) (i : Int)) (match ngo (p.drop i) m with | none => false | some m' => decide (p.length ≤ 6 ∧ m' ≤ 3 ∧ 1 ≤ p.length)) := by
    refine down p.length ?_ ?_
    · intro m hm hi
      refine Ev.step (fun k => by simp only [spec_IsPattern.l0]; rw [_root_.if_neg (by omega)]) ?_
      refine Ev.bind (Ev.val (in_val _ _ _)) ?_
      rw [List.drop_length]
      simp only [ngo]
      refine Ev.same (Ev.some _) ?_
      exact decide_eq_decide.2 (by omega)
    · intro i hi ih m hm hmi
      rw [drop_eq p i hi]
      simp only [ngo]
      have bad : ∀ b, b = true → Ev (fun k => spec_IsPattern.j1 k p (m : Int) (i : Int) b) false := fun b hb => by
        refine Ev.step (fun k => by simp only [spec_IsPattern.j1]; rw [_root_.if_pos hb]) ?_
        exact Ev.some _
      refine Ev.step (fun k => by simp only [spec_IsPattern.l0]; rw [_root_.if_pos (by omega), _root_.if_pos (by omega), rd_get p i hi]) ?_
      refine Ev.ite (fun q1 => ?_) (fun q1 => ?_)
      · rw [_root_.if_pos (Or.inl q1)]; exact bad _ rfl
      · refine Ev.ite (fun q2 => ?_) (fun q2 => ?_)
        · rw [_root_.if_pos (Or.inr q2)]; exact bad _ rfl
        · rw [_root_.if_neg (by omega)]
          by_cases q3 : p[i] > 2
          · rw [decide_eq_true q3]
            refine Ev.same (bad _ rfl) ?_
            have e1 : p[i] = (m : Int) := by omega
            rw [_root_.if_pos e1]
            split
            · rfl
            · rename_i m' h
              have := ngo_le _ _ _ h
              rw [decide_eq_false (by omega)]
          · rw [decide_eq_false q3]
            refine Ev.step (fun k => by simp only [spec_IsPattern.j1]; rw [_root_.if_neg (by simp), _root_.if_pos (by omega), _root_.if_pos (by omega), rd_get p i hi, wsucc (i := m) (by omega), wsucc (i := i) (by omega)]) ?_
            refine Ev.ite (fun e => ?_) (fun e => ?_)
            · rw [_root_.if_pos e]; exact ih (m + 1) (by omega) (by omega)
            · rw [_root_.if_neg e]; exact ih m hm (by omega)
  have := key 0 (by omega) 0 (by omega) (by omega)
  unfold spec_IsPattern.f
  refine Ev.same this ?_
  unfold isPat
  rw [List.drop_zero]
  split
  · rfl
  · rename_i m h
    have := ngo_pos p m h
    exact decide_eq_decide.2 (by omega)
theorem implLetters_ev (p : List Int) (hp : p.length ≤ 1048576) : Ev (fun k => impl_patternLetters.f k p) (if isPat p = true then (nl p : Int) else 0) := by
  have key : ∀ i, i ≤ p.length → ∀ m : Nat, m ≤ i → Ev (fun k => impl_patternLetters.l0 k p (m : Int) p (p.length : Int) (i : Int)) (match ngo (p.drop i) m with | none => 0 | some m' => if p.length ≤ 6 ∧ m' ≤ 3 then (m' : Int) else 0) := by
    refine down p.length ?_ ?_
    · intro m hm
      refine Ev.step (fun k => by simp only [impl_patternLetters.l0]; rw [_root_.if_neg (by omega)]) ?_
      rw [List.drop_length]
      simp only [ngo]
      refine Ev.ite (fun q => ?_) (fun q => ?_)
      · rw [_root_.if_neg (by omega)]; exact Ev.some _
      · refine Ev.ite (fun q2 => ?_) (fun q2 => ?_)
        · rw [_root_.if_neg (by omega)]; exact Ev.some _
        · rw [_root_.if_pos (by omega)]; exact Ev.some _
    · intro i hi ih m hmi
      rw [drop_eq p i hi]
      simp only [ngo]
      have bad : ∀ b, b = true → Ev (fun k => impl_patternLetters.j1 k p (m : Int) p[i] p (p.length : Int) (i : Int) b) 0 := fun b hb => by
        refine Ev.step (fun k => by simp only [impl_patternLetters.j1]; rw [_root_.if_pos hb]) ?_
        exact Ev.some _
      refine Ev.step (fun k => by simp only [impl_patternLetters.l0]; rw [_root_.if_pos (by omega), _root_.if_pos (by omega), _root_.if_pos (by omega), rd_get p i hi]) ?_
      refine Ev.ite (fun q1 => ?_) (fun q1 => ?_)
      · rw [_root_.if_pos (Or.inl q1)]; exact bad _ rfl
      · by_cases q2 : p[i] > (m : Int)
        · rw [decide_eq_true q2, _root_.if_pos (Or.inr q2)]; exact bad _ rfl
        · rw [decide_eq_false q2, _root_.if_neg (by omega)]
          refine Ev.step (fun k => by simp only [impl_patternLetters.j1]; rw [_root_.if_neg (by simp), wsucc (i := m) (by omega), wsucc (i := i) (by omega)]) ?_
          refine Ev.ite (fun e => ?_) (fun e => ?_)
          · rw [_root_.if_pos e]; exact ih (m + 1) (by omega)
          · rw [_root_.if_neg e]; exact ih m (by omega)
  have := key 0 (by omega) 0 (by omega)
  unfold impl_patternLetters.f
  refine Ev.same this ?_
  unfold isPat nl
  rw [List.drop_zero]
  cases h : ngo p 0 with
  | none => rfl
  | some m =>
    simp only [Option.getD_some]
    by_cases q : p.length ≤ 6 ∧ m ≤ 3
    · rw [_root_.if_pos q]
      by_cases q2 : 1 ≤ m
      · rw [decide_eq_true ⟨q.1, q.2, q2⟩, _root_.if_pos rfl]
      · rw [decide_eq_false (fun x => q2 x.2.2), _root_.if_neg (by simp)]; omega
    · rw [_root_.if_neg q, decide_eq_false (fun x => q ⟨x.1, x.2.1⟩), _root_.if_neg (by simp)]
theorem isPat_nl {p : List Int} (h : isPat p = true) : ngo p 0 = some (nl p) ∧ p.length ≤ 6 ∧ nl p ≤ 3 ∧ 1 ≤ nl p := by
  unfold isPat at h
  unfold nl
  cases q : ngo p 0 with
  | none => rw [q] at h; cases h
  | some m => rw [q] at h; exact ⟨rfl, of_decide_eq_true h⟩
theorem implIsPattern_ev (p : List Int) (hp : p.length ≤ 1048576) : Ev (fun k => impl_IsPattern.f k p) (isPat p) := by
  unfold impl_IsPattern.f
  refine Ev.bind (implLetters_ev p hp) (Ev.same (Ev.some _) ?_)
  cases h : isPat p with
  | false => simp
  | true => rw [_root_.if_pos rfl]; have := (isPat_nl h).2.2.2; exact decide_eq_true (by omega)
/-- For a pattern alone. -/
theorem specLetters_ev (p : List Int) (h : isPat p = true) : Ev (fun k => spec_l28Letters.f k p) (nl p : Int) := by
  obtain ⟨h0, h6, h3, h1⟩ := isPat_nl h
  have key : ∀ i, i ≤ p.length → ∀ m : Nat, m ≤ 10 → ngo (p.drop i) m = some (nl p) → Ev (fun k => spec_l28Letters.l0 k p (m : Int) (i : Int)) (nl p : Int) := by
    refine down p.length ?_ ?_
    · intro m hm hn
      refine Ev.step (fun k => by simp only [spec_l28Letters.l0]; rw [_root_.if_neg (by omega)]) ?_
      rw [List.drop_length] at hn
      simp only [ngo] at hn
      obtain e := Option.some.inj hn
      rw [e]; exact Ev.some _
    · intro i hi ih m hm hn
      rw [drop_eq p i hi] at hn
      simp only [ngo] at hn
      split at hn
      · cases hn
      · rename_i q
        have hle := ngo_le _ _ _ hn
        have e : mx (m : Int) (wrap64 (p[i] + 1)) = ((if p[i] = (m : Int) then m + 1 else m : Nat) : Int) := by
          rw [w_id (by omega) (by omega)]
          unfold mx
          split <;> split <;> omega
        refine Ev.step (fun k => by simp only [spec_l28Letters.l0]; rw [_root_.if_pos (by omega), _root_.if_pos (by omega), rd_get p i hi, e, wsucc (i := i) (by omega)]) ?_
        exact ih _ (by split at hle <;> split <;> omega) hn
  exact key 0 (by omega) 0 (by omega) (by rw [List.drop_zero]; exact h0)
/-- Lengths that fit a pattern. -/
def okL (p L : List Int) : Bool := isPat p && (decide (L.length = nl p) && L.all fun y => decide (1 ≤ y ∧ y ≤ 40))
theorem specLengths_ev (p L : List Int) (hp : p.length ≤ 1048576) (hL : L.length ≤ 1048576) : Ev (fun k => spec_l28Lengths.f k p L) (okL p L) := by
  have key : ∀ i, i ≤ L.length → Ev (fun k => spec_l28Lengths.l0 k p L (i : Int)) (isPat p && (decide (L.length = nl p) && (L.drop i).all fun y => decide (1 ≤ y ∧ y ≤ 40))) := by
    refine down L.length ?_ ?_
    · refine Ev.step (fun k => by simp only [spec_l28Lengths.l0]; rw [_root_.if_neg (by omega)]) ?_
      refine Ev.bind (specIsPattern_ev p hp) ?_
      rw [List.drop_length]
      cases h : isPat p with
      | false => exact Ev.if_neg (by simp) (Ev.some _)
      | true =>
        refine Ev.if_pos rfl (Ev.bind (specLetters_ev p h) (Ev.same (Ev.some _) ?_))
        rw [List.all_nil, Bool.and_true, Bool.true_and, Bool.eq_iff_iff, beq_iff_eq, decide_eq_true_iff]
        omega
    · intro i hi ih
      rw [drop_eq L i hi, List.all_cons]
      refine Ev.step (fun k => by simp only [spec_l28Lengths.l0]; rw [_root_.if_pos (by omega), _root_.if_pos (by omega), rd_get L i hi, wsucc (i := i) (by omega)]) ?_
      refine Ev.bind (Ev.val (in_val _ _ _)) ?_
      by_cases q : 1 ≤ L[i] ∧ L[i] ≤ 40
      · rw [decide_eq_true q, Bool.true_and]; exact Ev.if_pos rfl ih
      · rw [decide_eq_false q, Bool.false_and, Bool.and_false, Bool.and_false]; exact Ev.if_neg (by simp) (Ev.some _)
  exact key 0 (by omega)
theorem implLengths_ev (p L : List Int) (hp : p.length ≤ 1048576) (hL : L.length ≤ 1048576) : Ev (fun k => impl_areLengths.f k p L) (okL p L) := by
  have bad : ∀ b, b = true → Ev (fun k => impl_areLengths.j0 k L b) false := fun b hb => by
    refine Ev.step (fun k => by simp only [impl_areLengths.j0]; rw [_root_.if_pos hb]) ?_
    exact Ev.some _
  unfold impl_areLengths.f okL
  refine Ev.bind (implIsPattern_ev p hp) ?_
  cases h : isPat p with
  | false => exact Ev.if_neg (by simp) (bad _ rfl)
  | true =>
    refine Ev.if_pos rfl (Ev.bind (implLetters_ev p hp) ?_)
    rw [_root_.if_pos h, Bool.true_and]
    by_cases e : L.length = nl p
    · rw [e, decide_eq_true rfl, Bool.true_and]
      have hne : ((nl p : Int) != (nl p : Int)) = false := by simp
      rw [hne]
      have key : ∀ i, i ≤ L.length → Ev (fun k => impl_areLengths.l0 k L (L.length : Int) (i : Int)) ((L.drop i).all fun y => decide (1 ≤ y ∧ y ≤ 40)) := by
        refine down L.length ?_ ?_
        · refine Ev.step (fun k => by simp only [impl_areLengths.l0]; rw [_root_.if_neg (by omega)]) ?_
          rw [List.drop_length]; exact Ev.some _
        · intro i hi ih
          rw [drop_eq L i hi, List.all_cons]
          refine Ev.step (fun k => by simp only [impl_areLengths.l0]; rw [_root_.if_pos (by omega), _root_.if_pos (by omega), _root_.if_pos (by omega), rd_get L i hi, wsucc (i := i) (by omega)]) ?_
          refine Ev.ite (fun q => ?_) (fun q => ?_)
          · rw [decide_eq_false (by omega), Bool.false_and]; exact Ev.some _
          · refine Ev.ite (fun q2 => ?_) (fun q2 => ?_)
            · rw [decide_eq_false (by omega), Bool.false_and]; exact Ev.some _
            · rw [decide_eq_true (by omega), Bool.true_and]; exact ih
      refine Ev.step (fun k => by simp only [impl_areLengths.j0]; rw [_root_.if_neg (by simp)]) ?_
      exact key 0 (by omega)
    · rw [decide_eq_false e, Bool.false_and]
      exact bad _ (by rw [bne_iff_ne]; omega)
end Go.Proofs.Ythkkpdgadfhijaa.M
/- Matches of patterns as values: program and reference tell the same. No condition but lengths that fit. -/
namespace Go.Proofs.Ythkkpdgadfhijaa.M
open Go.RowKit Go.Proofs.YthkkpdgadfhijaaW.PrintWords Go.Proofs.Ythkkpdgadfhijaa.K
set_option linter.unusedVariables false
/-- How long a match is. -/
def tot (L : List Int) : List Int → Nat
  | [] => 0
  | x :: p => (L.getD x.toNat 0).toNat + tot L p
theorem tot_append (L p q : List Int) : tot L (p ++ q) = tot L p + tot L q := by
  induction p with
  | nil => simp [tot]
  | cons x p ih => simp only [List.cons_append, tot, ih]; omega
theorem okL_at {p L : List Int} (h : okL p L = true) : isPat p = true ∧ L.length = nl p ∧ (∀ y ∈ L, 1 ≤ y ∧ y ≤ 40) ∧ ∀ x ∈ p, 0 ≤ x ∧ x < (L.length : Int) ∧ x < 3 := by
  unfold okL at h
  rw [Bool.and_eq_true, Bool.and_eq_true, List.all_eq_true] at h
  obtain ⟨h1, h2, h3⟩ := h
  have h2 := of_decide_eq_true h2
  obtain ⟨h0, h6, hn3, hn1⟩ := isPat_nl h1
  refine ⟨h1, h2, fun y hy => of_decide_eq_true (h3 y hy), fun x hx => ?_⟩
  have := (ngo_mem p 0 _ h0).1 x hx
  omega
theorem tot_le (L : List Int) (hL : ∀ y ∈ L, 1 ≤ y ∧ y ≤ 40) (p : List Int) (hp : ∀ x ∈ p, 0 ≤ x ∧ x < (L.length : Int)) : p.length ≤ tot L p ∧ tot L p ≤ 40 * p.length := by
  induction p with
  | nil => simp [tot]
  | cons x p ih =>
    have h1 := ih (fun y hy => hp y (List.mem_cons_of_mem _ hy))
    have h2 := hp x (List.mem_cons_self ..)
    have h3 : x.toNat < L.length := by omega
    have h4 := hL _ (List.getElem_mem h3)
    simp only [tot, List.length_cons]
    rw [List.getD_eq_getElem?_getD, List.getElem?_eq_getElem h3]
    simp only [Option.getD_some]
    omega
theorem specMatchLength_ev (p L : List Int) (hp : p.length ≤ 1048576) (hL : L.length ≤ 1048576) : Ev (fun k => spec_MatchLength.f k p L) (if okL p L = true then (tot L p : Int) else -1) := by
  unfold spec_MatchLength.f
  refine Ev.bind (specLengths_ev p L hp hL) ?_
  refine Ev.ite (fun h => ?_) (fun h => ?_)
  · rw [_root_.if_pos h]
    obtain ⟨h1, h2, h3, h4⟩ := okL_at h
    have h6 := (isPat_nl h1).2.1
    have key : ∀ i, i ≤ p.length → Ev (fun k => spec_MatchLength.l0 k p L (tot L (p.take i) : Int) (i : Int)) (tot L p : Int) := by
      refine down p.length ?_ ?_
      · refine Ev.step (fun k => by simp only [spec_MatchLength.l0]; rw [_root_.if_neg (by omega)]) ?_
        rw [List.take_length]; exact Ev.some _
      · intro i hi ih
        have h5 := h4 p[i] (List.getElem_mem hi)
        obtain ⟨x, hx⟩ : ∃ x : Nat, p[i] = (x : Int) := ⟨p[i].toNat, by omega⟩
        have hxl : x < L.length := by omega
        have h7 := h3 _ (List.getElem_mem hxl)
        obtain ⟨n, hn⟩ : ∃ n : Nat, L[x] = (n : Int) := ⟨L[x].toNat, by omega⟩
        have h8 := (tot_le L h3 (p.take i) (fun y hy => ⟨(h4 y (List.mem_of_mem_take hy)).1, (h4 y (List.mem_of_mem_take hy)).2.1⟩)).2
        rw [List.length_take] at h8
        rw [take_succ p i hi, tot_append] at ih
        simp only [tot] at ih
        rw [hx, Int.toNat_natCast, List.getD_eq_getElem?_getD, List.getElem?_eq_getElem hxl, Option.getD_some, hn, Int.toNat_natCast] at ih
        refine Ev.step (fun k => by
          simp only [spec_MatchLength.l0]
          rw [_root_.if_pos (by omega), _root_.if_pos (by omega), rd_get p i hi, hx, _root_.if_pos (by omega), _root_.if_pos (by omega), rd_get L x hxl, hn, wsucc (i := i) (by omega), w_id (by omega) (by omega), show ((tot L (p.take i) : Nat) : Int) + (n : Int) = ((tot L (p.take i) + (n + 0) : Nat) : Int) from by omega]) ih
    have := key 0 (by omega)
    rw [List.take_zero] at this
    exact this
  · rw [_root_.if_neg h]; exact Ev.some _

/-- Held against the word: does a pattern match at a place with lengths. -/
def mAt (w p : List Int) (at_ : Nat) (L : List Int) : Bool := okL p L && (decide (at_ ≤ w.length) && mgo w L p at_ (List.replicate L.length none))
theorem mgo_long (w L : List Int) (p : List Int) : ∀ i us, i ≤ w.length → w.length < i + tot L p → mgo w L p i us = false := by
  induction p with
  | nil => intro i us h1 h2; simp only [tot] at h2; omega
  | cons x p ih =>
    intro i us h1 h2
    simp only [tot] at h2
    simp only [mgo]
    by_cases q : w.length < i + (L.getD x.toNat 0).toNat
    · rw [_root_.if_pos q]
    · rw [_root_.if_neg q]
      split
      · exact ih _ _ (by omega) (by omega)
      · split
        · exact ih _ _ (by omega) (by omega)
        · rfl
/-- What the two ways keep in mind tells the same. -/
def Same (w L : List Int) (us : List (Option (List Int))) (fs : List Int) : Prop :=
  us.length = L.length ∧ fs.length = 3 ∧ ∀ j : Nat, j < L.length → match us.getD j none with
    | none => fs.getD j 0 < 0
    | some u => 0 ≤ fs.getD j 0 ∧ (fs.getD j 0).toNat + (L.getD j 0).toNat ≤ w.length ∧ u = (w.take ((fs.getD j 0).toNat + (L.getD j 0).toNat)).drop (fs.getD j 0).toNat
theorem sgo_mgo (w L : List Int) (p : List Int) (hp : ∀ x ∈ p, 0 ≤ x ∧ x < (L.length : Int) ∧ x < 3) : ∀ i us fs, Same w L us fs → i + tot L p ≤ w.length → sgo w L p i fs = some (mgo w L p i us) := by
  induction p with
  | nil => intro i us fs _ _; rfl
  | cons x p ih =>
    intro i us fs hS ht
    obtain ⟨hl, hf, hS⟩ := hS
    have hx := hp x (List.mem_cons_self ..)
    have hx' : x.toNat < L.length := by omega
    have ih := ih (fun y hy => hp y (List.mem_cons_of_mem _ hy))
    simp only [tot] at ht
    simp only [sgo, mgo]
    have h1 := hS x.toNat hx'
    have hn : ¬ w.length < i + (L.getD x.toNat 0).toNat := by omega
    rw [_root_.if_neg hn, _root_.if_neg hn]
    cases hu : us.getD x.toNat none with
    | none =>
      rw [hu] at h1
      simp only at h1 ⊢
      rw [_root_.if_pos h1]
      refine ih _ _ _ ⟨by rw [List.length_set]; exact hl, by rw [List.length_set]; exact hf, fun j hj => ?_⟩ (by omega)
      have h2 := hS j hj
      by_cases e : x.toNat = j
      · subst e
        have e1 : ∀ V, (us.set x.toNat (some V)).getD x.toNat none = some V := fun V => by rw [List.getD_eq_getElem?_getD, List.getElem?_set_self (by omega)]; rfl
        have e2 : (fs.set x.toNat (i : Int)).getD x.toNat 0 = (i : Int) := by rw [List.getD_eq_getElem?_getD, List.getElem?_set_self (by omega)]; rfl
        rw [e1, e2]
        simp only [Int.toNat_natCast]
        exact ⟨by omega, by omega, trivial⟩
      · have e1 : ∀ V, (us.set x.toNat (some V)).getD j none = us.getD j none := fun V => by rw [List.getD_eq_getElem?_getD, List.getElem?_set_ne e, ← List.getD_eq_getElem?_getD]
        have e2 : (fs.set x.toNat (i : Int)).getD j 0 = fs.getD j 0 := by rw [List.getD_eq_getElem?_getD, List.getElem?_set_ne e, ← List.getD_eq_getElem?_getD]
        rw [e1, e2]
        exact h2
    | some u =>
      rw [hu] at h1
      simp only at h1 ⊢
      obtain ⟨h2, h3, h4⟩ := h1
      rw [_root_.if_neg (show ¬ fs.getD x.toNat 0 < 0 by omega), _root_.if_neg (show ¬ w.length < (fs.getD x.toNat 0).toNat + (L.getD x.toNat 0).toNat by omega), ← h4]
      by_cases e : u = (w.take (i + (L.getD x.toNat 0).toNat)).drop i
      · rw [_root_.if_pos e, _root_.if_pos e]
        exact ih _ _ _ ⟨hl, hf, hS⟩ (by omega)
      · rw [_root_.if_neg e, _root_.if_neg e]
theorem mAt_len {w p L : List Int} {at_ : Nat} (h : mAt w p at_ L = true) : okL p L = true ∧ at_ + tot L p ≤ w.length := by
  unfold mAt at h
  rw [Bool.and_eq_true, Bool.and_eq_true] at h
  obtain ⟨h1, h2, h3⟩ := h
  have h2 := of_decide_eq_true h2
  refine ⟨h1, ?_⟩
  apply Nat.le_of_not_lt
  intro q
  rw [mgo_long w L p at_ _ h2 q] at h3
  cases h3
theorem implMatchAt_ev (w p : List Int) (at_ : Nat) (L : List Int) (hw : w.length ≤ 1000000) (hp : p.length ≤ 1048576) (hL : L.length ≤ 1048576) : Ev (fun k => impl_MatchAt.f k w p (at_ : Int) L) (mAt w p at_ L) := by
  unfold impl_MatchAt.f mAt
  refine Ev.bind (implLengths_ev p L hp hL) ?_
  by_cases h : okL p L = true
  · obtain ⟨h1, h2, h3, h4⟩ := okL_at h
    rw [h, Bool.true_and]
    by_cases h5 : at_ ≤ w.length
    · rw [decide_eq_true h5, Bool.true_and]
      have hok : matOk w p L := ⟨fun x hx => ⟨(h4 x hx).1, (h4 x hx).2.1⟩, h3, hw, by have := (isPat_nl h1).2.1; omega, by have := (isPat_nl h1).2.2.1; omega⟩
      refine Ev.if_pos ⟨rfl, by omega, by omega⟩ (Ev.if_pos hok ?_)
      rw [Int.toNat_natCast]; exact Ev.some _
    · rw [decide_eq_false h5, Bool.false_and]
      exact Ev.if_neg (fun q => h5 (by omega)) (Ev.some _)
  · rw [Bool.eq_false_iff.2 h, Bool.false_and]
    exact Ev.if_neg (by simp) (Ev.some _)
theorem specMatchAt_ev (w p : List Int) (at_ : Nat) (L : List Int) (hw : w.length ≤ 1000000) (hp : p.length ≤ 1048576) (hL : L.length ≤ 1048576) : Ev (fun k => spec_MatchAt.f k w p (at_ : Int) L) (mAt w p at_ L) := by
  unfold spec_MatchAt.f
  refine Ev.bind (specMatchLength_ev p L hp hL) ?_
  by_cases h : okL p L = true
  · rw [_root_.if_pos h]
    obtain ⟨h1, h2, h3, h4⟩ := okL_at h
    have h6 := (isPat_nl h1).2.1
    have h7 := (tot_le L h3 p (fun y hy => ⟨(h4 y hy).1, (h4 y hy).2.1⟩)).2
    by_cases h5 : at_ ≤ w.length
    · refine Ev.if_neg (by omega) (Ev.if_neg (fun q => q ⟨hw, by omega⟩) ?_)
      unfold mAt
      rw [h, decide_eq_true h5, Bool.true_and, Bool.true_and]
      by_cases h8 : w.length < at_ + tot L p
      · rw [mgo_long w L p at_ _ h5 h8]
        exact Ev.if_pos (by omega) (Ev.some _)
      · have hok : smatOk w p L := ⟨h4, h3, hw, by omega, by have := (isPat_nl h1).2.2.1; omega⟩
        refine Ev.if_neg (by omega) (Ev.if_pos hok ?_)
        rw [Int.toNat_natCast, sgo_mgo w L p h4 at_ (List.replicate L.length none) [-1, -1, -1] ⟨List.length_replicate, rfl, fun j hj => ?_⟩ (by omega)]
        · exact Ev.some _
        · rw [List.getD_eq_getElem?_getD]
          have hj3 : j < 3 := by have := (isPat_nl h1).2.2.1; omega
          simp only [List.getElem?_replicate, hj, if_true, Option.getD_some]
          rcases j with _ | _ | _ | j
          · decide
          · decide
          · decide
          · omega
    · unfold mAt
      rw [decide_eq_false h5, Bool.false_and, Bool.and_false]
      exact Ev.if_pos (by omega) (Ev.some _)
  · rw [_root_.if_neg h]
    unfold mAt
    rw [Bool.eq_false_iff.2 h, Bool.false_and]
    exact Ev.if_pos (by omega) (Ev.some _)

/-- The first of the lists that begin as pre, go on with a number from a to K and d more from 1 to K, at which F tells something. -/
def srch (K : Nat) (F : List Int → Option (List Int)) : Nat → List Int → Nat → Option (List Int)
  | 0, pre, a => (List.range' a (K + 1 - a)).findSome? fun (j : Nat) => F (pre ++ [(j : Int)])
  | d + 1, pre, a => (List.range' a (K + 1 - a)).findSome? fun (j : Nat) => srch K F d (pre ++ [(j : Int)]) 1
def inner (K : Nat) (F : List Int → Option (List Int)) : Nat → List Int → Nat → Option (List Int)
  | 0, pre, j => F (pre ++ [(j : Int)])
  | d + 1, pre, j => srch K F d (pre ++ [(j : Int)]) 1
theorem srch_def (K : Nat) (F : List Int → Option (List Int)) (d : Nat) (pre : List Int) (a : Nat) : srch K F d pre a = (List.range' a (K + 1 - a)).findSome? (inner K F d pre) := by cases d <;> rfl
theorem srch_end (K : Nat) (F : List Int → Option (List Int)) (d : Nat) (pre : List Int) (a : Nat) (h : K < a) : srch K F d pre a = none := by
  rw [srch_def, show K + 1 - a = 0 from by omega]; rfl
theorem srch_step (K : Nat) (F : List Int → Option (List Int)) (d : Nat) (pre : List Int) (a : Nat) (h : a ≤ K) : srch K F d pre a = (inner K F d pre a).or (srch K F d pre (a + 1)) := by
  rw [srch_def, srch_def, show K + 1 - a = (K + 1 - (a + 1)) + 1 from by omega, List.range'_succ, List.findSome?_cons]
  cases inner K F d pre a <;> rfl
theorem srch_some (K : Nat) (F : List Int → Option (List Int)) : ∀ d pre a, (srch K F d pre a).isSome = true ↔ ∃ (j : Nat) (s : List Int), a ≤ j ∧ j ≤ K ∧ s.length = d ∧ (∀ y ∈ s, 1 ≤ y ∧ y ≤ (K : Int)) ∧ (F (pre ++ (j : Int) :: s)).isSome = true := by
  intro d
  induction d with
  | zero =>
    intro pre a
    rw [srch_def, List.findSome?_isSome_iff]
    constructor
    · rintro ⟨j, hj, h⟩
      rw [List.mem_range'_1] at hj
      exact ⟨j, [], hj.1, by omega, rfl, by simp, h⟩
    · rintro ⟨j, s, h1, h2, h3, _, h4⟩
      obtain rfl := List.length_eq_zero_iff.1 h3
      exact ⟨j, by rw [List.mem_range'_1]; omega, h4⟩
  | succ d ih =>
    intro pre a
    rw [srch_def, List.findSome?_isSome_iff]
    constructor
    · rintro ⟨j, hj, h⟩
      rw [List.mem_range'_1] at hj
      obtain ⟨i, s, h1, h2, h3, h4, h5⟩ := (ih _ _).1 h
      refine ⟨j, (i : Int) :: s, hj.1, by omega, by simp [h3], fun y hy => ?_, by simpa using h5⟩
      rcases List.mem_cons.1 hy with rfl | hy
      · omega
      · exact h4 y hy
    · rintro ⟨j, s, h1, h2, h3, h4, h5⟩
      cases s with
      | nil => simp at h3
      | cons i s =>
        have hi := h4 i (List.mem_cons_self ..)
        refine ⟨j, by rw [List.mem_range'_1]; omega, (ih _ _).2 ⟨i.toNat, s, by omega, by omega, by simpa using h3, fun y hy => h4 y (List.mem_cons_of_mem _ hy), ?_⟩⟩
        rw [show ((i.toNat : Nat) : Int) = i from by omega]
        simpa using h5
theorem srch_none (K : Nat) (F : List Int → Option (List Int)) (d : Nat) (pre : List Int) (a : Nat) (h : ∀ (j : Nat) (s : List Int), a ≤ j → j ≤ K → s.length = d → F (pre ++ (j : Int) :: s) = none) : srch K F d pre a = none := by
  cases q : srch K F d pre a with
  | none => rfl
  | some x =>
    obtain ⟨j, s, h1, h2, h3, h4, h5⟩ := (srch_some K F d pre a).1 (by rw [q]; rfl)
    rw [h j s h1 h2 h3] at h5
    cases h5
/-- Numbers above K' are tried in vain. -/
theorem srch_cut (K K' : Nat) (hK : K' ≤ K) (F : List Int → Option (List Int)) (hF : ∀ L, (∃ y ∈ L, (K' : Int) < y) → F L = none) : ∀ d pre a, srch K F d pre a = srch K' F d pre a := by
  intro d
  induction d with
  | zero =>
    intro pre a
    by_cases ha : a ≤ K + 1
    · have key : ∀ b, b ≤ K + 1 → srch K F 0 pre b = srch K' F 0 pre b := by
        refine down (K + 1) ?_ ?_
        · rw [srch_end _ _ _ _ _ (by omega), srch_end _ _ _ _ _ (by omega)]
        · intro b hb ih
          by_cases q : b ≤ K'
          · rw [srch_step _ _ _ _ _ (by omega), srch_step _ _ _ _ _ q, ih]; rfl
          · rw [srch_end K' _ _ _ _ (by omega)]
            refine srch_none _ _ _ _ _ (fun j s h1 h2 h3 => hF _ ⟨(j : Int), by simp, by omega⟩)
      exact key a ha
    · rw [srch_end _ _ _ _ _ (by omega), srch_end _ _ _ _ _ (by omega)]
  | succ d ih =>
    intro pre a
    by_cases ha : a ≤ K + 1
    · have key : ∀ b, b ≤ K + 1 → srch K F (d + 1) pre b = srch K' F (d + 1) pre b := by
        refine down (K + 1) ?_ ?_
        · rw [srch_end _ _ _ _ _ (by omega), srch_end _ _ _ _ _ (by omega)]
        · intro b hb ih2
          by_cases q : b ≤ K'
          · rw [srch_step _ _ _ _ _ (by omega), srch_step _ _ _ _ _ q, ih2]
            simp only [inner]
            rw [ih]
          · rw [srch_end K' _ _ _ _ (by omega)]
            refine srch_none _ _ _ _ _ (fun j s h1 h2 h3 => hF _ ⟨(j : Int), by simp, by omega⟩)
      exact key a ha
    · rw [srch_end _ _ _ _ _ (by omega), srch_end _ _ _ _ _ (by omega)]
end Go.Proofs.Ythkkpdgadfhijaa.M
/- Finding a pattern, as values: program and reference find the same first match. No condition but lengths that fit. -/
namespace Go.Proofs.Ythkkpdgadfhijaa.M
open Go.RowKit Go.Proofs.YthkkpdgadfhijaaW.PrintWords Go.Proofs.Ythkkpdgadfhijaa.K
set_option linter.unusedVariables false
theorem odo1 (K : Nat) (F : List Int → Option (List Int)) (P : Nat → Option (List Int) → Prop) (hend : P (K + 1) none) (h1 : ∀ a, a ≤ K → ∀ v, P (a + 1) v → P a ((F [(a : Int)]).or v)) : P 1 (srch K F 0 [] 1) := by
  have key : ∀ a, a ≤ K + 1 → P a (srch K F 0 [] a) := by
    refine down (K + 1) ?_ ?_
    · rw [srch_end _ _ _ _ _ (by omega)]; exact hend
    · intro a ha ih
      rw [srch_step _ _ _ _ _ (by omega)]
      exact h1 a (by omega) _ ih
  exact key 1 (by omega)
theorem odo2 (K : Nat) (F : List Int → Option (List Int)) (P : Nat → Nat → Option (List Int) → Prop) (hend : ∀ b, P (K + 1) b none) (h1 : ∀ a b, a ≤ K → b < K → ∀ v, P a (b + 1) v → P a b ((F [(a : Int), (b : Int)]).or v)) (h2 : ∀ a, a ≤ K → ∀ v, P (a + 1) 1 v → P a K ((F [(a : Int), (K : Int)]).or v)) : P 1 1 (srch K F 1 [] 1) := by
  have key : ∀ a, a ≤ K + 1 → 1 ≤ a → P a 1 (srch K F 1 [] a) := by
    refine down (K + 1) ?_ ?_
    · intro _; rw [srch_end _ _ _ _ _ (by omega)]; exact hend 1
    · intro a ha ih ha1
      have ih := ih (by omega)
      have in_ : ∀ b, b ≤ K → P a b ((srch K F 0 [(a : Int)] b).or (srch K F 1 [] (a + 1))) := by
        refine down K ?_ ?_
        · rw [srch_step _ _ _ _ _ (Nat.le_refl _), srch_end _ _ _ _ _ (by omega), Option.or_none]
          exact h2 a (by omega) _ ih
        · intro b hb ih2
          rw [srch_step _ _ _ _ _ (by omega), Option.or_assoc]
          exact h1 a b (by omega) hb _ ih2
      rw [srch_step _ _ _ _ _ (by omega)]
      exact in_ 1 (by omega)
  exact key 1 (by omega) (by omega)
theorem odo3 (K : Nat) (F : List Int → Option (List Int)) (P : Nat → Nat → Nat → Option (List Int) → Prop) (hend : ∀ b c, P (K + 1) b c none) (h1 : ∀ a b c, a ≤ K → b ≤ K → c < K → ∀ v, P a b (c + 1) v → P a b c ((F [(a : Int), (b : Int), (c : Int)]).or v)) (h2 : ∀ a b, a ≤ K → b < K → ∀ v, P a (b + 1) 1 v → P a b K ((F [(a : Int), (b : Int), (K : Int)]).or v)) (h3 : ∀ a, a ≤ K → ∀ v, P (a + 1) 1 1 v → P a K K ((F [(a : Int), (K : Int), (K : Int)]).or v)) : P 1 1 1 (srch K F 2 [] 1) := by
  have key : ∀ a, a ≤ K + 1 → 1 ≤ a → P a 1 1 (srch K F 2 [] a) := by
    refine down (K + 1) ?_ ?_
    · intro _; rw [srch_end _ _ _ _ _ (by omega)]; exact hend 1 1
    · intro a ha ih ha1
      have ih := ih (by omega)
      have mid_ : ∀ b, b ≤ K → P a b 1 ((srch K F 1 [(a : Int)] b).or (srch K F 2 [] (a + 1))) := by
        refine down K ?_ ?_
        · have in_ : ∀ c, c ≤ K → P a K c ((srch K F 0 [(a : Int), (K : Int)] c).or (srch K F 2 [] (a + 1))) := by
            refine down K ?_ ?_
            · rw [srch_step _ _ _ _ _ (Nat.le_refl _), srch_end _ _ _ _ _ (by omega), Option.or_none]
              exact h3 a (by omega) _ ih
            · intro c hc ih2
              rw [srch_step _ _ _ _ _ (by omega), Option.or_assoc]
              exact h1 a K c (by omega) (Nat.le_refl _) hc _ ih2
          rw [srch_step _ _ _ _ _ (Nat.le_refl _), srch_end K F 1 _ _ (by omega), Option.or_none]
          exact in_ 1 (by omega)
        · intro b hb ih2
          have in_ : ∀ c, c ≤ K → P a b c ((srch K F 0 [(a : Int), (b : Int)] c).or ((srch K F 1 [(a : Int)] (b + 1)).or (srch K F 2 [] (a + 1)))) := by
            refine down K ?_ ?_
            · rw [srch_step _ _ _ _ _ (Nat.le_refl _), srch_end _ _ _ _ _ (by omega), Option.or_none]
              exact h2 a b (by omega) hb _ ih2
            · intro c hc ih3
              rw [srch_step _ _ _ _ _ (by omega), Option.or_assoc]
              exact h1 a b c (by omega) (by omega) hc _ ih3
          rw [srch_step _ _ _ _ _ (by omega), Option.or_assoc]
          exact in_ 1 (by omega)
      rw [srch_step _ _ _ _ _ (by omega)]
      exact mid_ 1 (by omega)
  exact key 1 (by omega) (by omega)

def FA (w p : List Int) (at_ : Nat) (L : List Int) : Option (List Int) := if mAt w p at_ L = true then some L else none
def mres : Option (List Int) → List Int × Bool
  | none => ([], false)
  | some L => (L, true)
theorem implML_leaf (w p : List Int) (at_ : Nat) (hw : w.length ≤ 1000000) (hp : p.length ≤ 1048576) (h : isPat p = true) (L : List Int) (hL : L.length = nl p) : Ev (fun k => impl_matchLengths.f k w p (at_ : Int) L) (L, mAt w p at_ L) := by
  refine Ev.step (fun k => by simp only [impl_matchLengths.f]; rfl) ?_
  have := (isPat_nl h).2.2.1
  refine Ev.bind (implLetters_ev p hp) (Ev.if_pos (by rw [_root_.if_pos h, hL]) (Ev.bind (implMatchAt_ev w p at_ L hw hp (by omega)) (Ev.some _)))
theorem implML_step (w p : List Int) (at_ : Nat) (hw : w.length ≤ 1000000) (hat : at_ ≤ w.length) (hp : p.length ≤ 1048576) (h : isPat p = true) : ∀ d (L : List Int), L.length + d + 1 = nl p → Ev (fun k => impl_matchLengths.f k w p (at_ : Int) L) (mres (srch (w.length - at_) (FA w p at_) d L 1)) := by
  have h3 := (isPat_nl h).2.2.1
  have loop : ∀ d (L : List Int), L.length + d + 1 = nl p → (∀ a : Nat, Ev (fun k => impl_matchLengths.f k w p (at_ : Int) (L ++ [(a : Int)])) (match inner (w.length - at_) (FA w p at_) d L a with | none => ((if d = 0 then L ++ [(a : Int)] else []), false) | some L' => (L', true))) → Ev (fun k => impl_matchLengths.f k w p (at_ : Int) L) (mres (srch (w.length - at_) (FA w p at_) d L 1)) := by
    intro d L hL hin
    have key : ∀ a, a ≤ w.length - at_ + 1 → Ev (fun k => impl_matchLengths.l0 k w p (at_ : Int) L (a : Int)) (mres (srch (w.length - at_) (FA w p at_) d L a)) := by
      refine down (w.length - at_ + 1) ?_ ?_
      · rw [srch_end _ _ _ _ _ (by omega)]
        refine Ev.step (fun k => by simp only [impl_matchLengths.l0]; rw [w_id (by omega) (by omega), _root_.if_neg (by omega)]) ?_
        exact Ev.some _
      · intro a ha ih
        refine Ev.step (fun k => by simp only [impl_matchLengths.l0, slices_Clone_int_int.f]; rw [w_id (by omega) (by omega), _root_.if_pos (by omega), _root_.if_pos (show L.length < 17592186044416 by omega), Option.bind_some, _root_.if_pos (show L.length < 17592186044416 by omega), wsucc (i := a) (by omega)]) ?_
        rw [srch_step _ _ _ _ _ (by omega)]
        have hb := hin a
        refine Ev.bind hb ?_
        cases inner (w.length - at_) (FA w p at_) d L a with
        | none => exact Ev.if_neg (by simp) ih
        | some L' => exact Ev.if_pos rfl (Ev.some _)
    refine Ev.step (fun k => by simp only [impl_matchLengths.f]; rfl) ?_
    refine Ev.bind (implLetters_ev p hp) (Ev.if_neg (by rw [_root_.if_pos h]; omega) ?_)
    exact key 1 (by omega)
  intro d
  induction d with
  | zero =>
    intro L hL
    refine loop 0 L hL (fun a => ?_)
    have := implML_leaf w p at_ hw hp h (L ++ [(a : Int)]) (by simp; omega)
    refine Ev.same this ?_
    simp only [inner, FA]
    by_cases q : mAt w p at_ (L ++ [(a : Int)]) = true
    · rw [_root_.if_pos q, q]
    · rw [_root_.if_neg q, Bool.eq_false_iff.2 q]; rfl
  | succ d ih =>
    intro L hL
    refine loop (d + 1) L hL (fun a => ?_)
    refine Ev.same (ih (L ++ [(a : Int)]) (by simp; omega)) ?_
    simp only [inner]
    cases srch (w.length - at_) (FA w p at_) d (L ++ [(a : Int)]) 1 <;> rfl

/-- The first match from a place on. -/
def fFrom (w p : List Int) (a : Nat) : Option (Nat × List Int) := (List.range' a (w.length - a)).findSome? fun i => (srch (w.length - i) (FA w p i) (nl p - 1) [] 1).map fun L => (i, L)
theorem fFrom_end (w p : List Int) (a : Nat) (h : w.length ≤ a) : fFrom w p a = none := by
  unfold fFrom; rw [show w.length - a = 0 from by omega]; rfl
theorem fFrom_step (w p : List Int) (a : Nat) (h : a < w.length) : fFrom w p a = ((srch (w.length - a) (FA w p a) (nl p - 1) [] 1).map fun L => (a, L)).or (fFrom w p (a + 1)) := by
  unfold fFrom
  rw [show w.length - a = (w.length - (a + 1)) + 1 from by omega, List.range'_succ, List.findSome?_cons, show w.length - (a + 1) + 1 = w.length - a from by omega]
  cases srch (w.length - a) (FA w p a) (nl p - 1) [] 1 <;> rfl
def fres : Option (Nat × List Int) → Int × List Int × Bool
  | none => (0, [], false)
  | some (i, L) => ((i : Int), L, true)
def fnd (w p : List Int) : Option (Nat × List Int) := if isPat p = true ∧ w.length ≤ 24 then fFrom w p 0 else none
theorem implFind_ev (w p : List Int) (hw : w.length ≤ 1048576) (hp : p.length ≤ 1048576) : Ev (fun k => impl_FindPattern.f k w p) (fres (fnd w p)) := by
  have bad : ∀ b, b = true → Ev (fun k => impl_FindPattern.j0 k w p b) (fres none) := fun b hb => by
    refine Ev.step (fun k => by simp only [impl_FindPattern.j0]; rw [_root_.if_pos hb]) ?_
    exact Ev.some _
  unfold impl_FindPattern.f fnd
  refine Ev.bind (implIsPattern_ev p hp) ?_
  by_cases h : isPat p = true
  · refine Ev.if_pos h ?_
    by_cases h2 : w.length ≤ 24
    · rw [_root_.if_pos ⟨h, h2⟩, decide_eq_false (by omega)]
      have hn := isPat_nl h
      have key : ∀ a, a ≤ w.length → Ev (fun k => impl_FindPattern.l0 k w p (w.length : Int) (a : Int)) (fres (fFrom w p a)) := by
        refine down w.length ?_ ?_
        · refine Ev.step (fun k => by simp only [impl_FindPattern.l0]; rw [_root_.if_neg (by omega)]) ?_
          rw [fFrom_end _ _ _ (Nat.le_refl _)]; exact Ev.some _
        · intro a ha ih
          refine Ev.step (fun k => by simp only [impl_FindPattern.l0]; rw [_root_.if_pos (by omega), wsucc (i := a) (by omega)]) ?_
          rw [fFrom_step _ _ _ ha]
          refine Ev.bind (implML_step w p a (by omega) (by omega) hp h (nl p - 1) [] (by simp only [List.length_nil]; omega)) ?_
          cases srch (w.length - a) (FA w p a) (nl p - 1) [] 1 with
          | none => exact Ev.if_neg (by simp [mres]) ih
          | some L => exact Ev.if_pos rfl (Ev.some _)
      refine Ev.step (fun k => by simp only [impl_FindPattern.j0]; rw [_root_.if_neg (by simp)]) ?_
      exact key 0 (by omega)
    · rw [_root_.if_neg (fun q => h2 q.2), decide_eq_true (by omega)]; exact bad _ rfl
  · rw [_root_.if_neg (fun q => h q.1)]
    exact Ev.if_neg h (bad _ rfl)
theorem implAvoids_ev (w p : List Int) (hw : w.length ≤ 1048576) (hp : p.length ≤ 1048576) : Ev (fun k => impl_AvoidsPattern.f k w p) (decide (isPat p = true ∧ w.length ≤ 24 ∧ fnd w p = none)) := by
  unfold impl_AvoidsPattern.f
  refine Ev.bind (implIsPattern_ev p hp) ?_
  refine Ev.ite (fun h => ?_) (fun h => ?_)
  · refine Ev.ite (fun h2 => ?_) (fun h2 => ?_)
    · rw [decide_eq_false (by omega)]; exact Ev.some _
    · refine Ev.bind (implFind_ev w p hw hp) (Ev.same (Ev.some _) ?_)
      cases q : fnd w p with
      | none => rw [decide_eq_true ⟨h, by omega, rfl⟩]; rfl
      | some x => rw [decide_eq_false (by simp)]; obtain ⟨i, L⟩ := x; rfl
  · rw [decide_eq_false (fun q => h q.1)]; exact Ev.some _

theorem tot_mem (L p : List Int) (x : Int) (hx : x ∈ p) : (L.getD x.toNat 0).toNat ≤ tot L p := by
  induction p with
  | nil => cases hx
  | cons y p ih =>
    simp only [tot]
    rcases List.mem_cons.1 hx with rfl | hx
    · omega
    · have := ih hx; omega
theorem mAt_small {w p : List Int} {at_ : Nat} {L : List Int} (h : mAt w p at_ L = true) : ∀ y ∈ L, y ≤ ((w.length - at_ : Nat) : Int) := by
  obtain ⟨h1, h2⟩ := mAt_len h
  obtain ⟨h3, h4, h5, h6⟩ := okL_at h1
  intro y hy
  obtain ⟨j, hj, rfl⟩ := List.getElem_of_mem hy
  have hm := (ngo_mem p 0 _ (isPat_nl h3).1).2 j (by omega) (by omega)
  have := tot_mem L p _ hm
  rw [Int.toNat_natCast, List.getD_eq_getElem?_getD, List.getElem?_eq_getElem hj, Option.getD_some] at this
  omega
/-- The reference tries all lengths up to the word's own. -/
theorem srch_all (w p : List Int) (at_ : Nat) (d : Nat) (pre : List Int) (a : Nat) : srch w.length (FA w p at_) d pre a = srch (w.length - at_) (FA w p at_) d pre a := by
  refine srch_cut _ _ (by omega) _ (fun L ⟨y, hy, hlt⟩ => ?_) d pre a
  unfold FA
  refine _root_.if_neg (fun h => ?_)
  have := mAt_small h y hy
  omega
end Go.Proofs.Ythkkpdgadfhijaa.M
/- The reference finds the same first match, trying all lengths in order; what it asks of words that go on. No condition but lengths that fit. -/
namespace Go.Proofs.Ythkkpdgadfhijaa.M
open Go.RowKit Go.Proofs.YthkkpdgadfhijaaW.PrintWords Go.Proofs.Ythkkpdgadfhijaa.K
set_option linter.unusedVariables false
/-- The three lengths, as the reference keeps them. -/
def abc (a b c : Nat) : List Int := [(a : Int), (b : Int), (c : Int)]
theorem abc_len (a b c : Nat) : (abc a b c).length = 3 := rfl
theorem rdA0 (a b c : Nat) : rd (abc a b c) 0 = (a : Int) := rfl
theorem rdA1 (a b c : Nat) : rd (abc a b c) 1 = (b : Int) := rfl
theorem rdA2 (a b c : Nat) : rd (abc a b c) 2 = (c : Int) := rfl
theorem setA0 (a b c v : Nat) : (abc a b c).set 0 (v : Int) = abc v b c := rfl
theorem setA1 (a b c v : Nat) : (abc a b c).set 1 (v : Int) = abc a v c := rfl
theorem setA2 (a b c v : Nat) : (abc a b c).set 2 (v : Int) = abc a b v := rfl
theorem oneA1 (a b c : Nat) : (abc a b c).set (Int.toNat 1) 1 = abc a 1 c := rfl
theorem oneA2 (a b c : Nat) : (abc a b c).set (Int.toNat 2) 1 = abc a b 1 := rfl
theorem dec1 : wrap64 ((1 : Int) - 1) = 0 := by unfold wrap64; omega
theorem dec2 : wrap64 ((2 : Int) - 1) = 1 := by unfold wrap64; omega
section find
variable (w p : List Int) (hw : w.length ≤ 24) (hp : p.length ≤ 1048576)
include hw
theorem specFP_carry1 (m at_ a b c : Nat) (R : Int × List Int × Bool) (h : Ev (fun k => spec_FindPattern.l1 k w p (m : Int) (at_ : Int) (abc (a + 1) b c)) R) : Ev (fun k => spec_FindPattern.l2 k w p (m : Int) (at_ : Int) (abc (a + 1) b c) 0) R :=
  have _ := hw
  Ev.step (fun k => by simp only [spec_FindPattern.l2]; rw [_root_.if_neg (by omega)]) h
theorem specFP_carry2 (m at_ a b c : Nat) (hb : b ≤ w.length) (ha : a ≤ w.length) (R : Int × List Int × Bool) (h : Ev (fun k => spec_FindPattern.l1 k w p (m : Int) (at_ : Int) (if b < w.length then abc a (b + 1) c else abc (a + 1) 1 c)) R) : Ev (fun k => spec_FindPattern.l2 k w p (m : Int) (at_ : Int) (abc a (b + 1) c) 1) R := by
  by_cases q : b < w.length
  · rw [_root_.if_pos q] at h
    refine Ev.step (fun k => by simp only [spec_FindPattern.l2]; rw [_root_.if_pos (by omega), _root_.if_pos (by omega), _root_.if_pos (by rw [abc_len]; omega), rdA1, _root_.if_neg (by omega)]) h
  · rw [_root_.if_neg q] at h
    refine Ev.step (fun k => by simp only [spec_FindPattern.l2]; rw [_root_.if_pos (by omega), _root_.if_pos (by omega), _root_.if_pos (by rw [abc_len]; omega), rdA1, _root_.if_pos (by omega), oneA1, dec1, Option.bind_some, _root_.if_pos (by omega), _root_.if_pos (by rw [abc_len]; omega), show (0 : Int).toNat = 0 from rfl, rdA0, wsucc (i := a) (by omega), setA0]) (specFP_carry1 w p hw m at_ a 1 c R h)
theorem specFP_carry3 (m at_ a b c : Nat) (hc : c ≤ w.length) (hb : b ≤ w.length) (ha : a ≤ w.length) (R : Int × List Int × Bool) (h : Ev (fun k => spec_FindPattern.l1 k w p (m : Int) (at_ : Int) (if c < w.length then abc a b (c + 1) else if b < w.length then abc a (b + 1) 1 else abc (a + 1) 1 1)) R) : Ev (fun k => spec_FindPattern.l2 k w p (m : Int) (at_ : Int) (abc a b (c + 1)) 2) R := by
  by_cases q : c < w.length
  · rw [_root_.if_pos q] at h
    refine Ev.step (fun k => by simp only [spec_FindPattern.l2]; rw [_root_.if_pos (by omega), _root_.if_pos (by omega), _root_.if_pos (by rw [abc_len]; omega), rdA2, _root_.if_neg (by omega)]) h
  · rw [_root_.if_neg q] at h
    refine Ev.step (fun k => by simp only [spec_FindPattern.l2]; rw [_root_.if_pos (by omega), _root_.if_pos (by omega), _root_.if_pos (by rw [abc_len]; omega), rdA2, _root_.if_pos (by omega), oneA2, dec2, Option.bind_some, _root_.if_pos (by omega), _root_.if_pos (by rw [abc_len]; omega), show (1 : Int).toNat = 1 from rfl, rdA1, wsucc (i := b) (by omega), setA1]) (specFP_carry2 w p hw m at_ a b 1 hb ha R h)
/-- One round: what is tried, and what comes next. -/
theorem specFP_round (at_ m : Nat) (L3 : List Int) (hp : p.length ≤ 1048576) (hl : L3.length = 3) (hm : m ≤ 3) (hm1 : 1 ≤ m) (h0 : rd L3 0 ≤ (w.length : Int)) (hx : ∀ y ∈ L3, 0 ≤ y ∧ y ≤ 1000) (R : Int × List Int × Bool) (v : Option (List Int)) (hR : ∀ L, FA w p at_ (L3.take m) = some L → R = ((at_ : Int), L, true))
    (h : FA w p at_ (L3.take m) = none → Ev (fun k => spec_FindPattern.l2 k w p (m : Int) (at_ : Int) (L3.set (m - 1) (rd L3 ((m - 1 : Nat) : Int) + 1)) ((m - 1 : Nat) : Int)) R) : Ev (fun k => spec_FindPattern.l1 k w p (m : Int) (at_ : Int) L3) R := by
  refine Ev.step (fun k => by simp only [spec_FindPattern.l1]; rw [_root_.if_pos (by omega), _root_.if_pos h0, _root_.if_pos (by omega), _root_.if_pos (by omega), Int.toNat_natCast]) ?_
  refine Ev.bind (specMatchAt_ev w p at_ (L3.take m) (by omega) hp (by rw [List.length_take]; omega)) ?_
  unfold FA at hR h
  by_cases q : mAt w p at_ (L3.take m) = true
  · rw [_root_.if_pos q] at hR
    rw [hR _ rfl]
    refine Ev.if_pos q (Ev.bind (Ev.some _) (Ev.bind (Ev.some _) (Ev.if_pos (by rw [List.length_take]; simp; omega) (Ev.some _))))
  · rw [_root_.if_neg q] at h
    have e : wrap64 ((m : Int) - 1) = ((m - 1 : Nat) : Int) := by rw [w_id (by omega) (by omega)]; omega
    have hy : rd L3 ((m - 1 : Nat) : Int) + 1 ≤ 1001 ∧ 0 ≤ rd L3 ((m - 1 : Nat) : Int) := by
      rw [rd_get L3 (m - 1) (by omega)]
      have := hx _ (List.getElem_mem (show m - 1 < L3.length by omega))
      omega
    refine Ev.if_neg q ?_
    refine Ev.congr (fun k => by rw [e, _root_.if_pos (by omega), _root_.if_pos (by omega), Int.toNat_natCast, w_id (by omega) (by omega)]) (h rfl)
theorem specFP_loop (at_ : Nat) (hp : p.length ≤ 1048576) (hP : isPat p = true) (hat : at_ < w.length) (R : Int × List Int × Bool) (h : Ev (fun k => spec_FindPattern.l0 k w p (nl p : Int) ((at_ + 1 : Nat) : Int)) R) :
    Ev (fun k => spec_FindPattern.l1 k w p (nl p : Int) (at_ : Int) [1, 1, 1]) (match srch w.length (FA w p at_) (nl p - 1) [] 1 with | none => R | some L => ((at_ : Int), L, true)) := by
  obtain ⟨h0, h6, h3, h1⟩ := isPat_nl hP
  have hend : ∀ b c, Ev (fun k => spec_FindPattern.l1 k w p (nl p : Int) (at_ : Int) (abc (w.length + 1) b c)) R := fun b c =>
    Ev.step (fun k => by simp only [spec_FindPattern.l1]; rw [_root_.if_pos (by rw [abc_len]; omega), rdA0, _root_.if_neg (by omega), wsucc (i := at_) (by omega)]) h
  have hx : ∀ a b c : Nat, a ≤ w.length → b ≤ w.length → c ≤ w.length → ∀ y ∈ abc a b c, 0 ≤ y ∧ y ≤ 1000 := by
    intro a b c ha hb hc y hy
    simp only [abc, List.mem_cons, List.not_mem_nil, or_false] at hy
    rcases hy with rfl | rfl | rfl <;> omega
  have out : ∀ (F v : Option (List Int)) L, F = some L → (match F.or v with | none => R | some L => ((at_ : Int), L, true)) = ((at_ : Int), L, true) := by rintro _ v L rfl; rfl
  have nxt : ∀ (F v : Option (List Int)), F = none → (match F.or v with | none => R | some L => ((at_ : Int), L, true)) = (match v with | none => R | some L => ((at_ : Int), L, true)) := by rintro _ v rfl; rfl
  rcases (show nl p = 1 ∨ nl p = 2 ∨ nl p = 3 by omega) with e | e | e
  · rw [e] at hend ⊢
    refine odo1 w.length (FA w p at_) (fun a v => Ev (fun k => spec_FindPattern.l1 k w p ((1 : Nat) : Int) (at_ : Int) (abc a 1 1)) (match v with | none => R | some L => ((at_ : Int), L, true))) (hend 1 1) ?_
    intro a ha v hv
    refine specFP_round w p hw at_ 1 (abc a 1 1) hp rfl (by omega) (by omega) (by rw [rdA0]; omega) (hx a 1 1 ha (by omega) (by omega)) _ v (fun L hL => out _ _ _ hL) (fun hn => ?_)
    have hn' : FA w p at_ [(a : Int)] = none := hn
    rw [nxt _ _ hn']
    exact specFP_carry1 w p hw 1 at_ a 1 1 _ hv
  · rw [e] at hend ⊢
    refine odo2 w.length (FA w p at_) (fun a b v => Ev (fun k => spec_FindPattern.l1 k w p ((2 : Nat) : Int) (at_ : Int) (abc a b 1)) (match v with | none => R | some L => ((at_ : Int), L, true))) (fun b => hend b 1) ?_ ?_
    · intro a b ha hb v hv
      refine specFP_round w p hw at_ 2 (abc a b 1) hp rfl (by omega) (by omega) (by rw [rdA0]; omega) (hx a b 1 ha (by omega) (by omega)) _ v (fun L hL => out _ _ _ hL) (fun hn => ?_)
      have hn' : FA w p at_ [(a : Int), (b : Int)] = none := hn
      rw [nxt _ _ hn']
      exact specFP_carry2 w p hw 2 at_ a b 1 (by omega) ha _ (by rw [_root_.if_pos hb]; exact hv)
    · intro a ha v hv
      refine specFP_round w p hw at_ 2 (abc a w.length 1) hp rfl (by omega) (by omega) (by rw [rdA0]; omega) (hx a w.length 1 ha (by omega) (by omega)) _ v (fun L hL => out _ _ _ hL) (fun hn => ?_)
      have hn' : FA w p at_ [(a : Int), (w.length : Int)] = none := hn
      rw [nxt _ _ hn']
      exact specFP_carry2 w p hw 2 at_ a w.length 1 (by omega) ha _ (by rw [_root_.if_neg (by omega)]; exact hv)
  · rw [e] at hend ⊢
    refine odo3 w.length (FA w p at_) (fun a b c v => Ev (fun k => spec_FindPattern.l1 k w p ((3 : Nat) : Int) (at_ : Int) (abc a b c)) (match v with | none => R | some L => ((at_ : Int), L, true))) hend ?_ ?_ ?_
    · intro a b c ha hb hc v hv
      refine specFP_round w p hw at_ 3 (abc a b c) hp rfl (by omega) (by omega) (by rw [rdA0]; omega) (hx a b c ha (by omega) (by omega)) _ v (fun L hL => out _ _ _ hL) (fun hn => ?_)
      have hn' : FA w p at_ [(a : Int), (b : Int), (c : Int)] = none := hn
      rw [nxt _ _ hn']
      exact specFP_carry3 w p hw 3 at_ a b c (by omega) hb ha _ (by rw [_root_.if_pos hc]; exact hv)
    · intro a b ha hb v hv
      refine specFP_round w p hw at_ 3 (abc a b w.length) hp rfl (by omega) (by omega) (by rw [rdA0]; omega) (hx a b w.length ha (by omega) (by omega)) _ v (fun L hL => out _ _ _ hL) (fun hn => ?_)
      have hn' : FA w p at_ [(a : Int), (b : Int), (w.length : Int)] = none := hn
      rw [nxt _ _ hn']
      exact specFP_carry3 w p hw 3 at_ a b w.length (by omega) (by omega) ha _ (by rw [_root_.if_neg (by omega), _root_.if_pos hb]; exact hv)
    · intro a ha v hv
      refine specFP_round w p hw at_ 3 (abc a w.length w.length) hp rfl (by omega) (by omega) (by rw [rdA0]; omega) (hx a w.length w.length ha (by omega) (by omega)) _ v (fun L hL => out _ _ _ hL) (fun hn => ?_)
      have hn' : FA w p at_ [(a : Int), (w.length : Int), (w.length : Int)] = none := hn
      rw [nxt _ _ hn']
      exact specFP_carry3 w p hw 3 at_ a w.length w.length (by omega) (by omega) ha _ (by rw [_root_.if_neg (by omega), _root_.if_neg (by omega)]; exact hv)
end find
theorem specFind_ev (w p : List Int) (hw : w.length ≤ 1048576) (hp : p.length ≤ 1048576) : Ev (fun k => spec_FindPattern.f k w p) (fres (fnd w p)) := by
  have bad : ∀ b, b = true → Ev (fun k => spec_FindPattern.j0 k w p b) (fres none) := fun b hb => by
    refine Ev.step (fun k => by simp only [spec_FindPattern.j0]; rw [_root_.if_pos hb]) ?_
    exact Ev.some _
  unfold spec_FindPattern.f fnd
  refine Ev.bind (specIsPattern_ev p hp) ?_
  by_cases h : isPat p = true
  · refine Ev.if_pos h ?_
    by_cases h2 : w.length ≤ 24
    · rw [_root_.if_pos ⟨h, h2⟩, decide_eq_false (by omega)]
      have key : ∀ a, a ≤ w.length → Ev (fun k => spec_FindPattern.l0 k w p (nl p : Int) (a : Int)) (fres (fFrom w p a)) := by
        refine down w.length ?_ ?_
        · refine Ev.step (fun k => by simp only [spec_FindPattern.l0]; rw [_root_.if_neg (by omega)]) ?_
          rw [fFrom_end _ _ _ (Nat.le_refl _)]; exact Ev.some _
        · intro a ha ih
          refine Ev.step (fun k => by simp only [spec_FindPattern.l0]; rw [_root_.if_pos (by omega)]) ?_
          rw [fFrom_step _ _ _ ha, ← srch_all]
          refine Ev.same (specFP_loop w p h2 a hp h ha _ ih) ?_
          cases srch w.length (FA w p a) (nl p - 1) [] 1 <;> rfl
      refine Ev.step (fun k => by simp only [spec_FindPattern.j0]; rw [_root_.if_neg (by simp)]) ?_
      exact Ev.bind (specLetters_ev p h) (key 0 (by omega))
    · rw [_root_.if_neg (fun q => h2 q.2), decide_eq_true (by omega)]; exact bad _ rfl
  · rw [_root_.if_neg (fun q => h q.1)]
    exact Ev.if_neg h (bad _ rfl)
theorem specAvoids_ev (w p : List Int) (hw : w.length ≤ 1048576) (hp : p.length ≤ 1048576) : Ev (fun k => spec_AvoidsPattern.f k w p) (decide (isPat p = true ∧ w.length ≤ 24 ∧ fnd w p = none)) := by
  unfold spec_AvoidsPattern.f
  refine Ev.bind (specFind_ev w p hw hp) (Ev.bind (specIsPattern_ev p hp) ?_)
  refine Ev.ite (fun h => ?_) (fun h => ?_)
  · refine Ev.ite (fun h2 => ?_) (fun h2 => ?_)
    · refine Ev.same (Ev.some _) ?_
      cases q : fnd w p with
      | none => rw [decide_eq_true ⟨h, by omega, rfl⟩]; rfl
      | some x => rw [decide_eq_false (by simp)]; obtain ⟨i, L⟩ := x; rfl
    · rw [decide_eq_false (by omega)]; exact Ev.some _
  · rw [decide_eq_false (fun q => h q.1)]; exact Ev.some _
end Go.Proofs.Ythkkpdgadfhijaa.M
/- Words as values: program and reference tell the same. No condition but lengths that fit. -/
namespace Go.Proofs.Ythkkpdgadfhijaa.M
open Go.RowKit Go.Proofs.YthkkpdgadfhijaaW.PrintWords Go.Proofs.Ythkkpdgadfhijaa.K
set_option linter.unusedVariables false
def isL (w : List Int) (n : Nat) : Bool := w.all fun x => decide (0 ≤ x ∧ x < (n : Int))
theorem isL_cons (x : Int) (w : List Int) (n : Nat) : isL (x :: w) n = (decide (0 ≤ x ∧ x < (n : Int)) && isL w n) := by simp [isL]
def iw (w : List Int) (n : Nat) : Bool := isL w n && (decide (1 ≤ n ∧ n ≤ 16) && decide (w.length ≤ 400))

theorem specIsWord_ev (w : List Int) (n : Nat) (hw : w.length ≤ 1048576) : Ev (fun k => spec_IsWord.f k w (n : Int)) (iw w n) := by
  have key : ∀ i, i ≤ w.length → Ev (fun k => spec_IsWord.l0 k w (n : Int) (i : Int)) (isL (w.drop i) n && (decide (1 ≤ n ∧ n ≤ 16) && decide (w.length ≤ 400))) := by
    refine down w.length ?_ ?_
    · refine Ev.step (fun k => by simp only [spec_IsWord.l0]; rw [_root_.if_neg (by omega)]) ?_
      refine Ev.bind (Ev.val (in_val _ _ _)) ?_
      rw [List.drop_length]
      by_cases q : 1 ≤ n ∧ n ≤ 16
      · rw [decide_eq_true (show 1 ≤ (n : Int) ∧ (n : Int) ≤ 16 by omega)]
        refine Ev.if_pos rfl (Ev.same (Ev.some _) ?_)
        rw [decide_eq_true q]; simp [isL]; omega
      · rw [decide_eq_false (show ¬ (1 ≤ (n : Int) ∧ (n : Int) ≤ 16) by omega)]
        refine Ev.if_neg (by simp) (Ev.same (Ev.some _) ?_)
        rw [decide_eq_false q]; simp
    · intro i hi ih
      rw [drop_eq w i hi, isL_cons]
      refine Ev.step (fun k => by simp only [spec_IsWord.l0]; rw [_root_.if_pos (by omega), _root_.if_pos (by omega), wsucc (by omega), rd_get w i hi]) ?_
      refine Ev.ite (fun q => ?_) (fun q => ?_)
      · rw [decide_eq_false (by omega)]; exact Ev.some _
      · refine Ev.ite (fun q2 => ?_) (fun q2 => ?_)
        · rw [decide_eq_false (by omega)]; exact Ev.some _
        · rw [decide_eq_true (by omega), Bool.true_and]; exact ih
  exact key 0 (by omega)
theorem areLetters_ev (w : List Int) (n : Nat) (hw : w.length ≤ 1048576) : Ev (fun k => impl_areLetters.f k w (n : Int)) (isL w n) := by
  have key : ∀ i, i ≤ w.length → Ev (fun k => impl_areLetters.l0 k (n : Int) w (w.length : Int) (i : Int)) (isL (w.drop i) n) := by
    refine down w.length ?_ ?_
    · refine Ev.step (fun k => by simp only [impl_areLetters.l0]; rw [_root_.if_neg (by omega)]) ?_
      rw [List.drop_length]; exact Ev.some _
    · intro i hi ih
      rw [drop_eq w i hi, isL_cons]
      refine Ev.step (fun k => by simp only [impl_areLetters.l0]; rw [_root_.if_pos (by omega), _root_.if_pos (by omega), _root_.if_pos (by omega), wsucc (by omega), rd_get w i hi]) ?_
      refine Ev.ite (fun q => ?_) (fun q => ?_)
      · rw [decide_eq_false (by omega)]; exact Ev.some _
      · refine Ev.ite (fun q2 => ?_) (fun q2 => ?_)
        · rw [decide_eq_false (by omega)]; exact Ev.some _
        · rw [decide_eq_true (by omega), Bool.true_and]; exact ih
  unfold impl_areLetters.f
  exact key 0 (by omega)
theorem implIsWord_ev (w : List Int) (n : Nat) (hw : w.length ≤ 1048576) : Ev (fun k => impl_IsWord.f k w (n : Int)) (iw w n) := by
  unfold impl_IsWord.f iw
  refine Ev.ite (fun q => ?_) (fun q => ?_)
  · refine Ev.ite (fun q2 => ?_) (fun q2 => ?_)
    · refine Ev.ite (fun q3 => ?_) (fun q3 => ?_)
      · refine Ev.bind (areLetters_ev w n hw) (Ev.same (Ev.some _) ?_)
        rw [decide_eq_true (show 1 ≤ n ∧ n ≤ 16 by omega), decide_eq_true (show w.length ≤ 400 by omega)]; simp
      · refine Ev.same (Ev.some _) ?_
        rw [decide_eq_false (show ¬ w.length ≤ 400 by omega)]; simp
    · refine Ev.same (Ev.some _) ?_
      rw [decide_eq_false (show ¬ (1 ≤ n ∧ n ≤ 16) by omega)]; simp
  · refine Ev.same (Ev.some _) ?_
    rw [decide_eq_false (show ¬ (1 ≤ n ∧ n ≤ 16) by omega)]; simp

end Go.Proofs.Ythkkpdgadfhijaa.M
/- What the laws' own small functions on rows of whole numbers come to: a copy is the row, two rows are held against each other, marks are laid and found. No condition but lengths that fit. -/
namespace Go.Proofs.Ythkkpdgadfhijaa.M
open Go.RowKit Go.Proofs.YthkkpdgadfhijaaW.PrintWords Go.Proofs.Ythkkpdgadfhijaa.K

theorem toIntS_ev (l : List Int) (h : l.length ≤ 1048576) : Ev (fun k => laws_toIntS.f k l) l := by
  have key : ∀ i, i ≤ l.length → ∀ f : Nat → Int, (∀ j, j < i → f j = l.getD j 0) → Ev (fun k => laws_toIntS.l0 k l (row l.length f) (i : Int)) l := by
    refine down l.length ?_ ?_
    · intro f hf
      refine Ev.step (fun k => by simp only [laws_toIntS.l0]; rw [_root_.if_neg (by omega)]) ?_
      rw [row_congr _ _ _ hf, row_of]; exact Ev.some _
    · intro i hi ih f hf
      refine Ev.step (fun k => by simp only [laws_toIntS.l0]; rw [_root_.if_pos (by omega), _root_.if_pos (by omega), _root_.if_pos (by rw [row_length]; omega), wsucc (by omega), Int.toNat_natCast, rd_at, row_set]) (ih _ ?_)
      intro j hj
      by_cases e : j = i
      · rw [_root_.if_pos e, e]
      · rw [_root_.if_neg e]; exact hf j (by omega)
  unfold laws_toIntS.f
  refine Ev.if_pos (by omega) (Ev.if_pos (by omega) ?_)
  rw [Int.toNat_natCast, row_replicate]
  exact key 0 (by omega) _ (fun j hj => by omega)

theorem eqIntS_ev (a b : List Int) (h : a.length < 9223372036854775807) : Ev (fun k => laws_eqIntS.f k a b) (decide (a = b)) := by
  unfold laws_eqIntS.f
  refine Ev.ite (fun e => ?_) (fun e => ?_)
  · have e' : a.length = b.length := by omega
    have key : ∀ i, i ≤ a.length → Ev (fun k => laws_eqIntS.l0 k a b (i : Int)) (decide (a.drop i = b.drop i)) := by
      refine down a.length ?_ ?_
      · refine Ev.step (fun k => by simp only [laws_eqIntS.l0]; rw [_root_.if_neg (by omega)]) ?_
        rw [List.drop_length, e', List.drop_length]; exact Ev.some _
      · intro i hi ih
        refine Ev.step (fun k => by simp only [laws_eqIntS.l0]; rw [_root_.if_pos (by omega), _root_.if_pos (by omega), _root_.if_pos (by omega), wsucc (by omega), rd_get a i hi, rd_get b i (by omega)]) ?_
        rw [drop_eq a i hi, drop_eq b i (by omega), cons_dec]
        refine Ev.ite (fun q => ?_) (fun q => ?_)
        · rw [decide_eq_true q]; simpa using ih
        · rw [decide_eq_false q]; exact Ev.some _
    exact key 0 (by omega)
  · refine Ev.same (Ev.some _) ?_
    symm; rw [decide_eq_false_iff_not]; intro q; rw [q] at e; exact e rfl

/-- The marks m, m + 1, .. in n places. -/
def marks (n : Nat) (m : Int) : List Int := row n (fun i => m + i)

theorem markIntS_ev (l : List Int) (m : Int) (h0 : 0 ≤ m) (h : m + l.length < 9223372036854775807) : Ev (fun k => laws_markIntS.f k l m) (m + l.length, marks l.length m) := by
  have key : ∀ i, i ≤ l.length → ∀ f : Nat → Int, (∀ j, j < i → f j = m + j) → Ev (fun k => laws_markIntS.l0 k (row l.length f) (m + i) (i : Int)) (m + l.length, marks l.length m) := by
    refine down l.length ?_ ?_
    · intro f hf
      refine Ev.step (fun k => by simp only [laws_markIntS.l0]; rw [_root_.if_neg (by rw [row_length]; omega)]) ?_
      unfold marks; rw [row_congr _ _ _ hf]; exact Ev.some _
    · intro i hi ih f hf
      refine Ev.step (fun k => by simp only [laws_markIntS.l0]; rw [_root_.if_pos (by rw [row_length]; omega), _root_.if_pos (by omega), wsucc (by omega), Int.toNat_natCast, row_set, w_id (by omega) (by omega), show m + (i : Int) + 1 = m + ((i + 1 : Nat) : Int) from by omega]) (ih _ ?_)
      intro j hj
      by_cases e : j = i
      · rw [_root_.if_pos e, e]
      · rw [_root_.if_neg e]; exact hf j (by omega)
  unfold laws_markIntS.f
  have := key 0 (by omega) (fun i => l.getD i 0) (fun j hj => by omega)
  rw [row_of, show m + ((0 : Nat) : Int) = m from by omega] at this
  exact this

theorem heldIntS_ev (n : Nat) (m : Int) (h0 : 0 ≤ m) (h : m + n < 9223372036854775807) : Ev (fun k => laws_heldIntS.f k (marks n m) m) (m + n) := by
  have key : ∀ i, i ≤ n → Ev (fun k => laws_heldIntS.l0 k (marks n m) (m + i) (i : Int)) (m + n) := by
    refine down n ?_ ?_
    · refine Ev.step (fun k => by simp only [laws_heldIntS.l0]; rw [_root_.if_neg (by unfold marks; rw [row_length]; omega)]) ?_
      exact Ev.some _
    · intro i hi ih
      refine Ev.step (fun k => by simp only [laws_heldIntS.l0]; rw [_root_.if_pos (by unfold marks; rw [row_length]; omega), _root_.if_pos (by omega), _root_.if_pos (by unfold marks; rw [rd_row _ _ _ hi]), wsucc (by omega), w_id (by omega) (by omega), show m + (i : Int) + 1 = m + ((i + 1 : Nat) : Int) from by omega]) ih
  unfold laws_heldIntS.f
  have := key 0 (by omega)
  rw [show m + ((0 : Nat) : Int) = m from by omega] at this
  exact this
end Go.Proofs.Ythkkpdgadfhijaa.M
/- The letters with which a word goes on: program and reference tell the same, and the law. No condition. -/
namespace Go.Proofs.Ythkkpdgadfhijaa.M
open Go.RowKit Go.Proofs.YthkkpdgadfhijaaW.PrintWords Go.Proofs.Ythkkpdgadfhijaa.K
set_option linter.unusedVariables false
def avd (w p : List Int) : Bool := decide (isPat p = true ∧ w.length ≤ 24 ∧ fnd w p = none)
/-- The letters below n from a on that a word can go on with. -/
def exts (w p : List Int) (a n : Nat) : List Int := ((List.range' a (n - a)).map fun (x : Nat) => (x : Int)).filter fun x => avd (w ++ [x]) p
theorem exts_end (w p : List Int) (a n : Nat) (h : n ≤ a) : exts w p a n = [] := by unfold exts; rw [show n - a = 0 from by omega]; rfl
theorem exts_step (w p : List Int) (a n : Nat) (h : a < n) : exts w p a n = (if avd (w ++ [(a : Int)]) p = true then [(a : Int)] else []) ++ exts w p (a + 1) n := by
  unfold exts
  rw [show n - a = (n - (a + 1)) + 1 from by omega, List.range'_succ, List.map_cons, List.filter_cons]
  by_cases q : avd (w ++ [(a : Int)]) p = true
  · rw [_root_.if_pos q, _root_.if_pos q]; rfl
  · rw [_root_.if_neg q, _root_.if_neg q]; rfl
theorem exts_len (w p : List Int) (a n : Nat) : (exts w p a n).length ≤ n := by
  unfold exts
  refine Nat.le_trans (List.length_filter_le _ _) ?_
  simp
theorem exts_long (w p : List Int) (n : Nat) (h : 24 ≤ w.length) : ∀ a, a ≤ n → exts w p a n = [] := by
  refine down n ?_ ?_
  · exact exts_end _ _ _ _ (Nat.le_refl _)
  · intro a ha ih
    rw [exts_step _ _ _ _ ha, ih, _root_.if_neg]
    · rfl
    · unfold avd; rw [decide_eq_true_iff]; rintro ⟨_, h2, _⟩; simp at h2; omega
def eo (w p : List Int) (n : Int) : List Int := if (1 ≤ n ∧ n ≤ 3) ∧ isPat p = true ∧ iw w n.toNat = true then exts w p 0 n.toNat else []
theorem specFine_ev (n : Int) (p : List Int) (hp : p.length ≤ 1048576) : Ev (fun k => spec_l30Fine.f k n p) (decide ((1 ≤ n ∧ n ≤ 3) ∧ isPat p = true)) := by
  unfold spec_l30Fine.f
  refine Ev.bind (Ev.val (in_val _ _ _)) ?_
  by_cases q : 1 ≤ n ∧ n ≤ 3
  · rw [decide_eq_true q]
    refine Ev.if_pos rfl (Ev.bind (specIsPattern_ev p hp) (Ev.same (Ev.some _) ?_))
    cases isPat p <;> simp [q]
  · rw [decide_eq_false q, decide_eq_false (fun h => q h.1)]
    exact Ev.if_neg (by simp) (Ev.some _)
theorem implFine_ev (n : Int) (p : List Int) (hp : p.length ≤ 1048576) : Ev (fun k => impl_areAvoided.f k n p) (decide ((1 ≤ n ∧ n ≤ 3) ∧ isPat p = true)) := by
  unfold impl_areAvoided.f
  refine Ev.ite (fun q1 => ?_) (fun q1 => ?_)
  · refine Ev.ite (fun q2 => ?_) (fun q2 => ?_)
    · refine Ev.bind (implIsPattern_ev p hp) (Ev.same (Ev.some _) ?_)
      have q : 1 ≤ n ∧ n ≤ 3 := by omega
      cases isPat p <;> simp [q]
    · rw [decide_eq_false (fun h => by omega)]; exact Ev.some _
  · rw [decide_eq_false (fun h => by omega)]; exact Ev.some _
theorem specExt_ev (w p : List Int) (n : Int) (hw : w.length ≤ 1048576) (hp : p.length ≤ 1048576) : Ev (fun k => spec_ExtensionsOf.f k w n p) (eo w p n) := by
  have stop : ∀ (x7 : List Int) (a : Int), Ev (fun k => spec_ExtensionsOf.j1 k w n p x7 a false) x7 := fun x7 a => by
    refine Ev.step (fun k => by simp only [spec_ExtensionsOf.j1]; rw [_root_.if_neg (by simp)]) ?_
    exact Ev.some _
  unfold spec_ExtensionsOf.f
  by_cases q : (1 ≤ n ∧ n ≤ 3) ∧ isPat p = true ∧ iw w n.toNat = true
  · obtain ⟨m, rfl⟩ : ∃ m : Nat, n = (m : Int) := ⟨n.toNat, by omega⟩
    unfold eo
    rw [_root_.if_pos q]
    rw [Int.toNat_natCast] at q ⊢
    have key : ∀ a, a ≤ m → ∀ acc : List Int, acc.length ≤ 100 + a → Ev (fun k => spec_ExtensionsOf.l0 k w (m : Int) p acc (a : Int)) (acc ++ exts w p a m) := by
      refine down m ?_ ?_
      · intro acc ha
        refine Ev.step (fun k => by simp only [spec_ExtensionsOf.l0]; rw [_root_.if_neg (by omega)]) ?_
        rw [exts_end _ _ _ _ (Nat.le_refl _), List.append_nil]; exact stop _ _
      · intro a ha ih acc hacc
        refine Ev.step (fun k => by simp only [spec_ExtensionsOf.l0]; rw [_root_.if_pos (by omega)]) ?_
        refine Ev.bind (specFine_ev (m : Int) p hp) (Ev.if_pos (decide_eq_true ⟨q.1, q.2.1⟩) (Ev.bind (specIsWord_ev w m hw) ?_))
        rw [q.2.2]
        refine Ev.step (fun k => by simp only [spec_ExtensionsOf.j1]; rw [_root_.if_pos trivial, Option.bind_some, _root_.if_pos (by simp; omega), Option.bind_some, List.nil_append, _root_.if_pos (by omega)]) ?_
        refine Ev.bind (specAvoids_ev (w ++ [(a : Int)]) p (by have : w.length ≤ 400 := by { have h := q.2.2; unfold iw at h; simp only [Bool.and_eq_true, decide_eq_true_eq] at h; exact h.2.2 }; simp; omega) hp) ?_
        rw [exts_step _ _ _ _ ha]
        refine Ev.ite (fun q2 => ?_) (fun q2 => ?_)
        · have q3 : avd (w ++ [(a : Int)]) p = true := q2
          rw [_root_.if_pos q3, ← List.append_assoc]
          refine Ev.congr (fun k => by rw [_root_.if_pos (by omega), wsucc (i := a) (by omega)]) (ih (acc ++ [(a : Int)]) (by simp; omega))
        · have q3 : ¬ avd (w ++ [(a : Int)]) p = true := q2
          rw [_root_.if_neg q3, List.nil_append]
          refine Ev.congr (fun k => by rw [wsucc (i := a) (by omega)]) (ih acc (by omega))
    have := key 0 (by omega) [] (by simp)
    exact this
  · unfold eo
    rw [_root_.if_neg q]
    refine Ev.step (fun k => by simp only [spec_ExtensionsOf.l0]; rfl) ?_
    refine Ev.ite (fun q1 => ?_) (fun q1 => stop _ _)
    refine Ev.bind (specFine_ev n p hp) ?_
    by_cases q2 : (1 ≤ n ∧ n ≤ 3) ∧ isPat p = true
    · obtain ⟨m, rfl⟩ : ∃ m : Nat, n = (m : Int) := ⟨n.toNat, by omega⟩
      refine Ev.if_pos (decide_eq_true q2) (Ev.bind (specIsWord_ev w m hw) ?_)
      have hf : iw w m = false := Bool.eq_false_iff.2 (fun h => q ⟨q2.1, q2.2, by rw [Int.toNat_natCast]; exact h⟩)
      rw [hf]
      exact stop _ _
    · exact Ev.if_neg (by rw [decide_eq_false q2]; simp) (stop _ _)
theorem implExt_ev (w p : List Int) (n : Int) (hw : w.length ≤ 1048576) (hp : p.length ≤ 1048576) : Ev (fun k => impl_ExtensionsOf.f k w n p) (eo w p n) := by
  have stop : ∀ b, b = true → Ev (fun k => impl_ExtensionsOf.j0 k w n p [] b) [] := fun b hb => by
    refine Ev.step (fun k => by simp only [impl_ExtensionsOf.j0]; rw [_root_.if_pos hb]) ?_
    exact Ev.some _
  unfold impl_ExtensionsOf.f
  refine Ev.bind (Ev.some _) (Ev.bind (implFine_ev n p hp) ?_)
  by_cases q2 : (1 ≤ n ∧ n ≤ 3) ∧ isPat p = true
  · obtain ⟨m, rfl⟩ : ∃ m : Nat, n = (m : Int) := ⟨n.toNat, by omega⟩
    refine Ev.if_pos (decide_eq_true q2) (Ev.bind (implIsWord_ev w m hw) ?_)
    unfold eo
    rw [Int.toNat_natCast]
    by_cases q3 : iw w m = true
    · rw [_root_.if_pos ⟨q2.1, q2.2, q3⟩]
      refine Ev.if_pos q3 ?_
      by_cases q4 : 24 ≤ w.length
      · rw [exts_long w p m q4 0 (by omega)]
        exact stop _ (decide_eq_true (by omega))
      · rw [decide_eq_false (by omega)]
        refine Ev.step (fun k => by simp only [impl_ExtensionsOf.j0]; rw [_root_.if_neg (by simp)]) ?_
        have key : ∀ a, a ≤ m → ∀ acc : List Int, acc.length ≤ 100 + a → Ev (fun k => impl_ExtensionsOf.l0 k w p acc (m : Int) (a : Int)) (acc ++ exts w p a m) := by
          refine down m ?_ ?_
          · intro acc ha
            refine Ev.step (fun k => by simp only [impl_ExtensionsOf.l0]; rw [_root_.if_neg (by omega)]) ?_
            rw [exts_end _ _ _ _ (Nat.le_refl _), List.append_nil]; exact Ev.some _
          · intro a ha ih acc hacc
            refine Ev.step (fun k => by simp only [impl_ExtensionsOf.l0]; rw [_root_.if_pos (by omega), Option.bind_some, _root_.if_pos (by simp; omega), Option.bind_some, List.nil_append, _root_.if_pos (by omega)]) ?_
            refine Ev.bind (implAvoids_ev (w ++ [(a : Int)]) p (by simp; omega) hp) ?_
            rw [exts_step _ _ _ _ ha]
            refine Ev.ite (fun q2 => ?_) (fun q2 => ?_)
            · have q3 : avd (w ++ [(a : Int)]) p = true := q2
              rw [_root_.if_pos q3, ← List.append_assoc]
              refine Ev.congr (fun k => by rw [_root_.if_pos (by omega), wsucc (i := a) (by omega)]) (ih (acc ++ [(a : Int)]) (by simp; omega))
            · have q3 : ¬ avd (w ++ [(a : Int)]) p = true := q2
              rw [_root_.if_neg q3, List.nil_append]
              refine Ev.congr (fun k => by rw [wsucc (i := a) (by omega)]) (ih acc (by omega))
        exact key 0 (by omega) [] (by simp)
    · rw [_root_.if_neg (fun h => q3 h.2.2)]
      exact Ev.if_neg q3 (stop _ rfl)
  · unfold eo
    rw [_root_.if_neg (fun h => q2 ⟨h.1, h.2.1⟩)]
    exact Ev.if_neg (by rw [decide_eq_false q2]; simp) (stop _ rfl)
theorem lawExt : laws_FnExactExtensionsOf.Pure := by
  intro w n p _ hw _ hn _ hp _
  have main : Ev (fun k => laws_FnExactExtensionsOf.f k w n p) true := by
    unfold laws_FnExactExtensionsOf.f
    refine Ev.ite (fun _ => Ev.some _) (fun q1 => Ev.ite (fun _ => Ev.some _) (fun q2 => ?_))
    have h1 : w.length ≤ 1048576 := by omega
    have h2 : p.length ≤ 1048576 := by omega
    have tw := toIntS_ev w h1
    have tp := toIntS_ev p h2
    have hs := specExt_ev w p n h1 h2
    have hi := implExt_ev w p n h1 h2
    have hl : (eo w p n).length ≤ 100 := by
      unfold eo
      split
      · have := exts_len w p 0 n.toNat; omega
      · simp
    generalize eo w p n = r at hs hi hl
    have he : ∀ x : List Int, x.length ≤ 1048576 → Ev (fun k => laws_eqIntS.f k x x) true := fun x hx => by
      have := eqIntS_ev x x (by omega)
      rwa [decide_eq_true rfl] at this
    have hm : ∀ (x : List Int) (m : Int), 0 ≤ m → m ≤ 10000000 → x.length ≤ 1048576 → Ev (fun k => laws_markIntS.f k x m) (m + x.length, marks x.length m) := fun x m h0 h1 hx => markIntS_ev x m h0 (by omega)
    have hh : ∀ (k : Nat), k ≤ 1048576 → Ev (fun f => laws_heldIntS.f f (marks k 1) 1) (1 + (k : Int)) := fun k hk => heldIntS_ev k 1 (by omega) (by omega)
    refine Ev.bind tw (Ev.bind tp (Ev.bind hs (Ev.bind tw (Ev.bind tp (Ev.bind hi (Ev.bind (he r (by omega)) (Ev.if_pos rfl ?_)))))))
    refine Ev.bind tw (Ev.bind (he w h1) (Ev.if_pos rfl (Ev.bind tp (Ev.bind (he p h2) (Ev.if_pos rfl ?_)))))
    refine Ev.bind (hm w 1 (by omega) (by omega) h1) (Ev.bind (hm p _ (by omega) (by dsimp only; omega) h2) (Ev.if_neg (by dsimp only; omega) (Ev.bind (he r (by omega)) ?_)))
    refine Ev.step (fun k => by simp only [laws_FnExactExtensionsOf.j0]; rw [_root_.if_neg (by simp)]) ?_
    refine Ev.bind (hm r 1 (by omega) (by omega) (by omega)) (Ev.bind (hh r.length (by omega)) (Ev.if_neg (by omega) (Ev.if_pos (by dsimp only) ?_)))
    refine Ev.bind tw (Ev.bind tp (Ev.bind hi (Ev.bind (he r (by omega)) (Ev.if_pos rfl (Ev.bind (hh r.length (by omega)) (Ev.if_neg (by omega) (Ev.if_pos (by dsimp only) (Ev.some _))))))))
  obtain ⟨k, hk⟩ := main.rounds
  exact ⟨k, hk⟩
end Go.Proofs.Ythkkpdgadfhijaa.M
/- FnExactExtensionsOf: the plain law of the statement, out of what program and reference come to. No condition. -/
namespace Go.Proofs.Ythkkpdgadfhijaa.Pure
open Go.RowKit Go.Proofs.Ythkkpdgadfhijaa.M Go.Proofs.YthkkpdgadfhijaaW.PrintWords Go.Proofs.YthkkpdgadfhijaaW.PrintLast
theorem FnExactExtensionsOf : laws_FnExactExtensionsOf.Pure := lawExt
end Go.Proofs.Ythkkpdgadfhijaa.Pure
