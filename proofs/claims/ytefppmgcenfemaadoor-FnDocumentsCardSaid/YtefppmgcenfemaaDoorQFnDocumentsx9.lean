import Derived.Test.YtefppmgcenfemaaDoorUp
import Derived.Test.YtefppmgcenfemaaDoorQFnDocumentsx0
import Derived.Test.YtefppmgcenfemaaDoorQFnDocumentsx2
import Derived.Test.YtefppmgcenfemaaDoorQFnDocumentsx3
import Derived.Test.YtefppmgcenfemaaDoorQFnDocumentsx4
import Derived.Test.YtefppmgcenfemaaDoorQFnDocumentsx5
import Derived.Test.YtefppmgcenfemaaDoorQFnDocumentsx6
import Derived.Test.YtefppmgcenfemaaDoorQFnDocumentsx7
import Derived.Test.YtefppmgcenfemaaDoorQFnDocumentsx8
namespace Go.Proofs.YtefppmgcenfemaaDoor.QFnDocuments
open Go.RowKit Go.Proofs.YtefppmgcenfemaaDoorW.PrintWords Go.Proofs.YtefppmgcenfemaaDoorW.PrintLast Go.Proofs.YtefppmgcenfemaaDoorW.PrintMore
attribute [local go_sem] max2_int min2_int max_two min_two max_three min_three max_four min_four
set_option linter.unusedVariables false
set_option linter.unusedSimpArgs false
mutual
def laws_FnDocuments.j0 : Nat → List Int → List (S34) → Int → Int → Bool → Int → Bool → Option (Bool)
 | 0, _, _, _, _, _, _, _ => none
 | k + 1, x0, x3, x4, x5, x6, x7, x67 => if x67 = true then (some false) else (if x6 = true then (if x4 = x5 then (laws_FnDocuments.j1 k x0 x3 false) else (if 0 ≤ x7 then (if x7 < (x3.length : Int) then ((impl_IsUnder.f k x3 ((rd_T34 x3 x7).f1) x5).bind fun t321 => (laws_FnDocuments.j1 k x0 x3 (!t321))) else (none)) else (none))) else (laws_FnDocuments.j1 k x0 x3 false))
def laws_FnDocuments.j1 : Nat → List Int → List (S34) → Bool → Option (Bool)
 | 0, _, _, _ => none
 | k + 1, x0, x3, x84 => if x84 = true then (some false) else (laws_FnDocuments.l0 k x0 x3 0 0)
def laws_FnDocuments.l0 : Nat → List Int → List (S34) → Int → Int → Option (Bool)
 | 0, _, _, _, _ => none
 | k + 1, x0, x3, x8, x9 => if x9 < (x3.length : Int) then (if 0 ≤ x9 then ((impl_ChildrenOf.f k x3 ((rd_T34 x3 x9).f0)).bind fun t323 => (laws_FnDocuments.l0 k x0 x3 (wrap64 (x8 + (t323.length : Int))) (wrap64 (x9 + 1)))) else (none)) else ((spec_DrawEqualDocuments.f k x0).bind fun bt326 => (if x8 = (wrap64 ((x3.length : Int) - 1)) then ((impl_EqualDocuments.f k bt326.1 bt326.2).bind fun t332 => ((impl_EqualDocuments.f k bt326.2 bt326.1).bind fun t333 => (if (t332 == t333) = true then ((impl_EqualDocuments.f k bt326.1 bt326.1).bind fun t334 => (if t334 = true then ((impl_DocumentText.f k x3).bind fun t335 => (some (t335.toList != ([45] : List UInt8)))) else (some false))) else (some false)))) else (some false)))
end
def laws_FnDocuments.f (k : Nat) (l0 : List Int) : Option (Bool) := (laws_big.f l0).bind fun t302 => (if t302 = true then (some true) else ((spec_DrawIsUnder.f k l0).bind fun bt303 => ((impl_IsUnder.f k bt303.1 bt303.2.1 bt303.2.2).bind fun t308 => ((impl_IsDocument.f k bt303.1).bind fun t309 => ((spec_IsDocument.f k bt303.1).bind fun t310 => (if (t309 != t310) = true then (some false) else ((impl_IsDocument.f k bt303.1).bind fun t311 => (if t311 = true then ((impl_NodeOf.f k bt303.1 bt303.2.1).bind fun t312 => (if t312 ≥ 0 then ((impl_IsUnder.f k bt303.1 bt303.2.1 0).bind fun t313 => (if t313 = true then ((impl_IsUnder.f k bt303.1 bt303.2.1 bt303.2.1).bind fun t314 => (if t314 = true then (if bt303.2.1 > 0 then (if 0 ≤ t312 then (if t312 < (bt303.1.length : Int) then ((impl_ChildrenOf.f k bt303.1 ((rd_T34 bt303.1 t312).f1)).bind fun t316 => ((laws_contains.f k t316 bt303.2.1).bind fun t319 => (laws_FnDocuments.j0 k l0 bt303.1 bt303.2.1 bt303.2.2 t308 t312 (!t319)))) else (none)) else (none)) else (laws_FnDocuments.j0 k l0 bt303.1 bt303.2.1 bt303.2.2 t308 t312 false)) else (laws_FnDocuments.j0 k l0 bt303.1 bt303.2.1 bt303.2.2 t308 t312 true))) else (laws_FnDocuments.j0 k l0 bt303.1 bt303.2.1 bt303.2.2 t308 t312 true))) else (laws_FnDocuments.j0 k l0 bt303.1 bt303.2.1 bt303.2.2 t308 t312 false))) else (some (!t308))))))))))
theorem laws_FnDocuments.mono_l : ∀ k, (∀ y0 y1 y2 y3 y4 y5 y6, LeO (laws_FnDocuments.j0 k y0 y1 y2 y3 y4 y5 y6) (laws_FnDocuments.j0 (k + 1) y0 y1 y2 y3 y4 y5 y6)) ∧ (∀ y0 y1 y2, LeO (laws_FnDocuments.j1 k y0 y1 y2) (laws_FnDocuments.j1 (k + 1) y0 y1 y2)) ∧ (∀ y0 y1 y2 y3, LeO (laws_FnDocuments.l0 k y0 y1 y2 y3) (laws_FnDocuments.l0 (k + 1) y0 y1 y2 y3))
 | 0 => ⟨fun _ _ _ _ _ _ _ r h => by simp [laws_FnDocuments.j0] at h, fun _ _ _ r h => by simp [laws_FnDocuments.j1] at h, fun _ _ _ _ r h => by simp [laws_FnDocuments.l0] at h⟩
 | k + 1 => by
  obtain ⟨ih0, ih1, ih2⟩ := laws_FnDocuments.mono_l k
  refine ⟨?_, ?_, ?_⟩
  ·intro y0 y1 y2 y3 y4 y5 y6
   unfold laws_FnDocuments.j0
   repeat' first
   | (with_reducible exact ih0 _ _ _ _ _ _ _)
   | (with_reducible exact ih1 _ _ _)
   | (with_reducible exact ih2 _ _ _ _)
   | (with_reducible exact impl_ChildrenOf.mono _ _ _)
   | (with_reducible exact impl_DocumentText.mono _ _)
   | (with_reducible exact impl_EqualDocuments.mono _ _ _)
   | (with_reducible exact impl_IsDocument.mono _ _)
   | (with_reducible exact impl_IsUnder.mono _ _ _ _)
   | (with_reducible exact impl_NodeOf.mono _ _ _)
   | (with_reducible exact laws_contains.mono _ _ _)
   | (with_reducible exact spec_DrawEqualDocuments.mono _ _)
   | (with_reducible exact spec_DrawIsUnder.mono _ _)
   | (with_reducible exact spec_IsDocument.mono _ _)
   | (with_reducible exact LeO.refl _)
   | (with_reducible exact LeO.none _)
   | (with_reducible refine LeO.ite ?_ ?_)
   | (with_reducible refine LeO.bind ?_ (fun _ => ?_))
   | exact ih0 _ _ _ _ _ _ _
   | exact ih1 _ _ _
   | exact ih2 _ _ _ _
   | exact impl_ChildrenOf.mono _ _ _
   | exact impl_DocumentText.mono _ _
   | exact impl_EqualDocuments.mono _ _ _
   | exact impl_IsDocument.mono _ _
   | exact impl_IsUnder.mono _ _ _ _
   | exact impl_NodeOf.mono _ _ _
   | exact laws_contains.mono _ _ _
   | exact spec_DrawEqualDocuments.mono _ _
   | exact spec_DrawIsUnder.mono _ _
   | exact spec_IsDocument.mono _ _
   | exact LeO.none _
   | refine LeO.ite ?_ ?_
   | refine LeO.bind ?_ (fun _ => ?_)
  ·intro y0 y1 y2
   unfold laws_FnDocuments.j1
   repeat' first
   | (with_reducible exact ih0 _ _ _ _ _ _ _)
   | (with_reducible exact ih1 _ _ _)
   | (with_reducible exact ih2 _ _ _ _)
   | (with_reducible exact impl_ChildrenOf.mono _ _ _)
   | (with_reducible exact impl_DocumentText.mono _ _)
   | (with_reducible exact impl_EqualDocuments.mono _ _ _)
   | (with_reducible exact impl_IsDocument.mono _ _)
   | (with_reducible exact impl_IsUnder.mono _ _ _ _)
   | (with_reducible exact impl_NodeOf.mono _ _ _)
   | (with_reducible exact laws_contains.mono _ _ _)
   | (with_reducible exact spec_DrawEqualDocuments.mono _ _)
   | (with_reducible exact spec_DrawIsUnder.mono _ _)
   | (with_reducible exact spec_IsDocument.mono _ _)
   | (with_reducible exact LeO.refl _)
   | (with_reducible exact LeO.none _)
   | (with_reducible refine LeO.ite ?_ ?_)
   | (with_reducible refine LeO.bind ?_ (fun _ => ?_))
   | exact ih0 _ _ _ _ _ _ _
   | exact ih1 _ _ _
   | exact ih2 _ _ _ _
   | exact impl_ChildrenOf.mono _ _ _
   | exact impl_DocumentText.mono _ _
   | exact impl_EqualDocuments.mono _ _ _
   | exact impl_IsDocument.mono _ _
   | exact impl_IsUnder.mono _ _ _ _
   | exact impl_NodeOf.mono _ _ _
   | exact laws_contains.mono _ _ _
   | exact spec_DrawEqualDocuments.mono _ _
   | exact spec_DrawIsUnder.mono _ _
   | exact spec_IsDocument.mono _ _
   | exact LeO.none _
   | refine LeO.ite ?_ ?_
   | refine LeO.bind ?_ (fun _ => ?_)
  ·intro y0 y1 y2 y3
   unfold laws_FnDocuments.l0
   repeat' first
   | (with_reducible exact ih0 _ _ _ _ _ _ _)
   | (with_reducible exact ih1 _ _ _)
   | (with_reducible exact ih2 _ _ _ _)
   | (with_reducible exact impl_ChildrenOf.mono _ _ _)
   | (with_reducible exact impl_DocumentText.mono _ _)
   | (with_reducible exact impl_EqualDocuments.mono _ _ _)
   | (with_reducible exact impl_IsDocument.mono _ _)
   | (with_reducible exact impl_IsUnder.mono _ _ _ _)
   | (with_reducible exact impl_NodeOf.mono _ _ _)
   | (with_reducible exact laws_contains.mono _ _ _)
   | (with_reducible exact spec_DrawEqualDocuments.mono _ _)
   | (with_reducible exact spec_DrawIsUnder.mono _ _)
   | (with_reducible exact spec_IsDocument.mono _ _)
   | (with_reducible exact LeO.refl _)
   | (with_reducible exact LeO.none _)
   | (with_reducible refine LeO.ite ?_ ?_)
   | (with_reducible refine LeO.bind ?_ (fun _ => ?_))
   | exact ih0 _ _ _ _ _ _ _
   | exact ih1 _ _ _
   | exact ih2 _ _ _ _
   | exact impl_ChildrenOf.mono _ _ _
   | exact impl_DocumentText.mono _ _
   | exact impl_EqualDocuments.mono _ _ _
   | exact impl_IsDocument.mono _ _
   | exact impl_IsUnder.mono _ _ _ _
   | exact impl_NodeOf.mono _ _ _
   | exact laws_contains.mono _ _ _
   | exact spec_DrawEqualDocuments.mono _ _
   | exact spec_DrawIsUnder.mono _ _
   | exact spec_IsDocument.mono _ _
   | exact LeO.none _
   | refine LeO.ite ?_ ?_
   | refine LeO.bind ?_ (fun _ => ?_)
theorem laws_FnDocuments.mono : ∀ a0 k, LeO (laws_FnDocuments.f k a0) (laws_FnDocuments.f (k + 1) a0) := by
 intro a0 k
 obtain ⟨ih0, ih1, ih2⟩ := laws_FnDocuments.mono_l k
 unfold laws_FnDocuments.f
 repeat' first
   | (with_reducible exact ih0 _ _ _ _ _ _ _)
   | (with_reducible exact ih1 _ _ _)
   | (with_reducible exact ih2 _ _ _ _)
   | (with_reducible exact impl_ChildrenOf.mono _ _ _)
   | (with_reducible exact impl_DocumentText.mono _ _)
   | (with_reducible exact impl_EqualDocuments.mono _ _ _)
   | (with_reducible exact impl_IsDocument.mono _ _)
   | (with_reducible exact impl_IsUnder.mono _ _ _ _)
   | (with_reducible exact impl_NodeOf.mono _ _ _)
   | (with_reducible exact laws_contains.mono _ _ _)
   | (with_reducible exact spec_DrawEqualDocuments.mono _ _)
   | (with_reducible exact spec_DrawIsUnder.mono _ _)
   | (with_reducible exact spec_IsDocument.mono _ _)
   | (with_reducible exact LeO.refl _)
   | (with_reducible exact LeO.none _)
   | (with_reducible refine LeO.ite ?_ ?_)
   | (with_reducible refine LeO.bind ?_ (fun _ => ?_))
   | exact ih0 _ _ _ _ _ _ _
   | exact ih1 _ _ _
   | exact ih2 _ _ _ _
   | exact impl_ChildrenOf.mono _ _ _
   | exact impl_DocumentText.mono _ _
   | exact impl_EqualDocuments.mono _ _ _
   | exact impl_IsDocument.mono _ _
   | exact impl_IsUnder.mono _ _ _ _
   | exact impl_NodeOf.mono _ _ _
   | exact laws_contains.mono _ _ _
   | exact spec_DrawEqualDocuments.mono _ _
   | exact spec_DrawIsUnder.mono _ _
   | exact spec_IsDocument.mono _ _
   | exact LeO.none _
   | refine LeO.ite ?_ ?_
   | refine LeO.bind ?_ (fun _ => ?_)
set_option maxHeartbeats 8000000 in
set_option maxRecDepth 100000 in
theorem laws_FnDocuments.calls (k : Nat) (A0 : Option Addr) (c0 : Nat) (l0 : List Int) (r : Bool) (w : World) (hr0 : Kd.C (Kd.int .u8) w A0 l0.length l0) (hc0 : l0.length ≤ c0) (HTAB : TabHolds w) (h : laws_FnDocuments.f k l0 = some r) :
  Calls Tryd.prog 3 #[.slice A0 l0.length c0] w fun e w' => e = .returned (.bool r) ∧ Below w.heap.size w w' := by
 have HR0 := am hr0
 have HC0 := am hc0
 clear hr0 hc0
 have HB := am (Below.refl w.heap.size w)
 have H : ((laws_big.f l0).bind fun t302 => (if t302 = true then (some true) else ((spec_DrawIsUnder.f k l0).bind fun bt303 => ((impl_IsUnder.f k bt303.1 bt303.2.1 bt303.2.2).bind fun t308 => ((impl_IsDocument.f k bt303.1).bind fun t309 => ((spec_IsDocument.f k bt303.1).bind fun t310 => (if (t309 != t310) = true then (some false) else ((impl_IsDocument.f k bt303.1).bind fun t311 => (if t311 = true then ((impl_NodeOf.f k bt303.1 bt303.2.1).bind fun t312 => (if t312 ≥ 0 then ((impl_IsUnder.f k bt303.1 bt303.2.1 0).bind fun t313 => (if t313 = true then ((impl_IsUnder.f k bt303.1 bt303.2.1 bt303.2.1).bind fun t314 => (if t314 = true then (if bt303.2.1 > 0 then (if 0 ≤ t312 then (if t312 < (bt303.1.length : Int) then ((impl_ChildrenOf.f k bt303.1 ((rd_T34 bt303.1 t312).f1)).bind fun t316 => ((laws_contains.f k t316 bt303.2.1).bind fun t319 => (laws_FnDocuments.j0 k l0 bt303.1 bt303.2.1 bt303.2.2 t308 t312 (!t319)))) else (none)) else (none)) else (laws_FnDocuments.j0 k l0 bt303.1 bt303.2.1 bt303.2.2 t308 t312 false)) else (laws_FnDocuments.j0 k l0 bt303.1 bt303.2.1 bt303.2.2 t308 t312 true))) else (laws_FnDocuments.j0 k l0 bt303.1 bt303.2.1 bt303.2.2 t308 t312 true))) else (laws_FnDocuments.j0 k l0 bt303.1 bt303.2.1 bt303.2.2 t308 t312 false))) else (some (!t308))))))))))) = some r := h
 clear h
 replace H := Option.bind_eq_some_iff.mp H
 obtain ⟨t302, A20, H⟩ := H
 replace H : (if t302 = true then (some true) else ((spec_DrawIsUnder.f k l0).bind fun bt303 => ((impl_IsUnder.f k bt303.1 bt303.2.1 bt303.2.2).bind fun t308 => ((impl_IsDocument.f k bt303.1).bind fun t309 => ((spec_IsDocument.f k bt303.1).bind fun t310 => (if (t309 != t310) = true then (some false) else ((impl_IsDocument.f k bt303.1).bind fun t311 => (if t311 = true then ((impl_NodeOf.f k bt303.1 bt303.2.1).bind fun t312 => (if t312 ≥ 0 then ((impl_IsUnder.f k bt303.1 bt303.2.1 0).bind fun t313 => (if t313 = true then ((impl_IsUnder.f k bt303.1 bt303.2.1 bt303.2.1).bind fun t314 => (if t314 = true then (if bt303.2.1 > 0 then (if 0 ≤ t312 then (if t312 < (bt303.1.length : Int) then ((impl_ChildrenOf.f k bt303.1 ((rd_T34 bt303.1 t312).f1)).bind fun t316 => ((laws_contains.f k t316 bt303.2.1).bind fun t319 => (laws_FnDocuments.j0 k l0 bt303.1 bt303.2.1 bt303.2.2 t308 t312 (!t319)))) else (none)) else (none)) else (laws_FnDocuments.j0 k l0 bt303.1 bt303.2.1 bt303.2.2 t308 t312 false)) else (laws_FnDocuments.j0 k l0 bt303.1 bt303.2.1 bt303.2.2 t308 t312 true))) else (laws_FnDocuments.j0 k l0 bt303.1 bt303.2.1 bt303.2.2 t308 t312 true))) else (laws_FnDocuments.j0 k l0 bt303.1 bt303.2.1 bt303.2.2 t308 t312 false))) else (some (!t308)))))))))) = some r := H
 have A2 := am A20
 clear A20
 by_cases c3 : t302 = true
 ·subst c3
  have H1 : (some true) = some r := by rw [if_pos rfl] at H; exact H
  clear H
  have H := H1
  clear H1
  obtain rfl := Option.some.inj H
  go_enter Tryd.func3, Tryd.ntmps3
  go_wp2_with (first | ((with_reducible refine gate_callee (f := 5) rfl ?_); refine goesL_ (some 13) rfl rfl Tryd.func5 (by kernel_rfl) rfl #[.slice A0 l0.length c0] rfl mU ?_; (with_reducible refine (laws_big.calls _ _ l0 true _ ?side1 ?side2 A2.out).mono ?_); (case side1 => exact cU HR0.out); (case side2 => exact HC0.out); rintro e w' ⟨rfl, ⟨nd, rfl⟩⟩; refine ⟨_, rfl, ?_⟩))
  go_ret
  exact ⟨eU, bU HB.out⟩
 ·replace c3 := Bool.eq_false_iff.mpr c3
  subst c3
  have H1 : ((spec_DrawIsUnder.f k l0).bind fun bt303 => ((impl_IsUnder.f k bt303.1 bt303.2.1 bt303.2.2).bind fun t308 => ((impl_IsDocument.f k bt303.1).bind fun t309 => ((spec_IsDocument.f k bt303.1).bind fun t310 => (if (t309 != t310) = true then (some false) else ((impl_IsDocument.f k bt303.1).bind fun t311 => (if t311 = true then ((impl_NodeOf.f k bt303.1 bt303.2.1).bind fun t312 => (if t312 ≥ 0 then ((impl_IsUnder.f k bt303.1 bt303.2.1 0).bind fun t313 => (if t313 = true then ((impl_IsUnder.f k bt303.1 bt303.2.1 bt303.2.1).bind fun t314 => (if t314 = true then (if bt303.2.1 > 0 then (if 0 ≤ t312 then (if t312 < (bt303.1.length : Int) then ((impl_ChildrenOf.f k bt303.1 ((rd_T34 bt303.1 t312).f1)).bind fun t316 => ((laws_contains.f k t316 bt303.2.1).bind fun t319 => (laws_FnDocuments.j0 k l0 bt303.1 bt303.2.1 bt303.2.2 t308 t312 (!t319)))) else (none)) else (none)) else (laws_FnDocuments.j0 k l0 bt303.1 bt303.2.1 bt303.2.2 t308 t312 false)) else (laws_FnDocuments.j0 k l0 bt303.1 bt303.2.1 bt303.2.2 t308 t312 true))) else (laws_FnDocuments.j0 k l0 bt303.1 bt303.2.1 bt303.2.2 t308 t312 true))) else (laws_FnDocuments.j0 k l0 bt303.1 bt303.2.1 bt303.2.2 t308 t312 false))) else (some (!t308))))))))) = some r := by rw [if_neg (show ¬ (false = true) by decide)] at H; exact H
  clear H
  have H := H1
  clear H1
  replace H := Option.bind_eq_some_iff.mp H
  obtain ⟨⟨t303, t304, t305⟩, A40, H⟩ := H
  replace H : ((impl_IsUnder.f k t303 t304 t305).bind fun t308 => ((impl_IsDocument.f k t303).bind fun t309 => ((spec_IsDocument.f k t303).bind fun t310 => (if (t309 != t310) = true then (some false) else ((impl_IsDocument.f k t303).bind fun t311 => (if t311 = true then ((impl_NodeOf.f k t303 t304).bind fun t312 => (if t312 ≥ 0 then ((impl_IsUnder.f k t303 t304 0).bind fun t313 => (if t313 = true then ((impl_IsUnder.f k t303 t304 t304).bind fun t314 => (if t314 = true then (if t304 > 0 then (if 0 ≤ t312 then (if t312 < (t303.length : Int) then ((impl_ChildrenOf.f k t303 ((rd_T34 t303 t312).f1)).bind fun t316 => ((laws_contains.f k t316 t304).bind fun t319 => (laws_FnDocuments.j0 k l0 t303 t304 t305 t308 t312 (!t319)))) else (none)) else (none)) else (laws_FnDocuments.j0 k l0 t303 t304 t305 t308 t312 false)) else (laws_FnDocuments.j0 k l0 t303 t304 t305 t308 t312 true))) else (laws_FnDocuments.j0 k l0 t303 t304 t305 t308 t312 true))) else (laws_FnDocuments.j0 k l0 t303 t304 t305 t308 t312 false))) else (some (!t308)))))))) = some r := H
  have A4 := am A40
  clear A40
  replace H := Option.bind_eq_some_iff.mp H
  obtain ⟨t308, A50, H⟩ := H
  replace H : ((impl_IsDocument.f k t303).bind fun t309 => ((spec_IsDocument.f k t303).bind fun t310 => (if (t309 != t310) = true then (some false) else ((impl_IsDocument.f k t303).bind fun t311 => (if t311 = true then ((impl_NodeOf.f k t303 t304).bind fun t312 => (if t312 ≥ 0 then ((impl_IsUnder.f k t303 t304 0).bind fun t313 => (if t313 = true then ((impl_IsUnder.f k t303 t304 t304).bind fun t314 => (if t314 = true then (if t304 > 0 then (if 0 ≤ t312 then (if t312 < (t303.length : Int) then ((impl_ChildrenOf.f k t303 ((rd_T34 t303 t312).f1)).bind fun t316 => ((laws_contains.f k t316 t304).bind fun t319 => (laws_FnDocuments.j0 k l0 t303 t304 t305 t308 t312 (!t319)))) else (none)) else (none)) else (laws_FnDocuments.j0 k l0 t303 t304 t305 t308 t312 false)) else (laws_FnDocuments.j0 k l0 t303 t304 t305 t308 t312 true))) else (laws_FnDocuments.j0 k l0 t303 t304 t305 t308 t312 true))) else (laws_FnDocuments.j0 k l0 t303 t304 t305 t308 t312 false))) else (some (!t308))))))) = some r := H
  have A5 := am A50
  clear A50
  replace H := Option.bind_eq_some_iff.mp H
  obtain ⟨t309, A60, H⟩ := H
  replace H : ((spec_IsDocument.f k t303).bind fun t310 => (if (t309 != t310) = true then (some false) else ((impl_IsDocument.f k t303).bind fun t311 => (if t311 = true then ((impl_NodeOf.f k t303 t304).bind fun t312 => (if t312 ≥ 0 then ((impl_IsUnder.f k t303 t304 0).bind fun t313 => (if t313 = true then ((impl_IsUnder.f k t303 t304 t304).bind fun t314 => (if t314 = true then (if t304 > 0 then (if 0 ≤ t312 then (if t312 < (t303.length : Int) then ((impl_ChildrenOf.f k t303 ((rd_T34 t303 t312).f1)).bind fun t316 => ((laws_contains.f k t316 t304).bind fun t319 => (laws_FnDocuments.j0 k l0 t303 t304 t305 t308 t312 (!t319)))) else (none)) else (none)) else (laws_FnDocuments.j0 k l0 t303 t304 t305 t308 t312 false)) else (laws_FnDocuments.j0 k l0 t303 t304 t305 t308 t312 true))) else (laws_FnDocuments.j0 k l0 t303 t304 t305 t308 t312 true))) else (laws_FnDocuments.j0 k l0 t303 t304 t305 t308 t312 false))) else (some (!t308)))))) = some r := H
  have A6 := am A60
  clear A60
  replace H := Option.bind_eq_some_iff.mp H
  obtain ⟨t310, A70, H⟩ := H
  replace H : (if (t309 != t310) = true then (some false) else ((impl_IsDocument.f k t303).bind fun t311 => (if t311 = true then ((impl_NodeOf.f k t303 t304).bind fun t312 => (if t312 ≥ 0 then ((impl_IsUnder.f k t303 t304 0).bind fun t313 => (if t313 = true then ((impl_IsUnder.f k t303 t304 t304).bind fun t314 => (if t314 = true then (if t304 > 0 then (if 0 ≤ t312 then (if t312 < (t303.length : Int) then ((impl_ChildrenOf.f k t303 ((rd_T34 t303 t312).f1)).bind fun t316 => ((laws_contains.f k t316 t304).bind fun t319 => (laws_FnDocuments.j0 k l0 t303 t304 t305 t308 t312 (!t319)))) else (none)) else (none)) else (laws_FnDocuments.j0 k l0 t303 t304 t305 t308 t312 false)) else (laws_FnDocuments.j0 k l0 t303 t304 t305 t308 t312 true))) else (laws_FnDocuments.j0 k l0 t303 t304 t305 t308 t312 true))) else (laws_FnDocuments.j0 k l0 t303 t304 t305 t308 t312 false))) else (some (!t308))))) = some r := H
  have A7 := am A70
  clear A70
  by_cases c8 : (t309 != t310) = true
  ·rw [if_pos c8] at H
   have c8b0 : (t309 != t310) = true := c8
   (try (have c8b1 : decide (t309 = t310) = false := by simpa using c8))
   (try (have c8b2 : (t309 == t310) = false := by simpa using c8))
   (try (have c8b3 : ¬ (t309 = t310) := by simpa using c8))
   clear c8
   obtain rfl := Option.some.inj H
   go_enter Tryd.func3, Tryd.ntmps3
   go_wp2_with (first | ((with_reducible refine gate_callee (f := 5) rfl ?_); refine goesL_ (some 13) rfl rfl Tryd.func5 (by kernel_rfl) rfl #[.slice A0 l0.length c0] rfl mU ?_; (with_reducible refine (laws_big.calls _ _ l0 false _ ?side1 ?side2 A2.out).mono ?_); (case side1 => exact cU HR0.out); (case side2 => exact HC0.out); rintro e w' ⟨rfl, ⟨nd, rfl⟩⟩; refine ⟨_, rfl, ?_⟩) | ((with_reducible refine gate_callee (f := 6) rfl ?_); refine goesL_ (some 16) rfl rfl Tryd.func6 (by kernel_rfl) rfl #[.slice A0 l0.length c0] rfl mU ?_; (with_reducible refine (spec_DrawIsUnder.calls k _ _ l0 t303 t304 t305 _ ?side1 ?side2 A4.out).mono ?_); (case side1 => exact cU HR0.out); (case side2 => exact HC0.out); rintro e w9 ⟨v306, rfl, ho0, hb⟩; refine ⟨_, rfl, ?_⟩; have n0_ := am (Kd.R_lower ho0 (below_size (bU HB.out))); have n1_ := am (below_step (bU HB.out) hb); clear HB; have HO307 := n0_; have HB := n1_; clear n0_ n1_; (try clear hb); (try clear hb2); (try clear hk); (try clear hi); (try clear ho0); obtain ⟨Ao10, co10, eo10⟩ := Kd.R_slice HO307.out; subst eo10) | ((with_reducible refine gate_callee (f := 7) rfl ?_); refine goesL_ (some 23) rfl rfl Tryd.func7 (by kernel_rfl) rfl #[.slice Ao10 t303.length co10, .int .i64 t304, .int .i64 t305] rfl mU ?_; (with_reducible refine (impl_IsUnder.calls k _ _ t303 t304 t305 t308 _ ?side1 ?side2 A5.out).mono ?_); (case side1 => exact cU (Kd.R_reads' HO307.out).2.2); (case side2 => exact (Kd.R_reads' HO307.out).2.1); rintro e w11 ⟨rfl, hb⟩; refine ⟨_, rfl, ?_⟩; have n0_ := am (Kd.R_below (rU HO307.out) hb); have n1_ := am (below_step (bU HB.out) hb); clear HO307; clear HB; have HO307 := n0_; have HB := n1_; clear n0_ n1_; (try clear hb); (try clear hb2); (try clear hk); (try clear hi)) | ((with_reducible refine gate_callee (f := 8) rfl ?_); refine goesL_ (some 25) rfl rfl Tryd.func8 (by kernel_rfl) rfl #[.slice Ao10 t303.length co10] rfl mU ?_; (with_reducible refine (impl_IsDocument.calls k _ _ t303 t309 _ ?side1 ?side2 A6.out).mono ?_); (case side1 => exact cU (Kd.R_reads' HO307.out).2.2); (case side2 => exact (Kd.R_reads' HO307.out).2.1); rintro e w12 ⟨rfl, hb⟩; refine ⟨_, rfl, ?_⟩; have n0_ := am (Kd.R_below (rU HO307.out) hb); have n1_ := am (below_step (bU HB.out) hb); clear HO307; clear HB; have HO307 := n0_; have HB := n1_; clear n0_ n1_; (try clear hb); (try clear hb2); (try clear hk); (try clear hi)) | ((with_reducible refine gate_callee (f := 9) rfl ?_); refine goesL_ (some 27) rfl rfl Tryd.func9 (by kernel_rfl) rfl #[.slice Ao10 t303.length co10] rfl mU ?_; (with_reducible refine (spec_IsDocument.calls k _ _ t303 t310 _ ?side1 ?side2 A7.out).mono ?_); (case side1 => exact cU (Kd.R_reads' HO307.out).2.2); (case side2 => exact (Kd.R_reads' HO307.out).2.1); rintro e w' ⟨rfl, ⟨nd, rfl⟩⟩; refine ⟨_, rfl, ?_⟩))
   go_ret
   exact ⟨eU, bU HB.out⟩
  ·rw [if_neg c8] at H
   have c8b0 : (t309 != t310) = false := by simpa using c8
   (try (have c8b1 : decide (t309 = t310) = true := by simpa using c8))
   (try (have c8b2 : (t309 == t310) = true := by simpa using c8))
   clear c8
   replace H := Option.bind_eq_some_iff.mp H
   obtain ⟨t311, A130, H⟩ := H
   replace H : (if t311 = true then ((impl_NodeOf.f k t303 t304).bind fun t312 => (if t312 ≥ 0 then ((impl_IsUnder.f k t303 t304 0).bind fun t313 => (if t313 = true then ((impl_IsUnder.f k t303 t304 t304).bind fun t314 => (if t314 = true then (if t304 > 0 then (if 0 ≤ t312 then (if t312 < (t303.length : Int) then ((impl_ChildrenOf.f k t303 ((rd_T34 t303 t312).f1)).bind fun t316 => ((laws_contains.f k t316 t304).bind fun t319 => (laws_FnDocuments.j0 k l0 t303 t304 t305 t308 t312 (!t319)))) else (none)) else (none)) else (laws_FnDocuments.j0 k l0 t303 t304 t305 t308 t312 false)) else (laws_FnDocuments.j0 k l0 t303 t304 t305 t308 t312 true))) else (laws_FnDocuments.j0 k l0 t303 t304 t305 t308 t312 true))) else (laws_FnDocuments.j0 k l0 t303 t304 t305 t308 t312 false))) else (some (!t308))) = some r := H
   have A13 := am A130
   clear A130
   by_cases c14 : t311 = true
   ·subst c14
    have H1 : ((impl_NodeOf.f k t303 t304).bind fun t312 => (if t312 ≥ 0 then ((impl_IsUnder.f k t303 t304 0).bind fun t313 => (if t313 = true then ((impl_IsUnder.f k t303 t304 t304).bind fun t314 => (if t314 = true then (if t304 > 0 then (if 0 ≤ t312 then (if t312 < (t303.length : Int) then ((impl_ChildrenOf.f k t303 ((rd_T34 t303 t312).f1)).bind fun t316 => ((laws_contains.f k t316 t304).bind fun t319 => (laws_FnDocuments.j0 k l0 t303 t304 t305 t308 t312 (!t319)))) else (none)) else (none)) else (laws_FnDocuments.j0 k l0 t303 t304 t305 t308 t312 false)) else (laws_FnDocuments.j0 k l0 t303 t304 t305 t308 t312 true))) else (laws_FnDocuments.j0 k l0 t303 t304 t305 t308 t312 true))) else (laws_FnDocuments.j0 k l0 t303 t304 t305 t308 t312 false))) = some r := by rw [if_pos rfl] at H; exact H
    clear H
    have H := H1
    clear H1
    replace H := Option.bind_eq_some_iff.mp H
    obtain ⟨t312, A150, H⟩ := H
    replace H : (if t312 ≥ 0 then ((impl_IsUnder.f k t303 t304 0).bind fun t313 => (if t313 = true then ((impl_IsUnder.f k t303 t304 t304).bind fun t314 => (if t314 = true then (if t304 > 0 then (if 0 ≤ t312 then (if t312 < (t303.length : Int) then ((impl_ChildrenOf.f k t303 ((rd_T34 t303 t312).f1)).bind fun t316 => ((laws_contains.f k t316 t304).bind fun t319 => (laws_FnDocuments.j0 k l0 t303 t304 t305 t308 t312 (!t319)))) else (none)) else (none)) else (laws_FnDocuments.j0 k l0 t303 t304 t305 t308 t312 false)) else (laws_FnDocuments.j0 k l0 t303 t304 t305 t308 t312 true))) else (laws_FnDocuments.j0 k l0 t303 t304 t305 t308 t312 true))) else (laws_FnDocuments.j0 k l0 t303 t304 t305 t308 t312 false)) = some r := H
    have A15 := am A150
    clear A150
    have HC16 := am H
    clear H
    go_enter Tryd.func3, Tryd.ntmps3
    go_upto_region 10 with (first | ((with_reducible refine gate_callee (f := 5) rfl ?_); refine goesL_ (some 13) rfl rfl Tryd.func5 (by kernel_rfl) rfl #[.slice A0 l0.length c0] rfl mU ?_; (with_reducible refine (laws_big.calls _ _ l0 false _ ?side1 ?side2 A2.out).mono ?_); (case side1 => exact cU HR0.out); (case side2 => exact HC0.out); rintro e w' ⟨rfl, ⟨nd, rfl⟩⟩; refine ⟨_, rfl, ?_⟩) | ((with_reducible refine gate_callee (f := 6) rfl ?_); refine goesL_ (some 16) rfl rfl Tryd.func6 (by kernel_rfl) rfl #[.slice A0 l0.length c0] rfl mU ?_; (with_reducible refine (spec_DrawIsUnder.calls k _ _ l0 t303 t304 t305 _ ?side1 ?side2 A4.out).mono ?_); (case side1 => exact cU HR0.out); (case side2 => exact HC0.out); rintro e w17 ⟨v306, rfl, ho0, hb⟩; refine ⟨_, rfl, ?_⟩; have n0_ := am (Kd.R_lower ho0 (below_size (bU HB.out))); have n1_ := am (below_step (bU HB.out) hb); clear HB; have HO307 := n0_; have HB := n1_; clear n0_ n1_; (try clear hb); (try clear hb2); (try clear hk); (try clear hi); (try clear ho0); obtain ⟨Ao18, co18, eo18⟩ := Kd.R_slice HO307.out; subst eo18) | ((with_reducible refine gate_callee (f := 7) rfl ?_); refine goesL_ (some 23) rfl rfl Tryd.func7 (by kernel_rfl) rfl #[.slice Ao18 t303.length co18, .int .i64 t304, .int .i64 t305] rfl mU ?_; (with_reducible refine (impl_IsUnder.calls k _ _ t303 t304 t305 t308 _ ?side1 ?side2 A5.out).mono ?_); (case side1 => exact cU (Kd.R_reads' HO307.out).2.2); (case side2 => exact (Kd.R_reads' HO307.out).2.1); rintro e w19 ⟨rfl, hb⟩; refine ⟨_, rfl, ?_⟩; have n0_ := am (Kd.R_below (rU HO307.out) hb); have n1_ := am (below_step (bU HB.out) hb); clear HO307; clear HB; have HO307 := n0_; have HB := n1_; clear n0_ n1_; (try clear hb); (try clear hb2); (try clear hk); (try clear hi)) | ((with_reducible refine gate_callee (f := 8) rfl ?_); refine goesL_ (some 25) rfl rfl Tryd.func8 (by kernel_rfl) rfl #[.slice Ao18 t303.length co18] rfl mU ?_; (with_reducible refine (impl_IsDocument.calls k _ _ t303 t309 _ ?side1 ?side2 A6.out).mono ?_); (case side1 => exact cU (Kd.R_reads' HO307.out).2.2); (case side2 => exact (Kd.R_reads' HO307.out).2.1); rintro e w20 ⟨rfl, hb⟩; refine ⟨_, rfl, ?_⟩; have n0_ := am (Kd.R_below (rU HO307.out) hb); have n1_ := am (below_step (bU HB.out) hb); clear HO307; clear HB; have HO307 := n0_; have HB := n1_; clear n0_ n1_; (try clear hb); (try clear hb2); (try clear hk); (try clear hi)) | ((with_reducible refine gate_callee (f := 9) rfl ?_); refine goesL_ (some 27) rfl rfl Tryd.func9 (by kernel_rfl) rfl #[.slice Ao18 t303.length co18] rfl mU ?_; (with_reducible refine (spec_IsDocument.calls k _ _ t303 t310 _ ?side1 ?side2 A7.out).mono ?_); (case side1 => exact cU (Kd.R_reads' HO307.out).2.2); (case side2 => exact (Kd.R_reads' HO307.out).2.1); rintro e w' ⟨rfl, ⟨nd, rfl⟩⟩; refine ⟨_, rfl, ?_⟩) | ((with_reducible refine gate_callee (f := 8) rfl ?_); refine goesL_ (some 30) rfl rfl Tryd.func8 (by kernel_rfl) rfl #[.slice Ao18 t303.length co18] rfl mU ?_; (with_reducible refine (impl_IsDocument.calls k _ _ t303 true _ ?side1 ?side2 A13.out).mono ?_); (case side1 => exact cU (Kd.R_reads' HO307.out).2.2); (case side2 => exact (Kd.R_reads' HO307.out).2.1); rintro e w21 ⟨rfl, hb⟩; refine ⟨_, rfl, ?_⟩; have n0_ := am (Kd.R_below (rU HO307.out) hb); have n1_ := am (below_step (bU HB.out) hb); clear HO307; clear HB; have HO307 := n0_; have HB := n1_; clear n0_ n1_; (try clear hb); (try clear hb2); (try clear hk); (try clear hi)) | ((with_reducible refine gate_callee (f := 10) rfl ?_); refine goesL_ (some 36) rfl rfl Tryd.func10 (by kernel_rfl) rfl #[.slice Ao18 t303.length co18, .int .i64 t304] rfl mU ?_; (with_reducible refine (impl_NodeOf.calls k _ _ t303 t304 t312 _ ?side1 ?side2 A15.out).mono ?_); (case side1 => exact cU (Kd.R_reads' HO307.out).2.2); (case side2 => exact (Kd.R_reads' HO307.out).2.1); rintro e w22 ⟨rfl, hb⟩; refine ⟨_, rfl, ?_⟩; have n0_ := am (Kd.R_below (rU HO307.out) hb); have n1_ := am (below_step (bU HB.out) hb); clear HO307; clear HB; have HO307 := n0_; have HB := n1_; clear n0_ n1_; (try clear hb); (try clear hb2); (try clear hk); (try clear hi)))
    (try simp only [Act.put, List.setIfInBounds_toArray, List.set_cons_zero, List.set_cons_succ])
    go_cut [67] (fun v67 wc => ∃ (kq : Nat) (x67_15 : Bool), v67 = .bool x67_15 ∧ Aside0 (laws_FnDocuments.j0 kq l0 t303 t304 t305 t308 t312 x67_15 = some r) ∧ Aside0 (kq ≤ k) ∧ Aside0 (Kd.R k34 34 wc w.heap.size (fun _ => True) (.slice Ao18 t303.length co18) t303) ∧ Aside0 (Below w.heap.size w wc))
    case first =>
     have H := HC16.out
     clear HC16
     by_cases c23 : t312 ≥ 0
     ·rw [if_pos c23] at H
      have c23b0 : decide (0 ≤ t312) = true := decide_eq_true c23
      clear c23
      (first | rw [c23b0] | (simp only [i64_w, i32_w]; rw [c23b0]) | skip)
      replace H := Option.bind_eq_some_iff.mp H
      obtain ⟨t313, A240, H⟩ := H
      replace H : (if t313 = true then ((impl_IsUnder.f k t303 t304 t304).bind fun t314 => (if t314 = true then (if t304 > 0 then (if 0 ≤ t312 then (if t312 < (t303.length : Int) then ((impl_ChildrenOf.f k t303 ((rd_T34 t303 t312).f1)).bind fun t316 => ((laws_contains.f k t316 t304).bind fun t319 => (laws_FnDocuments.j0 k l0 t303 t304 t305 t308 t312 (!t319)))) else (none)) else (none)) else (laws_FnDocuments.j0 k l0 t303 t304 t305 t308 t312 false)) else (laws_FnDocuments.j0 k l0 t303 t304 t305 t308 t312 true))) else (laws_FnDocuments.j0 k l0 t303 t304 t305 t308 t312 true)) = some r := H
      have A24 := am A240
      clear A240
      by_cases c25 : t313 = true
      ·subst c25
       have H1 : ((impl_IsUnder.f k t303 t304 t304).bind fun t314 => (if t314 = true then (if t304 > 0 then (if 0 ≤ t312 then (if t312 < (t303.length : Int) then ((impl_ChildrenOf.f k t303 ((rd_T34 t303 t312).f1)).bind fun t316 => ((laws_contains.f k t316 t304).bind fun t319 => (laws_FnDocuments.j0 k l0 t303 t304 t305 t308 t312 (!t319)))) else (none)) else (none)) else (laws_FnDocuments.j0 k l0 t303 t304 t305 t308 t312 false)) else (laws_FnDocuments.j0 k l0 t303 t304 t305 t308 t312 true))) = some r := by rw [if_pos rfl] at H; exact H
       clear H
       have H := H1
       clear H1
       replace H := Option.bind_eq_some_iff.mp H
       obtain ⟨t314, A260, H⟩ := H
       replace H : (if t314 = true then (if t304 > 0 then (if 0 ≤ t312 then (if t312 < (t303.length : Int) then ((impl_ChildrenOf.f k t303 ((rd_T34 t303 t312).f1)).bind fun t316 => ((laws_contains.f k t316 t304).bind fun t319 => (laws_FnDocuments.j0 k l0 t303 t304 t305 t308 t312 (!t319)))) else (none)) else (none)) else (laws_FnDocuments.j0 k l0 t303 t304 t305 t308 t312 false)) else (laws_FnDocuments.j0 k l0 t303 t304 t305 t308 t312 true)) = some r := H
       have A26 := am A260
       clear A260
       by_cases c27 : t314 = true
       ·subst c27
        have H1 : (if t304 > 0 then (if 0 ≤ t312 then (if t312 < (t303.length : Int) then ((impl_ChildrenOf.f k t303 ((rd_T34 t303 t312).f1)).bind fun t316 => ((laws_contains.f k t316 t304).bind fun t319 => (laws_FnDocuments.j0 k l0 t303 t304 t305 t308 t312 (!t319)))) else (none)) else (none)) else (laws_FnDocuments.j0 k l0 t303 t304 t305 t308 t312 false)) = some r := by rw [if_pos rfl] at H; exact H
        clear H
        have H := H1
        clear H1
        by_cases c28 : t304 > 0
        ·rw [if_pos c28] at H
         have c28b0 : decide (0 < t304) = true := decide_eq_true c28
         clear c28
         by_cases c29 : 0 ≤ t312
         ·rw [if_pos c29] at H
          have c29b0 : decide (0 ≤ t312) = true := decide_eq_true c29
          clear c29
          by_cases c30 : t312 < (t303.length : Int)
          ·rw [if_pos c30] at H
           have c30b0 : decide (t312 < (t303.length : Int)) = true := decide_eq_true c30
           clear c30
           replace H := Option.bind_eq_some_iff.mp H
           obtain ⟨t316, A310, H⟩ := H
           replace H : ((laws_contains.f k t316 t304).bind fun t319 => (laws_FnDocuments.j0 k l0 t303 t304 t305 t308 t312 (!t319))) = some r := H
           have A31 := am A310
           clear A310
           replace H := Option.bind_eq_some_iff.mp H
           obtain ⟨t319, A320, H⟩ := H
           replace H : (laws_FnDocuments.j0 k l0 t303 t304 t305 t308 t312 (!t319)) = some r := H
           have A32 := am A320
           clear A320
           have H' := am H
           clear H
           go_wp2_with (first | (go_at_call 7; (with_reducible refine (impl_IsUnder.calls k _ _ t303 t304 0 true _ ?side1 ?side2 A24.out).mono ?_); (case side1 => exact cU (Kd.R_reads' HO307.out).2.2); (case side2 => exact (Kd.R_reads' HO307.out).2.1); rintro e w33 ⟨rfl, hb⟩; have n0_ := am (Kd.R_below (rU HO307.out) hb); have n1_ := am (below_step (bU HB.out) hb); clear HO307; clear HB; have HO307 := n0_; have HB := n1_; clear n0_ n1_; (try clear hb); (try clear hb2); (try clear hk); (try clear hi)) | (go_at_call 7; (with_reducible refine (impl_IsUnder.calls k _ _ t303 t304 t304 true _ ?side1 ?side2 A26.out).mono ?_); (case side1 => exact cU (Kd.R_reads' HO307.out).2.2); (case side2 => exact (Kd.R_reads' HO307.out).2.1); rintro e w34 ⟨rfl, hb⟩; have n0_ := am (Kd.R_below (rU HO307.out) hb); have n1_ := am (below_step (bU HB.out) hb); clear HO307; clear HB; have HO307 := n0_; have HB := n1_; clear n0_ n1_; (try clear hb); (try clear hb2); (try clear hk); (try clear hi); have p315 : 0 ≤ (t312 : Int) := dU; have q315 : t312 < (t303.length : Int) := dU; obtain ⟨ad315, e315, hx315_0, hx315_1, hx315_2, hx315_3, hx315_4⟩ := at_T34 (Kd.R_reads' HO307.out).2.2 t312 p315 q315; cases e315; replace p315 := eq_true p315; replace q315 := eq_true q315) | (go_at_call 12; (with_reducible refine (impl_ChildrenOf.calls k _ _ t303 ((rd_T34 t303 t312).f1) t316 _ ?side1 ?side2 A31.out).mono ?_); (case side1 => exact cU (Kd.R_reads' HO307.out).2.2); (case side2 => exact (Kd.R_reads' HO307.out).2.1); rintro e w35 ⟨v317, rfl, ho0, hb⟩; have n0_ := am (Kd.R_below (rU HO307.out) hb); have n1_ := am (Kd.R_lower ho0 (below_size (bU HB.out))); have n2_ := am (below_step (bU HB.out) hb); clear HO307; clear HB; have HO307 := n0_; have HO318 := n1_; have HB := n2_; clear n0_ n1_ n2_; (try clear hb); (try clear hb2); (try clear hk); (try clear hi); (try clear ho0); obtain ⟨Ao36, co36, eo36⟩ := Kd.R_slice HO318.out; subst eo36) | (go_at_call 11; (with_reducible refine (laws_contains.calls k _ _ t316 t304 t319 _ ?side1 ?side2 A32.out).mono ?_); (case side1 => exact cU (Kd.R_reads' HO318.out).2.2); (case side2 => exact (Kd.R_reads' HO318.out).2.1); rintro e w' ⟨rfl, ⟨nd, rfl⟩⟩))
           go_meet
           case rel => exact ⟨_, (!t319), (by first | rfl | (simp; done) | (simp [*]; done)), H', ⟨by first | omega | exact Nat.le_refl _⟩, ⟨rU HO307.out⟩, ⟨bU HB.out⟩⟩
          ·rw [if_neg c30] at H
           exact absurd H (by simp)
         ·rw [if_neg c29] at H
          exact absurd H (by simp)
        ·rw [if_neg c28] at H
         have c28b0 : decide (0 < t304) = false := decide_eq_false c28
         clear c28
         have H' := am H
         clear H
         go_wp2_with (first | (go_at_call 7; (with_reducible refine (impl_IsUnder.calls k _ _ t303 t304 0 true _ ?side1 ?side2 A24.out).mono ?_); (case side1 => exact cU (Kd.R_reads' HO307.out).2.2); (case side2 => exact (Kd.R_reads' HO307.out).2.1); rintro e w37 ⟨rfl, hb⟩; have n0_ := am (Kd.R_below (rU HO307.out) hb); have n1_ := am (below_step (bU HB.out) hb); clear HO307; clear HB; have HO307 := n0_; have HB := n1_; clear n0_ n1_; (try clear hb); (try clear hb2); (try clear hk); (try clear hi)) | (go_at_call 7; (with_reducible refine (impl_IsUnder.calls k _ _ t303 t304 t304 true _ ?side1 ?side2 A26.out).mono ?_); (case side1 => exact cU (Kd.R_reads' HO307.out).2.2); (case side2 => exact (Kd.R_reads' HO307.out).2.1); rintro e w38 ⟨rfl, hb⟩; have n0_ := am (Kd.R_below (rU HO307.out) hb); have n1_ := am (below_step (bU HB.out) hb); clear HO307; clear HB; have HO307 := n0_; have HB := n1_; clear n0_ n1_; (try clear hb); (try clear hb2); (try clear hk); (try clear hi)))
         go_meet
         case rel => exact ⟨_, (false), (by first | rfl | (simp; done) | (simp [*]; done)), H', ⟨by first | omega | exact Nat.le_refl _⟩, ⟨rU HO307.out⟩, ⟨bU HB.out⟩⟩
       ·replace c27 := Bool.eq_false_iff.mpr c27
        subst c27
        have H1 : (laws_FnDocuments.j0 k l0 t303 t304 t305 t308 t312 true) = some r := by rw [if_neg (show ¬ (false = true) by decide)] at H; exact H
        clear H
        have H := H1
        clear H1
        have H' := am H
        clear H
        go_wp2_with (first | (go_at_call 7; (with_reducible refine (impl_IsUnder.calls k _ _ t303 t304 0 true _ ?side1 ?side2 A24.out).mono ?_); (case side1 => exact cU (Kd.R_reads' HO307.out).2.2); (case side2 => exact (Kd.R_reads' HO307.out).2.1); rintro e w39 ⟨rfl, hb⟩; have n0_ := am (Kd.R_below (rU HO307.out) hb); have n1_ := am (below_step (bU HB.out) hb); clear HO307; clear HB; have HO307 := n0_; have HB := n1_; clear n0_ n1_; (try clear hb); (try clear hb2); (try clear hk); (try clear hi)) | (go_at_call 7; (with_reducible refine (impl_IsUnder.calls k _ _ t303 t304 t304 false _ ?side1 ?side2 A26.out).mono ?_); (case side1 => exact cU (Kd.R_reads' HO307.out).2.2); (case side2 => exact (Kd.R_reads' HO307.out).2.1); rintro e w40 ⟨rfl, hb⟩; have n0_ := am (Kd.R_below (rU HO307.out) hb); have n1_ := am (below_step (bU HB.out) hb); clear HO307; clear HB; have HO307 := n0_; have HB := n1_; clear n0_ n1_; (try clear hb); (try clear hb2); (try clear hk); (try clear hi)))
        go_meet
        case rel => exact ⟨_, (true), (by first | rfl | (simp; done) | (simp [*]; done)), H', ⟨by first | omega | exact Nat.le_refl _⟩, ⟨rU HO307.out⟩, ⟨bU HB.out⟩⟩
      ·replace c25 := Bool.eq_false_iff.mpr c25
       subst c25
       have H1 : (laws_FnDocuments.j0 k l0 t303 t304 t305 t308 t312 true) = some r := by rw [if_neg (show ¬ (false = true) by decide)] at H; exact H
       clear H
       have H := H1
       clear H1
       have H' := am H
       clear H
       go_wp2_with (first | (go_at_call 7; (with_reducible refine (impl_IsUnder.calls k _ _ t303 t304 0 false _ ?side1 ?side2 A24.out).mono ?_); (case side1 => exact cU (Kd.R_reads' HO307.out).2.2); (case side2 => exact (Kd.R_reads' HO307.out).2.1); rintro e w41 ⟨rfl, hb⟩; have n0_ := am (Kd.R_below (rU HO307.out) hb); have n1_ := am (below_step (bU HB.out) hb); clear HO307; clear HB; have HO307 := n0_; have HB := n1_; clear n0_ n1_; (try clear hb); (try clear hb2); (try clear hk); (try clear hi)))
       go_meet
       case rel => exact ⟨_, (true), (by first | rfl | (simp; done) | (simp [*]; done)), H', ⟨by first | omega | exact Nat.le_refl _⟩, ⟨rU HO307.out⟩, ⟨bU HB.out⟩⟩
     ·rw [if_neg c23] at H
      have c23b0 : decide (0 ≤ t312) = false := decide_eq_false c23
      clear c23
      (first | rw [c23b0] | (simp only [i64_w, i32_w]; rw [c23b0]) | skip)
      have H' := am H
      clear H
      go_wp2
      go_meet
      case rel => exact ⟨_, (false), (by first | rfl | (simp; done) | (simp [*]; done)), H', ⟨by first | omega | exact Nat.le_refl _⟩, ⟨rU HO307.out⟩, ⟨bU HB.out⟩⟩
    case rest =>
     clear HC16
     try clear c1
     try clear c2
     try clear p2
     try clear c3
     try clear p3
     try clear q3
     try clear hx3
     try clear c5
     try clear c6
     try clear c7
     try clear c8
     try clear c8b0
     try clear c8b1
     try clear c8b2
     try clear c9
     try clear c10
     try clear c14
     try clear c23
     try clear c23b0
     try clear c25
     try clear c27
     try clear c28
     try clear c28b0
     try clear c29
     try clear c29b0
     try clear c30
     try clear c30b0
     try clear p31
     try clear q31
     try clear hx31
     try clear hx315_0
     try clear hx315_1
     try clear hx315_2
     try clear hx315_3
     try clear hx315_4
     try clear p315
     try clear q315
     obtain ⟨kq, x67_15, rfl, HA, HJ15, HO_3, HB⟩ := hcut
     cases kq with
     | zero => exact absurd HA.out (by simp [laws_FnDocuments.j0])
     | succ kj15 =>
      have H := HA.out
      clear HA
      simp only [laws_FnDocuments.j0] at H
      by_cases c42 : x67_15 = true
      ·subst c42
       have H1 : (some false) = some r := by rw [if_pos rfl] at H; exact H
       clear H
       have H := H1
       clear H1
       obtain rfl := Option.some.inj H
       go_wp2
       go_ret
       exact ⟨eU, bU HB.out⟩
      ·replace c42 := Bool.eq_false_iff.mpr c42
       subst c42
       have H1 : (if t308 = true then (if t304 = t305 then (laws_FnDocuments.j1 kj15 l0 t303 false) else (if 0 ≤ t312 then (if t312 < (t303.length : Int) then ((impl_IsUnder.f kj15 t303 ((rd_T34 t303 t312).f1) t305).bind fun t321 => (laws_FnDocuments.j1 kj15 l0 t303 (!t321))) else (none)) else (none))) else (laws_FnDocuments.j1 kj15 l0 t303 false)) = some r := by rw [if_neg (show ¬ (false = true) by decide)] at H; exact H
       clear H
       have H := H1
       clear H1
       have HC43 := am H
       clear H
       go_upto_region 12 with (fail)
       go_cut [84] (fun v84 wc => ∃ (kq : Nat) (x84_42 : Bool), v84 = .bool x84_42 ∧ Aside0 (laws_FnDocuments.j1 kq l0 t303 x84_42 = some r) ∧ Aside0 (kq ≤ kj15) ∧ Aside0 (Kd.R k34 34 wc w.heap.size (fun _ => True) (.slice Ao18 t303.length co18) t303) ∧ Aside0 (Below w.heap.size w wc))
       case first =>
        have H := HC43.out
        clear HC43
        by_cases c44 : t308 = true
        ·subst c44
         have H1 : (if t304 = t305 then (laws_FnDocuments.j1 kj15 l0 t303 false) else (if 0 ≤ t312 then (if t312 < (t303.length : Int) then ((impl_IsUnder.f kj15 t303 ((rd_T34 t303 t312).f1) t305).bind fun t321 => (laws_FnDocuments.j1 kj15 l0 t303 (!t321))) else (none)) else (none))) = some r := by rw [if_pos rfl] at H; exact H
         clear H
         have H := H1
         clear H1
         by_cases c45 : t304 = t305
         ·rw [if_pos c45] at H
          have c45b0 : (t304 == t305) = true := beq_iff_eq.mpr c45
          have c45b1 : (t304 != t305) = false := bne_eq_false_iff_eq.mpr c45
          clear c45
          (first | rw [c45b0] | (simp only [i64_w, i32_w]; rw [c45b0]) | skip)
          have H' := am H
          clear H
          go_wp2
          go_meet
          case rel => exact ⟨_, (false), (by first | rfl | (simp; done) | (simp [*]; done)), H', ⟨by have := HJ15.out; first | omega | exact Nat.le_refl _⟩, ⟨rU HO_3.out⟩, ⟨bU HB.out⟩⟩
         ·rw [if_neg c45] at H
          have c45b0 : (t304 == t305) = false := beq_eq_false_iff_ne.mpr c45
          have c45b1 : (t304 != t305) = true := bne_iff_ne.mpr c45
          (first | rw [c45b0] | (simp only [i64_w, i32_w]; rw [c45b0]) | skip)
          by_cases c46 : 0 ≤ t312
          ·rw [if_pos c46] at H
           have c46b0 : decide (0 ≤ t312) = true := decide_eq_true c46
           clear c46
           by_cases c47 : t312 < (t303.length : Int)
           ·rw [if_pos c47] at H
            have c47b0 : decide (t312 < (t303.length : Int)) = true := decide_eq_true c47
            clear c47
            replace H := Option.bind_eq_some_iff.mp H
            obtain ⟨t321, A480, H⟩ := H
            replace H : (laws_FnDocuments.j1 kj15 l0 t303 (!t321)) = some r := H
            have A48 := am A480
            clear A480
            have H' := am H
            clear H
            have p320 : 0 ≤ (t312 : Int) := dU
            have q320 : t312 < (t303.length : Int) := dU
            obtain ⟨ad320, e320, hx320_0, hx320_1, hx320_2, hx320_3, hx320_4⟩ := at_T34 (Kd.R_reads' HO_3.out).2.2 t312 p320 q320
            cases e320
            replace p320 := eq_true p320
            replace q320 := eq_true q320
            go_wp2_with (first | (go_at_call 7; (with_reducible refine (impl_IsUnder.calls kj15 _ _ t303 ((rd_T34 t303 t312).f1) t305 t321 _ ?side1 ?side2 A48.out).mono ?_); (case side1 => exact cU (Kd.R_reads' HO_3.out).2.2); (case side2 => exact (Kd.R_reads' HO_3.out).2.1); rintro e w49 ⟨rfl, hb⟩; have n0_ := am (Kd.R_below (rU HO_3.out) hb); have n1_ := am (below_step (bU HB.out) hb); clear HO_3; clear HB; have HO_3 := n0_; have HB := n1_; clear n0_ n1_; (try clear hb); (try clear hb2); (try clear hk); (try clear hi)))
            go_meet
            case rel => exact ⟨_, (!t321), (by first | rfl | (simp; done) | (simp [*]; done)), H', ⟨by have := HJ15.out; first | omega | exact Nat.le_refl _⟩, ⟨rU HO_3.out⟩, ⟨bU HB.out⟩⟩
           ·rw [if_neg c47] at H
            exact absurd H (by simp)
          ·rw [if_neg c46] at H
           exact absurd H (by simp)
        ·replace c44 := Bool.eq_false_iff.mpr c44
         subst c44
         have H1 : (laws_FnDocuments.j1 kj15 l0 t303 false) = some r := by rw [if_neg (show ¬ (false = true) by decide)] at H; exact H
         clear H
         have H := H1
         clear H1
         have H' := am H
         clear H
         go_wp2
         go_meet
         case rel => exact ⟨_, (false), (by first | rfl | (simp; done) | (simp [*]; done)), H', ⟨by have := HJ15.out; first | omega | exact Nat.le_refl _⟩, ⟨rU HO_3.out⟩, ⟨bU HB.out⟩⟩
       case rest =>
        clear HC43
        try clear c1
        try clear c2
        try clear p2
        try clear c3
        try clear p3
        try clear q3
        try clear hx3
        try clear c4
        try clear c5
        try clear c6
        try clear c7
        try clear c8
        try clear c8b0
        try clear c8b1
        try clear c8b2
        try clear c9
        try clear c10
        try clear c14
        try clear c23
        try clear c23b0
        try clear c25
        try clear c27
        try clear c28
        try clear c28b0
        try clear c29
        try clear c29b0
        try clear c30
        try clear c30b0
        try clear p31
        try clear q31
        try clear hx31
        try clear p32
        try clear q32
        try clear hx32
        try clear c42
        try clear c44
        try clear c45
        try clear c45b0
        try clear c45b1
        try clear c46
        try clear c46b0
        try clear c47
        try clear c47b0
        try clear hx315_0
        try clear hx315_1
        try clear hx315_2
        try clear hx315_3
        try clear hx315_4
        try clear hx320_0
        try clear hx320_1
        try clear hx320_2
        try clear hx320_3
        try clear hx320_4
        try clear p2
        try clear p3
        try clear p31
        try clear p315
        try clear p320
        try clear q3
        try clear q31
        try clear q315
        try clear q320
        obtain ⟨kq, x84_42, rfl, HA, HJ42, HO_3, HB⟩ := hcut
        cases kq with
        | zero => exact absurd HA.out (by simp [laws_FnDocuments.j1])
        | succ kj42 =>
         have H := HA.out
         clear HA
         simp only [laws_FnDocuments.j1] at H
         by_cases c50 : x84_42 = true
         ·subst c50
          have H1 : (some false) = some r := by rw [if_pos rfl] at H; exact H
          clear H
          have H := H1
          clear H1
          obtain rfl := Option.some.inj H
          go_wp2
          go_ret
          exact ⟨eU, bU HB.out⟩
         ·replace c50 := Bool.eq_false_iff.mpr c50
          subst c50
          have H1 : (laws_FnDocuments.l0 kj42 l0 t303 0 0) = some r := by rw [if_neg (show ¬ (false = true) by decide)] at H; exact H
          clear H
          have H := H1
          clear H1
          have H' := am H
          clear H
          go_wp2
          go_loopg [8, 9] kj42 (fun kq v8 v9 w' => ∃ (x8_3 : Int) (x9_3 : Int), v8 = .int .i64 x8_3 ∧ v9 = .int .i64 x9_3 ∧ Aside0 (laws_FnDocuments.l0 kq l0 t303 x8_3 x9_3 = some r) ∧ Aside0 (kq ≤ kj42) ∧ Aside0 (Kd.R k34 34 w' w.heap.size (fun _ => True) (.slice Ao18 t303.length co18) t303) ∧ Aside0 (Below w.heap.size w w'))
          case atStart => exact ⟨(0), (0), (by first | rfl | (simp; done) | (simp [*]; done)), (by first | rfl | (simp; done) | (simp [*]; done)), H', ⟨Nat.le_refl _⟩, ⟨rU HO_3.out⟩, ⟨bU HB.out⟩⟩
          case round =>
           clear H'
           try clear c1
           try clear c2
           try clear p2
           try clear c3
           try clear p3
           try clear q3
           try clear hx3
           try clear c4
           try clear c5
           try clear c6
           try clear c7
           try clear c8
           try clear c8b0
           try clear c8b1
           try clear c8b2
           try clear c9
           try clear c10
           try clear c14
           try clear c23
           try clear c23b0
           try clear c25
           try clear c27
           try clear c28
           try clear c28b0
           try clear c29
           try clear c29b0
           try clear c30
           try clear c30b0
           try clear p31
           try clear q31
           try clear hx31
           try clear p32
           try clear q32
           try clear hx32
           try clear c42
           try clear c44
           try clear c45
           try clear c45b0
           try clear c45b1
           try clear c46
           try clear c46b0
           try clear c47
           try clear c47b0
           try clear c50
           try clear hx315_0
           try clear hx315_1
           try clear hx315_2
           try clear hx315_3
           try clear hx315_4
           try clear hx320_0
           try clear hx320_1
           try clear hx320_2
           try clear hx320_3
           try clear hx320_4
           try clear p2
           try clear p3
           try clear p31
           try clear p315
           try clear p32
           try clear p320
           try clear q3
           try clear q31
           try clear q315
           try clear q32
           try clear q320
           obtain ⟨x8_3, x9_3, rfl, rfl, HA, HK3, HO_3, HB⟩ := hrel
           cases gk with
           | zero => exact absurd HA.out (by simp [laws_FnDocuments.l0])
           | succ k3 =>
            have H := HA.out
            clear HA
            simp only [laws_FnDocuments.l0] at H
            by_cases c51 : x9_3 < (t303.length : Int)
            ·rw [if_pos c51] at H
             have c51b0 : decide (x9_3 < (t303.length : Int)) = true := decide_eq_true c51
             clear c51
             by_cases c52 : 0 ≤ x9_3
             ·rw [if_pos c52] at H
              have c52b0 : decide (0 ≤ x9_3) = true := decide_eq_true c52
              clear c52
              replace H := Option.bind_eq_some_iff.mp H
              obtain ⟨t323, A530, H⟩ := H
              replace H : (laws_FnDocuments.l0 k3 l0 t303 (wrap64 (x8_3 + (t323.length : Int))) (wrap64 (x9_3 + 1))) = some r := H
              have A53 := am A530
              clear A530
              have H' := am H
              clear H
              have p322 : 0 ≤ (x9_3 : Int) := dU
              have q322 : x9_3 < (t303.length : Int) := dU
              obtain ⟨ad322, e322, hx322_0, hx322_1, hx322_2, hx322_3, hx322_4⟩ := at_T34 (Kd.R_reads' HO_3.out).2.2 x9_3 p322 q322
              cases e322
              replace p322 := eq_true p322
              replace q322 := eq_true q322
              go_wp2_with (first | ((with_reducible refine gate_callee (f := 12) rfl ?_); refine goesL_ (some 98) rfl rfl Tryd.func12 (by kernel_rfl) rfl #[.slice (some ad322) t303.length co18, .int .i64 ((rd_T34 t303 x9_3).f0)] rfl mU ?_; (with_reducible refine (impl_ChildrenOf.calls k3 _ _ t303 ((rd_T34 t303 x9_3).f0) t323 _ ?side1 ?side2 A53.out).mono ?_); (case side1 => exact cU (Kd.R_reads' HO_3.out).2.2); (case side2 => exact (Kd.R_reads' HO_3.out).2.1); rintro e w54 ⟨v324, rfl, ho0, hb⟩; refine ⟨_, rfl, ?_⟩; have n0_ := am (Kd.R_below (rU HO_3.out) hb); have n1_ := am (Kd.R_lower ho0 (below_size (bU HB.out))); have n2_ := am (below_step (bU HB.out) hb); clear HO_3; clear HB; have HO_3 := n0_; have HO325 := n1_; have HB := n2_; clear n0_ n1_ n2_; (try clear hb); (try clear hb2); (try clear hk); (try clear hi); (try clear ho0); obtain ⟨Ao55, co55, eo55⟩ := Kd.R_slice HO325.out; subst eo55))
              go_roundg k3
              case measure => have := HJ15.out; have := HJ42.out; have := HK3.out; omega
              case rel => exact ⟨(wrap64 (x8_3 + (t323.length : Int))), (wrap64 (x9_3 + 1)), (by first | rfl | (simp; done) | (simp [*]; done)), (by first | rfl | (simp; done) | (simp [*]; done)), H', ⟨by have := HJ15.out; have := HJ42.out; have := HK3.out; omega⟩, ⟨rU HO_3.out⟩, ⟨bU HB.out⟩⟩
             ·rw [if_neg c52] at H
              exact absurd H (by simp)
            ·rw [if_neg c51] at H
             have c51b0 : decide (x9_3 < (t303.length : Int)) = false := decide_eq_false c51
             clear c51
             replace H := Option.bind_eq_some_iff.mp H
             obtain ⟨⟨t326, t327⟩, A560, H⟩ := H
             replace H : (if x8_3 = (wrap64 ((t303.length : Int) - 1)) then ((impl_EqualDocuments.f k3 t326 t327).bind fun t332 => ((impl_EqualDocuments.f k3 t327 t326).bind fun t333 => (if (t332 == t333) = true then ((impl_EqualDocuments.f k3 t326 t326).bind fun t334 => (if t334 = true then ((impl_DocumentText.f k3 t303).bind fun t335 => (some (t335.toList != ([45] : List UInt8)))) else (some false))) else (some false)))) else (some false)) = some r := H
             have A56 := am A560
             clear A560
             by_cases c57 : x8_3 = (wrap64 ((t303.length : Int) - 1))
             ·rw [if_pos c57] at H
              have c57b0 : (x8_3 == (wrap64 ((t303.length : Int) - 1))) = true := beq_iff_eq.mpr c57
              have c57b1 : (x8_3 != (wrap64 ((t303.length : Int) - 1))) = false := bne_eq_false_iff_eq.mpr c57
              clear c57
              replace H := Option.bind_eq_some_iff.mp H
              obtain ⟨t332, A580, H⟩ := H
              replace H : ((impl_EqualDocuments.f k3 t327 t326).bind fun t333 => (if (t332 == t333) = true then ((impl_EqualDocuments.f k3 t326 t326).bind fun t334 => (if t334 = true then ((impl_DocumentText.f k3 t303).bind fun t335 => (some (t335.toList != ([45] : List UInt8)))) else (some false))) else (some false))) = some r := H
              have A58 := am A580
              clear A580
              replace H := Option.bind_eq_some_iff.mp H
              obtain ⟨t333, A590, H⟩ := H
              replace H : (if (t332 == t333) = true then ((impl_EqualDocuments.f k3 t326 t326).bind fun t334 => (if t334 = true then ((impl_DocumentText.f k3 t303).bind fun t335 => (some (t335.toList != ([45] : List UInt8)))) else (some false))) else (some false)) = some r := H
              have A59 := am A590
              clear A590
              by_cases c60 : (t332 == t333) = true
              ·rw [if_pos c60] at H
               have c60b0 : (t332 == t333) = true := c60
               (try (have c60b1 : decide (t332 = t333) = true := by simpa using c60))
               (try (have c60b2 : (t332 == t333) = true := by simpa using c60))
               clear c60
               replace H := Option.bind_eq_some_iff.mp H
               obtain ⟨t334, A610, H⟩ := H
               replace H : (if t334 = true then ((impl_DocumentText.f k3 t303).bind fun t335 => (some (t335.toList != ([45] : List UInt8)))) else (some false)) = some r := H
               have A61 := am A610
               clear A610
               by_cases c62 : t334 = true
               ·subst c62
                have H1 : ((impl_DocumentText.f k3 t303).bind fun t335 => (some (t335.toList != ([45] : List UInt8)))) = some r := by rw [if_pos rfl] at H; exact H
                clear H
                have H := H1
                clear H1
                replace H := Option.bind_eq_some_iff.mp H
                obtain ⟨t335, A630, H⟩ := H
                replace H : (some (t335.toList != ([45] : List UInt8))) = some r := H
                have A63 := am A630
                clear A630
                obtain rfl := Option.some.inj H
                go_wp2_with (first | ((with_reducible refine gate_callee (f := 13) rfl ?_); refine goesL_ (some 103) rfl rfl Tryd.func13 (by kernel_rfl) rfl #[.slice A0 l0.length c0] rfl mU ?_; (with_reducible refine (spec_DrawEqualDocuments.calls k3 _ _ l0 t326 t327 _ ?side1 ?side2 A56.out).mono ?_); (case side1 => exact cU (Kd.C_below HR0.out HB.out)); (case side2 => exact HC0.out); rintro e w64 ⟨v328, v330, rfl, ho0, ho1, hb⟩; refine ⟨_, rfl, ?_⟩; have n0_ := am (Kd.R_mono (Kd.R_told (Kd.R_told (Kd.R_old (rU HO_3.out) hb) (Kd.R_base ho0)) (Kd.R_base ho1)) (fun _ h_ => h_.1)); have n1_ := am (Kd.R_lower (Kd.R_new' ho0 (Kd.R_lt (rU HO_3.out))) (below_size (bU HB.out))); have n2_ := am (Kd.R_lower (Kd.R_new' ho1 (Kd.R_lt (rU HO_3.out))) (below_size (bU HB.out))); have n3_ := am (below_step (bU HB.out) hb); clear HO_3; clear HB; have HO_3 := n0_; have HO329 := n1_; have HO331 := n2_; have HB := n3_; clear n0_ n1_ n2_ n3_; (try clear hb); (try clear hb2); (try clear hk); (try clear hi); (try clear ho0); (try clear ho1); obtain ⟨Ao65, co65, eo65⟩ := Kd.R_slice HO329.out; subst eo65; obtain ⟨Ao66, co66, eo66⟩ := Kd.R_slice HO331.out; subst eo66) | (go_at_call 14; (with_reducible refine (impl_EqualDocuments.calls k3 _ _ t326 _ _ t327 t332 _ ?side1 ?side2 ?side3 ?side4 A58.out).mono ?_); (case side1 => exact cU (Kd.R_reads' HO329.out).2.2); (case side2 => exact (Kd.R_reads' HO329.out).2.1); (case side3 => exact cU (Kd.R_reads' HO331.out).2.2); (case side4 => exact (Kd.R_reads' HO331.out).2.1); rintro e w' ⟨rfl, ⟨nd, rfl⟩⟩) | (go_at_call 14; (with_reducible refine (impl_EqualDocuments.calls k3 _ _ t327 _ _ t326 t333 _ ?side1 ?side2 ?side3 ?side4 A59.out).mono ?_); (case side1 => exact cU (Kd.R_reads' HO331.out).2.2); (case side2 => exact (Kd.R_reads' HO331.out).2.1); (case side3 => exact cU (Kd.R_reads' HO329.out).2.2); (case side4 => exact (Kd.R_reads' HO329.out).2.1); rintro e w' ⟨rfl, ⟨nd, rfl⟩⟩) | (go_at_call 14; (with_reducible refine (impl_EqualDocuments.calls k3 _ _ t326 _ _ t326 true _ ?side1 ?side2 ?side3 ?side4 A61.out).mono ?_); (case side1 => exact cU (Kd.R_reads' HO329.out).2.2); (case side2 => exact (Kd.R_reads' HO329.out).2.1); (case side3 => exact cU (Kd.R_reads' HO329.out).2.2); (case side4 => exact (Kd.R_reads' HO329.out).2.1); rintro e w' ⟨rfl, ⟨nd, rfl⟩⟩) | (go_at_call 15; (with_reducible refine (impl_DocumentText.calls k3 _ _ t303 t335 _ ?side1 ?side2 ?sidet A63.out).mono ?_); (case sidet => exact tab_on HTAB (bU HB.out)); (case side1 => exact cU (Kd.R_reads' HO_3.out).2.2); (case side2 => exact (Kd.R_reads' HO_3.out).2.1); rintro e w67 ⟨rfl, hb⟩; have n0_ := am (Kd.R_below (rU HO_3.out) hb); have n1_ := am (Kd.R_below (rU HO329.out) hb); have n2_ := am (Kd.R_below (rU HO331.out) hb); have n3_ := am (below_step (bU HB.out) hb); clear HO_3; clear HO329; clear HO331; clear HB; have HO_3 := n0_; have HO329 := n1_; have HO331 := n2_; have HB := n3_; clear n0_ n1_ n2_ n3_; (try clear hb); (try clear hb2); (try clear hk); (try clear hi)))
                go_ret
                exact ⟨eU, bU HB.out⟩
               ·replace c62 := Bool.eq_false_iff.mpr c62
                subst c62
                have H1 : (some false) = some r := by rw [if_neg (show ¬ (false = true) by decide)] at H; exact H
                clear H
                have H := H1
                clear H1
                obtain rfl := Option.some.inj H
                go_wp2_with (first | ((with_reducible refine gate_callee (f := 13) rfl ?_); refine goesL_ (some 103) rfl rfl Tryd.func13 (by kernel_rfl) rfl #[.slice A0 l0.length c0] rfl mU ?_; (with_reducible refine (spec_DrawEqualDocuments.calls k3 _ _ l0 t326 t327 _ ?side1 ?side2 A56.out).mono ?_); (case side1 => exact cU (Kd.C_below HR0.out HB.out)); (case side2 => exact HC0.out); rintro e w68 ⟨v328, v330, rfl, ho0, ho1, hb⟩; refine ⟨_, rfl, ?_⟩; have n0_ := am (Kd.R_mono (Kd.R_told (Kd.R_told (Kd.R_old (rU HO_3.out) hb) (Kd.R_base ho0)) (Kd.R_base ho1)) (fun _ h_ => h_.1)); have n1_ := am (Kd.R_lower (Kd.R_new' ho0 (Kd.R_lt (rU HO_3.out))) (below_size (bU HB.out))); have n2_ := am (Kd.R_lower (Kd.R_new' ho1 (Kd.R_lt (rU HO_3.out))) (below_size (bU HB.out))); have n3_ := am (below_step (bU HB.out) hb); clear HO_3; clear HB; have HO_3 := n0_; have HO329 := n1_; have HO331 := n2_; have HB := n3_; clear n0_ n1_ n2_ n3_; (try clear hb); (try clear hb2); (try clear hk); (try clear hi); (try clear ho0); (try clear ho1); obtain ⟨Ao69, co69, eo69⟩ := Kd.R_slice HO329.out; subst eo69; obtain ⟨Ao70, co70, eo70⟩ := Kd.R_slice HO331.out; subst eo70) | (go_at_call 14; (with_reducible refine (impl_EqualDocuments.calls k3 _ _ t326 _ _ t327 t332 _ ?side1 ?side2 ?side3 ?side4 A58.out).mono ?_); (case side1 => exact cU (Kd.R_reads' HO329.out).2.2); (case side2 => exact (Kd.R_reads' HO329.out).2.1); (case side3 => exact cU (Kd.R_reads' HO331.out).2.2); (case side4 => exact (Kd.R_reads' HO331.out).2.1); rintro e w' ⟨rfl, ⟨nd, rfl⟩⟩) | (go_at_call 14; (with_reducible refine (impl_EqualDocuments.calls k3 _ _ t327 _ _ t326 t333 _ ?side1 ?side2 ?side3 ?side4 A59.out).mono ?_); (case side1 => exact cU (Kd.R_reads' HO331.out).2.2); (case side2 => exact (Kd.R_reads' HO331.out).2.1); (case side3 => exact cU (Kd.R_reads' HO329.out).2.2); (case side4 => exact (Kd.R_reads' HO329.out).2.1); rintro e w' ⟨rfl, ⟨nd, rfl⟩⟩) | (go_at_call 14; (with_reducible refine (impl_EqualDocuments.calls k3 _ _ t326 _ _ t326 false _ ?side1 ?side2 ?side3 ?side4 A61.out).mono ?_); (case side1 => exact cU (Kd.R_reads' HO329.out).2.2); (case side2 => exact (Kd.R_reads' HO329.out).2.1); (case side3 => exact cU (Kd.R_reads' HO329.out).2.2); (case side4 => exact (Kd.R_reads' HO329.out).2.1); rintro e w' ⟨rfl, ⟨nd, rfl⟩⟩))
                go_ret
                exact ⟨eU, bU HB.out⟩
              ·rw [if_neg c60] at H
               have c60b0 : (t332 == t333) = false := by simpa using c60
               (try (have c60b1 : decide (t332 = t333) = false := by simpa using c60))
               (try (have c60b2 : (t332 == t333) = false := by simpa using c60))
               (try (have c60b3 : ¬ (t332 = t333) := by simpa using c60))
               clear c60
               obtain rfl := Option.some.inj H
               go_wp2_with (first | ((with_reducible refine gate_callee (f := 13) rfl ?_); refine goesL_ (some 103) rfl rfl Tryd.func13 (by kernel_rfl) rfl #[.slice A0 l0.length c0] rfl mU ?_; (with_reducible refine (spec_DrawEqualDocuments.calls k3 _ _ l0 t326 t327 _ ?side1 ?side2 A56.out).mono ?_); (case side1 => exact cU (Kd.C_below HR0.out HB.out)); (case side2 => exact HC0.out); rintro e w71 ⟨v328, v330, rfl, ho0, ho1, hb⟩; refine ⟨_, rfl, ?_⟩; have n0_ := am (Kd.R_mono (Kd.R_told (Kd.R_told (Kd.R_old (rU HO_3.out) hb) (Kd.R_base ho0)) (Kd.R_base ho1)) (fun _ h_ => h_.1)); have n1_ := am (Kd.R_lower (Kd.R_new' ho0 (Kd.R_lt (rU HO_3.out))) (below_size (bU HB.out))); have n2_ := am (Kd.R_lower (Kd.R_new' ho1 (Kd.R_lt (rU HO_3.out))) (below_size (bU HB.out))); have n3_ := am (below_step (bU HB.out) hb); clear HO_3; clear HB; have HO_3 := n0_; have HO329 := n1_; have HO331 := n2_; have HB := n3_; clear n0_ n1_ n2_ n3_; (try clear hb); (try clear hb2); (try clear hk); (try clear hi); (try clear ho0); (try clear ho1); obtain ⟨Ao72, co72, eo72⟩ := Kd.R_slice HO329.out; subst eo72; obtain ⟨Ao73, co73, eo73⟩ := Kd.R_slice HO331.out; subst eo73) | (go_at_call 14; (with_reducible refine (impl_EqualDocuments.calls k3 _ _ t326 _ _ t327 t332 _ ?side1 ?side2 ?side3 ?side4 A58.out).mono ?_); (case side1 => exact cU (Kd.R_reads' HO329.out).2.2); (case side2 => exact (Kd.R_reads' HO329.out).2.1); (case side3 => exact cU (Kd.R_reads' HO331.out).2.2); (case side4 => exact (Kd.R_reads' HO331.out).2.1); rintro e w' ⟨rfl, ⟨nd, rfl⟩⟩) | (go_at_call 14; (with_reducible refine (impl_EqualDocuments.calls k3 _ _ t327 _ _ t326 t333 _ ?side1 ?side2 ?side3 ?side4 A59.out).mono ?_); (case side1 => exact cU (Kd.R_reads' HO331.out).2.2); (case side2 => exact (Kd.R_reads' HO331.out).2.1); (case side3 => exact cU (Kd.R_reads' HO329.out).2.2); (case side4 => exact (Kd.R_reads' HO329.out).2.1); rintro e w' ⟨rfl, ⟨nd, rfl⟩⟩))
               go_ret
               exact ⟨eU, bU HB.out⟩
             ·rw [if_neg c57] at H
              have c57b0 : (x8_3 == (wrap64 ((t303.length : Int) - 1))) = false := beq_eq_false_iff_ne.mpr c57
              have c57b1 : (x8_3 != (wrap64 ((t303.length : Int) - 1))) = true := bne_iff_ne.mpr c57
              obtain rfl := Option.some.inj H
              go_wp2_with (first | ((with_reducible refine gate_callee (f := 13) rfl ?_); refine goesL_ (some 103) rfl rfl Tryd.func13 (by kernel_rfl) rfl #[.slice A0 l0.length c0] rfl mU ?_; (with_reducible refine (spec_DrawEqualDocuments.calls k3 _ _ l0 t326 t327 _ ?side1 ?side2 A56.out).mono ?_); (case side1 => exact cU (Kd.C_below HR0.out HB.out)); (case side2 => exact HC0.out); rintro e w74 ⟨v328, v330, rfl, ho0, ho1, hb⟩; refine ⟨_, rfl, ?_⟩; have n0_ := am (Kd.R_mono (Kd.R_told (Kd.R_told (Kd.R_old (rU HO_3.out) hb) (Kd.R_base ho0)) (Kd.R_base ho1)) (fun _ h_ => h_.1)); have n1_ := am (Kd.R_lower (Kd.R_new' ho0 (Kd.R_lt (rU HO_3.out))) (below_size (bU HB.out))); have n2_ := am (Kd.R_lower (Kd.R_new' ho1 (Kd.R_lt (rU HO_3.out))) (below_size (bU HB.out))); have n3_ := am (below_step (bU HB.out) hb); clear HO_3; clear HB; have HO_3 := n0_; have HO329 := n1_; have HO331 := n2_; have HB := n3_; clear n0_ n1_ n2_ n3_; (try clear hb); (try clear hb2); (try clear hk); (try clear hi); (try clear ho0); (try clear ho1)))
              go_ret
              exact ⟨eU, bU HB.out⟩
   ·replace c14 := Bool.eq_false_iff.mpr c14
    subst c14
    have H1 : (some (!t308)) = some r := by rw [if_neg (show ¬ (false = true) by decide)] at H; exact H
    clear H
    have H := H1
    clear H1
    obtain rfl := Option.some.inj H
    go_enter Tryd.func3, Tryd.ntmps3
    go_wp2_with (first | ((with_reducible refine gate_callee (f := 5) rfl ?_); refine goesL_ (some 13) rfl rfl Tryd.func5 (by kernel_rfl) rfl #[.slice A0 l0.length c0] rfl mU ?_; (with_reducible refine (laws_big.calls _ _ l0 false _ ?side1 ?side2 A2.out).mono ?_); (case side1 => exact cU HR0.out); (case side2 => exact HC0.out); rintro e w' ⟨rfl, ⟨nd, rfl⟩⟩; refine ⟨_, rfl, ?_⟩) | ((with_reducible refine gate_callee (f := 6) rfl ?_); refine goesL_ (some 16) rfl rfl Tryd.func6 (by kernel_rfl) rfl #[.slice A0 l0.length c0] rfl mU ?_; (with_reducible refine (spec_DrawIsUnder.calls k _ _ l0 t303 t304 t305 _ ?side1 ?side2 A4.out).mono ?_); (case side1 => exact cU HR0.out); (case side2 => exact HC0.out); rintro e w75 ⟨v306, rfl, ho0, hb⟩; refine ⟨_, rfl, ?_⟩; have n0_ := am (Kd.R_lower ho0 (below_size (bU HB.out))); have n1_ := am (below_step (bU HB.out) hb); clear HB; have HO307 := n0_; have HB := n1_; clear n0_ n1_; (try clear hb); (try clear hb2); (try clear hk); (try clear hi); (try clear ho0); obtain ⟨Ao76, co76, eo76⟩ := Kd.R_slice HO307.out; subst eo76) | ((with_reducible refine gate_callee (f := 7) rfl ?_); refine goesL_ (some 23) rfl rfl Tryd.func7 (by kernel_rfl) rfl #[.slice Ao76 t303.length co76, .int .i64 t304, .int .i64 t305] rfl mU ?_; (with_reducible refine (impl_IsUnder.calls k _ _ t303 t304 t305 t308 _ ?side1 ?side2 A5.out).mono ?_); (case side1 => exact cU (Kd.R_reads' HO307.out).2.2); (case side2 => exact (Kd.R_reads' HO307.out).2.1); rintro e w77 ⟨rfl, hb⟩; refine ⟨_, rfl, ?_⟩; have n0_ := am (Kd.R_below (rU HO307.out) hb); have n1_ := am (below_step (bU HB.out) hb); clear HO307; clear HB; have HO307 := n0_; have HB := n1_; clear n0_ n1_; (try clear hb); (try clear hb2); (try clear hk); (try clear hi)) | ((with_reducible refine gate_callee (f := 8) rfl ?_); refine goesL_ (some 25) rfl rfl Tryd.func8 (by kernel_rfl) rfl #[.slice Ao76 t303.length co76] rfl mU ?_; (with_reducible refine (impl_IsDocument.calls k _ _ t303 t309 _ ?side1 ?side2 A6.out).mono ?_); (case side1 => exact cU (Kd.R_reads' HO307.out).2.2); (case side2 => exact (Kd.R_reads' HO307.out).2.1); rintro e w78 ⟨rfl, hb⟩; refine ⟨_, rfl, ?_⟩; have n0_ := am (Kd.R_below (rU HO307.out) hb); have n1_ := am (below_step (bU HB.out) hb); clear HO307; clear HB; have HO307 := n0_; have HB := n1_; clear n0_ n1_; (try clear hb); (try clear hb2); (try clear hk); (try clear hi)) | ((with_reducible refine gate_callee (f := 9) rfl ?_); refine goesL_ (some 27) rfl rfl Tryd.func9 (by kernel_rfl) rfl #[.slice Ao76 t303.length co76] rfl mU ?_; (with_reducible refine (spec_IsDocument.calls k _ _ t303 t310 _ ?side1 ?side2 A7.out).mono ?_); (case side1 => exact cU (Kd.R_reads' HO307.out).2.2); (case side2 => exact (Kd.R_reads' HO307.out).2.1); rintro e w' ⟨rfl, ⟨nd, rfl⟩⟩; refine ⟨_, rfl, ?_⟩) | ((with_reducible refine gate_callee (f := 8) rfl ?_); refine goesL_ (some 30) rfl rfl Tryd.func8 (by kernel_rfl) rfl #[.slice Ao76 t303.length co76] rfl mU ?_; (with_reducible refine (impl_IsDocument.calls k _ _ t303 false _ ?side1 ?side2 A13.out).mono ?_); (case side1 => exact cU (Kd.R_reads' HO307.out).2.2); (case side2 => exact (Kd.R_reads' HO307.out).2.1); rintro e w79 ⟨rfl, hb⟩; refine ⟨_, rfl, ?_⟩; have n0_ := am (Kd.R_below (rU HO307.out) hb); have n1_ := am (below_step (bU HB.out) hb); clear HO307; clear HB; have HO307 := n0_; have HB := n1_; clear n0_ n1_; (try clear hb); (try clear hb2); (try clear hk); (try clear hi)))
    go_ret
    exact ⟨eU, bU HB.out⟩
def laws_FnDocuments.Pure : Prop := ∀ (l0 : List Int), l0.length ≤ maxLen → l0.length * 1 ≤ 140737488351232 → (∀ x ∈ l0, (Lit.int .u8 x).wf = true) → ∃ k, laws_FnDocuments.f k l0 = some true
theorem laws_FnDocuments.walk (P : laws_FnDocuments.Pure) (a0 : Option Addr) (len0 cap0 : Nat) (z0 : List Int) (w : World) (HTAB : TabHolds w) (w0 : (a0 = none ∧ len0 = 0 ∧ cap0 = 0 ∧ z0 = []) ∨ ∃ x, a0 = some x ∧ len0 ≤ cap0 ∧ cap0 ≤ maxLen ∧ z0.length = cap0 ∧ (∀ i, i < z0.length → w.cell? (x.add i) = some (.int .u8 (z0.getD i 0))) ∧ ∀ n ∈ z0, (Lit.int .u8 n).wf = true) (y0 : len0 * 1 ≤ 140737488351232) :
  Calls Tryd.prog 3 #[.slice a0 len0 cap0] w fun e w' => e = .returned (.bool true) ∧ Below w.heap.size w w' := by
 obtain ⟨l0, rfl, hr0, hm0, hw0, hc0⟩ := ReadsInt.ofRowC w0
 obtain ⟨k, h⟩ := P l0 hm0 y0 hw0
 refine (laws_FnDocuments.calls k _ _ l0 true w (Kd.C_of_reads (d := (0 : Int)) (h1 := fun _ => rfl) hr0) hc0 HTAB h).mono ?_
 rintro e w' ⟨rfl, hd⟩
 exact ⟨rfl, hd⟩
end Go.Proofs.YtefppmgcenfemaaDoor.QFnDocuments
