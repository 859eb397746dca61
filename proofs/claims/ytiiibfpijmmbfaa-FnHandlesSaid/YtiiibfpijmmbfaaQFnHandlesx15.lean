import Derived.Test.YtiiibfpijmmbfaaUp
import Derived.Test.YtiiibfpijmmbfaaQFnHandlesx0
import Derived.Test.YtiiibfpijmmbfaaQFnHandlesx2
import Derived.Test.YtiiibfpijmmbfaaQFnHandlesx6
import Derived.Test.YtiiibfpijmmbfaaQFnHandlesx8
import Derived.Test.YtiiibfpijmmbfaaQFnHandlesx12
import Derived.Test.YtiiibfpijmmbfaaQFnHandlesx14
namespace Go.Proofs.Ytiiibfpijmmbfaa.QFnHandles
open Go.RowKit Go.Proofs.YtiiibfpijmmbfaaW.PrintWords Go.Proofs.YtiiibfpijmmbfaaW.PrintLast Go.Proofs.YtiiibfpijmmbfaaW.PrintMore
attribute [local go_sem] max2_int min2_int max_two min_two max_three min_three max_four min_four
set_option linter.unusedVariables false
set_option linter.unusedSimpArgs false
mutual
def laws_FnHandles.j0 : Nat → List Int → List (S59) → List Int → Int → Int → Bool → Option (Bool)
 | 0, _, _, _, _, _, _ => none
 | k + 1, x0, x3, x4, x5, x6, x55 => if x55 = true then (some false) else ((impl_HandlesFor.f k x3 x4 x5 x6).bind fun t544 => (if x5 ≥ 1 then (laws_FnHandles.j1 k x0 x3 x4 x5 x6 t544 (decide (x5 ≤ 9999))) else (laws_FnHandles.j1 k x0 x3 x4 x5 x6 t544 false)))
def laws_FnHandles.j1 : Nat → List Int → List (S59) → List Int → Int → Int → List Int → Bool → Option (Bool)
 | 0, _, _, _, _, _, _, _ => none
 | k + 1, x0, x3, x4, x5, x6, x9, x10 => (spec_SeenBy.f k x3 x4 x6).bind fun t547 => (laws_FnHandles.l0 k x0 x3 x4 x5 x6 x9 x10 t547 0)
def laws_FnHandles.l0 : Nat → List Int → List (S59) → List Int → Int → Int → List Int → Bool → List (S59) → Int → Option (Bool)
 | 0, _, _, _, _, _, _, _, _, _ => none
 | k + 1, x0, x3, x4, x5, x6, x9, x10, x11, x12 => if x12 < (x11.length : Int) then (if x10 = true then (if 0 ≤ x12 then (laws_FnHandles.l0 k x0 x3 x4 x5 x6 x9 (decide (((rd_T59 x11 x12).f0) ≤ 99)) x11 (wrap64 (x12 + 1))) else (none)) else (laws_FnHandles.l0 k x0 x3 x4 x5 x6 x9 false x11 (wrap64 (x12 + 1)))) else ((impl_SeenBy.f k x3 x4 x6).bind fun t551 => (if (x9.length : Int) = (t551.length : Int) then (if x10 = true then ((impl_ForeignHandles.f k x3 x4 x5 x6 x9).bind fun t554 => (laws_FnHandles.j3 k x0 (t554 != 0))) else (laws_FnHandles.j3 k x0 false)) else (laws_FnHandles.j3 k x0 true)))
def laws_FnHandles.j3 : Nat → List Int → Bool → Option (Bool)
 | 0, _, _ => none
 | k + 1, x0, x105 => if x105 = true then (some false) else ((spec_DrawEditByHandle.f k x0).bind fun bt555 => ((impl_EditByHandle.f k bt555.1 bt555.2.1 bt555.2.2.1 bt555.2.2.2.1 bt555.2.2.2.2.1 bt555.2.2.2.2.2).bind fun bt565 => ((impl_ResolveHandle.f k bt555.1 bt555.2.1 bt555.2.2.1 bt555.2.2.2.2.2 bt555.2.2.2.1).bind fun t569 => (if bt565.2 = true then (if t569 ≥ 1 then ((impl_NodeOf.f k bt565.1 t569).bind fun t570 => (if 0 ≤ t570 then (if t570 < (bt565.1.length : Int) then (if ((rd_T59 bt565.1 t570).f3) = bt555.2.2.2.2.1 then ((impl_NodeOf.f k bt565.1 t569).bind fun t572 => (if 0 ≤ t572 then (if t572 < (bt565.1.length : Int) then (some (((rd_T59 bt565.1 t572).f4) == bt555.2.2.2.2.2)) else (none)) else (none))) else (some false)) else (none)) else (none))) else (some false)) else ((impl_EqualDocuments.f k bt565.1 bt555.1).bind fun t574 => (some t574))))))
end
def laws_FnHandles.f (k : Nat) (l0 : List Int) : Option (Bool) := (laws_big.f l0).bind fun t531 => (if t531 = true then (some true) else ((spec_DrawResolveHandle.f k l0).bind fun bt532 => ((impl_ResolveHandle.f k bt532.1 bt532.2.1 bt532.2.2.1 bt532.2.2.2.1 bt532.2.2.2.2).bind fun t541 => (if t541 ≥ 0 then ((impl_HandleOf.f k bt532.2.2.1 bt532.2.2.2.1 t541).bind fun t542 => (if t542 = bt532.2.2.2.2 then ((impl_SeesNode.f k bt532.1 bt532.2.1 bt532.2.2.2.1 t541).bind fun t543 => (laws_FnHandles.j0 k l0 bt532.1 bt532.2.1 bt532.2.2.1 bt532.2.2.2.1 (!t543))) else (laws_FnHandles.j0 k l0 bt532.1 bt532.2.1 bt532.2.2.1 bt532.2.2.2.1 true))) else (laws_FnHandles.j0 k l0 bt532.1 bt532.2.1 bt532.2.2.1 bt532.2.2.2.1 false)))))
theorem laws_FnHandles.mono_l : ∀ k, (∀ y0 y1 y2 y3 y4 y5, LeO (laws_FnHandles.j0 k y0 y1 y2 y3 y4 y5) (laws_FnHandles.j0 (k + 1) y0 y1 y2 y3 y4 y5)) ∧ (∀ y0 y1 y2 y3 y4 y5 y6, LeO (laws_FnHandles.j1 k y0 y1 y2 y3 y4 y5 y6) (laws_FnHandles.j1 (k + 1) y0 y1 y2 y3 y4 y5 y6)) ∧ (∀ y0 y1 y2 y3 y4 y5 y6 y7 y8, LeO (laws_FnHandles.l0 k y0 y1 y2 y3 y4 y5 y6 y7 y8) (laws_FnHandles.l0 (k + 1) y0 y1 y2 y3 y4 y5 y6 y7 y8)) ∧ (∀ y0 y1, LeO (laws_FnHandles.j3 k y0 y1) (laws_FnHandles.j3 (k + 1) y0 y1))
 | 0 => ⟨fun _ _ _ _ _ _ r h => by simp [laws_FnHandles.j0] at h, fun _ _ _ _ _ _ _ r h => by simp [laws_FnHandles.j1] at h, fun _ _ _ _ _ _ _ _ _ r h => by simp [laws_FnHandles.l0] at h, fun _ _ r h => by simp [laws_FnHandles.j3] at h⟩
 | k + 1 => by
  obtain ⟨ih0, ih1, ih2, ih3⟩ := laws_FnHandles.mono_l k
  refine ⟨?_, ?_, ?_, ?_⟩
  ·intro y0 y1 y2 y3 y4 y5
   unfold laws_FnHandles.j0
   repeat' first
   | (with_reducible exact ih0 _ _ _ _ _ _)
   | (with_reducible exact ih1 _ _ _ _ _ _ _)
   | (with_reducible exact ih2 _ _ _ _ _ _ _ _ _)
   | (with_reducible exact ih3 _ _)
   | (with_reducible exact impl_EditByHandle.mono _ _ _ _ _ _ _)
   | (with_reducible exact impl_EqualDocuments.mono _ _ _)
   | (with_reducible exact impl_ForeignHandles.mono _ _ _ _ _ _)
   | (with_reducible exact impl_HandleOf.mono _ _ _ _)
   | (with_reducible exact impl_HandlesFor.mono _ _ _ _ _)
   | (with_reducible exact impl_NodeOf.mono _ _ _)
   | (with_reducible exact impl_ResolveHandle.mono _ _ _ _ _ _)
   | (with_reducible exact impl_SeenBy.mono _ _ _ _)
   | (with_reducible exact impl_SeesNode.mono _ _ _ _ _)
   | (with_reducible exact spec_DrawEditByHandle.mono _ _)
   | (with_reducible exact spec_DrawResolveHandle.mono _ _)
   | (with_reducible exact spec_SeenBy.mono _ _ _ _)
   | (with_reducible exact LeO.refl _)
   | (with_reducible exact LeO.none _)
   | (with_reducible refine LeO.ite ?_ ?_)
   | (with_reducible refine LeO.bind ?_ (fun _ => ?_))
   | exact ih0 _ _ _ _ _ _
   | exact ih1 _ _ _ _ _ _ _
   | exact ih2 _ _ _ _ _ _ _ _ _
   | exact ih3 _ _
   | exact impl_EditByHandle.mono _ _ _ _ _ _ _
   | exact impl_EqualDocuments.mono _ _ _
   | exact impl_ForeignHandles.mono _ _ _ _ _ _
   | exact impl_HandleOf.mono _ _ _ _
   | exact impl_HandlesFor.mono _ _ _ _ _
   | exact impl_NodeOf.mono _ _ _
   | exact impl_ResolveHandle.mono _ _ _ _ _ _
   | exact impl_SeenBy.mono _ _ _ _
   | exact impl_SeesNode.mono _ _ _ _ _
   | exact spec_DrawEditByHandle.mono _ _
   | exact spec_DrawResolveHandle.mono _ _
   | exact spec_SeenBy.mono _ _ _ _
   | exact LeO.none _
   | refine LeO.ite ?_ ?_
   | refine LeO.bind ?_ (fun _ => ?_)
  ·intro y0 y1 y2 y3 y4 y5 y6
   unfold laws_FnHandles.j1
   repeat' first
   | (with_reducible exact ih0 _ _ _ _ _ _)
   | (with_reducible exact ih1 _ _ _ _ _ _ _)
   | (with_reducible exact ih2 _ _ _ _ _ _ _ _ _)
   | (with_reducible exact ih3 _ _)
   | (with_reducible exact impl_EditByHandle.mono _ _ _ _ _ _ _)
   | (with_reducible exact impl_EqualDocuments.mono _ _ _)
   | (with_reducible exact impl_ForeignHandles.mono _ _ _ _ _ _)
   | (with_reducible exact impl_HandleOf.mono _ _ _ _)
   | (with_reducible exact impl_HandlesFor.mono _ _ _ _ _)
   | (with_reducible exact impl_NodeOf.mono _ _ _)
   | (with_reducible exact impl_ResolveHandle.mono _ _ _ _ _ _)
   | (with_reducible exact impl_SeenBy.mono _ _ _ _)
   | (with_reducible exact impl_SeesNode.mono _ _ _ _ _)
   | (with_reducible exact spec_DrawEditByHandle.mono _ _)
   | (with_reducible exact spec_DrawResolveHandle.mono _ _)
   | (with_reducible exact spec_SeenBy.mono _ _ _ _)
   | (with_reducible exact LeO.refl _)
   | (with_reducible exact LeO.none _)
   | (with_reducible refine LeO.ite ?_ ?_)
   | (with_reducible refine LeO.bind ?_ (fun _ => ?_))
   | exact ih0 _ _ _ _ _ _
   | exact ih1 _ _ _ _ _ _ _
   | exact ih2 _ _ _ _ _ _ _ _ _
   | exact ih3 _ _
   | exact impl_EditByHandle.mono _ _ _ _ _ _ _
   | exact impl_EqualDocuments.mono _ _ _
   | exact impl_ForeignHandles.mono _ _ _ _ _ _
   | exact impl_HandleOf.mono _ _ _ _
   | exact impl_HandlesFor.mono _ _ _ _ _
   | exact impl_NodeOf.mono _ _ _
   | exact impl_ResolveHandle.mono _ _ _ _ _ _
   | exact impl_SeenBy.mono _ _ _ _
   | exact impl_SeesNode.mono _ _ _ _ _
   | exact spec_DrawEditByHandle.mono _ _
   | exact spec_DrawResolveHandle.mono _ _
   | exact spec_SeenBy.mono _ _ _ _
   | exact LeO.none _
   | refine LeO.ite ?_ ?_
   | refine LeO.bind ?_ (fun _ => ?_)
  ·intro y0 y1 y2 y3 y4 y5 y6 y7 y8
   unfold laws_FnHandles.l0
   repeat' first
   | (with_reducible exact ih0 _ _ _ _ _ _)
   | (with_reducible exact ih1 _ _ _ _ _ _ _)
   | (with_reducible exact ih2 _ _ _ _ _ _ _ _ _)
   | (with_reducible exact ih3 _ _)
   | (with_reducible exact impl_EditByHandle.mono _ _ _ _ _ _ _)
   | (with_reducible exact impl_EqualDocuments.mono _ _ _)
   | (with_reducible exact impl_ForeignHandles.mono _ _ _ _ _ _)
   | (with_reducible exact impl_HandleOf.mono _ _ _ _)
   | (with_reducible exact impl_HandlesFor.mono _ _ _ _ _)
   | (with_reducible exact impl_NodeOf.mono _ _ _)
   | (with_reducible exact impl_ResolveHandle.mono _ _ _ _ _ _)
   | (with_reducible exact impl_SeenBy.mono _ _ _ _)
   | (with_reducible exact impl_SeesNode.mono _ _ _ _ _)
   | (with_reducible exact spec_DrawEditByHandle.mono _ _)
   | (with_reducible exact spec_DrawResolveHandle.mono _ _)
   | (with_reducible exact spec_SeenBy.mono _ _ _ _)
   | (with_reducible exact LeO.refl _)
   | (with_reducible exact LeO.none _)
   | (with_reducible refine LeO.ite ?_ ?_)
   | (with_reducible refine LeO.bind ?_ (fun _ => ?_))
   | exact ih0 _ _ _ _ _ _
   | exact ih1 _ _ _ _ _ _ _
   | exact ih2 _ _ _ _ _ _ _ _ _
   | exact ih3 _ _
   | exact impl_EditByHandle.mono _ _ _ _ _ _ _
   | exact impl_EqualDocuments.mono _ _ _
   | exact impl_ForeignHandles.mono _ _ _ _ _ _
   | exact impl_HandleOf.mono _ _ _ _
   | exact impl_HandlesFor.mono _ _ _ _ _
   | exact impl_NodeOf.mono _ _ _
   | exact impl_ResolveHandle.mono _ _ _ _ _ _
   | exact impl_SeenBy.mono _ _ _ _
   | exact impl_SeesNode.mono _ _ _ _ _
   | exact spec_DrawEditByHandle.mono _ _
   | exact spec_DrawResolveHandle.mono _ _
   | exact spec_SeenBy.mono _ _ _ _
   | exact LeO.none _
   | refine LeO.ite ?_ ?_
   | refine LeO.bind ?_ (fun _ => ?_)
  ·intro y0 y1
   unfold laws_FnHandles.j3
   repeat' first
   | (with_reducible exact ih0 _ _ _ _ _ _)
   | (with_reducible exact ih1 _ _ _ _ _ _ _)
   | (with_reducible exact ih2 _ _ _ _ _ _ _ _ _)
   | (with_reducible exact ih3 _ _)
   | (with_reducible exact impl_EditByHandle.mono _ _ _ _ _ _ _)
   | (with_reducible exact impl_EqualDocuments.mono _ _ _)
   | (with_reducible exact impl_ForeignHandles.mono _ _ _ _ _ _)
   | (with_reducible exact impl_HandleOf.mono _ _ _ _)
   | (with_reducible exact impl_HandlesFor.mono _ _ _ _ _)
   | (with_reducible exact impl_NodeOf.mono _ _ _)
   | (with_reducible exact impl_ResolveHandle.mono _ _ _ _ _ _)
   | (with_reducible exact impl_SeenBy.mono _ _ _ _)
   | (with_reducible exact impl_SeesNode.mono _ _ _ _ _)
   | (with_reducible exact spec_DrawEditByHandle.mono _ _)
   | (with_reducible exact spec_DrawResolveHandle.mono _ _)
   | (with_reducible exact spec_SeenBy.mono _ _ _ _)
   | (with_reducible exact LeO.refl _)
   | (with_reducible exact LeO.none _)
   | (with_reducible refine LeO.ite ?_ ?_)
   | (with_reducible refine LeO.bind ?_ (fun _ => ?_))
   | exact ih0 _ _ _ _ _ _
   | exact ih1 _ _ _ _ _ _ _
   | exact ih2 _ _ _ _ _ _ _ _ _
   | exact ih3 _ _
   | exact impl_EditByHandle.mono _ _ _ _ _ _ _
   | exact impl_EqualDocuments.mono _ _ _
   | exact impl_ForeignHandles.mono _ _ _ _ _ _
   | exact impl_HandleOf.mono _ _ _ _
   | exact impl_HandlesFor.mono _ _ _ _ _
   | exact impl_NodeOf.mono _ _ _
   | exact impl_ResolveHandle.mono _ _ _ _ _ _
   | exact impl_SeenBy.mono _ _ _ _
   | exact impl_SeesNode.mono _ _ _ _ _
   | exact spec_DrawEditByHandle.mono _ _
   | exact spec_DrawResolveHandle.mono _ _
   | exact spec_SeenBy.mono _ _ _ _
   | exact LeO.none _
   | refine LeO.ite ?_ ?_
   | refine LeO.bind ?_ (fun _ => ?_)
theorem laws_FnHandles.mono : ∀ a0 k, LeO (laws_FnHandles.f k a0) (laws_FnHandles.f (k + 1) a0) := by
 intro a0 k
 obtain ⟨ih0, ih1, ih2, ih3⟩ := laws_FnHandles.mono_l k
 unfold laws_FnHandles.f
 repeat' first
   | (with_reducible exact ih0 _ _ _ _ _ _)
   | (with_reducible exact ih1 _ _ _ _ _ _ _)
   | (with_reducible exact ih2 _ _ _ _ _ _ _ _ _)
   | (with_reducible exact ih3 _ _)
   | (with_reducible exact impl_EditByHandle.mono _ _ _ _ _ _ _)
   | (with_reducible exact impl_EqualDocuments.mono _ _ _)
   | (with_reducible exact impl_ForeignHandles.mono _ _ _ _ _ _)
   | (with_reducible exact impl_HandleOf.mono _ _ _ _)
   | (with_reducible exact impl_HandlesFor.mono _ _ _ _ _)
   | (with_reducible exact impl_NodeOf.mono _ _ _)
   | (with_reducible exact impl_ResolveHandle.mono _ _ _ _ _ _)
   | (with_reducible exact impl_SeenBy.mono _ _ _ _)
   | (with_reducible exact impl_SeesNode.mono _ _ _ _ _)
   | (with_reducible exact spec_DrawEditByHandle.mono _ _)
   | (with_reducible exact spec_DrawResolveHandle.mono _ _)
   | (with_reducible exact spec_SeenBy.mono _ _ _ _)
   | (with_reducible exact LeO.refl _)
   | (with_reducible exact LeO.none _)
   | (with_reducible refine LeO.ite ?_ ?_)
   | (with_reducible refine LeO.bind ?_ (fun _ => ?_))
   | exact ih0 _ _ _ _ _ _
   | exact ih1 _ _ _ _ _ _ _
   | exact ih2 _ _ _ _ _ _ _ _ _
   | exact ih3 _ _
   | exact impl_EditByHandle.mono _ _ _ _ _ _ _
   | exact impl_EqualDocuments.mono _ _ _
   | exact impl_ForeignHandles.mono _ _ _ _ _ _
   | exact impl_HandleOf.mono _ _ _ _
   | exact impl_HandlesFor.mono _ _ _ _ _
   | exact impl_NodeOf.mono _ _ _
   | exact impl_ResolveHandle.mono _ _ _ _ _ _
   | exact impl_SeenBy.mono _ _ _ _
   | exact impl_SeesNode.mono _ _ _ _ _
   | exact spec_DrawEditByHandle.mono _ _
   | exact spec_DrawResolveHandle.mono _ _
   | exact spec_SeenBy.mono _ _ _ _
   | exact LeO.none _
   | refine LeO.ite ?_ ?_
   | refine LeO.bind ?_ (fun _ => ?_)
set_option maxHeartbeats 8000000 in
set_option maxRecDepth 100000 in
theorem laws_FnHandles.calls (k : Nat) (A0 : Option Addr) (c0 : Nat) (l0 : List Int) (r : Bool) (w : World) (hr0 : Kd.C (Kd.int .u8) w A0 l0.length l0) (hc0 : l0.length ≤ c0) (h : laws_FnHandles.f k l0 = some r) :
  Calls Try.prog 9 #[.slice A0 l0.length c0] w fun e w' => e = .returned (.bool r) ∧ Below w.heap.size w w' := by
 have HR0 := am hr0
 have HC0 := am hc0
 clear hr0 hc0
 have HB := am (Below.refl w.heap.size w)
 have H : ((laws_big.f l0).bind fun t531 => (if t531 = true then (some true) else ((spec_DrawResolveHandle.f k l0).bind fun bt532 => ((impl_ResolveHandle.f k bt532.1 bt532.2.1 bt532.2.2.1 bt532.2.2.2.1 bt532.2.2.2.2).bind fun t541 => (if t541 ≥ 0 then ((impl_HandleOf.f k bt532.2.2.1 bt532.2.2.2.1 t541).bind fun t542 => (if t542 = bt532.2.2.2.2 then ((impl_SeesNode.f k bt532.1 bt532.2.1 bt532.2.2.2.1 t541).bind fun t543 => (laws_FnHandles.j0 k l0 bt532.1 bt532.2.1 bt532.2.2.1 bt532.2.2.2.1 (!t543))) else (laws_FnHandles.j0 k l0 bt532.1 bt532.2.1 bt532.2.2.1 bt532.2.2.2.1 true))) else (laws_FnHandles.j0 k l0 bt532.1 bt532.2.1 bt532.2.2.1 bt532.2.2.2.1 false)))))) = some r := h
 clear h
 replace H := Option.bind_eq_some_iff.mp H
 obtain ⟨t531, A20, H⟩ := H
 replace H : (if t531 = true then (some true) else ((spec_DrawResolveHandle.f k l0).bind fun bt532 => ((impl_ResolveHandle.f k bt532.1 bt532.2.1 bt532.2.2.1 bt532.2.2.2.1 bt532.2.2.2.2).bind fun t541 => (if t541 ≥ 0 then ((impl_HandleOf.f k bt532.2.2.1 bt532.2.2.2.1 t541).bind fun t542 => (if t542 = bt532.2.2.2.2 then ((impl_SeesNode.f k bt532.1 bt532.2.1 bt532.2.2.2.1 t541).bind fun t543 => (laws_FnHandles.j0 k l0 bt532.1 bt532.2.1 bt532.2.2.1 bt532.2.2.2.1 (!t543))) else (laws_FnHandles.j0 k l0 bt532.1 bt532.2.1 bt532.2.2.1 bt532.2.2.2.1 true))) else (laws_FnHandles.j0 k l0 bt532.1 bt532.2.1 bt532.2.2.1 bt532.2.2.2.1 false))))) = some r := H
 have A2 := am A20
 clear A20
 by_cases c3 : t531 = true
 ·subst c3
  have H1 : (some true) = some r := by rw [if_pos rfl] at H; exact H
  clear H
  have H := H1
  clear H1
  obtain rfl := Option.some.inj H
  go_enter Try.func9, Try.ntmps9
  go_wp2_with (first | ((with_reducible refine gate_callee (f := 37) rfl ?_); refine goesL_ (some 23) rfl rfl Try.func37 (by kernel_rfl) rfl #[.slice A0 l0.length c0] rfl mU ?_; (with_reducible refine (laws_big.calls _ _ l0 true _ ?side1 ?side2 A2.out).mono ?_); (case side1 => exact cU HR0.out); (case side2 => exact HC0.out); rintro e w' ⟨rfl, ⟨nd, rfl⟩⟩; refine ⟨_, rfl, ?_⟩))
  go_ret
  exact ⟨eU, bU HB.out⟩
 ·replace c3 := Bool.eq_false_iff.mpr c3
  subst c3
  have H1 : ((spec_DrawResolveHandle.f k l0).bind fun bt532 => ((impl_ResolveHandle.f k bt532.1 bt532.2.1 bt532.2.2.1 bt532.2.2.2.1 bt532.2.2.2.2).bind fun t541 => (if t541 ≥ 0 then ((impl_HandleOf.f k bt532.2.2.1 bt532.2.2.2.1 t541).bind fun t542 => (if t542 = bt532.2.2.2.2 then ((impl_SeesNode.f k bt532.1 bt532.2.1 bt532.2.2.2.1 t541).bind fun t543 => (laws_FnHandles.j0 k l0 bt532.1 bt532.2.1 bt532.2.2.1 bt532.2.2.2.1 (!t543))) else (laws_FnHandles.j0 k l0 bt532.1 bt532.2.1 bt532.2.2.1 bt532.2.2.2.1 true))) else (laws_FnHandles.j0 k l0 bt532.1 bt532.2.1 bt532.2.2.1 bt532.2.2.2.1 false)))) = some r := by rw [if_neg (show ¬ (false = true) by decide)] at H; exact H
  clear H
  have H := H1
  clear H1
  replace H := Option.bind_eq_some_iff.mp H
  obtain ⟨⟨t532, t533, t534, t535, t536⟩, A40, H⟩ := H
  replace H : ((impl_ResolveHandle.f k t532 t533 t534 t535 t536).bind fun t541 => (if t541 ≥ 0 then ((impl_HandleOf.f k t534 t535 t541).bind fun t542 => (if t542 = t536 then ((impl_SeesNode.f k t532 t533 t535 t541).bind fun t543 => (laws_FnHandles.j0 k l0 t532 t533 t534 t535 (!t543))) else (laws_FnHandles.j0 k l0 t532 t533 t534 t535 true))) else (laws_FnHandles.j0 k l0 t532 t533 t534 t535 false))) = some r := H
  have A4 := am A40
  clear A40
  replace H := Option.bind_eq_some_iff.mp H
  obtain ⟨t541, A50, H⟩ := H
  replace H : (if t541 ≥ 0 then ((impl_HandleOf.f k t534 t535 t541).bind fun t542 => (if t542 = t536 then ((impl_SeesNode.f k t532 t533 t535 t541).bind fun t543 => (laws_FnHandles.j0 k l0 t532 t533 t534 t535 (!t543))) else (laws_FnHandles.j0 k l0 t532 t533 t534 t535 true))) else (laws_FnHandles.j0 k l0 t532 t533 t534 t535 false)) = some r := H
  have A5 := am A50
  clear A50
  have HC6 := am H
  clear H
  go_enter Try.func9, Try.ntmps9
  go_upto_region 5 with (first | ((with_reducible refine gate_callee (f := 37) rfl ?_); refine goesL_ (some 23) rfl rfl Try.func37 (by kernel_rfl) rfl #[.slice A0 l0.length c0] rfl mU ?_; (with_reducible refine (laws_big.calls _ _ l0 false _ ?side1 ?side2 A2.out).mono ?_); (case side1 => exact cU HR0.out); (case side2 => exact HC0.out); rintro e w' ⟨rfl, ⟨nd, rfl⟩⟩; refine ⟨_, rfl, ?_⟩) | ((with_reducible refine gate_callee (f := 47) rfl ?_); refine goesL_ (some 26) rfl rfl Try.func47 (by kernel_rfl) rfl #[.slice A0 l0.length c0] rfl mU ?_; (with_reducible refine (spec_DrawResolveHandle.calls k _ _ l0 t532 t533 t534 t535 t536 _ ?side1 ?side2 A4.out).mono ?_); (case side1 => exact cU HR0.out); (case side2 => exact HC0.out); rintro e w7 ⟨v537, v539, rfl, ho0, ho1, hb⟩; refine ⟨_, rfl, ?_⟩; have n0_ := am (Kd.R_lower ho0 (below_size (bU HB.out))); have n1_ := am (Kd.R_lower ho1 (below_size (bU HB.out))); have n2_ := am (below_step (bU HB.out) hb); clear HB; have HO538 := n0_; have HO540 := n1_; have HB := n2_; clear n0_ n1_ n2_; (try clear hb); (try clear hb2); (try clear hk); (try clear hi); (try clear ho0); (try clear ho1); obtain ⟨Ao8, co8, eo8⟩ := Kd.R_slice HO538.out; subst eo8; obtain ⟨Ao9, co9, eo9⟩ := Kd.R_slice HO540.out; subst eo9) | ((with_reducible refine gate_callee (f := 48) rfl ?_); refine goesL_ (some 37) rfl rfl Try.func48 (by kernel_rfl) rfl #[.slice Ao8 t532.length co8, .slice Ao9 t533.length co9, .int .i64 t534, .int .i64 t535, .int .i64 t536] rfl mU ?_; (with_reducible refine (impl_ResolveHandle.calls k _ _ t532 _ _ t533 t534 t535 t536 t541 _ ?side1 ?side2 ?side3 ?side4 A5.out).mono ?_); (case side1 => exact cU (Kd.R_reads' HO538.out).2.2); (case side2 => exact (Kd.R_reads' HO538.out).2.1); (case side3 => exact cU (Kd.R_reads' HO540.out).2.2); (case side4 => exact (Kd.R_reads' HO540.out).2.1); rintro e w10 ⟨rfl, hb⟩; refine ⟨_, rfl, ?_⟩; have n0_ := am (Kd.R_below (rU HO538.out) hb); have n1_ := am (Kd.R_below (rU HO540.out) hb); have n2_ := am (below_step (bU HB.out) hb); clear HO538; clear HO540; clear HB; have HO538 := n0_; have HO540 := n1_; have HB := n2_; clear n0_ n1_ n2_; (try clear hb); (try clear hb2); (try clear hk); (try clear hi)))
  (try simp only [Act.put, List.setIfInBounds_toArray, List.set_cons_zero, List.set_cons_succ])
  go_cut [55] (fun v55 wc => ∃ (kq : Nat) (x55_5 : Bool), v55 = .bool x55_5 ∧ Aside0 (laws_FnHandles.j0 kq l0 t532 t533 t534 t535 x55_5 = some r) ∧ Aside0 (kq ≤ k) ∧ Aside0 (Kd.R k59 59 wc w.heap.size (fun _ => True) (.slice Ao8 t532.length co8) t532) ∧ Aside0 (Kd.R (Kd.int .i64) 3 wc w.heap.size (fun _ => True) (.slice Ao9 t533.length co9) t533) ∧ Aside0 (Below w.heap.size w wc))
  case first =>
   have H := HC6.out
   clear HC6
   by_cases c11 : t541 ≥ 0
   ·rw [if_pos c11] at H
    have c11b0 : decide (0 ≤ t541) = true := decide_eq_true c11
    clear c11
    (first | rw [c11b0] | (simp only [i64_w, i32_w]; rw [c11b0]) | skip)
    replace H := Option.bind_eq_some_iff.mp H
    obtain ⟨t542, A120, H⟩ := H
    replace H : (if t542 = t536 then ((impl_SeesNode.f k t532 t533 t535 t541).bind fun t543 => (laws_FnHandles.j0 k l0 t532 t533 t534 t535 (!t543))) else (laws_FnHandles.j0 k l0 t532 t533 t534 t535 true)) = some r := H
    have A12 := am A120
    clear A120
    by_cases c13 : t542 = t536
    ·rw [if_pos c13] at H
     have c13b0 : (t542 == t536) = true := beq_iff_eq.mpr c13
     have c13b1 : (t542 != t536) = false := bne_eq_false_iff_eq.mpr c13
     clear c13
     replace H := Option.bind_eq_some_iff.mp H
     obtain ⟨t543, A140, H⟩ := H
     replace H : (laws_FnHandles.j0 k l0 t532 t533 t534 t535 (!t543)) = some r := H
     have A14 := am A140
     clear A140
     have H' := am H
     clear H
     go_wp2_with (first | (go_at_call 49; (with_reducible refine (impl_HandleOf.calls k t534 t535 t541 t542 _ A12.out).mono ?_); rintro e w15 ⟨rfl, hb⟩; have n0_ := am (Kd.R_below (rU HO538.out) hb); have n1_ := am (Kd.R_below (rU HO540.out) hb); have n2_ := am (below_step (bU HB.out) hb); clear HO538; clear HO540; clear HB; have HO538 := n0_; have HO540 := n1_; have HB := n2_; clear n0_ n1_ n2_; (try clear hb); (try clear hb2); (try clear hk); (try clear hi)) | (go_at_call 42; (with_reducible refine (impl_SeesNode.calls k _ _ t532 _ _ t533 t535 t541 t543 _ ?side1 ?side2 ?side3 ?side4 A14.out).mono ?_); (case side1 => exact cU (Kd.R_reads' HO538.out).2.2); (case side2 => exact (Kd.R_reads' HO538.out).2.1); (case side3 => exact cU (Kd.R_reads' HO540.out).2.2); (case side4 => exact (Kd.R_reads' HO540.out).2.1); rintro e w16 ⟨rfl, hb⟩; have n0_ := am (Kd.R_below (rU HO538.out) hb); have n1_ := am (Kd.R_below (rU HO540.out) hb); have n2_ := am (below_step (bU HB.out) hb); clear HO538; clear HO540; clear HB; have HO538 := n0_; have HO540 := n1_; have HB := n2_; clear n0_ n1_ n2_; (try clear hb); (try clear hb2); (try clear hk); (try clear hi)))
     go_meet
     case rel => exact ⟨_, (!t543), (by first | rfl | (simp; done) | (simp [*]; done)), H', ⟨by first | omega | exact Nat.le_refl _⟩, ⟨rU HO538.out⟩, ⟨rU HO540.out⟩, ⟨bU HB.out⟩⟩
    ·rw [if_neg c13] at H
     have c13b0 : (t542 == t536) = false := beq_eq_false_iff_ne.mpr c13
     have c13b1 : (t542 != t536) = true := bne_iff_ne.mpr c13
     have H' := am H
     clear H
     go_wp2_with (first | (go_at_call 49; (with_reducible refine (impl_HandleOf.calls k t534 t535 t541 t542 _ A12.out).mono ?_); rintro e w17 ⟨rfl, hb⟩; have n0_ := am (Kd.R_below (rU HO538.out) hb); have n1_ := am (Kd.R_below (rU HO540.out) hb); have n2_ := am (below_step (bU HB.out) hb); clear HO538; clear HO540; clear HB; have HO538 := n0_; have HO540 := n1_; have HB := n2_; clear n0_ n1_ n2_; (try clear hb); (try clear hb2); (try clear hk); (try clear hi)))
     go_meet
     case rel => exact ⟨_, (true), (by first | rfl | (simp; done) | (simp [*]; done)), H', ⟨by first | omega | exact Nat.le_refl _⟩, ⟨rU HO538.out⟩, ⟨rU HO540.out⟩, ⟨bU HB.out⟩⟩
   ·rw [if_neg c11] at H
    have c11b0 : decide (0 ≤ t541) = false := decide_eq_false c11
    clear c11
    (first | rw [c11b0] | (simp only [i64_w, i32_w]; rw [c11b0]) | skip)
    have H' := am H
    clear H
    go_wp2
    go_meet
    case rel => exact ⟨_, (false), (by first | rfl | (simp; done) | (simp [*]; done)), H', ⟨by first | omega | exact Nat.le_refl _⟩, ⟨rU HO538.out⟩, ⟨rU HO540.out⟩, ⟨bU HB.out⟩⟩
  case rest =>
   clear HC6
   try clear c1
   try clear p2
   try clear c3
   try clear c4
   try clear c9
   try clear c11
   try clear c11b0
   try clear c13
   try clear c13b0
   try clear c13b1
   obtain ⟨kq, x55_5, rfl, HA, HJ5, HO_3, HO_4, HB⟩ := hcut
   cases kq with
   | zero => exact absurd HA.out (by simp [laws_FnHandles.j0])
   | succ kj5 =>
    have H := HA.out
    clear HA
    simp only [laws_FnHandles.j0] at H
    by_cases c18 : x55_5 = true
    ·subst c18
     have H1 : (some false) = some r := by rw [if_pos rfl] at H; exact H
     clear H
     have H := H1
     clear H1
     obtain rfl := Option.some.inj H
     go_wp2
     go_ret
     exact ⟨eU, bU HB.out⟩
    ·replace c18 := Bool.eq_false_iff.mpr c18
     subst c18
     have H1 : ((impl_HandlesFor.f kj5 t532 t533 t534 t535).bind fun t544 => (if t534 ≥ 1 then (laws_FnHandles.j1 kj5 l0 t532 t533 t534 t535 t544 (decide (t534 ≤ 9999))) else (laws_FnHandles.j1 kj5 l0 t532 t533 t534 t535 t544 false))) = some r := by rw [if_neg (show ¬ (false = true) by decide)] at H; exact H
     clear H
     have H := H1
     clear H1
     replace H := Option.bind_eq_some_iff.mp H
     obtain ⟨t544, A190, H⟩ := H
     replace H : (if t534 ≥ 1 then (laws_FnHandles.j1 kj5 l0 t532 t533 t534 t535 t544 (decide (t534 ≤ 9999))) else (laws_FnHandles.j1 kj5 l0 t532 t533 t534 t535 t544 false)) = some r := H
     have A19 := am A190
     clear A190
     have HC20 := am H
     clear H
     go_upto_region 8 with (first | ((with_reducible refine gate_callee (f := 50) rfl ?_); refine goesL_ (some 60) rfl rfl Try.func50 (by kernel_rfl) rfl #[.slice Ao8 t532.length co8, .slice Ao9 t533.length co9, .int .i64 t534, .int .i64 t535] rfl mU ?_; (with_reducible refine (impl_HandlesFor.calls kj5 _ _ t532 _ _ t533 t534 t535 t544 _ ?side1 ?side2 ?side3 ?side4 A19.out).mono ?_); (case side1 => exact cU (Kd.R_reads' HO_3.out).2.2); (case side2 => exact (Kd.R_reads' HO_3.out).2.1); (case side3 => exact cU (Kd.R_reads' HO_4.out).2.2); (case side4 => exact (Kd.R_reads' HO_4.out).2.1); rintro e w21 ⟨v545, rfl, ho0, hb⟩; refine ⟨_, rfl, ?_⟩; have n0_ := am (Kd.R_below (rU HO_3.out) hb); have n1_ := am (Kd.R_elder' (rU HO_4.out) (Kd.R_base ho0) hb); have n2_ := am (Kd.R_lower (Kd.R_new' ho0 (Kd.R_lt (rU HO_4.out))) (below_size (bU HB.out))); have n3_ := am (below_step (bU HB.out) hb); clear HO_3; clear HO_4; clear HB; have HO_3 := n0_; have HO_4 := n1_; have HO546 := n2_; have HB := n3_; clear n0_ n1_ n2_ n3_; (try clear hb); (try clear hb2); (try clear hk); (try clear hi); (try clear ho0)))
     (try simp only [Act.put, List.setIfInBounds_toArray, List.set_cons_zero, List.set_cons_succ])
     go_cut [10] (fun v10 wc => ∃ (kq : Nat) (x10_19 : Bool), v10 = .bool x10_19 ∧ Aside0 (laws_FnHandles.j1 kq l0 t532 t533 t534 t535 t544 x10_19 = some r) ∧ Aside0 (kq ≤ kj5) ∧ Aside0 (Kd.R k59 59 wc w.heap.size (fun _ => True) (.slice Ao8 t532.length co8) t532) ∧ Aside0 (Kd.R (Kd.int .i64) 3 wc w.heap.size (fun k_ => some k_ ≠ (v545 : Value).ownBlock) (.slice Ao9 t533.length co9) t533) ∧ Aside0 (Kd.R (Kd.int .i64) 3 wc w.heap.size (fun k_ => some k_ ≠ ((.slice Ao9 t533.length co9) : Value).ownBlock) v545 t544) ∧ Aside0 (Below w.heap.size w wc))
     case first =>
      have H := HC20.out
      clear HC20
      by_cases c22 : t534 ≥ 1
      ·rw [if_pos c22] at H
       have c22b0 : decide (1 ≤ t534) = true := decide_eq_true c22
       clear c22
       (first | rw [c22b0] | (simp only [i64_w, i32_w]; rw [c22b0]) | skip)
       have H' := am H
       clear H
       go_wp2
       go_meet
       case rel => exact ⟨_, (decide (t534 ≤ 9999)), (by first | rfl | (simp; done) | (simp [*]; done)), H', ⟨by have := HJ5.out; first | omega | exact Nat.le_refl _⟩, ⟨rU HO_3.out⟩, ⟨by (with_reducible repeat (first | apply Kd.R_alloc | apply Kd.R_drewN | apply Kd.R_drew)); exact Kd.R_mono HO_4.out (fun _ hk => hk.2)⟩, ⟨by (with_reducible repeat (first | apply Kd.R_alloc | apply Kd.R_drewN | apply Kd.R_drew)); exact Kd.R_mono HO546.out (fun _ hk => hk.2)⟩, ⟨bU HB.out⟩⟩
      ·rw [if_neg c22] at H
       have c22b0 : decide (1 ≤ t534) = false := decide_eq_false c22
       clear c22
       (first | rw [c22b0] | (simp only [i64_w, i32_w]; rw [c22b0]) | skip)
       have H' := am H
       clear H
       go_wp2
       go_meet
       case rel => exact ⟨_, (false), (by first | rfl | (simp; done) | (simp [*]; done)), H', ⟨by have := HJ5.out; first | omega | exact Nat.le_refl _⟩, ⟨rU HO_3.out⟩, ⟨by (with_reducible repeat (first | apply Kd.R_alloc | apply Kd.R_drewN | apply Kd.R_drew)); exact Kd.R_mono HO_4.out (fun _ hk => hk.2)⟩, ⟨by (with_reducible repeat (first | apply Kd.R_alloc | apply Kd.R_drewN | apply Kd.R_drew)); exact Kd.R_mono HO546.out (fun _ hk => hk.2)⟩, ⟨bU HB.out⟩⟩
     case rest =>
      clear HC20
      try clear c1
      try clear c2
      try clear p2
      try clear c3
      try clear c4
      try clear c5
      try clear c9
      try clear c11
      try clear c11b0
      try clear c13
      try clear c13b0
      try clear c13b1
      try clear c18
      try clear c22
      try clear c22b0
      try clear p2
      obtain ⟨kq, x10_19, rfl, HA, HJ19, HO_3, HO_4, HO_9, HB⟩ := hcut
      cases kq with
      | zero => exact absurd HA.out (by simp [laws_FnHandles.j1])
      | succ kj19 =>
       have H := HA.out
       clear HA
       simp only [laws_FnHandles.j1] at H
       replace H := Option.bind_eq_some_iff.mp H
       obtain ⟨t547, A230, H⟩ := H
       replace H : (laws_FnHandles.l0 kj19 l0 t532 t533 t534 t535 t544 x10_19 t547 0) = some r := H
       have A23 := am A230
       clear A230
       have H' := am H
       clear H
       go_wp2_with (first | ((with_reducible refine gate_callee (f := 51) rfl ?_); refine goesL_ (some 70) rfl rfl Try.func51 (by kernel_rfl) rfl #[.slice Ao8 t532.length co8, .slice Ao9 t533.length co9, .int .i64 t535] rfl mU ?_; (with_reducible refine (spec_SeenBy.calls kj19 _ _ t532 _ _ t533 t535 t547 _ ?side1 ?side2 ?side3 ?side4 A23.out).mono ?_); (case side1 => exact cU (Kd.R_reads' HO_3.out).2.2); (case side2 => exact (Kd.R_reads' HO_3.out).2.1); (case side3 => exact cU (Kd.R_reads' HO_4.out).2.2); (case side4 => exact (Kd.R_reads' HO_4.out).2.1); rintro e w24 ⟨v548, rfl, ho0, hb⟩; refine ⟨_, rfl, ?_⟩; have n0_ := am (Kd.R_elder' (rU HO_3.out) (Kd.R_base ho0) hb); have n1_ := am (Kd.R_below (rU HO_4.out) hb); have n2_ := am (Kd.R_below (rU HO_9.out) hb); have n3_ := am (Kd.R_lower (Kd.R_new' ho0 (Kd.R_lt (rU HO_3.out))) (below_size (bU HB.out))); have n4_ := am (below_step (bU HB.out) hb); clear HO_3; clear HO_4; clear HO_9; clear HB; have HO_3 := n0_; have HO_4 := n1_; have HO_9 := n2_; have HO549 := n3_; have HB := n4_; clear n0_ n1_ n2_ n3_ n4_; (try clear hb); (try clear hb2); (try clear hk); (try clear hi); (try clear ho0)))
       go_loopg [10, 12] kj19 (fun kq v10 v12 w' => ∃ (x10_3 : Bool) (x12_3 : Int), v10 = .bool x10_3 ∧ v12 = .int .i64 x12_3 ∧ Aside0 (laws_FnHandles.l0 kq l0 t532 t533 t534 t535 t544 x10_3 t547 x12_3 = some r) ∧ Aside0 (kq ≤ kj19) ∧ Aside0 (Kd.R k59 59 w' w.heap.size (fun k_ => some k_ ≠ (v548 : Value).ownBlock) (.slice Ao8 t532.length co8) t532) ∧ Aside0 (Kd.R (Kd.int .i64) 3 w' w.heap.size (fun k_ => some k_ ≠ (v545 : Value).ownBlock) (.slice Ao9 t533.length co9) t533) ∧ Aside0 (Kd.R (Kd.int .i64) 3 w' w.heap.size (fun k_ => some k_ ≠ ((.slice Ao9 t533.length co9) : Value).ownBlock) v545 t544) ∧ Aside0 (Kd.R k59 59 w' w.heap.size (fun k_ => some k_ ≠ ((.slice Ao8 t532.length co8) : Value).ownBlock) v548 t547) ∧ Aside0 (Below w.heap.size w w'))
       case atStart => exact ⟨(x10_19), (0), (by first | rfl | (simp; done) | (simp [*]; done)), (by first | rfl | (simp; done) | (simp [*]; done)), H', ⟨Nat.le_refl _⟩, ⟨by (with_reducible repeat (first | apply Kd.R_alloc | apply Kd.R_drewN | apply Kd.R_drew)); exact Kd.R_mono HO_3.out (fun _ hk => hk.2)⟩, ⟨rU HO_4.out⟩, ⟨rU HO_9.out⟩, ⟨by (with_reducible repeat (first | apply Kd.R_alloc | apply Kd.R_drewN | apply Kd.R_drew)); exact Kd.R_mono HO549.out (fun _ hk => hk.2)⟩, ⟨bU HB.out⟩⟩
       case round =>
        clear H'
        try clear c1
        try clear c2
        try clear p2
        try clear c3
        try clear c4
        try clear c5
        try clear c9
        try clear c11
        try clear c11b0
        try clear c13
        try clear c13b0
        try clear c13b1
        try clear c18
        try clear c22
        try clear c22b0
        try clear p2
        obtain ⟨x10_3, x12_3, rfl, rfl, HA, HK3, HO_3, HO_4, HO_9, HO_11, HB⟩ := hrel
        cases gk with
        | zero => exact absurd HA.out (by simp [laws_FnHandles.l0])
        | succ k3 =>
         have H := HA.out
         clear HA
         simp only [laws_FnHandles.l0] at H
         by_cases c25 : x12_3 < (t547.length : Int)
         ·rw [if_pos c25] at H
          have c25b0 : decide (x12_3 < (t547.length : Int)) = true := decide_eq_true c25
          clear c25
          by_cases c26 : x10_3 = true
          ·subst c26
           have H1 : (if 0 ≤ x12_3 then (laws_FnHandles.l0 k3 l0 t532 t533 t534 t535 t544 (decide (((rd_T59 t547 x12_3).f0) ≤ 99)) t547 (wrap64 (x12_3 + 1))) else (none)) = some r := by rw [if_pos rfl] at H; exact H
           clear H
           have H := H1
           clear H1
           by_cases c27 : 0 ≤ x12_3
           ·rw [if_pos c27] at H
            have c27b0 : decide (0 ≤ x12_3) = true := decide_eq_true c27
            clear c27
            have H' := am H
            clear H
            obtain ⟨Ao28, co28, eo28⟩ := Kd.R_slice HO_11.out
            subst eo28
            have p550 : 0 ≤ (x12_3 : Int) := dU
            have q550 : x12_3 < (t547.length : Int) := dU
            obtain ⟨ad550, e550, hx550_0, hx550_1, hx550_2, hx550_3, hx550_4⟩ := at_T59 (Kd.R_reads' HO_11.out).2.2 x12_3 p550 q550
            cases e550
            replace p550 := eq_true p550
            replace q550 := eq_true q550
            go_wp2
            go_roundg k3
            case measure => have := HJ5.out; have := HJ19.out; have := HK3.out; omega
            case rel => exact ⟨(decide (((rd_T59 t547 x12_3).f0) ≤ 99)), (wrap64 (x12_3 + 1)), (by first | rfl | (simp; done) | (simp [*]; done)), (by first | rfl | (simp; done) | (simp [*]; done)), H', ⟨by have := HJ5.out; have := HJ19.out; have := HK3.out; omega⟩, ⟨rU HO_3.out⟩, ⟨rU HO_4.out⟩, ⟨rU HO_9.out⟩, ⟨rU HO_11.out⟩, ⟨bU HB.out⟩⟩
           ·rw [if_neg c27] at H
            exact absurd H (by simp)
          ·replace c26 := Bool.eq_false_iff.mpr c26
           subst c26
           have H1 : (laws_FnHandles.l0 k3 l0 t532 t533 t534 t535 t544 false t547 (wrap64 (x12_3 + 1))) = some r := by rw [if_neg (show ¬ (false = true) by decide)] at H; exact H
           clear H
           have H := H1
           clear H1
           have H' := am H
           clear H
           obtain ⟨Ao29, co29, eo29⟩ := Kd.R_slice HO_11.out
           subst eo29
           go_wp2
           go_roundg k3
           case measure => have := HJ5.out; have := HJ19.out; have := HK3.out; omega
           case rel => exact ⟨(false), (wrap64 (x12_3 + 1)), (by first | rfl | (simp; done) | (simp [*]; done)), (by first | rfl | (simp; done) | (simp [*]; done)), H', ⟨by have := HJ5.out; have := HJ19.out; have := HK3.out; omega⟩, ⟨rU HO_3.out⟩, ⟨rU HO_4.out⟩, ⟨rU HO_9.out⟩, ⟨rU HO_11.out⟩, ⟨bU HB.out⟩⟩
         ·rw [if_neg c25] at H
          have c25b0 : decide (x12_3 < (t547.length : Int)) = false := decide_eq_false c25
          clear c25
          have HC30 := am H
          clear H
          obtain ⟨Ao31, co31, eo31⟩ := Kd.R_slice HO_11.out
          subst eo31
          go_upto_region 14 with (fail)
          go_cut [105] (fun v105 wc => ∃ (kq : Nat) (x105_29 : Bool), v105 = .bool x105_29 ∧ Aside0 (laws_FnHandles.j3 kq l0 x105_29 = some r) ∧ Aside0 (kq ≤ k3) ∧ Aside0 (Below w.heap.size w wc))
          case first =>
           have H := HC30.out
           clear HC30
           replace H := Option.bind_eq_some_iff.mp H
           obtain ⟨t551, A320, H⟩ := H
           replace H : (if (t544.length : Int) = (t551.length : Int) then (if x10_3 = true then ((impl_ForeignHandles.f k3 t532 t533 t534 t535 t544).bind fun t554 => (laws_FnHandles.j3 k3 l0 (t554 != 0))) else (laws_FnHandles.j3 k3 l0 false)) else (laws_FnHandles.j3 k3 l0 true)) = some r := H
           have A32 := am A320
           clear A320
           by_cases c33 : (t544.length : Int) = (t551.length : Int)
           ·rw [if_pos c33] at H
            have c33b0 : ((t544.length : Int) == (t551.length : Int)) = true := beq_iff_eq.mpr c33
            have c33b1 : ((t544.length : Int) != (t551.length : Int)) = false := bne_eq_false_iff_eq.mpr c33
            have c33b2 : (t544.length == t551.length) = true := by first | simpa using c33 | (simp at c33 ⊢; omega)
            clear c33
            (first | rw [c33b0] | (simp only [i64_w, i32_w]; rw [c33b0]) | skip)
            by_cases c34 : x10_3 = true
            ·subst c34
             have H1 : ((impl_ForeignHandles.f k3 t532 t533 t534 t535 t544).bind fun t554 => (laws_FnHandles.j3 k3 l0 (t554 != 0))) = some r := by rw [if_pos rfl] at H; exact H
             clear H
             have H := H1
             clear H1
             replace H := Option.bind_eq_some_iff.mp H
             obtain ⟨t554, A350, H⟩ := H
             replace H : (laws_FnHandles.j3 k3 l0 (t554 != 0)) = some r := H
             have A35 := am A350
             clear A350
             have H' := am H
             clear H
             obtain ⟨Ao36, co36, eo36⟩ := Kd.R_slice HO_9.out
             subst eo36
             go_wp2_with (first | ((with_reducible refine gate_callee (f := 39) rfl ?_); refine goesL_ (some 91) rfl rfl Try.func39 (by kernel_rfl) rfl #[.slice Ao8 t532.length co8, .slice Ao9 t533.length co9, .int .i64 t535] rfl mU ?_; (with_reducible refine (impl_SeenBy.calls k3 _ _ t532 _ _ t533 t535 t551 _ ?side1 ?side2 ?side3 ?side4 A32.out).mono ?_); (case side1 => exact cU (Kd.R_reads' HO_3.out).2.2); (case side2 => exact (Kd.R_reads' HO_3.out).2.1); (case side3 => exact cU (Kd.R_reads' HO_4.out).2.2); (case side4 => exact (Kd.R_reads' HO_4.out).2.1); rintro e w37 ⟨v552, rfl, ho0, hb⟩; refine ⟨_, rfl, ?_⟩; have n0_ := am (Kd.R_elder' (rU HO_3.out) (Kd.R_base ho0) hb); have n1_ := am (Kd.R_below (rU HO_4.out) hb); have n2_ := am (Kd.R_below (rU HO_9.out) hb); have n3_ := am (Kd.R_elder' (rU HO_11.out) (Kd.R_base ho0) hb); have n4_ := am (Kd.R_lower (Kd.R_new' (Kd.R_new' ho0 (Kd.R_lt (rU HO_3.out))) (Kd.R_lt (rU HO_11.out))) (below_size (bU HB.out))); have n5_ := am (below_step (bU HB.out) hb); clear HO_3; clear HO_4; clear HO_9; clear HO_11; clear HB; have HO_3 := n0_; have HO_4 := n1_; have HO_9 := n2_; have HO_11 := n3_; have HO553 := n4_; have HB := n5_; clear n0_ n1_ n2_ n3_ n4_ n5_; (try clear hb); (try clear hb2); (try clear hk); (try clear hi); (try clear ho0); obtain ⟨Ao38, co38, eo38⟩ := Kd.R_slice HO553.out; subst eo38) | (go_at_call 52; (with_reducible refine (impl_ForeignHandles.calls k3 _ _ t532 _ _ t533 t534 t535 _ _ t544 t554 _ ?side1 ?side2 ?side3 ?side4 ?side5 ?side6 A35.out).mono ?_); (case side1 => exact cU (Kd.R_reads' HO_3.out).2.2); (case side2 => exact (Kd.R_reads' HO_3.out).2.1); (case side3 => exact cU (Kd.R_reads' HO_4.out).2.2); (case side4 => exact (Kd.R_reads' HO_4.out).2.1); (case side5 => exact cU (Kd.R_reads' HO_9.out).2.2); (case side6 => exact (Kd.R_reads' HO_9.out).2.1); rintro e w39 ⟨rfl, hb⟩; have n0_ := am (Kd.R_below (rU HO_3.out) hb); have n1_ := am (Kd.R_below (rU HO_4.out) hb); have n2_ := am (Kd.R_below (rU HO_9.out) hb); have n3_ := am (Kd.R_below (rU HO_11.out) hb); have n4_ := am (Kd.R_below (rU HO553.out) hb); have n5_ := am (below_step (bU HB.out) hb); clear HO_3; clear HO_4; clear HO_9; clear HO_11; clear HO553; clear HB; have HO_3 := n0_; have HO_4 := n1_; have HO_9 := n2_; have HO_11 := n3_; have HO553 := n4_; have HB := n5_; clear n0_ n1_ n2_ n3_ n4_ n5_; (try clear hb); (try clear hb2); (try clear hk); (try clear hi)))
             go_meet
             case rel => exact ⟨_, ((t554 != 0)), (by first | rfl | (simp; done) | (simp [*]; done)), H', ⟨by have := HJ5.out; have := HJ19.out; have := HK3.out; first | omega | exact Nat.le_refl _⟩, ⟨bU HB.out⟩⟩
            ·replace c34 := Bool.eq_false_iff.mpr c34
             subst c34
             have H1 : (laws_FnHandles.j3 k3 l0 false) = some r := by rw [if_neg (show ¬ (false = true) by decide)] at H; exact H
             clear H
             have H := H1
             clear H1
             have H' := am H
             clear H
             obtain ⟨Ao40, co40, eo40⟩ := Kd.R_slice HO_9.out
             subst eo40
             go_wp2_with (first | ((with_reducible refine gate_callee (f := 39) rfl ?_); refine goesL_ (some 91) rfl rfl Try.func39 (by kernel_rfl) rfl #[.slice Ao8 t532.length co8, .slice Ao9 t533.length co9, .int .i64 t535] rfl mU ?_; (with_reducible refine (impl_SeenBy.calls k3 _ _ t532 _ _ t533 t535 t551 _ ?side1 ?side2 ?side3 ?side4 A32.out).mono ?_); (case side1 => exact cU (Kd.R_reads' HO_3.out).2.2); (case side2 => exact (Kd.R_reads' HO_3.out).2.1); (case side3 => exact cU (Kd.R_reads' HO_4.out).2.2); (case side4 => exact (Kd.R_reads' HO_4.out).2.1); rintro e w41 ⟨v552, rfl, ho0, hb⟩; refine ⟨_, rfl, ?_⟩; have n0_ := am (Kd.R_elder' (rU HO_3.out) (Kd.R_base ho0) hb); have n1_ := am (Kd.R_below (rU HO_4.out) hb); have n2_ := am (Kd.R_below (rU HO_9.out) hb); have n3_ := am (Kd.R_elder' (rU HO_11.out) (Kd.R_base ho0) hb); have n4_ := am (Kd.R_lower (Kd.R_new' (Kd.R_new' ho0 (Kd.R_lt (rU HO_3.out))) (Kd.R_lt (rU HO_11.out))) (below_size (bU HB.out))); have n5_ := am (below_step (bU HB.out) hb); clear HO_3; clear HO_4; clear HO_9; clear HO_11; clear HB; have HO_3 := n0_; have HO_4 := n1_; have HO_9 := n2_; have HO_11 := n3_; have HO553 := n4_; have HB := n5_; clear n0_ n1_ n2_ n3_ n4_ n5_; (try clear hb); (try clear hb2); (try clear hk); (try clear hi); (try clear ho0); obtain ⟨Ao42, co42, eo42⟩ := Kd.R_slice HO553.out; subst eo42))
             go_meet
             case rel => exact ⟨_, (false), (by first | rfl | (simp; done) | (simp [*]; done)), H', ⟨by have := HJ5.out; have := HJ19.out; have := HK3.out; first | omega | exact Nat.le_refl _⟩, ⟨bU HB.out⟩⟩
           ·rw [if_neg c33] at H
            have c33b0 : ((t544.length : Int) == (t551.length : Int)) = false := beq_eq_false_iff_ne.mpr c33
            have c33b1 : ((t544.length : Int) != (t551.length : Int)) = true := bne_iff_ne.mpr c33
            have c33b2 : (t544.length == t551.length) = false := by first | simpa using c33 | (simp at c33 ⊢; omega)
            (first | rw [c33b0] | (simp only [i64_w, i32_w]; rw [c33b0]) | skip)
            have H' := am H
            clear H
            obtain ⟨Ao43, co43, eo43⟩ := Kd.R_slice HO_9.out
            subst eo43
            go_wp2_with (first | ((with_reducible refine gate_callee (f := 39) rfl ?_); refine goesL_ (some 91) rfl rfl Try.func39 (by kernel_rfl) rfl #[.slice Ao8 t532.length co8, .slice Ao9 t533.length co9, .int .i64 t535] rfl mU ?_; (with_reducible refine (impl_SeenBy.calls k3 _ _ t532 _ _ t533 t535 t551 _ ?side1 ?side2 ?side3 ?side4 A32.out).mono ?_); (case side1 => exact cU (Kd.R_reads' HO_3.out).2.2); (case side2 => exact (Kd.R_reads' HO_3.out).2.1); (case side3 => exact cU (Kd.R_reads' HO_4.out).2.2); (case side4 => exact (Kd.R_reads' HO_4.out).2.1); rintro e w44 ⟨v552, rfl, ho0, hb⟩; refine ⟨_, rfl, ?_⟩; have n0_ := am (Kd.R_elder' (rU HO_3.out) (Kd.R_base ho0) hb); have n1_ := am (Kd.R_below (rU HO_4.out) hb); have n2_ := am (Kd.R_below (rU HO_9.out) hb); have n3_ := am (Kd.R_elder' (rU HO_11.out) (Kd.R_base ho0) hb); have n4_ := am (Kd.R_lower (Kd.R_new' (Kd.R_new' ho0 (Kd.R_lt (rU HO_3.out))) (Kd.R_lt (rU HO_11.out))) (below_size (bU HB.out))); have n5_ := am (below_step (bU HB.out) hb); clear HO_3; clear HO_4; clear HO_9; clear HO_11; clear HB; have HO_3 := n0_; have HO_4 := n1_; have HO_9 := n2_; have HO_11 := n3_; have HO553 := n4_; have HB := n5_; clear n0_ n1_ n2_ n3_ n4_ n5_; (try clear hb); (try clear hb2); (try clear hk); (try clear hi); (try clear ho0); obtain ⟨Ao45, co45, eo45⟩ := Kd.R_slice HO553.out; subst eo45))
            go_meet
            case rel => exact ⟨_, (true), (by first | rfl | (simp; done) | (simp [*]; done)), H', ⟨by have := HJ5.out; have := HJ19.out; have := HK3.out; first | omega | exact Nat.le_refl _⟩, ⟨bU HB.out⟩⟩
          case rest =>
           clear HC30
           try clear c1
           try clear c2
           try clear p2
           try clear c3
           try clear c4
           try clear c5
           try clear p5
           try clear q5
           try clear hx5
           try clear p6
           try clear c9
           try clear c11
           try clear c11b0
           try clear c13
           try clear c13b0
           try clear c13b1
           try clear c18
           try clear c22
           try clear c22b0
           try clear c25
           try clear c25b0
           try clear c26
           try clear c27
           try clear c27b0
           try clear c33
           try clear c33b0
           try clear c33b1
           try clear c33b2
           try clear c34
           try clear c37
           try clear c39
           try clear hx550_0
           try clear hx550_1
           try clear hx550_2
           try clear hx550_3
           try clear hx550_4
           try clear p2
           try clear p550
           try clear q550
           obtain ⟨kq, x105_29, rfl, HA, HJ29, HB⟩ := hcut
           cases kq with
           | zero => exact absurd HA.out (by simp [laws_FnHandles.j3])
           | succ kj29 =>
            have H := HA.out
            clear HA
            simp only [laws_FnHandles.j3] at H
            by_cases c46 : x105_29 = true
            ·subst c46
             have H1 : (some false) = some r := by rw [if_pos rfl] at H; exact H
             clear H
             have H := H1
             clear H1
             obtain rfl := Option.some.inj H
             go_wp2
             go_ret
             exact ⟨eU, bU HB.out⟩
            ·replace c46 := Bool.eq_false_iff.mpr c46
             subst c46
             have H1 : ((spec_DrawEditByHandle.f kj29 l0).bind fun bt555 => ((impl_EditByHandle.f kj29 bt555.1 bt555.2.1 bt555.2.2.1 bt555.2.2.2.1 bt555.2.2.2.2.1 bt555.2.2.2.2.2).bind fun bt565 => ((impl_ResolveHandle.f kj29 bt555.1 bt555.2.1 bt555.2.2.1 bt555.2.2.2.2.2 bt555.2.2.2.1).bind fun t569 => (if bt565.2 = true then (if t569 ≥ 1 then ((impl_NodeOf.f kj29 bt565.1 t569).bind fun t570 => (if 0 ≤ t570 then (if t570 < (bt565.1.length : Int) then (if ((rd_T59 bt565.1 t570).f3) = bt555.2.2.2.2.1 then ((impl_NodeOf.f kj29 bt565.1 t569).bind fun t572 => (if 0 ≤ t572 then (if t572 < (bt565.1.length : Int) then (some (((rd_T59 bt565.1 t572).f4) == bt555.2.2.2.2.2)) else (none)) else (none))) else (some false)) else (none)) else (none))) else (some false)) else ((impl_EqualDocuments.f kj29 bt565.1 bt555.1).bind fun t574 => (some t574)))))) = some r := by rw [if_neg (show ¬ (false = true) by decide)] at H; exact H
             clear H
             have H := H1
             clear H1
             replace H := Option.bind_eq_some_iff.mp H
             obtain ⟨⟨t555, t556, t557, t558, t559, t560⟩, A470, H⟩ := H
             replace H : ((impl_EditByHandle.f kj29 t555 t556 t557 t558 t559 t560).bind fun bt565 => ((impl_ResolveHandle.f kj29 t555 t556 t557 t560 t558).bind fun t569 => (if bt565.2 = true then (if t569 ≥ 1 then ((impl_NodeOf.f kj29 bt565.1 t569).bind fun t570 => (if 0 ≤ t570 then (if t570 < (bt565.1.length : Int) then (if ((rd_T59 bt565.1 t570).f3) = t559 then ((impl_NodeOf.f kj29 bt565.1 t569).bind fun t572 => (if 0 ≤ t572 then (if t572 < (bt565.1.length : Int) then (some (((rd_T59 bt565.1 t572).f4) == t560)) else (none)) else (none))) else (some false)) else (none)) else (none))) else (some false)) else ((impl_EqualDocuments.f kj29 bt565.1 t555).bind fun t574 => (some t574))))) = some r := H
             have A47 := am A470
             clear A470
             replace H := Option.bind_eq_some_iff.mp H
             obtain ⟨⟨t565, t566⟩, A480, H⟩ := H
             replace H : ((impl_ResolveHandle.f kj29 t555 t556 t557 t560 t558).bind fun t569 => (if t566 = true then (if t569 ≥ 1 then ((impl_NodeOf.f kj29 t565 t569).bind fun t570 => (if 0 ≤ t570 then (if t570 < (t565.length : Int) then (if ((rd_T59 t565 t570).f3) = t559 then ((impl_NodeOf.f kj29 t565 t569).bind fun t572 => (if 0 ≤ t572 then (if t572 < (t565.length : Int) then (some (((rd_T59 t565 t572).f4) == t560)) else (none)) else (none))) else (some false)) else (none)) else (none))) else (some false)) else ((impl_EqualDocuments.f kj29 t565 t555).bind fun t574 => (some t574)))) = some r := H
             have A48 := am A480
             clear A480
             replace H := Option.bind_eq_some_iff.mp H
             obtain ⟨t569, A490, H⟩ := H
             replace H : (if t566 = true then (if t569 ≥ 1 then ((impl_NodeOf.f kj29 t565 t569).bind fun t570 => (if 0 ≤ t570 then (if t570 < (t565.length : Int) then (if ((rd_T59 t565 t570).f3) = t559 then ((impl_NodeOf.f kj29 t565 t569).bind fun t572 => (if 0 ≤ t572 then (if t572 < (t565.length : Int) then (some (((rd_T59 t565 t572).f4) == t560)) else (none)) else (none))) else (some false)) else (none)) else (none))) else (some false)) else ((impl_EqualDocuments.f kj29 t565 t555).bind fun t574 => (some t574))) = some r := H
             have A49 := am A490
             clear A490
             by_cases c50 : t566 = true
             ·subst c50
              have H1 : (if t569 ≥ 1 then ((impl_NodeOf.f kj29 t565 t569).bind fun t570 => (if 0 ≤ t570 then (if t570 < (t565.length : Int) then (if ((rd_T59 t565 t570).f3) = t559 then ((impl_NodeOf.f kj29 t565 t569).bind fun t572 => (if 0 ≤ t572 then (if t572 < (t565.length : Int) then (some (((rd_T59 t565 t572).f4) == t560)) else (none)) else (none))) else (some false)) else (none)) else (none))) else (some false)) = some r := by rw [if_pos rfl] at H; exact H
              clear H
              have H := H1
              clear H1
              by_cases c51 : t569 ≥ 1
              ·rw [if_pos c51] at H
               have c51b0 : decide (1 ≤ t569) = true := decide_eq_true c51
               clear c51
               replace H := Option.bind_eq_some_iff.mp H
               obtain ⟨t570, A520, H⟩ := H
               replace H : (if 0 ≤ t570 then (if t570 < (t565.length : Int) then (if ((rd_T59 t565 t570).f3) = t559 then ((impl_NodeOf.f kj29 t565 t569).bind fun t572 => (if 0 ≤ t572 then (if t572 < (t565.length : Int) then (some (((rd_T59 t565 t572).f4) == t560)) else (none)) else (none))) else (some false)) else (none)) else (none)) = some r := H
               have A52 := am A520
               clear A520
               by_cases c53 : 0 ≤ t570
               ·rw [if_pos c53] at H
                have c53b0 : decide (0 ≤ t570) = true := decide_eq_true c53
                clear c53
                by_cases c54 : t570 < (t565.length : Int)
                ·rw [if_pos c54] at H
                 have c54b0 : decide (t570 < (t565.length : Int)) = true := decide_eq_true c54
                 clear c54
                 by_cases c55 : ((rd_T59 t565 t570).f3) = t559
                 ·rw [if_pos c55] at H
                  have c55b0 : (((rd_T59 t565 t570).f3) == t559) = true := beq_iff_eq.mpr c55
                  have c55b1 : (((rd_T59 t565 t570).f3) != t559) = false := bne_eq_false_iff_eq.mpr c55
                  clear c55
                  replace H := Option.bind_eq_some_iff.mp H
                  obtain ⟨t572, A560, H⟩ := H
                  replace H : (if 0 ≤ t572 then (if t572 < (t565.length : Int) then (some (((rd_T59 t565 t572).f4) == t560)) else (none)) else (none)) = some r := H
                  have A56 := am A560
                  clear A560
                  by_cases c57 : 0 ≤ t572
                  ·rw [if_pos c57] at H
                   have c57b0 : decide (0 ≤ t572) = true := decide_eq_true c57
                   clear c57
                   by_cases c58 : t572 < (t565.length : Int)
                   ·rw [if_pos c58] at H
                    have c58b0 : decide (t572 < (t565.length : Int)) = true := decide_eq_true c58
                    clear c58
                    obtain rfl := Option.some.inj H
                    go_wp2_with (first | ((with_reducible refine gate_callee (f := 53) rfl ?_); refine goesL_ (some 108) rfl rfl Try.func53 (by kernel_rfl) rfl #[.slice A0 l0.length c0] rfl mU ?_; (with_reducible refine (spec_DrawEditByHandle.calls kj29 _ _ l0 t555 t556 t557 t558 t559 t560 _ ?side1 ?side2 A47.out).mono ?_); (case side1 => exact cU (Kd.C_below HR0.out HB.out)); (case side2 => exact HC0.out); rintro e w59 ⟨v561, v563, rfl, ho0, ho1, hb⟩; refine ⟨_, rfl, ?_⟩; have n0_ := am (Kd.R_lower ho0 (below_size (bU HB.out))); have n1_ := am (Kd.R_lower ho1 (below_size (bU HB.out))); have n2_ := am (below_step (bU HB.out) hb); clear HB; have HO562 := n0_; have HO564 := n1_; have HB := n2_; clear n0_ n1_ n2_; (try clear hb); (try clear hb2); (try clear hk); (try clear hi); (try clear ho0); (try clear ho1); obtain ⟨Ao60, co60, eo60⟩ := Kd.R_slice HO562.out; subst eo60; obtain ⟨Ao61, co61, eo61⟩ := Kd.R_slice HO564.out; subst eo61) | ((with_reducible refine gate_callee (f := 36) rfl ?_); refine goesL_ (some 122) rfl rfl Try.func36 (by kernel_rfl) rfl #[.slice Ao60 t555.length co60, .slice Ao61 t556.length co61, .int .i64 t557, .int .i64 t558, .int .i64 t559, .int .i64 t560] rfl mU ?_; (with_reducible refine (impl_EditByHandle.calls kj29 _ _ t555 _ _ t556 t557 t558 t559 t560 t565 true _ ?side1 ?side2 ?side3 ?side4 A48.out).mono ?_); (case side1 => exact cU (Kd.R_reads' HO562.out).2.2); (case side2 => exact (Kd.R_reads' HO562.out).2.1); (case side3 => exact cU (Kd.R_reads' HO564.out).2.2); (case side4 => exact (Kd.R_reads' HO564.out).2.1); rintro e w62 ⟨v567, rfl, ho0, hb⟩; refine ⟨_, rfl, ?_⟩; have n0_ := am (Kd.R_elder' (rU HO562.out) (Kd.R_base ho0) hb); have n1_ := am (Kd.R_below (rU HO564.out) hb); have n2_ := am (Kd.R_lower (Kd.R_new' ho0 (Kd.R_lt (rU HO562.out))) (below_size (bU HB.out))); have n3_ := am (below_step (bU HB.out) hb); clear HO562; clear HO564; clear HB; have HO562 := n0_; have HO564 := n1_; have HO568 := n2_; have HB := n3_; clear n0_ n1_ n2_ n3_; (try clear hb); (try clear hb2); (try clear hk); (try clear hi); (try clear ho0)) | ((with_reducible refine gate_callee (f := 48) rfl ?_); refine goesL_ (some 130) rfl rfl Try.func48 (by kernel_rfl) rfl #[.slice Ao60 t555.length co60, .slice Ao61 t556.length co61, .int .i64 t557, .int .i64 t560, .int .i64 t558] rfl mU ?_; (with_reducible refine (impl_ResolveHandle.calls kj29 _ _ t555 _ _ t556 t557 t560 t558 t569 _ ?side1 ?side2 ?side3 ?side4 A49.out).mono ?_); (case side1 => exact cU (Kd.R_reads' HO562.out).2.2); (case side2 => exact (Kd.R_reads' HO562.out).2.1); (case side3 => exact cU (Kd.R_reads' HO564.out).2.2); (case side4 => exact (Kd.R_reads' HO564.out).2.1); rintro e w63 ⟨rfl, hb⟩; refine ⟨_, rfl, ?_⟩; have n0_ := am (Kd.R_below (rU HO562.out) hb); have n1_ := am (Kd.R_below (rU HO564.out) hb); have n2_ := am (Kd.R_below (rU HO568.out) hb); have n3_ := am (below_step (bU HB.out) hb); clear HO562; clear HO564; clear HO568; clear HB; have HO562 := n0_; have HO564 := n1_; have HO568 := n2_; have HB := n3_; clear n0_ n1_ n2_ n3_; (try clear hb); (try clear hb2); (try clear hk); (try clear hi); obtain ⟨Ao64, co64, eo64⟩ := Kd.R_slice HO568.out; subst eo64) | (go_at_call 40; (with_reducible refine (impl_NodeOf.calls kj29 _ _ t565 t569 t570 _ ?side1 ?side2 A52.out).mono ?_); (case side1 => exact cU (Kd.R_reads' HO568.out).2.2); (case side2 => exact (Kd.R_reads' HO568.out).2.1); rintro e w65 ⟨rfl, hb⟩; have n0_ := am (Kd.R_below (rU HO562.out) hb); have n1_ := am (Kd.R_below (rU HO564.out) hb); have n2_ := am (Kd.R_below (rU HO568.out) hb); have n3_ := am (below_step (bU HB.out) hb); clear HO562; clear HO564; clear HO568; clear HB; have HO562 := n0_; have HO564 := n1_; have HO568 := n2_; have HB := n3_; clear n0_ n1_ n2_ n3_; (try clear hb); (try clear hb2); (try clear hk); (try clear hi); have p571 : 0 ≤ (t570 : Int) := dU; have q571 : t570 < (t565.length : Int) := dU; obtain ⟨ad571, e571, hx571_0, hx571_1, hx571_2, hx571_3, hx571_4⟩ := at_T59 (Kd.R_reads' HO568.out).2.2 t570 p571 q571; cases e571; replace p571 := eq_true p571; replace q571 := eq_true q571) | (go_at_call 40; (with_reducible refine (impl_NodeOf.calls kj29 _ _ t565 t569 t572 _ ?side1 ?side2 A56.out).mono ?_); (case side1 => exact cU (Kd.R_reads' HO568.out).2.2); (case side2 => exact (Kd.R_reads' HO568.out).2.1); rintro e w66 ⟨rfl, hb⟩; have n0_ := am (Kd.R_below (rU HO562.out) hb); have n1_ := am (Kd.R_below (rU HO564.out) hb); have n2_ := am (Kd.R_below (rU HO568.out) hb); have n3_ := am (below_step (bU HB.out) hb); clear HO562; clear HO564; clear HO568; clear HB; have HO562 := n0_; have HO564 := n1_; have HO568 := n2_; have HB := n3_; clear n0_ n1_ n2_ n3_; (try clear hb); (try clear hb2); (try clear hk); (try clear hi); have p573 : 0 ≤ (t572 : Int) := dU; have q573 : t572 < (t565.length : Int) := dU; obtain ⟨ad573, e573, hx573_0, hx573_1, hx573_2, hx573_3, hx573_4⟩ := at_T59 (Kd.R_reads' HO568.out).2.2 t572 p573 q573; obtain rfl : ad571 = ad573 := (by injection e573); replace p573 := eq_true p573; replace q573 := eq_true q573))
                    go_ret
                    exact ⟨by first | (have e_ := Option.some.inj (A56.out.symm.trans A52.out); rw [e_]; done) | (have e_ := Option.some.inj (A56.out.symm.trans A52.out); subst e_; exact eU), bU HB.out⟩
                   ·rw [if_neg c58] at H
                    exact absurd H (by simp)
                  ·rw [if_neg c57] at H
                   exact absurd H (by simp)
                 ·rw [if_neg c55] at H
                  have c55b0 : (((rd_T59 t565 t570).f3) == t559) = false := beq_eq_false_iff_ne.mpr c55
                  have c55b1 : (((rd_T59 t565 t570).f3) != t559) = true := bne_iff_ne.mpr c55
                  obtain rfl := Option.some.inj H
                  go_wp2_with (first | ((with_reducible refine gate_callee (f := 53) rfl ?_); refine goesL_ (some 108) rfl rfl Try.func53 (by kernel_rfl) rfl #[.slice A0 l0.length c0] rfl mU ?_; (with_reducible refine (spec_DrawEditByHandle.calls kj29 _ _ l0 t555 t556 t557 t558 t559 t560 _ ?side1 ?side2 A47.out).mono ?_); (case side1 => exact cU (Kd.C_below HR0.out HB.out)); (case side2 => exact HC0.out); rintro e w67 ⟨v561, v563, rfl, ho0, ho1, hb⟩; refine ⟨_, rfl, ?_⟩; have n0_ := am (Kd.R_lower ho0 (below_size (bU HB.out))); have n1_ := am (Kd.R_lower ho1 (below_size (bU HB.out))); have n2_ := am (below_step (bU HB.out) hb); clear HB; have HO562 := n0_; have HO564 := n1_; have HB := n2_; clear n0_ n1_ n2_; (try clear hb); (try clear hb2); (try clear hk); (try clear hi); (try clear ho0); (try clear ho1); obtain ⟨Ao68, co68, eo68⟩ := Kd.R_slice HO562.out; subst eo68; obtain ⟨Ao69, co69, eo69⟩ := Kd.R_slice HO564.out; subst eo69) | ((with_reducible refine gate_callee (f := 36) rfl ?_); refine goesL_ (some 122) rfl rfl Try.func36 (by kernel_rfl) rfl #[.slice Ao68 t555.length co68, .slice Ao69 t556.length co69, .int .i64 t557, .int .i64 t558, .int .i64 t559, .int .i64 t560] rfl mU ?_; (with_reducible refine (impl_EditByHandle.calls kj29 _ _ t555 _ _ t556 t557 t558 t559 t560 t565 true _ ?side1 ?side2 ?side3 ?side4 A48.out).mono ?_); (case side1 => exact cU (Kd.R_reads' HO562.out).2.2); (case side2 => exact (Kd.R_reads' HO562.out).2.1); (case side3 => exact cU (Kd.R_reads' HO564.out).2.2); (case side4 => exact (Kd.R_reads' HO564.out).2.1); rintro e w70 ⟨v567, rfl, ho0, hb⟩; refine ⟨_, rfl, ?_⟩; have n0_ := am (Kd.R_elder' (rU HO562.out) (Kd.R_base ho0) hb); have n1_ := am (Kd.R_below (rU HO564.out) hb); have n2_ := am (Kd.R_lower (Kd.R_new' ho0 (Kd.R_lt (rU HO562.out))) (below_size (bU HB.out))); have n3_ := am (below_step (bU HB.out) hb); clear HO562; clear HO564; clear HB; have HO562 := n0_; have HO564 := n1_; have HO568 := n2_; have HB := n3_; clear n0_ n1_ n2_ n3_; (try clear hb); (try clear hb2); (try clear hk); (try clear hi); (try clear ho0)) | ((with_reducible refine gate_callee (f := 48) rfl ?_); refine goesL_ (some 130) rfl rfl Try.func48 (by kernel_rfl) rfl #[.slice Ao68 t555.length co68, .slice Ao69 t556.length co69, .int .i64 t557, .int .i64 t560, .int .i64 t558] rfl mU ?_; (with_reducible refine (impl_ResolveHandle.calls kj29 _ _ t555 _ _ t556 t557 t560 t558 t569 _ ?side1 ?side2 ?side3 ?side4 A49.out).mono ?_); (case side1 => exact cU (Kd.R_reads' HO562.out).2.2); (case side2 => exact (Kd.R_reads' HO562.out).2.1); (case side3 => exact cU (Kd.R_reads' HO564.out).2.2); (case side4 => exact (Kd.R_reads' HO564.out).2.1); rintro e w71 ⟨rfl, hb⟩; refine ⟨_, rfl, ?_⟩; have n0_ := am (Kd.R_below (rU HO562.out) hb); have n1_ := am (Kd.R_below (rU HO564.out) hb); have n2_ := am (Kd.R_below (rU HO568.out) hb); have n3_ := am (below_step (bU HB.out) hb); clear HO562; clear HO564; clear HO568; clear HB; have HO562 := n0_; have HO564 := n1_; have HO568 := n2_; have HB := n3_; clear n0_ n1_ n2_ n3_; (try clear hb); (try clear hb2); (try clear hk); (try clear hi); obtain ⟨Ao72, co72, eo72⟩ := Kd.R_slice HO568.out; subst eo72) | (go_at_call 40; (with_reducible refine (impl_NodeOf.calls kj29 _ _ t565 t569 t570 _ ?side1 ?side2 A52.out).mono ?_); (case side1 => exact cU (Kd.R_reads' HO568.out).2.2); (case side2 => exact (Kd.R_reads' HO568.out).2.1); rintro e w73 ⟨rfl, hb⟩; have n0_ := am (Kd.R_below (rU HO562.out) hb); have n1_ := am (Kd.R_below (rU HO564.out) hb); have n2_ := am (Kd.R_below (rU HO568.out) hb); have n3_ := am (below_step (bU HB.out) hb); clear HO562; clear HO564; clear HO568; clear HB; have HO562 := n0_; have HO564 := n1_; have HO568 := n2_; have HB := n3_; clear n0_ n1_ n2_ n3_; (try clear hb); (try clear hb2); (try clear hk); (try clear hi); have p571 : 0 ≤ (t570 : Int) := dU; have q571 : t570 < (t565.length : Int) := dU; obtain ⟨ad571, e571, hx571_0, hx571_1, hx571_2, hx571_3, hx571_4⟩ := at_T59 (Kd.R_reads' HO568.out).2.2 t570 p571 q571; cases e571; replace p571 := eq_true p571; replace q571 := eq_true q571))
                  go_ret
                  exact ⟨eU, bU HB.out⟩
                ·rw [if_neg c54] at H
                 exact absurd H (by simp)
               ·rw [if_neg c53] at H
                exact absurd H (by simp)
              ·rw [if_neg c51] at H
               have c51b0 : decide (1 ≤ t569) = false := decide_eq_false c51
               clear c51
               obtain rfl := Option.some.inj H
               go_wp2_with (first | ((with_reducible refine gate_callee (f := 53) rfl ?_); refine goesL_ (some 108) rfl rfl Try.func53 (by kernel_rfl) rfl #[.slice A0 l0.length c0] rfl mU ?_; (with_reducible refine (spec_DrawEditByHandle.calls kj29 _ _ l0 t555 t556 t557 t558 t559 t560 _ ?side1 ?side2 A47.out).mono ?_); (case side1 => exact cU (Kd.C_below HR0.out HB.out)); (case side2 => exact HC0.out); rintro e w74 ⟨v561, v563, rfl, ho0, ho1, hb⟩; refine ⟨_, rfl, ?_⟩; have n0_ := am (Kd.R_lower ho0 (below_size (bU HB.out))); have n1_ := am (Kd.R_lower ho1 (below_size (bU HB.out))); have n2_ := am (below_step (bU HB.out) hb); clear HB; have HO562 := n0_; have HO564 := n1_; have HB := n2_; clear n0_ n1_ n2_; (try clear hb); (try clear hb2); (try clear hk); (try clear hi); (try clear ho0); (try clear ho1); obtain ⟨Ao75, co75, eo75⟩ := Kd.R_slice HO562.out; subst eo75; obtain ⟨Ao76, co76, eo76⟩ := Kd.R_slice HO564.out; subst eo76) | ((with_reducible refine gate_callee (f := 36) rfl ?_); refine goesL_ (some 122) rfl rfl Try.func36 (by kernel_rfl) rfl #[.slice Ao75 t555.length co75, .slice Ao76 t556.length co76, .int .i64 t557, .int .i64 t558, .int .i64 t559, .int .i64 t560] rfl mU ?_; (with_reducible refine (impl_EditByHandle.calls kj29 _ _ t555 _ _ t556 t557 t558 t559 t560 t565 true _ ?side1 ?side2 ?side3 ?side4 A48.out).mono ?_); (case side1 => exact cU (Kd.R_reads' HO562.out).2.2); (case side2 => exact (Kd.R_reads' HO562.out).2.1); (case side3 => exact cU (Kd.R_reads' HO564.out).2.2); (case side4 => exact (Kd.R_reads' HO564.out).2.1); rintro e w77 ⟨v567, rfl, ho0, hb⟩; refine ⟨_, rfl, ?_⟩; have n0_ := am (Kd.R_elder' (rU HO562.out) (Kd.R_base ho0) hb); have n1_ := am (Kd.R_below (rU HO564.out) hb); have n2_ := am (Kd.R_lower (Kd.R_new' ho0 (Kd.R_lt (rU HO562.out))) (below_size (bU HB.out))); have n3_ := am (below_step (bU HB.out) hb); clear HO562; clear HO564; clear HB; have HO562 := n0_; have HO564 := n1_; have HO568 := n2_; have HB := n3_; clear n0_ n1_ n2_ n3_; (try clear hb); (try clear hb2); (try clear hk); (try clear hi); (try clear ho0)) | ((with_reducible refine gate_callee (f := 48) rfl ?_); refine goesL_ (some 130) rfl rfl Try.func48 (by kernel_rfl) rfl #[.slice Ao75 t555.length co75, .slice Ao76 t556.length co76, .int .i64 t557, .int .i64 t560, .int .i64 t558] rfl mU ?_; (with_reducible refine (impl_ResolveHandle.calls kj29 _ _ t555 _ _ t556 t557 t560 t558 t569 _ ?side1 ?side2 ?side3 ?side4 A49.out).mono ?_); (case side1 => exact cU (Kd.R_reads' HO562.out).2.2); (case side2 => exact (Kd.R_reads' HO562.out).2.1); (case side3 => exact cU (Kd.R_reads' HO564.out).2.2); (case side4 => exact (Kd.R_reads' HO564.out).2.1); rintro e w78 ⟨rfl, hb⟩; refine ⟨_, rfl, ?_⟩; have n0_ := am (Kd.R_below (rU HO562.out) hb); have n1_ := am (Kd.R_below (rU HO564.out) hb); have n2_ := am (Kd.R_below (rU HO568.out) hb); have n3_ := am (below_step (bU HB.out) hb); clear HO562; clear HO564; clear HO568; clear HB; have HO562 := n0_; have HO564 := n1_; have HO568 := n2_; have HB := n3_; clear n0_ n1_ n2_ n3_; (try clear hb); (try clear hb2); (try clear hk); (try clear hi)))
               go_ret
               exact ⟨eU, bU HB.out⟩
             ·replace c50 := Bool.eq_false_iff.mpr c50
              subst c50
              have H1 : ((impl_EqualDocuments.f kj29 t565 t555).bind fun t574 => (some t574)) = some r := by rw [if_neg (show ¬ (false = true) by decide)] at H; exact H
              clear H
              have H := H1
              clear H1
              replace H := Option.bind_eq_some_iff.mp H
              obtain ⟨t574, A790, H⟩ := H
              replace H : (some t574) = some r := H
              have A79 := am A790
              clear A790
              obtain rfl := Option.some.inj H
              go_wp2_with (first | ((with_reducible refine gate_callee (f := 53) rfl ?_); refine goesL_ (some 108) rfl rfl Try.func53 (by kernel_rfl) rfl #[.slice A0 l0.length c0] rfl mU ?_; (with_reducible refine (spec_DrawEditByHandle.calls kj29 _ _ l0 t555 t556 t557 t558 t559 t560 _ ?side1 ?side2 A47.out).mono ?_); (case side1 => exact cU (Kd.C_below HR0.out HB.out)); (case side2 => exact HC0.out); rintro e w80 ⟨v561, v563, rfl, ho0, ho1, hb⟩; refine ⟨_, rfl, ?_⟩; have n0_ := am (Kd.R_lower ho0 (below_size (bU HB.out))); have n1_ := am (Kd.R_lower ho1 (below_size (bU HB.out))); have n2_ := am (below_step (bU HB.out) hb); clear HB; have HO562 := n0_; have HO564 := n1_; have HB := n2_; clear n0_ n1_ n2_; (try clear hb); (try clear hb2); (try clear hk); (try clear hi); (try clear ho0); (try clear ho1); obtain ⟨Ao81, co81, eo81⟩ := Kd.R_slice HO562.out; subst eo81; obtain ⟨Ao82, co82, eo82⟩ := Kd.R_slice HO564.out; subst eo82) | ((with_reducible refine gate_callee (f := 36) rfl ?_); refine goesL_ (some 122) rfl rfl Try.func36 (by kernel_rfl) rfl #[.slice Ao81 t555.length co81, .slice Ao82 t556.length co82, .int .i64 t557, .int .i64 t558, .int .i64 t559, .int .i64 t560] rfl mU ?_; (with_reducible refine (impl_EditByHandle.calls kj29 _ _ t555 _ _ t556 t557 t558 t559 t560 t565 false _ ?side1 ?side2 ?side3 ?side4 A48.out).mono ?_); (case side1 => exact cU (Kd.R_reads' HO562.out).2.2); (case side2 => exact (Kd.R_reads' HO562.out).2.1); (case side3 => exact cU (Kd.R_reads' HO564.out).2.2); (case side4 => exact (Kd.R_reads' HO564.out).2.1); rintro e w83 ⟨v567, rfl, ho0, hb⟩; refine ⟨_, rfl, ?_⟩; have n0_ := am (Kd.R_elder' (rU HO562.out) (Kd.R_base ho0) hb); have n1_ := am (Kd.R_below (rU HO564.out) hb); have n2_ := am (Kd.R_lower (Kd.R_new' ho0 (Kd.R_lt (rU HO562.out))) (below_size (bU HB.out))); have n3_ := am (below_step (bU HB.out) hb); clear HO562; clear HO564; clear HB; have HO562 := n0_; have HO564 := n1_; have HO568 := n2_; have HB := n3_; clear n0_ n1_ n2_ n3_; (try clear hb); (try clear hb2); (try clear hk); (try clear hi); (try clear ho0)) | ((with_reducible refine gate_callee (f := 48) rfl ?_); refine goesL_ (some 130) rfl rfl Try.func48 (by kernel_rfl) rfl #[.slice Ao81 t555.length co81, .slice Ao82 t556.length co82, .int .i64 t557, .int .i64 t560, .int .i64 t558] rfl mU ?_; (with_reducible refine (impl_ResolveHandle.calls kj29 _ _ t555 _ _ t556 t557 t560 t558 t569 _ ?side1 ?side2 ?side3 ?side4 A49.out).mono ?_); (case side1 => exact cU (Kd.R_reads' HO562.out).2.2); (case side2 => exact (Kd.R_reads' HO562.out).2.1); (case side3 => exact cU (Kd.R_reads' HO564.out).2.2); (case side4 => exact (Kd.R_reads' HO564.out).2.1); rintro e w84 ⟨rfl, hb⟩; refine ⟨_, rfl, ?_⟩; have n0_ := am (Kd.R_below (rU HO562.out) hb); have n1_ := am (Kd.R_below (rU HO564.out) hb); have n2_ := am (Kd.R_below (rU HO568.out) hb); have n3_ := am (below_step (bU HB.out) hb); clear HO562; clear HO564; clear HO568; clear HB; have HO562 := n0_; have HO564 := n1_; have HO568 := n2_; have HB := n3_; clear n0_ n1_ n2_ n3_; (try clear hb); (try clear hb2); (try clear hk); (try clear hi); obtain ⟨Ao85, co85, eo85⟩ := Kd.R_slice HO568.out; subst eo85) | ((with_reducible refine gate_callee (f := 46) rfl ?_); refine goesL_ (some 135) rfl rfl Try.func46 (by kernel_rfl) rfl #[.slice Ao85 t565.length co85, .slice Ao81 t555.length co81] rfl mU ?_; (with_reducible refine (impl_EqualDocuments.calls kj29 _ _ t565 _ _ t555 t574 _ ?side1 ?side2 ?side3 ?side4 A79.out).mono ?_); (case side1 => exact cU (Kd.R_reads' HO568.out).2.2); (case side2 => exact (Kd.R_reads' HO568.out).2.1); (case side3 => exact cU (Kd.R_reads' HO562.out).2.2); (case side4 => exact (Kd.R_reads' HO562.out).2.1); rintro e w' ⟨rfl, ⟨nd, rfl⟩⟩; refine ⟨_, rfl, ?_⟩))
              go_ret
              exact ⟨eU, bU HB.out⟩
def laws_FnHandles.Pure : Prop := ∀ (l0 : List Int), l0.length ≤ maxLen → l0.length * 1 ≤ 140737488351232 → (∀ x ∈ l0, (Lit.int .u8 x).wf = true) → ∃ k, laws_FnHandles.f k l0 = some true
theorem laws_FnHandles.walk (P : laws_FnHandles.Pure) (a0 : Option Addr) (len0 cap0 : Nat) (z0 : List Int) (w : World) (w0 : (a0 = none ∧ len0 = 0 ∧ cap0 = 0 ∧ z0 = []) ∨ ∃ x, a0 = some x ∧ len0 ≤ cap0 ∧ cap0 ≤ maxLen ∧ z0.length = cap0 ∧ (∀ i, i < z0.length → w.cell? (x.add i) = some (.int .u8 (z0.getD i 0))) ∧ ∀ n ∈ z0, (Lit.int .u8 n).wf = true) (y0 : len0 * 1 ≤ 140737488351232) :
  Calls Try.prog 9 #[.slice a0 len0 cap0] w fun e w' => e = .returned (.bool true) ∧ Below w.heap.size w w' := by
 obtain ⟨l0, rfl, hr0, hm0, hw0, hc0⟩ := ReadsInt.ofRowC w0
 obtain ⟨k, h⟩ := P l0 hm0 y0 hw0
 refine (laws_FnHandles.calls k _ _ l0 true w (Kd.C_of_reads (d := (0 : Int)) (h1 := fun _ => rfl) hr0) hc0 h).mono ?_
 rintro e w' ⟨rfl, hd⟩
 exact ⟨rfl, hd⟩
end Go.Proofs.Ytiiibfpijmmbfaa.QFnHandles
