import Derived.Test.YtiiibfpijmmbfaaUp
import Derived.Test.YtiiibfpijmmbfaaQFnSightx0
import Derived.Test.YtiiibfpijmmbfaaQFnSightx1
import Derived.Test.YtiiibfpijmmbfaaQFnSightx2
import Derived.Test.YtiiibfpijmmbfaaQFnSightx3
import Derived.Test.YtiiibfpijmmbfaaQFnSightx4
import Derived.Test.YtiiibfpijmmbfaaQFnSightx5
import Derived.Test.YtiiibfpijmmbfaaQFnSightx6
import Derived.Test.YtiiibfpijmmbfaaQFnSightx7
import Derived.Test.YtiiibfpijmmbfaaQFnSightx8
import Derived.Test.YtiiibfpijmmbfaaQFnSightx9
import Derived.Test.YtiiibfpijmmbfaaQFnSightx10
import Derived.Test.YtiiibfpijmmbfaaQFnSightx11
namespace Go.Proofs.Ytiiibfpijmmbfaa.QFnSight
open Go.RowKit Go.Proofs.YtiiibfpijmmbfaaW.PrintWords Go.Proofs.YtiiibfpijmmbfaaW.PrintLast Go.Proofs.YtiiibfpijmmbfaaW.PrintMore
attribute [local go_sem] max2_int min2_int max_two min_two max_three min_three max_four min_four
set_option linter.unusedVariables false
set_option linter.unusedSimpArgs false
attribute [local go_sem high] eqA59
mutual
def laws_FnSight.l0 : Nat → List Int → List (S59) → List Int → Int → List (S59) → Int → Option (Bool)
 | 0, _, _, _, _, _, _ => none
 | k + 1, x0, x3, x4, x5, x6, x7 => if x7 < (x6.length : Int) then (if 0 ≤ x7 then ((impl_NodeOf.f k x3 ((rd_T59 x6 x7).f0)).bind fun t467 => (if t467 < 0 then (laws_FnSight.j1 k x0 x3 x4 x5 x6 x7 true) else (if x7 > 0 then (if ((rd_T59 x6 x7).f0) > 0 then ((impl_NodeOf.f k x6 ((rd_T59 x6 x7).f1)).bind fun t470 => (if t470 < 0 then (laws_FnSight.j1 k x0 x3 x4 x5 x6 x7 true) else ((laws_contains.f k x4 ((rd_T59 x6 x7).f2)).bind fun t472 => (if t472 = true then (if ((rd_T59 x6 x7).f4) = x5 then ((impl_SeesNode.f k x3 x4 x5 ((rd_T59 x6 x7).f0)).bind fun t475 => (laws_FnSight.j1 k x0 x3 x4 x5 x6 x7 (!t475))) else (laws_FnSight.j1 k x0 x3 x4 x5 x6 x7 true)) else ((impl_SeesNode.f k x3 x4 x5 ((rd_T59 x6 x7).f0)).bind fun t477 => (laws_FnSight.j1 k x0 x3 x4 x5 x6 x7 (!t477))))))) else ((laws_contains.f k x4 ((rd_T59 x6 x7).f2)).bind fun t479 => (if t479 = true then (if ((rd_T59 x6 x7).f4) = x5 then ((impl_SeesNode.f k x3 x4 x5 ((rd_T59 x6 x7).f0)).bind fun t482 => (laws_FnSight.j1 k x0 x3 x4 x5 x6 x7 (!t482))) else (laws_FnSight.j1 k x0 x3 x4 x5 x6 x7 true)) else ((impl_SeesNode.f k x3 x4 x5 ((rd_T59 x6 x7).f0)).bind fun t484 => (laws_FnSight.j1 k x0 x3 x4 x5 x6 x7 (!t484)))))) else ((laws_contains.f k x4 ((rd_T59 x6 x7).f2)).bind fun t486 => (if t486 = true then (if ((rd_T59 x6 x7).f4) = x5 then ((impl_SeesNode.f k x3 x4 x5 ((rd_T59 x6 x7).f0)).bind fun t489 => (laws_FnSight.j1 k x0 x3 x4 x5 x6 x7 (!t489))) else (laws_FnSight.j1 k x0 x3 x4 x5 x6 x7 true)) else ((impl_SeesNode.f k x3 x4 x5 ((rd_T59 x6 x7).f0)).bind fun t491 => (laws_FnSight.j1 k x0 x3 x4 x5 x6 x7 (!t491)))))))) else (none)) else ((impl_HiddenCount.f k x3 x4 x5).bind fun t492 => (if (wrap64 (t492 + (x6.length : Int))) = (x3.length : Int) then ((spec_DrawGuardEdit.f k x0).bind fun bt493 => ((impl_GuardEdit.f k bt493.1 bt493.2.1 bt493.2.2.1 bt493.2.2.2.1 bt493.2.2.2.2.1 bt493.2.2.2.2.2.1 bt493.2.2.2.2.2.2.1 bt493.2.2.2.2.2.2.2).bind fun bt506 => (if bt506.2 = true then ((impl_MayEdit.f k bt493.1 bt493.2.1 bt493.2.2.1 bt493.2.2.2.1 bt493.2.2.2.2.1 bt493.2.2.2.2.2.1 bt493.2.2.2.2.2.2.1 bt493.2.2.2.2.2.2.2).bind fun t510 => (if t510 = true then (laws_FnSight.j2 k bt493.1 bt493.2.1 bt506.1 bt506.2 false bt493.2.2.1 bt493.2.2.2.1 bt493.2.2.2.2.1 bt493.2.2.2.2.2.1 bt493.2.2.2.2.2.2.1 bt493.2.2.2.2.2.2.2) else (laws_FnSight.j2 k bt493.1 bt493.2.1 bt506.1 bt506.2 true bt493.2.2.1 bt493.2.2.2.1 bt493.2.2.2.2.1 bt493.2.2.2.2.2.1 bt493.2.2.2.2.2.2.1 bt493.2.2.2.2.2.2.2))) else ((impl_EqualDocuments.f k bt506.1 bt493.1).bind fun t511 => (laws_FnSight.j2 k bt493.1 bt493.2.1 bt506.1 bt506.2 (!t511) bt493.2.2.1 bt493.2.2.2.1 bt493.2.2.2.2.1 bt493.2.2.2.2.2.1 bt493.2.2.2.2.2.2.1 bt493.2.2.2.2.2.2.2))))) else (some false)))
def laws_FnSight.j1 : Nat → List Int → List (S59) → List Int → Int → List (S59) → Int → Bool → Option (Bool)
 | 0, _, _, _, _, _, _, _ => none
 | k + 1, x0, x3, x4, x5, x6, x7, x92 => if x92 = true then (some false) else (laws_FnSight.l0 k x0 x3 x4 x5 x6 (wrap64 (x7 + 1)))
def laws_FnSight.j2 : Nat → List (S59) → List Int → List (S59) → Bool → Bool → Int → Int → Int → Int → Int → Int → Option (Bool)
 | 0, _, _, _, _, _, _, _, _, _, _, _ => none
 | k + 1, x8, x9, x11, x12, x133, x506000, x506001, x506002, x506003, x506004, x506005 => if x133 = true then (some false) else (laws_FnSight.l1 k x8 x9 x11 x12 0 x506000 x506001 x506002 x506003 x506004 x506005)
def laws_FnSight.l1 : Nat → List (S59) → List Int → List (S59) → Bool → Int → Int → Int → Int → Int → Int → Int → Option (Bool)
 | 0, _, _, _, _, _, _, _, _, _, _, _ => none
 | k + 1, x8, x9, x11, x12, x13, x506000, x506001, x506002, x506003, x506004, x506005 => if x13 < (x8.length : Int) then (laws_FnSight.j4 k x8 x9 x11 x12 x13 x12 x506000 x506001 x506002 x506003 x506004 x506005) else (laws_FnSight.j4 k x8 x9 x11 x12 x13 false x506000 x506001 x506002 x506003 x506004 x506005)
def laws_FnSight.j4 : Nat → List (S59) → List Int → List (S59) → Bool → Int → Bool → Int → Int → Int → Int → Int → Int → Option (Bool)
 | 0, _, _, _, _, _, _, _, _, _, _, _, _ => none
 | k + 1, x8, x9, x11, x12, x13, x140, x506000, x506001, x506002, x506003, x506004, x506005 => if x140 = true then (if 0 ≤ x13 then (if x13 < (x8.length : Int) then ((impl_SeesNode.f k x8 x9 x506005 ((rd_T59 x8 x13).f0)).bind fun t513 => (if t513 = true then (laws_FnSight.l1 k x8 x9 x11 x12 (wrap64 (x13 + 1)) x506000 x506001 x506002 x506003 x506004 x506005) else ((impl_NodeOf.f k x11 ((rd_T59 x8 x13).f0)).bind fun t515 => (if t515 < 0 then (laws_FnSight.j5 k x8 x9 x11 x12 x13 true x506000 x506001 x506002 x506003 x506004 x506005) else (if 0 ≤ t515 then (if t515 < (x11.length : Int) then (laws_FnSight.j5 k x8 x9 x11 x12 x13 (!(((rd_T59 x11 t515).f0) == ((rd_T59 x8 x13).f0)) || (!(((rd_T59 x11 t515).f1) == ((rd_T59 x8 x13).f1)) || (!(((rd_T59 x11 t515).f2) == ((rd_T59 x8 x13).f2)) || (!(((rd_T59 x11 t515).f3) == ((rd_T59 x8 x13).f3)) || (!(((rd_T59 x11 t515).f4) == ((rd_T59 x8 x13).f4))))))) x506000 x506001 x506002 x506003 x506004 x506005) else (none)) else (none)))))) else (none)) else (none)) else (some true)
def laws_FnSight.j5 : Nat → List (S59) → List Int → List (S59) → Bool → Int → Bool → Int → Int → Int → Int → Int → Int → Option (Bool)
 | 0, _, _, _, _, _, _, _, _, _, _, _, _ => none
 | k + 1, x8, x9, x11, x12, x13, x173, x506000, x506001, x506002, x506003, x506004, x506005 => if x173 = true then (some false) else (laws_FnSight.l1 k x8 x9 x11 x12 (wrap64 (x13 + 1)) x506000 x506001 x506002 x506003 x506004 x506005)
end
def laws_FnSight.f (k : Nat) (l0 : List Int) : Option (Bool) := (laws_big.f l0).bind fun t455 => (if t455 = true then (some true) else ((spec_DrawSeenBy.f k l0).bind fun bt456 => ((impl_SeenBy.f k bt456.1 bt456.2.1 bt456.2.2).bind fun t463 => (laws_FnSight.l0 k l0 bt456.1 bt456.2.1 bt456.2.2 t463 0))))
theorem laws_FnSight.mono_l : ∀ k, (∀ y0 y1 y2 y3 y4 y5, LeO (laws_FnSight.l0 k y0 y1 y2 y3 y4 y5) (laws_FnSight.l0 (k + 1) y0 y1 y2 y3 y4 y5)) ∧ (∀ y0 y1 y2 y3 y4 y5 y6, LeO (laws_FnSight.j1 k y0 y1 y2 y3 y4 y5 y6) (laws_FnSight.j1 (k + 1) y0 y1 y2 y3 y4 y5 y6)) ∧ (∀ y0 y1 y2 y3 y4 y5 y6 y7 y8 y9 y10, LeO (laws_FnSight.j2 k y0 y1 y2 y3 y4 y5 y6 y7 y8 y9 y10) (laws_FnSight.j2 (k + 1) y0 y1 y2 y3 y4 y5 y6 y7 y8 y9 y10)) ∧ (∀ y0 y1 y2 y3 y4 y5 y6 y7 y8 y9 y10, LeO (laws_FnSight.l1 k y0 y1 y2 y3 y4 y5 y6 y7 y8 y9 y10) (laws_FnSight.l1 (k + 1) y0 y1 y2 y3 y4 y5 y6 y7 y8 y9 y10)) ∧ (∀ y0 y1 y2 y3 y4 y5 y6 y7 y8 y9 y10 y11, LeO (laws_FnSight.j4 k y0 y1 y2 y3 y4 y5 y6 y7 y8 y9 y10 y11) (laws_FnSight.j4 (k + 1) y0 y1 y2 y3 y4 y5 y6 y7 y8 y9 y10 y11)) ∧ (∀ y0 y1 y2 y3 y4 y5 y6 y7 y8 y9 y10 y11, LeO (laws_FnSight.j5 k y0 y1 y2 y3 y4 y5 y6 y7 y8 y9 y10 y11) (laws_FnSight.j5 (k + 1) y0 y1 y2 y3 y4 y5 y6 y7 y8 y9 y10 y11))
 | 0 => ⟨fun _ _ _ _ _ _ r h => by simp [laws_FnSight.l0] at h, fun _ _ _ _ _ _ _ r h => by simp [laws_FnSight.j1] at h, fun _ _ _ _ _ _ _ _ _ _ _ r h => by simp [laws_FnSight.j2] at h, fun _ _ _ _ _ _ _ _ _ _ _ r h => by simp [laws_FnSight.l1] at h, fun _ _ _ _ _ _ _ _ _ _ _ _ r h => by simp [laws_FnSight.j4] at h, fun _ _ _ _ _ _ _ _ _ _ _ _ r h => by simp [laws_FnSight.j5] at h⟩
 | k + 1 => by
  obtain ⟨ih0, ih1, ih2, ih3, ih4, ih5⟩ := laws_FnSight.mono_l k
  refine ⟨?_, ?_, ?_, ?_, ?_, ?_⟩
  ·intro y0 y1 y2 y3 y4 y5
   unfold laws_FnSight.l0
   repeat' first
   | (with_reducible exact ih0 _ _ _ _ _ _)
   | (with_reducible exact ih1 _ _ _ _ _ _ _)
   | (with_reducible exact ih2 _ _ _ _ _ _ _ _ _ _ _)
   | (with_reducible exact ih3 _ _ _ _ _ _ _ _ _ _ _)
   | (with_reducible exact ih4 _ _ _ _ _ _ _ _ _ _ _ _)
   | (with_reducible exact ih5 _ _ _ _ _ _ _ _ _ _ _ _)
   | (with_reducible exact impl_EqualDocuments.mono _ _ _)
   | (with_reducible exact impl_GuardEdit.mono _ _ _ _ _ _ _ _ _)
   | (with_reducible exact impl_HiddenCount.mono _ _ _ _)
   | (with_reducible exact impl_MayEdit.mono _ _ _ _ _ _ _ _ _)
   | (with_reducible exact impl_NodeOf.mono _ _ _)
   | (with_reducible exact impl_SeenBy.mono _ _ _ _)
   | (with_reducible exact impl_SeesNode.mono _ _ _ _ _)
   | (with_reducible exact laws_contains.mono _ _ _)
   | (with_reducible exact spec_DrawGuardEdit.mono _ _)
   | (with_reducible exact spec_DrawSeenBy.mono _ _)
   | (with_reducible exact LeO.refl _)
   | (with_reducible exact LeO.none _)
   | (with_reducible refine LeO.ite ?_ ?_)
   | (with_reducible refine LeO.bind ?_ (fun _ => ?_))
   | exact ih0 _ _ _ _ _ _
   | exact ih1 _ _ _ _ _ _ _
   | exact ih2 _ _ _ _ _ _ _ _ _ _ _
   | exact ih3 _ _ _ _ _ _ _ _ _ _ _
   | exact ih4 _ _ _ _ _ _ _ _ _ _ _ _
   | exact ih5 _ _ _ _ _ _ _ _ _ _ _ _
   | exact impl_EqualDocuments.mono _ _ _
   | exact impl_GuardEdit.mono _ _ _ _ _ _ _ _ _
   | exact impl_HiddenCount.mono _ _ _ _
   | exact impl_MayEdit.mono _ _ _ _ _ _ _ _ _
   | exact impl_NodeOf.mono _ _ _
   | exact impl_SeenBy.mono _ _ _ _
   | exact impl_SeesNode.mono _ _ _ _ _
   | exact laws_contains.mono _ _ _
   | exact spec_DrawGuardEdit.mono _ _
   | exact spec_DrawSeenBy.mono _ _
   | exact LeO.none _
   | refine LeO.ite ?_ ?_
   | refine LeO.bind ?_ (fun _ => ?_)
  ·intro y0 y1 y2 y3 y4 y5 y6
   unfold laws_FnSight.j1
   repeat' first
   | (with_reducible exact ih0 _ _ _ _ _ _)
   | (with_reducible exact ih1 _ _ _ _ _ _ _)
   | (with_reducible exact ih2 _ _ _ _ _ _ _ _ _ _ _)
   | (with_reducible exact ih3 _ _ _ _ _ _ _ _ _ _ _)
   | (with_reducible exact ih4 _ _ _ _ _ _ _ _ _ _ _ _)
   | (with_reducible exact ih5 _ _ _ _ _ _ _ _ _ _ _ _)
   | (with_reducible exact impl_EqualDocuments.mono _ _ _)
   | (with_reducible exact impl_GuardEdit.mono _ _ _ _ _ _ _ _ _)
   | (with_reducible exact impl_HiddenCount.mono _ _ _ _)
   | (with_reducible exact impl_MayEdit.mono _ _ _ _ _ _ _ _ _)
   | (with_reducible exact impl_NodeOf.mono _ _ _)
   | (with_reducible exact impl_SeenBy.mono _ _ _ _)
   | (with_reducible exact impl_SeesNode.mono _ _ _ _ _)
   | (with_reducible exact laws_contains.mono _ _ _)
   | (with_reducible exact spec_DrawGuardEdit.mono _ _)
   | (with_reducible exact spec_DrawSeenBy.mono _ _)
   | (with_reducible exact LeO.refl _)
   | (with_reducible exact LeO.none _)
   | (with_reducible refine LeO.ite ?_ ?_)
   | (with_reducible refine LeO.bind ?_ (fun _ => ?_))
   | exact ih0 _ _ _ _ _ _
   | exact ih1 _ _ _ _ _ _ _
   | exact ih2 _ _ _ _ _ _ _ _ _ _ _
   | exact ih3 _ _ _ _ _ _ _ _ _ _ _
   | exact ih4 _ _ _ _ _ _ _ _ _ _ _ _
   | exact ih5 _ _ _ _ _ _ _ _ _ _ _ _
   | exact impl_EqualDocuments.mono _ _ _
   | exact impl_GuardEdit.mono _ _ _ _ _ _ _ _ _
   | exact impl_HiddenCount.mono _ _ _ _
   | exact impl_MayEdit.mono _ _ _ _ _ _ _ _ _
   | exact impl_NodeOf.mono _ _ _
   | exact impl_SeenBy.mono _ _ _ _
   | exact impl_SeesNode.mono _ _ _ _ _
   | exact laws_contains.mono _ _ _
   | exact spec_DrawGuardEdit.mono _ _
   | exact spec_DrawSeenBy.mono _ _
   | exact LeO.none _
   | refine LeO.ite ?_ ?_
   | refine LeO.bind ?_ (fun _ => ?_)
  ·intro y0 y1 y2 y3 y4 y5 y6 y7 y8 y9 y10
   unfold laws_FnSight.j2
   repeat' first
   | (with_reducible exact ih0 _ _ _ _ _ _)
   | (with_reducible exact ih1 _ _ _ _ _ _ _)
   | (with_reducible exact ih2 _ _ _ _ _ _ _ _ _ _ _)
   | (with_reducible exact ih3 _ _ _ _ _ _ _ _ _ _ _)
   | (with_reducible exact ih4 _ _ _ _ _ _ _ _ _ _ _ _)
   | (with_reducible exact ih5 _ _ _ _ _ _ _ _ _ _ _ _)
   | (with_reducible exact impl_EqualDocuments.mono _ _ _)
   | (with_reducible exact impl_GuardEdit.mono _ _ _ _ _ _ _ _ _)
   | (with_reducible exact impl_HiddenCount.mono _ _ _ _)
   | (with_reducible exact impl_MayEdit.mono _ _ _ _ _ _ _ _ _)
   | (with_reducible exact impl_NodeOf.mono _ _ _)
   | (with_reducible exact impl_SeenBy.mono _ _ _ _)
   | (with_reducible exact impl_SeesNode.mono _ _ _ _ _)
   | (with_reducible exact laws_contains.mono _ _ _)
   | (with_reducible exact spec_DrawGuardEdit.mono _ _)
   | (with_reducible exact spec_DrawSeenBy.mono _ _)
   | (with_reducible exact LeO.refl _)
   | (with_reducible exact LeO.none _)
   | (with_reducible refine LeO.ite ?_ ?_)
   | (with_reducible refine LeO.bind ?_ (fun _ => ?_))
   | exact ih0 _ _ _ _ _ _
   | exact ih1 _ _ _ _ _ _ _
   | exact ih2 _ _ _ _ _ _ _ _ _ _ _
   | exact ih3 _ _ _ _ _ _ _ _ _ _ _
   | exact ih4 _ _ _ _ _ _ _ _ _ _ _ _
   | exact ih5 _ _ _ _ _ _ _ _ _ _ _ _
   | exact impl_EqualDocuments.mono _ _ _
   | exact impl_GuardEdit.mono _ _ _ _ _ _ _ _ _
   | exact impl_HiddenCount.mono _ _ _ _
   | exact impl_MayEdit.mono _ _ _ _ _ _ _ _ _
   | exact impl_NodeOf.mono _ _ _
   | exact impl_SeenBy.mono _ _ _ _
   | exact impl_SeesNode.mono _ _ _ _ _
   | exact laws_contains.mono _ _ _
   | exact spec_DrawGuardEdit.mono _ _
   | exact spec_DrawSeenBy.mono _ _
   | exact LeO.none _
   | refine LeO.ite ?_ ?_
   | refine LeO.bind ?_ (fun _ => ?_)
  ·intro y0 y1 y2 y3 y4 y5 y6 y7 y8 y9 y10
   unfold laws_FnSight.l1
   repeat' first
   | (with_reducible exact ih0 _ _ _ _ _ _)
   | (with_reducible exact ih1 _ _ _ _ _ _ _)
   | (with_reducible exact ih2 _ _ _ _ _ _ _ _ _ _ _)
   | (with_reducible exact ih3 _ _ _ _ _ _ _ _ _ _ _)
   | (with_reducible exact ih4 _ _ _ _ _ _ _ _ _ _ _ _)
   | (with_reducible exact ih5 _ _ _ _ _ _ _ _ _ _ _ _)
   | (with_reducible exact impl_EqualDocuments.mono _ _ _)
   | (with_reducible exact impl_GuardEdit.mono _ _ _ _ _ _ _ _ _)
   | (with_reducible exact impl_HiddenCount.mono _ _ _ _)
   | (with_reducible exact impl_MayEdit.mono _ _ _ _ _ _ _ _ _)
   | (with_reducible exact impl_NodeOf.mono _ _ _)
   | (with_reducible exact impl_SeenBy.mono _ _ _ _)
   | (with_reducible exact impl_SeesNode.mono _ _ _ _ _)
   | (with_reducible exact laws_contains.mono _ _ _)
   | (with_reducible exact spec_DrawGuardEdit.mono _ _)
   | (with_reducible exact spec_DrawSeenBy.mono _ _)
   | (with_reducible exact LeO.refl _)
   | (with_reducible exact LeO.none _)
   | (with_reducible refine LeO.ite ?_ ?_)
   | (with_reducible refine LeO.bind ?_ (fun _ => ?_))
   | exact ih0 _ _ _ _ _ _
   | exact ih1 _ _ _ _ _ _ _
   | exact ih2 _ _ _ _ _ _ _ _ _ _ _
   | exact ih3 _ _ _ _ _ _ _ _ _ _ _
   | exact ih4 _ _ _ _ _ _ _ _ _ _ _ _
   | exact ih5 _ _ _ _ _ _ _ _ _ _ _ _
   | exact impl_EqualDocuments.mono _ _ _
   | exact impl_GuardEdit.mono _ _ _ _ _ _ _ _ _
   | exact impl_HiddenCount.mono _ _ _ _
   | exact impl_MayEdit.mono _ _ _ _ _ _ _ _ _
   | exact impl_NodeOf.mono _ _ _
   | exact impl_SeenBy.mono _ _ _ _
   | exact impl_SeesNode.mono _ _ _ _ _
   | exact laws_contains.mono _ _ _
   | exact spec_DrawGuardEdit.mono _ _
   | exact spec_DrawSeenBy.mono _ _
   | exact LeO.none _
   | refine LeO.ite ?_ ?_
   | refine LeO.bind ?_ (fun _ => ?_)
  ·intro y0 y1 y2 y3 y4 y5 y6 y7 y8 y9 y10 y11
   unfold laws_FnSight.j4
   repeat' first
   | (with_reducible exact ih0 _ _ _ _ _ _)
   | (with_reducible exact ih1 _ _ _ _ _ _ _)
   | (with_reducible exact ih2 _ _ _ _ _ _ _ _ _ _ _)
   | (with_reducible exact ih3 _ _ _ _ _ _ _ _ _ _ _)
   | (with_reducible exact ih4 _ _ _ _ _ _ _ _ _ _ _ _)
   | (with_reducible exact ih5 _ _ _ _ _ _ _ _ _ _ _ _)
   | (with_reducible exact impl_EqualDocuments.mono _ _ _)
   | (with_reducible exact impl_GuardEdit.mono _ _ _ _ _ _ _ _ _)
   | (with_reducible exact impl_HiddenCount.mono _ _ _ _)
   | (with_reducible exact impl_MayEdit.mono _ _ _ _ _ _ _ _ _)
   | (with_reducible exact impl_NodeOf.mono _ _ _)
   | (with_reducible exact impl_SeenBy.mono _ _ _ _)
   | (with_reducible exact impl_SeesNode.mono _ _ _ _ _)
   | (with_reducible exact laws_contains.mono _ _ _)
   | (with_reducible exact spec_DrawGuardEdit.mono _ _)
   | (with_reducible exact spec_DrawSeenBy.mono _ _)
   | (with_reducible exact LeO.refl _)
   | (with_reducible exact LeO.none _)
   | (with_reducible refine LeO.ite ?_ ?_)
   | (with_reducible refine LeO.bind ?_ (fun _ => ?_))
   | exact ih0 _ _ _ _ _ _
   | exact ih1 _ _ _ _ _ _ _
   | exact ih2 _ _ _ _ _ _ _ _ _ _ _
   | exact ih3 _ _ _ _ _ _ _ _ _ _ _
   | exact ih4 _ _ _ _ _ _ _ _ _ _ _ _
   | exact ih5 _ _ _ _ _ _ _ _ _ _ _ _
   | exact impl_EqualDocuments.mono _ _ _
   | exact impl_GuardEdit.mono _ _ _ _ _ _ _ _ _
   | exact impl_HiddenCount.mono _ _ _ _
   | exact impl_MayEdit.mono _ _ _ _ _ _ _ _ _
   | exact impl_NodeOf.mono _ _ _
   | exact impl_SeenBy.mono _ _ _ _
   | exact impl_SeesNode.mono _ _ _ _ _
   | exact laws_contains.mono _ _ _
   | exact spec_DrawGuardEdit.mono _ _
   | exact spec_DrawSeenBy.mono _ _
   | exact LeO.none _
   | refine LeO.ite ?_ ?_
   | refine LeO.bind ?_ (fun _ => ?_)
  ·intro y0 y1 y2 y3 y4 y5 y6 y7 y8 y9 y10 y11
   unfold laws_FnSight.j5
   repeat' first
   | (with_reducible exact ih0 _ _ _ _ _ _)
   | (with_reducible exact ih1 _ _ _ _ _ _ _)
   | (with_reducible exact ih2 _ _ _ _ _ _ _ _ _ _ _)
   | (with_reducible exact ih3 _ _ _ _ _ _ _ _ _ _ _)
   | (with_reducible exact ih4 _ _ _ _ _ _ _ _ _ _ _ _)
   | (with_reducible exact ih5 _ _ _ _ _ _ _ _ _ _ _ _)
   | (with_reducible exact impl_EqualDocuments.mono _ _ _)
   | (with_reducible exact impl_GuardEdit.mono _ _ _ _ _ _ _ _ _)
   | (with_reducible exact impl_HiddenCount.mono _ _ _ _)
   | (with_reducible exact impl_MayEdit.mono _ _ _ _ _ _ _ _ _)
   | (with_reducible exact impl_NodeOf.mono _ _ _)
   | (with_reducible exact impl_SeenBy.mono _ _ _ _)
   | (with_reducible exact impl_SeesNode.mono _ _ _ _ _)
   | (with_reducible exact laws_contains.mono _ _ _)
   | (with_reducible exact spec_DrawGuardEdit.mono _ _)
   | (with_reducible exact spec_DrawSeenBy.mono _ _)
   | (with_reducible exact LeO.refl _)
   | (with_reducible exact LeO.none _)
   | (with_reducible refine LeO.ite ?_ ?_)
   | (with_reducible refine LeO.bind ?_ (fun _ => ?_))
   | exact ih0 _ _ _ _ _ _
   | exact ih1 _ _ _ _ _ _ _
   | exact ih2 _ _ _ _ _ _ _ _ _ _ _
   | exact ih3 _ _ _ _ _ _ _ _ _ _ _
   | exact ih4 _ _ _ _ _ _ _ _ _ _ _ _
   | exact ih5 _ _ _ _ _ _ _ _ _ _ _ _
   | exact impl_EqualDocuments.mono _ _ _
   | exact impl_GuardEdit.mono _ _ _ _ _ _ _ _ _
   | exact impl_HiddenCount.mono _ _ _ _
   | exact impl_MayEdit.mono _ _ _ _ _ _ _ _ _
   | exact impl_NodeOf.mono _ _ _
   | exact impl_SeenBy.mono _ _ _ _
   | exact impl_SeesNode.mono _ _ _ _ _
   | exact laws_contains.mono _ _ _
   | exact spec_DrawGuardEdit.mono _ _
   | exact spec_DrawSeenBy.mono _ _
   | exact LeO.none _
   | refine LeO.ite ?_ ?_
   | refine LeO.bind ?_ (fun _ => ?_)
theorem laws_FnSight.mono : ∀ a0 k, LeO (laws_FnSight.f k a0) (laws_FnSight.f (k + 1) a0) := by
 intro a0 k
 obtain ⟨ih0, ih1, ih2, ih3, ih4, ih5⟩ := laws_FnSight.mono_l k
 unfold laws_FnSight.f
 repeat' first
   | (with_reducible exact ih0 _ _ _ _ _ _)
   | (with_reducible exact ih1 _ _ _ _ _ _ _)
   | (with_reducible exact ih2 _ _ _ _ _ _ _ _ _ _ _)
   | (with_reducible exact ih3 _ _ _ _ _ _ _ _ _ _ _)
   | (with_reducible exact ih4 _ _ _ _ _ _ _ _ _ _ _ _)
   | (with_reducible exact ih5 _ _ _ _ _ _ _ _ _ _ _ _)
   | (with_reducible exact impl_EqualDocuments.mono _ _ _)
   | (with_reducible exact impl_GuardEdit.mono _ _ _ _ _ _ _ _ _)
   | (with_reducible exact impl_HiddenCount.mono _ _ _ _)
   | (with_reducible exact impl_MayEdit.mono _ _ _ _ _ _ _ _ _)
   | (with_reducible exact impl_NodeOf.mono _ _ _)
   | (with_reducible exact impl_SeenBy.mono _ _ _ _)
   | (with_reducible exact impl_SeesNode.mono _ _ _ _ _)
   | (with_reducible exact laws_contains.mono _ _ _)
   | (with_reducible exact spec_DrawGuardEdit.mono _ _)
   | (with_reducible exact spec_DrawSeenBy.mono _ _)
   | (with_reducible exact LeO.refl _)
   | (with_reducible exact LeO.none _)
   | (with_reducible refine LeO.ite ?_ ?_)
   | (with_reducible refine LeO.bind ?_ (fun _ => ?_))
   | exact ih0 _ _ _ _ _ _
   | exact ih1 _ _ _ _ _ _ _
   | exact ih2 _ _ _ _ _ _ _ _ _ _ _
   | exact ih3 _ _ _ _ _ _ _ _ _ _ _
   | exact ih4 _ _ _ _ _ _ _ _ _ _ _ _
   | exact ih5 _ _ _ _ _ _ _ _ _ _ _ _
   | exact impl_EqualDocuments.mono _ _ _
   | exact impl_GuardEdit.mono _ _ _ _ _ _ _ _ _
   | exact impl_HiddenCount.mono _ _ _ _
   | exact impl_MayEdit.mono _ _ _ _ _ _ _ _ _
   | exact impl_NodeOf.mono _ _ _
   | exact impl_SeenBy.mono _ _ _ _
   | exact impl_SeesNode.mono _ _ _ _ _
   | exact laws_contains.mono _ _ _
   | exact spec_DrawGuardEdit.mono _ _
   | exact spec_DrawSeenBy.mono _ _
   | exact LeO.none _
   | refine LeO.ite ?_ ?_
   | refine LeO.bind ?_ (fun _ => ?_)
def laws_FnSight.T19 : Bool × List (List Nat × List Nat) := (true, [([], []), ([], []), ([], []), ([2], [2]), ([], []), ([], []), ([4, 5], [4, 5]), ([6], [6]), ([7], [7]), ([0, 1, 3, 8], [0, 1, 3, 8]), ([9], [9])])
def laws_FnSight.B19 : List Nat := [0, 0, 0, 4, 0, 0, 48, 112, 240, 511, 1023]
theorem laws_FnSight.tab19 : rtab .any (opsOf Try.f8 19) = laws_FnSight.T19 := by kernel_rfl
theorem laws_FnSight.bits19 : waitsOk laws_FnSight.T19.2 laws_FnSight.B19 = true := by kernel_rfl
def laws_FnSight.T21 : Bool × List (List Nat × List Nat) := (true, [([], []), ([0], [0]), ([1], [1]), ([2], [2]), ([2], [2]), ([3, 4, 2], [2, 3, 4]), ([5, 2], [2, 5]), ([2], [2]), ([2], [2]), ([7, 8, 2], [2, 7, 8]), ([9, 2], [2, 9]), ([6, 10, 2], [2, 6, 10]), ([2, 11], [2, 11])])
def laws_FnSight.B21 : List Nat := [0, 1, 3, 7, 7, 31, 63, 7, 7, 391, 903, 2047, 4095]
theorem laws_FnSight.tab21 : rtab .any (opsOf Try.f8 21) = laws_FnSight.T21 := by kernel_rfl
theorem laws_FnSight.bits21 : waitsOk laws_FnSight.T21.2 laws_FnSight.B21 = true := by kernel_rfl
set_option maxHeartbeats 8000000 in
set_option maxRecDepth 100000 in
theorem laws_FnSight.calls (k : Nat) (A0 : Option Addr) (c0 : Nat) (l0 : List Int) (r : Bool) (w : World) (hr0 : Kd.C (Kd.int .u8) w A0 l0.length l0) (hc0 : l0.length ≤ c0) (h : laws_FnSight.f k l0 = some r) :
  Calls Try.prog 8 #[.slice A0 l0.length c0] w fun e w' => e = .returned (.bool r) ∧ Below w.heap.size w w' := by
 have hu30 := Try.underlying30
 have hu59 := Try.underlying59
 have HR0 := am hr0
 have HC0 := am hc0
 clear hr0 hc0
 have HB := am (Below.refl w.heap.size w)
 have H : ((laws_big.f l0).bind fun t455 => (if t455 = true then (some true) else ((spec_DrawSeenBy.f k l0).bind fun bt456 => ((impl_SeenBy.f k bt456.1 bt456.2.1 bt456.2.2).bind fun t463 => (laws_FnSight.l0 k l0 bt456.1 bt456.2.1 bt456.2.2 t463 0))))) = some r := h
 clear h
 replace H := Option.bind_eq_some_iff.mp H
 obtain ⟨t455, A20, H⟩ := H
 replace H : (if t455 = true then (some true) else ((spec_DrawSeenBy.f k l0).bind fun bt456 => ((impl_SeenBy.f k bt456.1 bt456.2.1 bt456.2.2).bind fun t463 => (laws_FnSight.l0 k l0 bt456.1 bt456.2.1 bt456.2.2 t463 0)))) = some r := H
 have A2 := am A20
 clear A20
 by_cases c3 : t455 = true
 ·subst c3
  have H1 : (some true) = some r := by rw [if_pos rfl] at H; exact H
  clear H
  have H := H1
  clear H1
  obtain rfl := Option.some.inj H
  go_enter Try.func8, Try.ntmps8
  go_wp2_with (first | ((with_reducible refine gate_callee (f := 37) rfl ?_); refine goesL_ (some 16) rfl rfl Try.func37 (by kernel_rfl) rfl #[.slice A0 l0.length c0] rfl mU ?_; (with_reducible refine (laws_big.calls _ _ l0 true _ ?side1 ?side2 A2.out).mono ?_); (case side1 => exact cU HR0.out); (case side2 => exact HC0.out); rintro e w' ⟨rfl, ⟨nd, rfl⟩⟩; refine ⟨_, rfl, ?_⟩))
  go_ret
  exact ⟨eU, bU HB.out⟩
 ·replace c3 := Bool.eq_false_iff.mpr c3
  subst c3
  have H1 : ((spec_DrawSeenBy.f k l0).bind fun bt456 => ((impl_SeenBy.f k bt456.1 bt456.2.1 bt456.2.2).bind fun t463 => (laws_FnSight.l0 k l0 bt456.1 bt456.2.1 bt456.2.2 t463 0))) = some r := by rw [if_neg (show ¬ (false = true) by decide)] at H; exact H
  clear H
  have H := H1
  clear H1
  replace H := Option.bind_eq_some_iff.mp H
  obtain ⟨⟨t456, t457, t458⟩, A40, H⟩ := H
  replace H : ((impl_SeenBy.f k t456 t457 t458).bind fun t463 => (laws_FnSight.l0 k l0 t456 t457 t458 t463 0)) = some r := H
  have A4 := am A40
  clear A40
  replace H := Option.bind_eq_some_iff.mp H
  obtain ⟨t463, A50, H⟩ := H
  replace H : (laws_FnSight.l0 k l0 t456 t457 t458 t463 0) = some r := H
  have A5 := am A50
  clear A50
  have H' := am H
  clear H
  go_enter Try.func8, Try.ntmps8
  go_wp2_with (first | ((with_reducible refine gate_callee (f := 37) rfl ?_); refine goesL_ (some 16) rfl rfl Try.func37 (by kernel_rfl) rfl #[.slice A0 l0.length c0] rfl mU ?_; (with_reducible refine (laws_big.calls _ _ l0 false _ ?side1 ?side2 A2.out).mono ?_); (case side1 => exact cU HR0.out); (case side2 => exact HC0.out); rintro e w' ⟨rfl, ⟨nd, rfl⟩⟩; refine ⟨_, rfl, ?_⟩) | ((with_reducible refine gate_callee (f := 38) rfl ?_); refine goesL_ (some 19) rfl rfl Try.func38 (by kernel_rfl) rfl #[.slice A0 l0.length c0] rfl mU ?_; (with_reducible refine (spec_DrawSeenBy.calls k _ _ l0 t456 t457 t458 _ ?side1 ?side2 A4.out).mono ?_); (case side1 => exact cU HR0.out); (case side2 => exact HC0.out); rintro e w6 ⟨v459, v461, rfl, ho0, ho1, hb⟩; refine ⟨_, rfl, ?_⟩; have n0_ := am (Kd.R_lower ho0 (below_size (bU HB.out))); have n1_ := am (Kd.R_lower ho1 (below_size (bU HB.out))); have n2_ := am (below_step (bU HB.out) hb); clear HB; have HO460 := n0_; have HO462 := n1_; have HB := n2_; clear n0_ n1_ n2_; (try clear hb); (try clear hb2); (try clear hk); (try clear hi); (try clear ho0); (try clear ho1); obtain ⟨Ao7, co7, eo7⟩ := Kd.R_slice HO460.out; subst eo7; obtain ⟨Ao8, co8, eo8⟩ := Kd.R_slice HO462.out; subst eo8) | ((with_reducible refine gate_callee (f := 39) rfl ?_); refine goesL_ (some 26) rfl rfl Try.func39 (by kernel_rfl) rfl #[.slice Ao7 t456.length co7, .slice Ao8 t457.length co8, .int .i64 t458] rfl mU ?_; (with_reducible refine (impl_SeenBy.calls k _ _ t456 _ _ t457 t458 t463 _ ?side1 ?side2 ?side3 ?side4 A5.out).mono ?_); (case side1 => exact cU (Kd.R_reads' HO460.out).2.2); (case side2 => exact (Kd.R_reads' HO460.out).2.1); (case side3 => exact cU (Kd.R_reads' HO462.out).2.2); (case side4 => exact (Kd.R_reads' HO462.out).2.1); rintro e w9 ⟨v464, rfl, ho0, hb⟩; refine ⟨_, rfl, ?_⟩; have n0_ := am (Kd.R_elder' (rU HO460.out) (Kd.R_base ho0) hb); have n1_ := am (Kd.R_below (rU HO462.out) hb); have n2_ := am (Kd.R_lower (Kd.R_new' ho0 (Kd.R_lt (rU HO460.out))) (below_size (bU HB.out))); have n3_ := am (below_step (bU HB.out) hb); clear HO460; clear HO462; clear HB; have HO460 := n0_; have HO462 := n1_; have HO465 := n2_; have HB := n3_; clear n0_ n1_ n2_ n3_; (try clear hb); (try clear hb2); (try clear hk); (try clear hi); (try clear ho0)))
  go_loopg [7] k (fun kq v7 w' => ∃ (x7_1 : Int), v7 = .int .i64 x7_1 ∧ Aside0 (laws_FnSight.l0 kq l0 t456 t457 t458 t463 x7_1 = some r) ∧ Aside0 (kq ≤ k) ∧ Aside0 (Kd.R k59 59 w' w.heap.size (fun k_ => some k_ ≠ (v464 : Value).ownBlock) (.slice Ao7 t456.length co7) t456) ∧ Aside0 (Kd.R (Kd.int .i64) 3 w' w.heap.size (fun _ => True) (.slice Ao8 t457.length co8) t457) ∧ Aside0 (Kd.R k59 59 w' w.heap.size (fun k_ => some k_ ≠ ((.slice Ao7 t456.length co7) : Value).ownBlock) v464 t463) ∧ Aside0 (Below w.heap.size w w'))
  case atStart => exact ⟨(0), (by first | rfl | (simp; done) | (simp [*]; done)), H', ⟨Nat.le_refl _⟩, ⟨by (with_reducible repeat (first | apply Kd.R_alloc | apply Kd.R_drewN | apply Kd.R_drew)); exact Kd.R_mono HO460.out (fun _ hk => hk.2)⟩, ⟨rU HO462.out⟩, ⟨by (with_reducible repeat (first | apply Kd.R_alloc | apply Kd.R_drewN | apply Kd.R_drew)); exact Kd.R_mono HO465.out (fun _ hk => hk.2)⟩, ⟨bU HB.out⟩⟩
  case round =>
   clear H'
   try clear p2
   try clear c3
   try clear c8
   obtain ⟨x7_1, rfl, HA, HK1, HO_3, HO_4, HO_6, HB⟩ := hrel
   cases gk with
   | zero => exact absurd HA.out (by simp [laws_FnSight.l0])
   | succ k1 =>
    have H := HA.out
    clear HA
    simp only [laws_FnSight.l0] at H
    by_cases c10 : x7_1 < (t463.length : Int)
    ·rw [if_pos c10] at H
     have c10b0 : decide (x7_1 < (t463.length : Int)) = true := decide_eq_true c10
     clear c10
     have HC11 := am H
     clear H
     obtain ⟨Ao12, co12, eo12⟩ := Kd.R_slice HO_6.out
     subst eo12
     go_upto_region 8 with (fail)
     go_cut [92] (fun v92 wc => ∃ (kq : Nat) (x92_10 : Bool), v92 = .bool x92_10 ∧ Aside0 (laws_FnSight.j1 kq l0 t456 t457 t458 t463 x7_1 x92_10 = some r) ∧ Aside0 (kq ≤ k1) ∧ Aside0 (Kd.R k59 59 wc w.heap.size (fun k_ => some k_ ≠ ((.slice Ao12 t463.length co12) : Value).ownBlock) (.slice Ao7 t456.length co7) t456) ∧ Aside0 (Kd.R (Kd.int .i64) 3 wc w.heap.size (fun _ => True) (.slice Ao8 t457.length co8) t457) ∧ Aside0 (Kd.R k59 59 wc w.heap.size (fun k_ => some k_ ≠ ((.slice Ao7 t456.length co7) : Value).ownBlock) (.slice Ao12 t463.length co12) t463) ∧ Aside0 (Below w.heap.size w wc))
     case first =>
      have H := HC11.out
      clear HC11
      by_cases c13 : 0 ≤ x7_1
      ·rw [if_pos c13] at H
       have c13b0 : decide (0 ≤ x7_1) = true := decide_eq_true c13
       clear c13
       (first | rw [c13b0] | (simp only [i64_w, i32_w]; rw [c13b0]) | skip)
       replace H := Option.bind_eq_some_iff.mp H
       obtain ⟨t467, A140, H⟩ := H
       replace H : (if t467 < 0 then (laws_FnSight.j1 k1 l0 t456 t457 t458 t463 x7_1 true) else (if x7_1 > 0 then (if ((rd_T59 t463 x7_1).f0) > 0 then ((impl_NodeOf.f k1 t463 ((rd_T59 t463 x7_1).f1)).bind fun t470 => (if t470 < 0 then (laws_FnSight.j1 k1 l0 t456 t457 t458 t463 x7_1 true) else ((laws_contains.f k1 t457 ((rd_T59 t463 x7_1).f2)).bind fun t472 => (if t472 = true then (if ((rd_T59 t463 x7_1).f4) = t458 then ((impl_SeesNode.f k1 t456 t457 t458 ((rd_T59 t463 x7_1).f0)).bind fun t475 => (laws_FnSight.j1 k1 l0 t456 t457 t458 t463 x7_1 (!t475))) else (laws_FnSight.j1 k1 l0 t456 t457 t458 t463 x7_1 true)) else ((impl_SeesNode.f k1 t456 t457 t458 ((rd_T59 t463 x7_1).f0)).bind fun t477 => (laws_FnSight.j1 k1 l0 t456 t457 t458 t463 x7_1 (!t477))))))) else ((laws_contains.f k1 t457 ((rd_T59 t463 x7_1).f2)).bind fun t479 => (if t479 = true then (if ((rd_T59 t463 x7_1).f4) = t458 then ((impl_SeesNode.f k1 t456 t457 t458 ((rd_T59 t463 x7_1).f0)).bind fun t482 => (laws_FnSight.j1 k1 l0 t456 t457 t458 t463 x7_1 (!t482))) else (laws_FnSight.j1 k1 l0 t456 t457 t458 t463 x7_1 true)) else ((impl_SeesNode.f k1 t456 t457 t458 ((rd_T59 t463 x7_1).f0)).bind fun t484 => (laws_FnSight.j1 k1 l0 t456 t457 t458 t463 x7_1 (!t484)))))) else ((laws_contains.f k1 t457 ((rd_T59 t463 x7_1).f2)).bind fun t486 => (if t486 = true then (if ((rd_T59 t463 x7_1).f4) = t458 then ((impl_SeesNode.f k1 t456 t457 t458 ((rd_T59 t463 x7_1).f0)).bind fun t489 => (laws_FnSight.j1 k1 l0 t456 t457 t458 t463 x7_1 (!t489))) else (laws_FnSight.j1 k1 l0 t456 t457 t458 t463 x7_1 true)) else ((impl_SeesNode.f k1 t456 t457 t458 ((rd_T59 t463 x7_1).f0)).bind fun t491 => (laws_FnSight.j1 k1 l0 t456 t457 t458 t463 x7_1 (!t491))))))) = some r := H
       have A14 := am A140
       clear A140
       by_cases c15 : t467 < 0
       ·rw [if_pos c15] at H
        have c15b0 : decide (t467 < 0) = true := decide_eq_true c15
        clear c15
        have H' := am H
        clear H
        have p466 : 0 ≤ (x7_1 : Int) := dU
        have q466 : x7_1 < (t463.length : Int) := dU
        obtain ⟨ad466, e466, hx466_0, hx466_1, hx466_2, hx466_3, hx466_4⟩ := at_T59 (Kd.R_reads' HO_6.out).2.2 x7_1 p466 q466
        cases e466
        replace p466 := eq_true p466
        replace q466 := eq_true q466
        go_wp2_with (first | ((with_reducible refine gate_callee (f := 40) rfl ?_); refine goesL_ (some 39) rfl rfl Try.func40 (by kernel_rfl) rfl #[.slice Ao7 t456.length co7, .int .i64 ((rd_T59 t463 x7_1).f0)] rfl mU ?_; (with_reducible refine (impl_NodeOf.calls k1 _ _ t456 ((rd_T59 t463 x7_1).f0) t467 _ ?side1 ?side2 A14.out).mono ?_); (case side1 => exact cU (Kd.R_reads' HO_3.out).2.2); (case side2 => exact (Kd.R_reads' HO_3.out).2.1); rintro e w16 ⟨rfl, hb⟩; refine ⟨_, rfl, ?_⟩; have n0_ := am (Kd.R_below (rU HO_3.out) hb); have n1_ := am (Kd.R_below (rU HO_4.out) hb); have n2_ := am (Kd.R_below (rU HO_6.out) hb); have n3_ := am (below_step (bU HB.out) hb); clear HO_3; clear HO_4; clear HO_6; clear HB; have HO_3 := n0_; have HO_4 := n1_; have HO_6 := n2_; have HB := n3_; clear n0_ n1_ n2_ n3_; (try clear hb); (try clear hb2); (try clear hk); (try clear hi)))
        go_meet
        case rel => exact ⟨_, (true), (by first | rfl | (simp; done) | (simp [*]; done)), H', ⟨by have := HK1.out; first | omega | exact Nat.le_refl _⟩, ⟨rU HO_3.out⟩, ⟨rU HO_4.out⟩, ⟨rU HO_6.out⟩, ⟨bU HB.out⟩⟩
       ·rw [if_neg c15] at H
        have c15b0 : decide (t467 < 0) = false := decide_eq_false c15
        clear c15
        by_cases c17 : x7_1 > 0
        ·rw [if_pos c17] at H
         have c17b0 : decide (0 < x7_1) = true := decide_eq_true c17
         clear c17
         by_cases c18 : ((rd_T59 t463 x7_1).f0) > 0
         ·rw [if_pos c18] at H
          have c18b0 : decide (0 < ((rd_T59 t463 x7_1).f0)) = true := decide_eq_true c18
          clear c18
          replace H := Option.bind_eq_some_iff.mp H
          obtain ⟨t470, A190, H⟩ := H
          replace H : (if t470 < 0 then (laws_FnSight.j1 k1 l0 t456 t457 t458 t463 x7_1 true) else ((laws_contains.f k1 t457 ((rd_T59 t463 x7_1).f2)).bind fun t472 => (if t472 = true then (if ((rd_T59 t463 x7_1).f4) = t458 then ((impl_SeesNode.f k1 t456 t457 t458 ((rd_T59 t463 x7_1).f0)).bind fun t475 => (laws_FnSight.j1 k1 l0 t456 t457 t458 t463 x7_1 (!t475))) else (laws_FnSight.j1 k1 l0 t456 t457 t458 t463 x7_1 true)) else ((impl_SeesNode.f k1 t456 t457 t458 ((rd_T59 t463 x7_1).f0)).bind fun t477 => (laws_FnSight.j1 k1 l0 t456 t457 t458 t463 x7_1 (!t477)))))) = some r := H
          have A19 := am A190
          clear A190
          by_cases c20 : t470 < 0
          ·rw [if_pos c20] at H
           have c20b0 : decide (t470 < 0) = true := decide_eq_true c20
           clear c20
           have H' := am H
           clear H
           have p466 : 0 ≤ (x7_1 : Int) := dU
           have q466 : x7_1 < (t463.length : Int) := dU
           obtain ⟨ad466, e466, hx466_0, hx466_1, hx466_2, hx466_3, hx466_4⟩ := at_T59 (Kd.R_reads' HO_6.out).2.2 x7_1 p466 q466
           cases e466
           replace p466 := eq_true p466
           replace q466 := eq_true q466
           go_wp2_with (first | ((with_reducible refine gate_callee (f := 40) rfl ?_); refine goesL_ (some 39) rfl rfl Try.func40 (by kernel_rfl) rfl #[.slice Ao7 t456.length co7, .int .i64 ((rd_T59 t463 x7_1).f0)] rfl mU ?_; (with_reducible refine (impl_NodeOf.calls k1 _ _ t456 ((rd_T59 t463 x7_1).f0) t467 _ ?side1 ?side2 A14.out).mono ?_); (case side1 => exact cU (Kd.R_reads' HO_3.out).2.2); (case side2 => exact (Kd.R_reads' HO_3.out).2.1); rintro e w21 ⟨rfl, hb⟩; refine ⟨_, rfl, ?_⟩; have n0_ := am (Kd.R_below (rU HO_3.out) hb); have n1_ := am (Kd.R_below (rU HO_4.out) hb); have n2_ := am (Kd.R_below (rU HO_6.out) hb); have n3_ := am (below_step (bU HB.out) hb); clear HO_3; clear HO_4; clear HO_6; clear HB; have HO_3 := n0_; have HO_4 := n1_; have HO_6 := n2_; have HB := n3_; clear n0_ n1_ n2_ n3_; (try clear hb); (try clear hb2); (try clear hk); (try clear hi); have p468 : 0 ≤ (x7_1 : Int) := dU; have q468 : x7_1 < (t463.length : Int) := dU; obtain ⟨ad468, e468, hx468_0, hx468_1, hx468_2, hx468_3, hx468_4⟩ := at_T59 (Kd.R_reads' HO_6.out).2.2 x7_1 p468 q468; obtain rfl : ad466 = ad468 := (by injection e468); replace p468 := eq_true p468; replace q468 := eq_true q468; have p469 : 0 ≤ (x7_1 : Int) := dU; have q469 : x7_1 < (t463.length : Int) := dU; obtain ⟨ad469, e469, hx469_0, hx469_1, hx469_2, hx469_3, hx469_4⟩ := at_T59 (Kd.R_reads' HO_6.out).2.2 x7_1 p469 q469; obtain rfl : ad466 = ad469 := (by injection e469); replace p469 := eq_true p469; replace q469 := eq_true q469) | (go_at_call 40; (with_reducible refine (impl_NodeOf.calls k1 _ _ t463 ((rd_T59 t463 x7_1).f1) t470 _ ?side1 ?side2 A19.out).mono ?_); (case side1 => exact cU (Kd.R_reads' HO_6.out).2.2); (case side2 => exact (Kd.R_reads' HO_6.out).2.1); rintro e w22 ⟨rfl, hb⟩; have n0_ := am (Kd.R_below (rU HO_3.out) hb); have n1_ := am (Kd.R_below (rU HO_4.out) hb); have n2_ := am (Kd.R_below (rU HO_6.out) hb); have n3_ := am (below_step (bU HB.out) hb); clear HO_3; clear HO_4; clear HO_6; clear HB; have HO_3 := n0_; have HO_4 := n1_; have HO_6 := n2_; have HB := n3_; clear n0_ n1_ n2_ n3_; (try clear hb); (try clear hb2); (try clear hk); (try clear hi)))
           go_meet
           case rel => exact ⟨_, (true), (by first | rfl | (simp; done) | (simp [*]; done)), H', ⟨by have := HK1.out; first | omega | exact Nat.le_refl _⟩, ⟨rU HO_3.out⟩, ⟨rU HO_4.out⟩, ⟨rU HO_6.out⟩, ⟨bU HB.out⟩⟩
          ·rw [if_neg c20] at H
           have c20b0 : decide (t470 < 0) = false := decide_eq_false c20
           clear c20
           replace H := Option.bind_eq_some_iff.mp H
           obtain ⟨t472, A230, H⟩ := H
           replace H : (if t472 = true then (if ((rd_T59 t463 x7_1).f4) = t458 then ((impl_SeesNode.f k1 t456 t457 t458 ((rd_T59 t463 x7_1).f0)).bind fun t475 => (laws_FnSight.j1 k1 l0 t456 t457 t458 t463 x7_1 (!t475))) else (laws_FnSight.j1 k1 l0 t456 t457 t458 t463 x7_1 true)) else ((impl_SeesNode.f k1 t456 t457 t458 ((rd_T59 t463 x7_1).f0)).bind fun t477 => (laws_FnSight.j1 k1 l0 t456 t457 t458 t463 x7_1 (!t477)))) = some r := H
           have A23 := am A230
           clear A230
           by_cases c24 : t472 = true
           ·subst c24
            have H1 : (if ((rd_T59 t463 x7_1).f4) = t458 then ((impl_SeesNode.f k1 t456 t457 t458 ((rd_T59 t463 x7_1).f0)).bind fun t475 => (laws_FnSight.j1 k1 l0 t456 t457 t458 t463 x7_1 (!t475))) else (laws_FnSight.j1 k1 l0 t456 t457 t458 t463 x7_1 true)) = some r := by rw [if_pos rfl] at H; exact H
            clear H
            have H := H1
            clear H1
            by_cases c25 : ((rd_T59 t463 x7_1).f4) = t458
            ·rw [if_pos c25] at H
             have c25b0 : (((rd_T59 t463 x7_1).f4) == t458) = true := beq_iff_eq.mpr c25
             have c25b1 : (((rd_T59 t463 x7_1).f4) != t458) = false := bne_eq_false_iff_eq.mpr c25
             clear c25
             replace H := Option.bind_eq_some_iff.mp H
             obtain ⟨t475, A260, H⟩ := H
             replace H : (laws_FnSight.j1 k1 l0 t456 t457 t458 t463 x7_1 (!t475)) = some r := H
             have A26 := am A260
             clear A260
             have H' := am H
             clear H
             have p466 : 0 ≤ (x7_1 : Int) := dU
             have q466 : x7_1 < (t463.length : Int) := dU
             obtain ⟨ad466, e466, hx466_0, hx466_1, hx466_2, hx466_3, hx466_4⟩ := at_T59 (Kd.R_reads' HO_6.out).2.2 x7_1 p466 q466
             cases e466
             replace p466 := eq_true p466
             replace q466 := eq_true q466
             go_wp2_with (first | ((with_reducible refine gate_callee (f := 40) rfl ?_); refine goesL_ (some 39) rfl rfl Try.func40 (by kernel_rfl) rfl #[.slice Ao7 t456.length co7, .int .i64 ((rd_T59 t463 x7_1).f0)] rfl mU ?_; (with_reducible refine (impl_NodeOf.calls k1 _ _ t456 ((rd_T59 t463 x7_1).f0) t467 _ ?side1 ?side2 A14.out).mono ?_); (case side1 => exact cU (Kd.R_reads' HO_3.out).2.2); (case side2 => exact (Kd.R_reads' HO_3.out).2.1); rintro e w27 ⟨rfl, hb⟩; refine ⟨_, rfl, ?_⟩; have n0_ := am (Kd.R_below (rU HO_3.out) hb); have n1_ := am (Kd.R_below (rU HO_4.out) hb); have n2_ := am (Kd.R_below (rU HO_6.out) hb); have n3_ := am (below_step (bU HB.out) hb); clear HO_3; clear HO_4; clear HO_6; clear HB; have HO_3 := n0_; have HO_4 := n1_; have HO_6 := n2_; have HB := n3_; clear n0_ n1_ n2_ n3_; (try clear hb); (try clear hb2); (try clear hk); (try clear hi); have p468 : 0 ≤ (x7_1 : Int) := dU; have q468 : x7_1 < (t463.length : Int) := dU; obtain ⟨ad468, e468, hx468_0, hx468_1, hx468_2, hx468_3, hx468_4⟩ := at_T59 (Kd.R_reads' HO_6.out).2.2 x7_1 p468 q468; obtain rfl : ad466 = ad468 := (by injection e468); replace p468 := eq_true p468; replace q468 := eq_true q468; have p469 : 0 ≤ (x7_1 : Int) := dU; have q469 : x7_1 < (t463.length : Int) := dU; obtain ⟨ad469, e469, hx469_0, hx469_1, hx469_2, hx469_3, hx469_4⟩ := at_T59 (Kd.R_reads' HO_6.out).2.2 x7_1 p469 q469; obtain rfl : ad466 = ad469 := (by injection e469); replace p469 := eq_true p469; replace q469 := eq_true q469) | (go_at_call 40; (with_reducible refine (impl_NodeOf.calls k1 _ _ t463 ((rd_T59 t463 x7_1).f1) t470 _ ?side1 ?side2 A19.out).mono ?_); (case side1 => exact cU (Kd.R_reads' HO_6.out).2.2); (case side2 => exact (Kd.R_reads' HO_6.out).2.1); rintro e w28 ⟨rfl, hb⟩; have n0_ := am (Kd.R_below (rU HO_3.out) hb); have n1_ := am (Kd.R_below (rU HO_4.out) hb); have n2_ := am (Kd.R_below (rU HO_6.out) hb); have n3_ := am (below_step (bU HB.out) hb); clear HO_3; clear HO_4; clear HO_6; clear HB; have HO_3 := n0_; have HO_4 := n1_; have HO_6 := n2_; have HB := n3_; clear n0_ n1_ n2_ n3_; (try clear hb); (try clear hb2); (try clear hk); (try clear hi); have p471 : 0 ≤ (x7_1 : Int) := dU; have q471 : x7_1 < (t463.length : Int) := dU; obtain ⟨ad471, e471, hx471_0, hx471_1, hx471_2, hx471_3, hx471_4⟩ := at_T59 (Kd.R_reads' HO_6.out).2.2 x7_1 p471 q471; obtain rfl : ad466 = ad471 := (by injection e471); replace p471 := eq_true p471; replace q471 := eq_true q471) | (go_at_call 41; (with_reducible refine (laws_contains.calls k1 _ _ t457 ((rd_T59 t463 x7_1).f2) true _ ?side1 ?side2 A23.out).mono ?_); (case side1 => exact cU (Kd.R_reads' HO_4.out).2.2); (case side2 => exact (Kd.R_reads' HO_4.out).2.1); rintro e w' ⟨rfl, ⟨nd, rfl⟩⟩; have p473 : 0 ≤ (x7_1 : Int) := dU; have q473 : x7_1 < (t463.length : Int) := dU; obtain ⟨ad473, e473, hx473_0, hx473_1, hx473_2, hx473_3, hx473_4⟩ := at_T59 (Kd.R_reads' HO_6.out).2.2 x7_1 p473 q473; obtain rfl : ad466 = ad473 := (by injection e473); replace p473 := eq_true p473; replace q473 := eq_true q473; have p474 : 0 ≤ (x7_1 : Int) := dU; have q474 : x7_1 < (t463.length : Int) := dU; obtain ⟨ad474, e474, hx474_0, hx474_1, hx474_2, hx474_3, hx474_4⟩ := at_T59 (Kd.R_reads' HO_6.out).2.2 x7_1 p474 q474; obtain rfl : ad466 = ad474 := (by injection e474); replace p474 := eq_true p474; replace q474 := eq_true q474) | (go_at_call 42; (with_reducible refine (impl_SeesNode.calls k1 _ _ t456 _ _ t457 t458 ((rd_T59 t463 x7_1).f0) t475 _ ?side1 ?side2 ?side3 ?side4 A26.out).mono ?_); (case side1 => exact cU (Kd.R_reads' HO_3.out).2.2); (case side2 => exact (Kd.R_reads' HO_3.out).2.1); (case side3 => exact cU (Kd.R_reads' HO_4.out).2.2); (case side4 => exact (Kd.R_reads' HO_4.out).2.1); rintro e w29 ⟨rfl, hb⟩; have n0_ := am (Kd.R_below (rU HO_3.out) hb); have n1_ := am (Kd.R_below (rU HO_4.out) hb); have n2_ := am (Kd.R_below (rU HO_6.out) hb); have n3_ := am (below_step (bU HB.out) hb); clear HO_3; clear HO_4; clear HO_6; clear HB; have HO_3 := n0_; have HO_4 := n1_; have HO_6 := n2_; have HB := n3_; clear n0_ n1_ n2_ n3_; (try clear hb); (try clear hb2); (try clear hk); (try clear hi)))
             go_meet
             case rel => exact ⟨_, (!t475), (by first | rfl | (simp; done) | (simp [*]; done)), H', ⟨by have := HK1.out; first | omega | exact Nat.le_refl _⟩, ⟨rU HO_3.out⟩, ⟨rU HO_4.out⟩, ⟨rU HO_6.out⟩, ⟨bU HB.out⟩⟩
            ·rw [if_neg c25] at H
             have c25b0 : (((rd_T59 t463 x7_1).f4) == t458) = false := beq_eq_false_iff_ne.mpr c25
             have c25b1 : (((rd_T59 t463 x7_1).f4) != t458) = true := bne_iff_ne.mpr c25
             have H' := am H
             clear H
             have p466 : 0 ≤ (x7_1 : Int) := dU
             have q466 : x7_1 < (t463.length : Int) := dU
             obtain ⟨ad466, e466, hx466_0, hx466_1, hx466_2, hx466_3, hx466_4⟩ := at_T59 (Kd.R_reads' HO_6.out).2.2 x7_1 p466 q466
             cases e466
             replace p466 := eq_true p466
             replace q466 := eq_true q466
             go_wp2_with (first | ((with_reducible refine gate_callee (f := 40) rfl ?_); refine goesL_ (some 39) rfl rfl Try.func40 (by kernel_rfl) rfl #[.slice Ao7 t456.length co7, .int .i64 ((rd_T59 t463 x7_1).f0)] rfl mU ?_; (with_reducible refine (impl_NodeOf.calls k1 _ _ t456 ((rd_T59 t463 x7_1).f0) t467 _ ?side1 ?side2 A14.out).mono ?_); (case side1 => exact cU (Kd.R_reads' HO_3.out).2.2); (case side2 => exact (Kd.R_reads' HO_3.out).2.1); rintro e w30 ⟨rfl, hb⟩; refine ⟨_, rfl, ?_⟩; have n0_ := am (Kd.R_below (rU HO_3.out) hb); have n1_ := am (Kd.R_below (rU HO_4.out) hb); have n2_ := am (Kd.R_below (rU HO_6.out) hb); have n3_ := am (below_step (bU HB.out) hb); clear HO_3; clear HO_4; clear HO_6; clear HB; have HO_3 := n0_; have HO_4 := n1_; have HO_6 := n2_; have HB := n3_; clear n0_ n1_ n2_ n3_; (try clear hb); (try clear hb2); (try clear hk); (try clear hi); have p468 : 0 ≤ (x7_1 : Int) := dU; have q468 : x7_1 < (t463.length : Int) := dU; obtain ⟨ad468, e468, hx468_0, hx468_1, hx468_2, hx468_3, hx468_4⟩ := at_T59 (Kd.R_reads' HO_6.out).2.2 x7_1 p468 q468; obtain rfl : ad466 = ad468 := (by injection e468); replace p468 := eq_true p468; replace q468 := eq_true q468; have p469 : 0 ≤ (x7_1 : Int) := dU; have q469 : x7_1 < (t463.length : Int) := dU; obtain ⟨ad469, e469, hx469_0, hx469_1, hx469_2, hx469_3, hx469_4⟩ := at_T59 (Kd.R_reads' HO_6.out).2.2 x7_1 p469 q469; obtain rfl : ad466 = ad469 := (by injection e469); replace p469 := eq_true p469; replace q469 := eq_true q469) | (go_at_call 40; (with_reducible refine (impl_NodeOf.calls k1 _ _ t463 ((rd_T59 t463 x7_1).f1) t470 _ ?side1 ?side2 A19.out).mono ?_); (case side1 => exact cU (Kd.R_reads' HO_6.out).2.2); (case side2 => exact (Kd.R_reads' HO_6.out).2.1); rintro e w31 ⟨rfl, hb⟩; have n0_ := am (Kd.R_below (rU HO_3.out) hb); have n1_ := am (Kd.R_below (rU HO_4.out) hb); have n2_ := am (Kd.R_below (rU HO_6.out) hb); have n3_ := am (below_step (bU HB.out) hb); clear HO_3; clear HO_4; clear HO_6; clear HB; have HO_3 := n0_; have HO_4 := n1_; have HO_6 := n2_; have HB := n3_; clear n0_ n1_ n2_ n3_; (try clear hb); (try clear hb2); (try clear hk); (try clear hi); have p471 : 0 ≤ (x7_1 : Int) := dU; have q471 : x7_1 < (t463.length : Int) := dU; obtain ⟨ad471, e471, hx471_0, hx471_1, hx471_2, hx471_3, hx471_4⟩ := at_T59 (Kd.R_reads' HO_6.out).2.2 x7_1 p471 q471; obtain rfl : ad466 = ad471 := (by injection e471); replace p471 := eq_true p471; replace q471 := eq_true q471) | (go_at_call 41; (with_reducible refine (laws_contains.calls k1 _ _ t457 ((rd_T59 t463 x7_1).f2) true _ ?side1 ?side2 A23.out).mono ?_); (case side1 => exact cU (Kd.R_reads' HO_4.out).2.2); (case side2 => exact (Kd.R_reads' HO_4.out).2.1); rintro e w' ⟨rfl, ⟨nd, rfl⟩⟩; have p473 : 0 ≤ (x7_1 : Int) := dU; have q473 : x7_1 < (t463.length : Int) := dU; obtain ⟨ad473, e473, hx473_0, hx473_1, hx473_2, hx473_3, hx473_4⟩ := at_T59 (Kd.R_reads' HO_6.out).2.2 x7_1 p473 q473; obtain rfl : ad466 = ad473 := (by injection e473); replace p473 := eq_true p473; replace q473 := eq_true q473))
             go_meet
             case rel => exact ⟨_, (true), (by first | rfl | (simp; done) | (simp [*]; done)), H', ⟨by have := HK1.out; first | omega | exact Nat.le_refl _⟩, ⟨rU HO_3.out⟩, ⟨rU HO_4.out⟩, ⟨rU HO_6.out⟩, ⟨bU HB.out⟩⟩
           ·replace c24 := Bool.eq_false_iff.mpr c24
            subst c24
            have H1 : ((impl_SeesNode.f k1 t456 t457 t458 ((rd_T59 t463 x7_1).f0)).bind fun t477 => (laws_FnSight.j1 k1 l0 t456 t457 t458 t463 x7_1 (!t477))) = some r := by rw [if_neg (show ¬ (false = true) by decide)] at H; exact H
            clear H
            have H := H1
            clear H1
            replace H := Option.bind_eq_some_iff.mp H
            obtain ⟨t477, A320, H⟩ := H
            replace H : (laws_FnSight.j1 k1 l0 t456 t457 t458 t463 x7_1 (!t477)) = some r := H
            have A32 := am A320
            clear A320
            have H' := am H
            clear H
            have p466 : 0 ≤ (x7_1 : Int) := dU
            have q466 : x7_1 < (t463.length : Int) := dU
            obtain ⟨ad466, e466, hx466_0, hx466_1, hx466_2, hx466_3, hx466_4⟩ := at_T59 (Kd.R_reads' HO_6.out).2.2 x7_1 p466 q466
            cases e466
            replace p466 := eq_true p466
            replace q466 := eq_true q466
            go_wp2_with (first | ((with_reducible refine gate_callee (f := 40) rfl ?_); refine goesL_ (some 39) rfl rfl Try.func40 (by kernel_rfl) rfl #[.slice Ao7 t456.length co7, .int .i64 ((rd_T59 t463 x7_1).f0)] rfl mU ?_; (with_reducible refine (impl_NodeOf.calls k1 _ _ t456 ((rd_T59 t463 x7_1).f0) t467 _ ?side1 ?side2 A14.out).mono ?_); (case side1 => exact cU (Kd.R_reads' HO_3.out).2.2); (case side2 => exact (Kd.R_reads' HO_3.out).2.1); rintro e w33 ⟨rfl, hb⟩; refine ⟨_, rfl, ?_⟩; have n0_ := am (Kd.R_below (rU HO_3.out) hb); have n1_ := am (Kd.R_below (rU HO_4.out) hb); have n2_ := am (Kd.R_below (rU HO_6.out) hb); have n3_ := am (below_step (bU HB.out) hb); clear HO_3; clear HO_4; clear HO_6; clear HB; have HO_3 := n0_; have HO_4 := n1_; have HO_6 := n2_; have HB := n3_; clear n0_ n1_ n2_ n3_; (try clear hb); (try clear hb2); (try clear hk); (try clear hi); have p468 : 0 ≤ (x7_1 : Int) := dU; have q468 : x7_1 < (t463.length : Int) := dU; obtain ⟨ad468, e468, hx468_0, hx468_1, hx468_2, hx468_3, hx468_4⟩ := at_T59 (Kd.R_reads' HO_6.out).2.2 x7_1 p468 q468; obtain rfl : ad466 = ad468 := (by injection e468); replace p468 := eq_true p468; replace q468 := eq_true q468; have p469 : 0 ≤ (x7_1 : Int) := dU; have q469 : x7_1 < (t463.length : Int) := dU; obtain ⟨ad469, e469, hx469_0, hx469_1, hx469_2, hx469_3, hx469_4⟩ := at_T59 (Kd.R_reads' HO_6.out).2.2 x7_1 p469 q469; obtain rfl : ad466 = ad469 := (by injection e469); replace p469 := eq_true p469; replace q469 := eq_true q469) | (go_at_call 40; (with_reducible refine (impl_NodeOf.calls k1 _ _ t463 ((rd_T59 t463 x7_1).f1) t470 _ ?side1 ?side2 A19.out).mono ?_); (case side1 => exact cU (Kd.R_reads' HO_6.out).2.2); (case side2 => exact (Kd.R_reads' HO_6.out).2.1); rintro e w34 ⟨rfl, hb⟩; have n0_ := am (Kd.R_below (rU HO_3.out) hb); have n1_ := am (Kd.R_below (rU HO_4.out) hb); have n2_ := am (Kd.R_below (rU HO_6.out) hb); have n3_ := am (below_step (bU HB.out) hb); clear HO_3; clear HO_4; clear HO_6; clear HB; have HO_3 := n0_; have HO_4 := n1_; have HO_6 := n2_; have HB := n3_; clear n0_ n1_ n2_ n3_; (try clear hb); (try clear hb2); (try clear hk); (try clear hi); have p471 : 0 ≤ (x7_1 : Int) := dU; have q471 : x7_1 < (t463.length : Int) := dU; obtain ⟨ad471, e471, hx471_0, hx471_1, hx471_2, hx471_3, hx471_4⟩ := at_T59 (Kd.R_reads' HO_6.out).2.2 x7_1 p471 q471; obtain rfl : ad466 = ad471 := (by injection e471); replace p471 := eq_true p471; replace q471 := eq_true q471) | (go_at_call 41; (with_reducible refine (laws_contains.calls k1 _ _ t457 ((rd_T59 t463 x7_1).f2) false _ ?side1 ?side2 A23.out).mono ?_); (case side1 => exact cU (Kd.R_reads' HO_4.out).2.2); (case side2 => exact (Kd.R_reads' HO_4.out).2.1); rintro e w' ⟨rfl, ⟨nd, rfl⟩⟩; have p476 : 0 ≤ (x7_1 : Int) := dU; have q476 : x7_1 < (t463.length : Int) := dU; obtain ⟨ad476, e476, hx476_0, hx476_1, hx476_2, hx476_3, hx476_4⟩ := at_T59 (Kd.R_reads' HO_6.out).2.2 x7_1 p476 q476; obtain rfl : ad466 = ad476 := (by injection e476); replace p476 := eq_true p476; replace q476 := eq_true q476) | (go_at_call 42; (with_reducible refine (impl_SeesNode.calls k1 _ _ t456 _ _ t457 t458 ((rd_T59 t463 x7_1).f0) t477 _ ?side1 ?side2 ?side3 ?side4 A32.out).mono ?_); (case side1 => exact cU (Kd.R_reads' HO_3.out).2.2); (case side2 => exact (Kd.R_reads' HO_3.out).2.1); (case side3 => exact cU (Kd.R_reads' HO_4.out).2.2); (case side4 => exact (Kd.R_reads' HO_4.out).2.1); rintro e w35 ⟨rfl, hb⟩; have n0_ := am (Kd.R_below (rU HO_3.out) hb); have n1_ := am (Kd.R_below (rU HO_4.out) hb); have n2_ := am (Kd.R_below (rU HO_6.out) hb); have n3_ := am (below_step (bU HB.out) hb); clear HO_3; clear HO_4; clear HO_6; clear HB; have HO_3 := n0_; have HO_4 := n1_; have HO_6 := n2_; have HB := n3_; clear n0_ n1_ n2_ n3_; (try clear hb); (try clear hb2); (try clear hk); (try clear hi)))
            go_meet
            case rel => exact ⟨_, (!t477), (by first | rfl | (simp; done) | (simp [*]; done)), H', ⟨by have := HK1.out; first | omega | exact Nat.le_refl _⟩, ⟨rU HO_3.out⟩, ⟨rU HO_4.out⟩, ⟨rU HO_6.out⟩, ⟨bU HB.out⟩⟩
         ·rw [if_neg c18] at H
          have c18b0 : decide (0 < ((rd_T59 t463 x7_1).f0)) = false := decide_eq_false c18
          clear c18
          replace H := Option.bind_eq_some_iff.mp H
          obtain ⟨t479, A360, H⟩ := H
          replace H : (if t479 = true then (if ((rd_T59 t463 x7_1).f4) = t458 then ((impl_SeesNode.f k1 t456 t457 t458 ((rd_T59 t463 x7_1).f0)).bind fun t482 => (laws_FnSight.j1 k1 l0 t456 t457 t458 t463 x7_1 (!t482))) else (laws_FnSight.j1 k1 l0 t456 t457 t458 t463 x7_1 true)) else ((impl_SeesNode.f k1 t456 t457 t458 ((rd_T59 t463 x7_1).f0)).bind fun t484 => (laws_FnSight.j1 k1 l0 t456 t457 t458 t463 x7_1 (!t484)))) = some r := H
          have A36 := am A360
          clear A360
          by_cases c37 : t479 = true
          ·subst c37
           have H1 : (if ((rd_T59 t463 x7_1).f4) = t458 then ((impl_SeesNode.f k1 t456 t457 t458 ((rd_T59 t463 x7_1).f0)).bind fun t482 => (laws_FnSight.j1 k1 l0 t456 t457 t458 t463 x7_1 (!t482))) else (laws_FnSight.j1 k1 l0 t456 t457 t458 t463 x7_1 true)) = some r := by rw [if_pos rfl] at H; exact H
           clear H
           have H := H1
           clear H1
           by_cases c38 : ((rd_T59 t463 x7_1).f4) = t458
           ·rw [if_pos c38] at H
            have c38b0 : (((rd_T59 t463 x7_1).f4) == t458) = true := beq_iff_eq.mpr c38
            have c38b1 : (((rd_T59 t463 x7_1).f4) != t458) = false := bne_eq_false_iff_eq.mpr c38
            clear c38
            replace H := Option.bind_eq_some_iff.mp H
            obtain ⟨t482, A390, H⟩ := H
            replace H : (laws_FnSight.j1 k1 l0 t456 t457 t458 t463 x7_1 (!t482)) = some r := H
            have A39 := am A390
            clear A390
            have H' := am H
            clear H
            have p466 : 0 ≤ (x7_1 : Int) := dU
            have q466 : x7_1 < (t463.length : Int) := dU
            obtain ⟨ad466, e466, hx466_0, hx466_1, hx466_2, hx466_3, hx466_4⟩ := at_T59 (Kd.R_reads' HO_6.out).2.2 x7_1 p466 q466
            cases e466
            replace p466 := eq_true p466
            replace q466 := eq_true q466
            go_wp2_with (first | ((with_reducible refine gate_callee (f := 40) rfl ?_); refine goesL_ (some 39) rfl rfl Try.func40 (by kernel_rfl) rfl #[.slice Ao7 t456.length co7, .int .i64 ((rd_T59 t463 x7_1).f0)] rfl mU ?_; (with_reducible refine (impl_NodeOf.calls k1 _ _ t456 ((rd_T59 t463 x7_1).f0) t467 _ ?side1 ?side2 A14.out).mono ?_); (case side1 => exact cU (Kd.R_reads' HO_3.out).2.2); (case side2 => exact (Kd.R_reads' HO_3.out).2.1); rintro e w40 ⟨rfl, hb⟩; refine ⟨_, rfl, ?_⟩; have n0_ := am (Kd.R_below (rU HO_3.out) hb); have n1_ := am (Kd.R_below (rU HO_4.out) hb); have n2_ := am (Kd.R_below (rU HO_6.out) hb); have n3_ := am (below_step (bU HB.out) hb); clear HO_3; clear HO_4; clear HO_6; clear HB; have HO_3 := n0_; have HO_4 := n1_; have HO_6 := n2_; have HB := n3_; clear n0_ n1_ n2_ n3_; (try clear hb); (try clear hb2); (try clear hk); (try clear hi); have p468 : 0 ≤ (x7_1 : Int) := dU; have q468 : x7_1 < (t463.length : Int) := dU; obtain ⟨ad468, e468, hx468_0, hx468_1, hx468_2, hx468_3, hx468_4⟩ := at_T59 (Kd.R_reads' HO_6.out).2.2 x7_1 p468 q468; obtain rfl : ad466 = ad468 := (by injection e468); replace p468 := eq_true p468; replace q468 := eq_true q468; have p478 : 0 ≤ (x7_1 : Int) := dU; have q478 : x7_1 < (t463.length : Int) := dU; obtain ⟨ad478, e478, hx478_0, hx478_1, hx478_2, hx478_3, hx478_4⟩ := at_T59 (Kd.R_reads' HO_6.out).2.2 x7_1 p478 q478; obtain rfl : ad466 = ad478 := (by injection e478); replace p478 := eq_true p478; replace q478 := eq_true q478) | (go_at_call 41; (with_reducible refine (laws_contains.calls k1 _ _ t457 ((rd_T59 t463 x7_1).f2) true _ ?side1 ?side2 A36.out).mono ?_); (case side1 => exact cU (Kd.R_reads' HO_4.out).2.2); (case side2 => exact (Kd.R_reads' HO_4.out).2.1); rintro e w' ⟨rfl, ⟨nd, rfl⟩⟩; have p480 : 0 ≤ (x7_1 : Int) := dU; have q480 : x7_1 < (t463.length : Int) := dU; obtain ⟨ad480, e480, hx480_0, hx480_1, hx480_2, hx480_3, hx480_4⟩ := at_T59 (Kd.R_reads' HO_6.out).2.2 x7_1 p480 q480; obtain rfl : ad466 = ad480 := (by injection e480); replace p480 := eq_true p480; replace q480 := eq_true q480; have p481 : 0 ≤ (x7_1 : Int) := dU; have q481 : x7_1 < (t463.length : Int) := dU; obtain ⟨ad481, e481, hx481_0, hx481_1, hx481_2, hx481_3, hx481_4⟩ := at_T59 (Kd.R_reads' HO_6.out).2.2 x7_1 p481 q481; obtain rfl : ad466 = ad481 := (by injection e481); replace p481 := eq_true p481; replace q481 := eq_true q481) | (go_at_call 42; (with_reducible refine (impl_SeesNode.calls k1 _ _ t456 _ _ t457 t458 ((rd_T59 t463 x7_1).f0) t482 _ ?side1 ?side2 ?side3 ?side4 A39.out).mono ?_); (case side1 => exact cU (Kd.R_reads' HO_3.out).2.2); (case side2 => exact (Kd.R_reads' HO_3.out).2.1); (case side3 => exact cU (Kd.R_reads' HO_4.out).2.2); (case side4 => exact (Kd.R_reads' HO_4.out).2.1); rintro e w41 ⟨rfl, hb⟩; have n0_ := am (Kd.R_below (rU HO_3.out) hb); have n1_ := am (Kd.R_below (rU HO_4.out) hb); have n2_ := am (Kd.R_below (rU HO_6.out) hb); have n3_ := am (below_step (bU HB.out) hb); clear HO_3; clear HO_4; clear HO_6; clear HB; have HO_3 := n0_; have HO_4 := n1_; have HO_6 := n2_; have HB := n3_; clear n0_ n1_ n2_ n3_; (try clear hb); (try clear hb2); (try clear hk); (try clear hi)))
            go_meet
            case rel => exact ⟨_, (!t482), (by first | rfl | (simp; done) | (simp [*]; done)), H', ⟨by have := HK1.out; first | omega | exact Nat.le_refl _⟩, ⟨rU HO_3.out⟩, ⟨rU HO_4.out⟩, ⟨rU HO_6.out⟩, ⟨bU HB.out⟩⟩
           ·rw [if_neg c38] at H
            have c38b0 : (((rd_T59 t463 x7_1).f4) == t458) = false := beq_eq_false_iff_ne.mpr c38
            have c38b1 : (((rd_T59 t463 x7_1).f4) != t458) = true := bne_iff_ne.mpr c38
            have H' := am H
            clear H
            have p466 : 0 ≤ (x7_1 : Int) := dU
            have q466 : x7_1 < (t463.length : Int) := dU
            obtain ⟨ad466, e466, hx466_0, hx466_1, hx466_2, hx466_3, hx466_4⟩ := at_T59 (Kd.R_reads' HO_6.out).2.2 x7_1 p466 q466
            cases e466
            replace p466 := eq_true p466
            replace q466 := eq_true q466
            go_wp2_with (first | ((with_reducible refine gate_callee (f := 40) rfl ?_); refine goesL_ (some 39) rfl rfl Try.func40 (by kernel_rfl) rfl #[.slice Ao7 t456.length co7, .int .i64 ((rd_T59 t463 x7_1).f0)] rfl mU ?_; (with_reducible refine (impl_NodeOf.calls k1 _ _ t456 ((rd_T59 t463 x7_1).f0) t467 _ ?side1 ?side2 A14.out).mono ?_); (case side1 => exact cU (Kd.R_reads' HO_3.out).2.2); (case side2 => exact (Kd.R_reads' HO_3.out).2.1); rintro e w42 ⟨rfl, hb⟩; refine ⟨_, rfl, ?_⟩; have n0_ := am (Kd.R_below (rU HO_3.out) hb); have n1_ := am (Kd.R_below (rU HO_4.out) hb); have n2_ := am (Kd.R_below (rU HO_6.out) hb); have n3_ := am (below_step (bU HB.out) hb); clear HO_3; clear HO_4; clear HO_6; clear HB; have HO_3 := n0_; have HO_4 := n1_; have HO_6 := n2_; have HB := n3_; clear n0_ n1_ n2_ n3_; (try clear hb); (try clear hb2); (try clear hk); (try clear hi); have p468 : 0 ≤ (x7_1 : Int) := dU; have q468 : x7_1 < (t463.length : Int) := dU; obtain ⟨ad468, e468, hx468_0, hx468_1, hx468_2, hx468_3, hx468_4⟩ := at_T59 (Kd.R_reads' HO_6.out).2.2 x7_1 p468 q468; obtain rfl : ad466 = ad468 := (by injection e468); replace p468 := eq_true p468; replace q468 := eq_true q468; have p478 : 0 ≤ (x7_1 : Int) := dU; have q478 : x7_1 < (t463.length : Int) := dU; obtain ⟨ad478, e478, hx478_0, hx478_1, hx478_2, hx478_3, hx478_4⟩ := at_T59 (Kd.R_reads' HO_6.out).2.2 x7_1 p478 q478; obtain rfl : ad466 = ad478 := (by injection e478); replace p478 := eq_true p478; replace q478 := eq_true q478) | (go_at_call 41; (with_reducible refine (laws_contains.calls k1 _ _ t457 ((rd_T59 t463 x7_1).f2) true _ ?side1 ?side2 A36.out).mono ?_); (case side1 => exact cU (Kd.R_reads' HO_4.out).2.2); (case side2 => exact (Kd.R_reads' HO_4.out).2.1); rintro e w' ⟨rfl, ⟨nd, rfl⟩⟩; have p480 : 0 ≤ (x7_1 : Int) := dU; have q480 : x7_1 < (t463.length : Int) := dU; obtain ⟨ad480, e480, hx480_0, hx480_1, hx480_2, hx480_3, hx480_4⟩ := at_T59 (Kd.R_reads' HO_6.out).2.2 x7_1 p480 q480; obtain rfl : ad466 = ad480 := (by injection e480); replace p480 := eq_true p480; replace q480 := eq_true q480))
            go_meet
            case rel => exact ⟨_, (true), (by first | rfl | (simp; done) | (simp [*]; done)), H', ⟨by have := HK1.out; first | omega | exact Nat.le_refl _⟩, ⟨rU HO_3.out⟩, ⟨rU HO_4.out⟩, ⟨rU HO_6.out⟩, ⟨bU HB.out⟩⟩
          ·replace c37 := Bool.eq_false_iff.mpr c37
           subst c37
           have H1 : ((impl_SeesNode.f k1 t456 t457 t458 ((rd_T59 t463 x7_1).f0)).bind fun t484 => (laws_FnSight.j1 k1 l0 t456 t457 t458 t463 x7_1 (!t484))) = some r := by rw [if_neg (show ¬ (false = true) by decide)] at H; exact H
           clear H
           have H := H1
           clear H1
           replace H := Option.bind_eq_some_iff.mp H
           obtain ⟨t484, A430, H⟩ := H
           replace H : (laws_FnSight.j1 k1 l0 t456 t457 t458 t463 x7_1 (!t484)) = some r := H
           have A43 := am A430
           clear A430
           have H' := am H
           clear H
           have p466 : 0 ≤ (x7_1 : Int) := dU
           have q466 : x7_1 < (t463.length : Int) := dU
           obtain ⟨ad466, e466, hx466_0, hx466_1, hx466_2, hx466_3, hx466_4⟩ := at_T59 (Kd.R_reads' HO_6.out).2.2 x7_1 p466 q466
           cases e466
           replace p466 := eq_true p466
           replace q466 := eq_true q466
           go_wp2_with (first | ((with_reducible refine gate_callee (f := 40) rfl ?_); refine goesL_ (some 39) rfl rfl Try.func40 (by kernel_rfl) rfl #[.slice Ao7 t456.length co7, .int .i64 ((rd_T59 t463 x7_1).f0)] rfl mU ?_; (with_reducible refine (impl_NodeOf.calls k1 _ _ t456 ((rd_T59 t463 x7_1).f0) t467 _ ?side1 ?side2 A14.out).mono ?_); (case side1 => exact cU (Kd.R_reads' HO_3.out).2.2); (case side2 => exact (Kd.R_reads' HO_3.out).2.1); rintro e w44 ⟨rfl, hb⟩; refine ⟨_, rfl, ?_⟩; have n0_ := am (Kd.R_below (rU HO_3.out) hb); have n1_ := am (Kd.R_below (rU HO_4.out) hb); have n2_ := am (Kd.R_below (rU HO_6.out) hb); have n3_ := am (below_step (bU HB.out) hb); clear HO_3; clear HO_4; clear HO_6; clear HB; have HO_3 := n0_; have HO_4 := n1_; have HO_6 := n2_; have HB := n3_; clear n0_ n1_ n2_ n3_; (try clear hb); (try clear hb2); (try clear hk); (try clear hi); have p468 : 0 ≤ (x7_1 : Int) := dU; have q468 : x7_1 < (t463.length : Int) := dU; obtain ⟨ad468, e468, hx468_0, hx468_1, hx468_2, hx468_3, hx468_4⟩ := at_T59 (Kd.R_reads' HO_6.out).2.2 x7_1 p468 q468; obtain rfl : ad466 = ad468 := (by injection e468); replace p468 := eq_true p468; replace q468 := eq_true q468; have p478 : 0 ≤ (x7_1 : Int) := dU; have q478 : x7_1 < (t463.length : Int) := dU; obtain ⟨ad478, e478, hx478_0, hx478_1, hx478_2, hx478_3, hx478_4⟩ := at_T59 (Kd.R_reads' HO_6.out).2.2 x7_1 p478 q478; obtain rfl : ad466 = ad478 := (by injection e478); replace p478 := eq_true p478; replace q478 := eq_true q478) | (go_at_call 41; (with_reducible refine (laws_contains.calls k1 _ _ t457 ((rd_T59 t463 x7_1).f2) false _ ?side1 ?side2 A36.out).mono ?_); (case side1 => exact cU (Kd.R_reads' HO_4.out).2.2); (case side2 => exact (Kd.R_reads' HO_4.out).2.1); rintro e w' ⟨rfl, ⟨nd, rfl⟩⟩; have p483 : 0 ≤ (x7_1 : Int) := dU; have q483 : x7_1 < (t463.length : Int) := dU; obtain ⟨ad483, e483, hx483_0, hx483_1, hx483_2, hx483_3, hx483_4⟩ := at_T59 (Kd.R_reads' HO_6.out).2.2 x7_1 p483 q483; obtain rfl : ad466 = ad483 := (by injection e483); replace p483 := eq_true p483; replace q483 := eq_true q483) | (go_at_call 42; (with_reducible refine (impl_SeesNode.calls k1 _ _ t456 _ _ t457 t458 ((rd_T59 t463 x7_1).f0) t484 _ ?side1 ?side2 ?side3 ?side4 A43.out).mono ?_); (case side1 => exact cU (Kd.R_reads' HO_3.out).2.2); (case side2 => exact (Kd.R_reads' HO_3.out).2.1); (case side3 => exact cU (Kd.R_reads' HO_4.out).2.2); (case side4 => exact (Kd.R_reads' HO_4.out).2.1); rintro e w45 ⟨rfl, hb⟩; have n0_ := am (Kd.R_below (rU HO_3.out) hb); have n1_ := am (Kd.R_below (rU HO_4.out) hb); have n2_ := am (Kd.R_below (rU HO_6.out) hb); have n3_ := am (below_step (bU HB.out) hb); clear HO_3; clear HO_4; clear HO_6; clear HB; have HO_3 := n0_; have HO_4 := n1_; have HO_6 := n2_; have HB := n3_; clear n0_ n1_ n2_ n3_; (try clear hb); (try clear hb2); (try clear hk); (try clear hi)))
           go_meet
           case rel => exact ⟨_, (!t484), (by first | rfl | (simp; done) | (simp [*]; done)), H', ⟨by have := HK1.out; first | omega | exact Nat.le_refl _⟩, ⟨rU HO_3.out⟩, ⟨rU HO_4.out⟩, ⟨rU HO_6.out⟩, ⟨bU HB.out⟩⟩
        ·rw [if_neg c17] at H
         have c17b0 : decide (0 < x7_1) = false := decide_eq_false c17
         clear c17
         replace H := Option.bind_eq_some_iff.mp H
         obtain ⟨t486, A460, H⟩ := H
         replace H : (if t486 = true then (if ((rd_T59 t463 x7_1).f4) = t458 then ((impl_SeesNode.f k1 t456 t457 t458 ((rd_T59 t463 x7_1).f0)).bind fun t489 => (laws_FnSight.j1 k1 l0 t456 t457 t458 t463 x7_1 (!t489))) else (laws_FnSight.j1 k1 l0 t456 t457 t458 t463 x7_1 true)) else ((impl_SeesNode.f k1 t456 t457 t458 ((rd_T59 t463 x7_1).f0)).bind fun t491 => (laws_FnSight.j1 k1 l0 t456 t457 t458 t463 x7_1 (!t491)))) = some r := H
         have A46 := am A460
         clear A460
         by_cases c47 : t486 = true
         ·subst c47
          have H1 : (if ((rd_T59 t463 x7_1).f4) = t458 then ((impl_SeesNode.f k1 t456 t457 t458 ((rd_T59 t463 x7_1).f0)).bind fun t489 => (laws_FnSight.j1 k1 l0 t456 t457 t458 t463 x7_1 (!t489))) else (laws_FnSight.j1 k1 l0 t456 t457 t458 t463 x7_1 true)) = some r := by rw [if_pos rfl] at H; exact H
          clear H
          have H := H1
          clear H1
          by_cases c48 : ((rd_T59 t463 x7_1).f4) = t458
          ·rw [if_pos c48] at H
           have c48b0 : (((rd_T59 t463 x7_1).f4) == t458) = true := beq_iff_eq.mpr c48
           have c48b1 : (((rd_T59 t463 x7_1).f4) != t458) = false := bne_eq_false_iff_eq.mpr c48
           clear c48
           replace H := Option.bind_eq_some_iff.mp H
           obtain ⟨t489, A490, H⟩ := H
           replace H : (laws_FnSight.j1 k1 l0 t456 t457 t458 t463 x7_1 (!t489)) = some r := H
           have A49 := am A490
           clear A490
           have H' := am H
           clear H
           have p466 : 0 ≤ (x7_1 : Int) := dU
           have q466 : x7_1 < (t463.length : Int) := dU
           obtain ⟨ad466, e466, hx466_0, hx466_1, hx466_2, hx466_3, hx466_4⟩ := at_T59 (Kd.R_reads' HO_6.out).2.2 x7_1 p466 q466
           cases e466
           replace p466 := eq_true p466
           replace q466 := eq_true q466
           go_wp2_with (first | ((with_reducible refine gate_callee (f := 40) rfl ?_); refine goesL_ (some 39) rfl rfl Try.func40 (by kernel_rfl) rfl #[.slice Ao7 t456.length co7, .int .i64 ((rd_T59 t463 x7_1).f0)] rfl mU ?_; (with_reducible refine (impl_NodeOf.calls k1 _ _ t456 ((rd_T59 t463 x7_1).f0) t467 _ ?side1 ?side2 A14.out).mono ?_); (case side1 => exact cU (Kd.R_reads' HO_3.out).2.2); (case side2 => exact (Kd.R_reads' HO_3.out).2.1); rintro e w50 ⟨rfl, hb⟩; refine ⟨_, rfl, ?_⟩; have n0_ := am (Kd.R_below (rU HO_3.out) hb); have n1_ := am (Kd.R_below (rU HO_4.out) hb); have n2_ := am (Kd.R_below (rU HO_6.out) hb); have n3_ := am (below_step (bU HB.out) hb); clear HO_3; clear HO_4; clear HO_6; clear HB; have HO_3 := n0_; have HO_4 := n1_; have HO_6 := n2_; have HB := n3_; clear n0_ n1_ n2_ n3_; (try clear hb); (try clear hb2); (try clear hk); (try clear hi); have p485 : 0 ≤ (x7_1 : Int) := dU; have q485 : x7_1 < (t463.length : Int) := dU; obtain ⟨ad485, e485, hx485_0, hx485_1, hx485_2, hx485_3, hx485_4⟩ := at_T59 (Kd.R_reads' HO_6.out).2.2 x7_1 p485 q485; obtain rfl : ad466 = ad485 := (by injection e485); replace p485 := eq_true p485; replace q485 := eq_true q485) | (go_at_call 41; (with_reducible refine (laws_contains.calls k1 _ _ t457 ((rd_T59 t463 x7_1).f2) true _ ?side1 ?side2 A46.out).mono ?_); (case side1 => exact cU (Kd.R_reads' HO_4.out).2.2); (case side2 => exact (Kd.R_reads' HO_4.out).2.1); rintro e w' ⟨rfl, ⟨nd, rfl⟩⟩; have p487 : 0 ≤ (x7_1 : Int) := dU; have q487 : x7_1 < (t463.length : Int) := dU; obtain ⟨ad487, e487, hx487_0, hx487_1, hx487_2, hx487_3, hx487_4⟩ := at_T59 (Kd.R_reads' HO_6.out).2.2 x7_1 p487 q487; obtain rfl : ad466 = ad487 := (by injection e487); replace p487 := eq_true p487; replace q487 := eq_true q487; have p488 : 0 ≤ (x7_1 : Int) := dU; have q488 : x7_1 < (t463.length : Int) := dU; obtain ⟨ad488, e488, hx488_0, hx488_1, hx488_2, hx488_3, hx488_4⟩ := at_T59 (Kd.R_reads' HO_6.out).2.2 x7_1 p488 q488; obtain rfl : ad466 = ad488 := (by injection e488); replace p488 := eq_true p488; replace q488 := eq_true q488) | (go_at_call 42; (with_reducible refine (impl_SeesNode.calls k1 _ _ t456 _ _ t457 t458 ((rd_T59 t463 x7_1).f0) t489 _ ?side1 ?side2 ?side3 ?side4 A49.out).mono ?_); (case side1 => exact cU (Kd.R_reads' HO_3.out).2.2); (case side2 => exact (Kd.R_reads' HO_3.out).2.1); (case side3 => exact cU (Kd.R_reads' HO_4.out).2.2); (case side4 => exact (Kd.R_reads' HO_4.out).2.1); rintro e w51 ⟨rfl, hb⟩; have n0_ := am (Kd.R_below (rU HO_3.out) hb); have n1_ := am (Kd.R_below (rU HO_4.out) hb); have n2_ := am (Kd.R_below (rU HO_6.out) hb); have n3_ := am (below_step (bU HB.out) hb); clear HO_3; clear HO_4; clear HO_6; clear HB; have HO_3 := n0_; have HO_4 := n1_; have HO_6 := n2_; have HB := n3_; clear n0_ n1_ n2_ n3_; (try clear hb); (try clear hb2); (try clear hk); (try clear hi)))
           go_meet
           case rel => exact ⟨_, (!t489), (by first | rfl | (simp; done) | (simp [*]; done)), H', ⟨by have := HK1.out; first | omega | exact Nat.le_refl _⟩, ⟨rU HO_3.out⟩, ⟨rU HO_4.out⟩, ⟨rU HO_6.out⟩, ⟨bU HB.out⟩⟩
          ·rw [if_neg c48] at H
           have c48b0 : (((rd_T59 t463 x7_1).f4) == t458) = false := beq_eq_false_iff_ne.mpr c48
           have c48b1 : (((rd_T59 t463 x7_1).f4) != t458) = true := bne_iff_ne.mpr c48
           have H' := am H
           clear H
           have p466 : 0 ≤ (x7_1 : Int) := dU
           have q466 : x7_1 < (t463.length : Int) := dU
           obtain ⟨ad466, e466, hx466_0, hx466_1, hx466_2, hx466_3, hx466_4⟩ := at_T59 (Kd.R_reads' HO_6.out).2.2 x7_1 p466 q466
           cases e466
           replace p466 := eq_true p466
           replace q466 := eq_true q466
           go_wp2_with (first | ((with_reducible refine gate_callee (f := 40) rfl ?_); refine goesL_ (some 39) rfl rfl Try.func40 (by kernel_rfl) rfl #[.slice Ao7 t456.length co7, .int .i64 ((rd_T59 t463 x7_1).f0)] rfl mU ?_; (with_reducible refine (impl_NodeOf.calls k1 _ _ t456 ((rd_T59 t463 x7_1).f0) t467 _ ?side1 ?side2 A14.out).mono ?_); (case side1 => exact cU (Kd.R_reads' HO_3.out).2.2); (case side2 => exact (Kd.R_reads' HO_3.out).2.1); rintro e w52 ⟨rfl, hb⟩; refine ⟨_, rfl, ?_⟩; have n0_ := am (Kd.R_below (rU HO_3.out) hb); have n1_ := am (Kd.R_below (rU HO_4.out) hb); have n2_ := am (Kd.R_below (rU HO_6.out) hb); have n3_ := am (below_step (bU HB.out) hb); clear HO_3; clear HO_4; clear HO_6; clear HB; have HO_3 := n0_; have HO_4 := n1_; have HO_6 := n2_; have HB := n3_; clear n0_ n1_ n2_ n3_; (try clear hb); (try clear hb2); (try clear hk); (try clear hi); have p485 : 0 ≤ (x7_1 : Int) := dU; have q485 : x7_1 < (t463.length : Int) := dU; obtain ⟨ad485, e485, hx485_0, hx485_1, hx485_2, hx485_3, hx485_4⟩ := at_T59 (Kd.R_reads' HO_6.out).2.2 x7_1 p485 q485; obtain rfl : ad466 = ad485 := (by injection e485); replace p485 := eq_true p485; replace q485 := eq_true q485) | (go_at_call 41; (with_reducible refine (laws_contains.calls k1 _ _ t457 ((rd_T59 t463 x7_1).f2) true _ ?side1 ?side2 A46.out).mono ?_); (case side1 => exact cU (Kd.R_reads' HO_4.out).2.2); (case side2 => exact (Kd.R_reads' HO_4.out).2.1); rintro e w' ⟨rfl, ⟨nd, rfl⟩⟩; have p487 : 0 ≤ (x7_1 : Int) := dU; have q487 : x7_1 < (t463.length : Int) := dU; obtain ⟨ad487, e487, hx487_0, hx487_1, hx487_2, hx487_3, hx487_4⟩ := at_T59 (Kd.R_reads' HO_6.out).2.2 x7_1 p487 q487; obtain rfl : ad466 = ad487 := (by injection e487); replace p487 := eq_true p487; replace q487 := eq_true q487))
           go_meet
           case rel => exact ⟨_, (true), (by first | rfl | (simp; done) | (simp [*]; done)), H', ⟨by have := HK1.out; first | omega | exact Nat.le_refl _⟩, ⟨rU HO_3.out⟩, ⟨rU HO_4.out⟩, ⟨rU HO_6.out⟩, ⟨bU HB.out⟩⟩
         ·replace c47 := Bool.eq_false_iff.mpr c47
          subst c47
          have H1 : ((impl_SeesNode.f k1 t456 t457 t458 ((rd_T59 t463 x7_1).f0)).bind fun t491 => (laws_FnSight.j1 k1 l0 t456 t457 t458 t463 x7_1 (!t491))) = some r := by rw [if_neg (show ¬ (false = true) by decide)] at H; exact H
          clear H
          have H := H1
          clear H1
          replace H := Option.bind_eq_some_iff.mp H
          obtain ⟨t491, A530, H⟩ := H
          replace H : (laws_FnSight.j1 k1 l0 t456 t457 t458 t463 x7_1 (!t491)) = some r := H
          have A53 := am A530
          clear A530
          have H' := am H
          clear H
          have p466 : 0 ≤ (x7_1 : Int) := dU
          have q466 : x7_1 < (t463.length : Int) := dU
          obtain ⟨ad466, e466, hx466_0, hx466_1, hx466_2, hx466_3, hx466_4⟩ := at_T59 (Kd.R_reads' HO_6.out).2.2 x7_1 p466 q466
          cases e466
          replace p466 := eq_true p466
          replace q466 := eq_true q466
          go_wp2_with (first | ((with_reducible refine gate_callee (f := 40) rfl ?_); refine goesL_ (some 39) rfl rfl Try.func40 (by kernel_rfl) rfl #[.slice Ao7 t456.length co7, .int .i64 ((rd_T59 t463 x7_1).f0)] rfl mU ?_; (with_reducible refine (impl_NodeOf.calls k1 _ _ t456 ((rd_T59 t463 x7_1).f0) t467 _ ?side1 ?side2 A14.out).mono ?_); (case side1 => exact cU (Kd.R_reads' HO_3.out).2.2); (case side2 => exact (Kd.R_reads' HO_3.out).2.1); rintro e w54 ⟨rfl, hb⟩; refine ⟨_, rfl, ?_⟩; have n0_ := am (Kd.R_below (rU HO_3.out) hb); have n1_ := am (Kd.R_below (rU HO_4.out) hb); have n2_ := am (Kd.R_below (rU HO_6.out) hb); have n3_ := am (below_step (bU HB.out) hb); clear HO_3; clear HO_4; clear HO_6; clear HB; have HO_3 := n0_; have HO_4 := n1_; have HO_6 := n2_; have HB := n3_; clear n0_ n1_ n2_ n3_; (try clear hb); (try clear hb2); (try clear hk); (try clear hi); have p485 : 0 ≤ (x7_1 : Int) := dU; have q485 : x7_1 < (t463.length : Int) := dU; obtain ⟨ad485, e485, hx485_0, hx485_1, hx485_2, hx485_3, hx485_4⟩ := at_T59 (Kd.R_reads' HO_6.out).2.2 x7_1 p485 q485; obtain rfl : ad466 = ad485 := (by injection e485); replace p485 := eq_true p485; replace q485 := eq_true q485) | (go_at_call 41; (with_reducible refine (laws_contains.calls k1 _ _ t457 ((rd_T59 t463 x7_1).f2) false _ ?side1 ?side2 A46.out).mono ?_); (case side1 => exact cU (Kd.R_reads' HO_4.out).2.2); (case side2 => exact (Kd.R_reads' HO_4.out).2.1); rintro e w' ⟨rfl, ⟨nd, rfl⟩⟩; have p490 : 0 ≤ (x7_1 : Int) := dU; have q490 : x7_1 < (t463.length : Int) := dU; obtain ⟨ad490, e490, hx490_0, hx490_1, hx490_2, hx490_3, hx490_4⟩ := at_T59 (Kd.R_reads' HO_6.out).2.2 x7_1 p490 q490; obtain rfl : ad466 = ad490 := (by injection e490); replace p490 := eq_true p490; replace q490 := eq_true q490) | (go_at_call 42; (with_reducible refine (impl_SeesNode.calls k1 _ _ t456 _ _ t457 t458 ((rd_T59 t463 x7_1).f0) t491 _ ?side1 ?side2 ?side3 ?side4 A53.out).mono ?_); (case side1 => exact cU (Kd.R_reads' HO_3.out).2.2); (case side2 => exact (Kd.R_reads' HO_3.out).2.1); (case side3 => exact cU (Kd.R_reads' HO_4.out).2.2); (case side4 => exact (Kd.R_reads' HO_4.out).2.1); rintro e w55 ⟨rfl, hb⟩; have n0_ := am (Kd.R_below (rU HO_3.out) hb); have n1_ := am (Kd.R_below (rU HO_4.out) hb); have n2_ := am (Kd.R_below (rU HO_6.out) hb); have n3_ := am (below_step (bU HB.out) hb); clear HO_3; clear HO_4; clear HO_6; clear HB; have HO_3 := n0_; have HO_4 := n1_; have HO_6 := n2_; have HB := n3_; clear n0_ n1_ n2_ n3_; (try clear hb); (try clear hb2); (try clear hk); (try clear hi)))
          go_meet
          case rel => exact ⟨_, (!t491), (by first | rfl | (simp; done) | (simp [*]; done)), H', ⟨by have := HK1.out; first | omega | exact Nat.le_refl _⟩, ⟨rU HO_3.out⟩, ⟨rU HO_4.out⟩, ⟨rU HO_6.out⟩, ⟨bU HB.out⟩⟩
      ·rw [if_neg c13] at H
       exact absurd H (by simp)
     case rest =>
      clear HC11
      try clear c1
      try clear c2
      try clear p2
      try clear c3
      try clear c4
      try clear p4
      try clear q4
      try clear hx4
      try clear c8
      try clear c10
      try clear c10b0
      try clear c13
      try clear c13b0
      try clear c15
      try clear c15b0
      try clear c17
      try clear c17b0
      try clear c18
      try clear c18b0
      try clear c20
      try clear c20b0
      try clear c24
      try clear c25
      try clear c25b0
      try clear c25b1
      try clear c37
      try clear c38
      try clear c38b0
      try clear c38b1
      try clear c39
      try clear c40
      try clear p46
      try clear q46
      try clear hx46
      try clear c47
      try clear p47
      try clear q47
      try clear hx47
      try clear c48
      try clear c48b0
      try clear c48b1
      try clear p48
      try clear q48
      try clear hx48
      try clear p49
      try clear q49
      try clear hx49
      try clear hx466_0
      try clear hx466_1
      try clear hx466_2
      try clear hx466_3
      try clear hx466_4
      try clear hx468_0
      try clear hx468_1
      try clear hx468_2
      try clear hx468_3
      try clear hx468_4
      try clear hx469_0
      try clear hx469_1
      try clear hx469_2
      try clear hx469_3
      try clear hx469_4
      try clear hx471_0
      try clear hx471_1
      try clear hx471_2
      try clear hx471_3
      try clear hx471_4
      try clear hx473_0
      try clear hx473_1
      try clear hx473_2
      try clear hx473_3
      try clear hx473_4
      try clear hx474_0
      try clear hx474_1
      try clear hx474_2
      try clear hx474_3
      try clear hx474_4
      try clear hx476_0
      try clear hx476_1
      try clear hx476_2
      try clear hx476_3
      try clear hx476_4
      try clear hx478_0
      try clear hx478_1
      try clear hx478_2
      try clear hx478_3
      try clear hx478_4
      try clear hx480_0
      try clear hx480_1
      try clear hx480_2
      try clear hx480_3
      try clear hx480_4
      try clear hx481_0
      try clear hx481_1
      try clear hx481_2
      try clear hx481_3
      try clear hx481_4
      try clear hx483_0
      try clear hx483_1
      try clear hx483_2
      try clear hx483_3
      try clear hx483_4
      try clear hx485_0
      try clear hx485_1
      try clear hx485_2
      try clear hx485_3
      try clear hx485_4
      try clear hx487_0
      try clear hx487_1
      try clear hx487_2
      try clear hx487_3
      try clear hx487_4
      try clear hx488_0
      try clear hx488_1
      try clear hx488_2
      try clear hx488_3
      try clear hx488_4
      try clear hx490_0
      try clear hx490_1
      try clear hx490_2
      try clear hx490_3
      try clear hx490_4
      try clear p2
      try clear p466
      try clear p468
      try clear p469
      try clear p471
      try clear p473
      try clear p474
      try clear p476
      try clear p478
      try clear p480
      try clear p481
      try clear p483
      try clear p485
      try clear p487
      try clear p488
      try clear p490
      try clear q466
      try clear q468
      try clear q469
      try clear q471
      try clear q473
      try clear q474
      try clear q476
      try clear q478
      try clear q480
      try clear q481
      try clear q483
      try clear q485
      try clear q487
      try clear q488
      try clear q490
      obtain ⟨kq, x92_10, rfl, HA, HJ10, HO_3, HO_4, HO_6, HB⟩ := hcut
      cases kq with
      | zero => exact absurd HA.out (by simp [laws_FnSight.j1])
      | succ kj10 =>
       have H := HA.out
       clear HA
       simp only [laws_FnSight.j1] at H
       by_cases c56 : x92_10 = true
       ·subst c56
        have H1 : (some false) = some r := by rw [if_pos rfl] at H; exact H
        clear H
        have H := H1
        clear H1
        obtain rfl := Option.some.inj H
        go_wp2
        go_ret
        exact ⟨eU, bU HB.out⟩
       ·replace c56 := Bool.eq_false_iff.mpr c56
        subst c56
        have H1 : (laws_FnSight.l0 kj10 l0 t456 t457 t458 t463 (wrap64 (x7_1 + 1))) = some r := by rw [if_neg (show ¬ (false = true) by decide)] at H; exact H
        clear H
        have H := H1
        clear H1
        have H' := am H
        clear H
        go_wp2
        go_roundg kj10
        case measure => have := HK1.out; have := HJ10.out; omega
        case rel => exact ⟨(wrap64 (x7_1 + 1)), (by first | rfl | (simp; done) | (simp [*]; done)), H', ⟨by have := HK1.out; have := HJ10.out; omega⟩, ⟨rU HO_3.out⟩, ⟨rU HO_4.out⟩, ⟨rU HO_6.out⟩, ⟨bU HB.out⟩⟩
    ·rw [if_neg c10] at H
     have c10b0 : decide (x7_1 < (t463.length : Int)) = false := decide_eq_false c10
     clear c10
     replace H := Option.bind_eq_some_iff.mp H
     obtain ⟨t492, A570, H⟩ := H
     replace H : (if (wrap64 (t492 + (t463.length : Int))) = (t456.length : Int) then ((spec_DrawGuardEdit.f k1 l0).bind fun bt493 => ((impl_GuardEdit.f k1 bt493.1 bt493.2.1 bt493.2.2.1 bt493.2.2.2.1 bt493.2.2.2.2.1 bt493.2.2.2.2.2.1 bt493.2.2.2.2.2.2.1 bt493.2.2.2.2.2.2.2).bind fun bt506 => (if bt506.2 = true then ((impl_MayEdit.f k1 bt493.1 bt493.2.1 bt493.2.2.1 bt493.2.2.2.1 bt493.2.2.2.2.1 bt493.2.2.2.2.2.1 bt493.2.2.2.2.2.2.1 bt493.2.2.2.2.2.2.2).bind fun t510 => (if t510 = true then (laws_FnSight.j2 k1 bt493.1 bt493.2.1 bt506.1 bt506.2 false bt493.2.2.1 bt493.2.2.2.1 bt493.2.2.2.2.1 bt493.2.2.2.2.2.1 bt493.2.2.2.2.2.2.1 bt493.2.2.2.2.2.2.2) else (laws_FnSight.j2 k1 bt493.1 bt493.2.1 bt506.1 bt506.2 true bt493.2.2.1 bt493.2.2.2.1 bt493.2.2.2.2.1 bt493.2.2.2.2.2.1 bt493.2.2.2.2.2.2.1 bt493.2.2.2.2.2.2.2))) else ((impl_EqualDocuments.f k1 bt506.1 bt493.1).bind fun t511 => (laws_FnSight.j2 k1 bt493.1 bt493.2.1 bt506.1 bt506.2 (!t511) bt493.2.2.1 bt493.2.2.2.1 bt493.2.2.2.2.1 bt493.2.2.2.2.2.1 bt493.2.2.2.2.2.2.1 bt493.2.2.2.2.2.2.2))))) else (some false)) = some r := H
     have A57 := am A570
     clear A570
     by_cases c58 : (wrap64 (t492 + (t463.length : Int))) = (t456.length : Int)
     ·rw [if_pos c58] at H
      have c58b0 : ((wrap64 (t492 + (t463.length : Int))) == (t456.length : Int)) = true := beq_iff_eq.mpr c58
      have c58b1 : ((wrap64 (t492 + (t463.length : Int))) != (t456.length : Int)) = false := bne_eq_false_iff_eq.mpr c58
      clear c58
      replace H := Option.bind_eq_some_iff.mp H
      obtain ⟨⟨t493, t496, t499, t500, t501, t502, t503, t504⟩, A590, H⟩ := H
      replace H : ((impl_GuardEdit.f k1 t493 t496 t499 t500 t501 t502 t503 t504).bind fun bt506 => (if bt506.2 = true then ((impl_MayEdit.f k1 t493 t496 t499 t500 t501 t502 t503 t504).bind fun t510 => (if t510 = true then (laws_FnSight.j2 k1 t493 t496 bt506.1 bt506.2 false t499 t500 t501 t502 t503 t504) else (laws_FnSight.j2 k1 t493 t496 bt506.1 bt506.2 true t499 t500 t501 t502 t503 t504))) else ((impl_EqualDocuments.f k1 bt506.1 t493).bind fun t511 => (laws_FnSight.j2 k1 t493 t496 bt506.1 bt506.2 (!t511) t499 t500 t501 t502 t503 t504)))) = some r := H
      have A59 := am A590
      clear A590
      replace H := Option.bind_eq_some_iff.mp H
      obtain ⟨⟨t506, t509⟩, A600, H⟩ := H
      replace H : (if t509 = true then ((impl_MayEdit.f k1 t493 t496 t499 t500 t501 t502 t503 t504).bind fun t510 => (if t510 = true then (laws_FnSight.j2 k1 t493 t496 t506 t509 false t499 t500 t501 t502 t503 t504) else (laws_FnSight.j2 k1 t493 t496 t506 t509 true t499 t500 t501 t502 t503 t504))) else ((impl_EqualDocuments.f k1 t506 t493).bind fun t511 => (laws_FnSight.j2 k1 t493 t496 t506 t509 (!t511) t499 t500 t501 t502 t503 t504))) = some r := H
      have A60 := am A600
      clear A600
      have HC61 := am H
      clear H
      obtain ⟨Ao62, co62, eo62⟩ := Kd.R_slice HO_6.out
      subst eo62
      go_upto_region 14 with (first | ((with_reducible refine gate_callee (f := 43) rfl ?_); refine goesL_ (some 96) rfl rfl Try.func43 (by kernel_rfl) rfl #[.slice Ao7 t456.length co7, .slice Ao8 t457.length co8, .int .i64 t458] rfl mU ?_; (with_reducible refine (impl_HiddenCount.calls k1 _ _ t456 _ _ t457 t458 t492 _ ?side1 ?side2 ?side3 ?side4 A57.out).mono ?_); (case side1 => exact cU (Kd.R_reads' HO_3.out).2.2); (case side2 => exact (Kd.R_reads' HO_3.out).2.1); (case side3 => exact cU (Kd.R_reads' HO_4.out).2.2); (case side4 => exact (Kd.R_reads' HO_4.out).2.1); rintro e w63 ⟨rfl, hb⟩; refine ⟨_, rfl, ?_⟩; have n0_ := am (Kd.R_below (rU HO_3.out) hb); have n1_ := am (Kd.R_below (rU HO_4.out) hb); have n2_ := am (Kd.R_below (rU HO_6.out) hb); have n3_ := am (below_step (bU HB.out) hb); clear HO_3; clear HO_4; clear HO_6; clear HB; have HO_3 := n0_; have HO_4 := n1_; have HO_6 := n2_; have HB := n3_; clear n0_ n1_ n2_ n3_; (try clear hb); (try clear hb2); (try clear hk); (try clear hi)) | ((with_reducible refine gate_callee (f := 44) rfl ?_); refine goesL_ (some 105) rfl rfl Try.func44 (by kernel_rfl) rfl #[.slice A0 l0.length c0] rfl mU ?_; (with_reducible refine (spec_DrawGuardEdit.calls k1 _ _ l0 t493 t496 t499 t500 t501 t502 t503 t504 _ ?side1 ?side2 A59.out).mono ?_); (case side1 => exact cU (Kd.C_below HR0.out HB.out)); (case side2 => exact HC0.out); rintro e w64 ⟨v494, v497, rfl, ho0, ho1, hb⟩; refine ⟨_, rfl, ?_⟩; have n0_ := am (Kd.R_elder' (rU HO_3.out) (Kd.R_base ho0) hb); have n1_ := am (Kd.R_elder' (rU HO_4.out) (Kd.R_base ho1) hb); have n2_ := am (Kd.R_elder' (rU HO_6.out) (Kd.R_base ho0) hb); have n3_ := am (Kd.R_lower (Kd.R_new' (Kd.R_new' ho0 (Kd.R_lt (rU HO_3.out))) (Kd.R_lt (rU HO_6.out))) (below_size (bU HB.out))); have n4_ := am (Kd.R_lower (Kd.R_new' ho1 (Kd.R_lt (rU HO_4.out))) (below_size (bU HB.out))); have n5_ := am (below_step (bU HB.out) hb); clear HO_3; clear HO_4; clear HO_6; clear HB; have HO_3 := n0_; have HO_4 := n1_; have HO_6 := n2_; have HO495 := n3_; have HO498 := n4_; have HB := n5_; clear n0_ n1_ n2_ n3_ n4_ n5_; (try clear hb); (try clear hb2); (try clear hk); (try clear hi); (try clear ho0); (try clear ho1)) | ((with_reducible refine gate_dst (N := 10) rfl ?_); refine box_event ?hg (N := 10) ?hd (cs := #[.int .i64 0, .int .i64 0, .int .i64 0, .int .i64 0, .int .i64 0, .int .i64 0]) (t := 30) ?hr ?_; (case hd => rfl); (case hg => rfl); (case hr => first | (go_simp; done) | (go_simp; rfl)); intro gb505 hg w65 hbox hb; have n0_ := am (Kd.R_below (rU HO_3.out) hb); have n1_ := am (Kd.R_below (rU HO_4.out) hb); have n2_ := am (Kd.R_below (rU HO_6.out) hb); have n3_ := am (Kd.R_below (rU HO495.out) hb); have n4_ := am (Kd.R_below (rU HO498.out) hb); have n5_ := am (below_step (bU HB.out) hb); have n6_ := am (hbox); have n7_ := am ((by rw [hg]; exact (below_size (bU HB.out)) : w.heap.size ≤ gb505)); have n8_ := am ((by rw [hg]; exact (below_size (bU HB.out)) : w.heap.size ≤ gb505)); clear HO_3; clear HO_4; clear HO_6; clear HO495; clear HO498; clear HB; have HO_3 := n0_; have HO_4 := n1_; have HO_6 := n2_; have HO495 := n3_; have HO498 := n4_; have HB := n5_; have BK505 := n6_; have GW505 := n7_; have GE505 := n8_; clear n0_ n1_ n2_ n3_ n4_ n5_ n6_ n7_ n8_; clear hb hbox hg; obtain ⟨hcz66_0, hcz66_1, hcz66_2, hcz66_3, hcz66_4, hcz66_5⟩ := bc6 BK505.out; obtain ⟨hfz66_0, hfz66_1, hfz66_2, hfz66_3, hfz66_4, hfz66_5⟩ := bf6 BK505.out; obtain ⟨Ao67, co67, eo67⟩ := Kd.R_slice HO495.out; subst eo67; obtain ⟨Ao68, co68, eo68⟩ := Kd.R_slice HO498.out; subst eo68) | ((with_reducible refine gate_callee (f := 32) rfl ?_); refine goesL_ (some 113) rfl rfl Try.func32 (by kernel_rfl) rfl #[.slice Ao67 t493.length co67, .slice Ao68 t496.length co68, .agg #[.int .i64 t499, .int .i64 t500, .int .i64 t501, .int .i64 t502, .int .i64 t503, .int .i64 t504]] rfl mU ?_; (with_reducible refine (impl_GuardEdit.calls k1 _ _ t493 _ _ t496 t499 t500 t501 t502 t503 t504 t506 t509 _ ?side1 ?side2 ?side3 ?side4 A60.out).mono ?_); (case side1 => refine (Kd.R_reads' (e := 59) (base := w.heap.size) (ok := fun k_ => ((True ∧ some k_ ≠ (.slice Ao7 t456.length co7 : Value).ownBlock) ∧ some k_ ≠ (.slice Ao62 t463.length co62 : Value).ownBlock)) (n := t493.length) (c := co67) ?_).2.2; exact (by (with_reducible repeat (first | apply Kd.R_alloc | apply Kd.R_drewN | apply Kd.R_drew)); exact (Kd.R_mono (Kd.R_far (p := ⟨gb505, 5, none⟩) (Kd.R_far (p := ⟨gb505, 4, none⟩) (Kd.R_far (p := ⟨gb505, 3, none⟩) (Kd.R_far (p := ⟨gb505, 2, none⟩) (Kd.R_far (p := ⟨gb505, 1, none⟩) (Kd.R_far (p := ⟨gb505, 0, none⟩) (Kd.R_types HO495.out BK505.out (by decide)) (fun _ hk => hk.2) (.int .i64 t499)) (fun _ hk => hk.2) (.int .i64 t500)) (fun _ hk => hk.2) (.int .i64 t501)) (fun _ hk => hk.2) (.int .i64 t502)) (fun _ hk => hk.2) (.int .i64 t503)) (fun _ hk => hk.2) (.int .i64 t504)) (fun _ h_ => h_.1)))); (case side2 => exact (Kd.R_reads' HO495.out).2.1); (case side3 => refine (Kd.R_reads' (e := 3) (base := w.heap.size) (ok := fun k_ => (True ∧ some k_ ≠ (.slice Ao8 t457.length co8 : Value).ownBlock)) (n := t496.length) (c := co68) ?_).2.2; exact (by (with_reducible repeat (first | apply Kd.R_alloc | apply Kd.R_drewN | apply Kd.R_drew)); exact (Kd.R_mono (Kd.R_far (p := ⟨gb505, 5, none⟩) (Kd.R_far (p := ⟨gb505, 4, none⟩) (Kd.R_far (p := ⟨gb505, 3, none⟩) (Kd.R_far (p := ⟨gb505, 2, none⟩) (Kd.R_far (p := ⟨gb505, 1, none⟩) (Kd.R_far (p := ⟨gb505, 0, none⟩) (Kd.R_types HO498.out BK505.out (by decide)) (fun _ hk => hk.2) (.int .i64 t499)) (fun _ hk => hk.2) (.int .i64 t500)) (fun _ hk => hk.2) (.int .i64 t501)) (fun _ hk => hk.2) (.int .i64 t502)) (fun _ hk => hk.2) (.int .i64 t503)) (fun _ hk => hk.2) (.int .i64 t504)) (fun _ h_ => h_.1)))); (case side4 => exact (Kd.R_reads' HO498.out).2.1); rintro e w69 ⟨v507, rfl, ho0, hb⟩; refine ⟨_, rfl, ?_⟩; have n0_ := am (Kd.R_elder' (by (with_reducible repeat (first | apply Kd.R_alloc | apply Kd.R_drewN | apply Kd.R_drew)); exact (Kd.R_mono (Kd.R_far (p := ⟨gb505, 5, none⟩) (Kd.R_far (p := ⟨gb505, 4, none⟩) (Kd.R_far (p := ⟨gb505, 3, none⟩) (Kd.R_far (p := ⟨gb505, 2, none⟩) (Kd.R_far (p := ⟨gb505, 1, none⟩) (Kd.R_far (p := ⟨gb505, 0, none⟩) (Kd.R_types HO_3.out BK505.out (by decide)) (fun _ hk => hk.2) (.int .i64 t499)) (fun _ hk => hk.2) (.int .i64 t500)) (fun _ hk => hk.2) (.int .i64 t501)) (fun _ hk => hk.2) (.int .i64 t502)) (fun _ hk => hk.2) (.int .i64 t503)) (fun _ hk => hk.2) (.int .i64 t504)) (fun _ h_ => h_.1))) (Kd.R_base ho0) hb); have n1_ := am (Kd.R_below (by (with_reducible repeat (first | apply Kd.R_alloc | apply Kd.R_drewN | apply Kd.R_drew)); exact (Kd.R_mono (Kd.R_far (p := ⟨gb505, 5, none⟩) (Kd.R_far (p := ⟨gb505, 4, none⟩) (Kd.R_far (p := ⟨gb505, 3, none⟩) (Kd.R_far (p := ⟨gb505, 2, none⟩) (Kd.R_far (p := ⟨gb505, 1, none⟩) (Kd.R_far (p := ⟨gb505, 0, none⟩) (Kd.R_types HO_4.out BK505.out (by decide)) (fun _ hk => hk.2) (.int .i64 t499)) (fun _ hk => hk.2) (.int .i64 t500)) (fun _ hk => hk.2) (.int .i64 t501)) (fun _ hk => hk.2) (.int .i64 t502)) (fun _ hk => hk.2) (.int .i64 t503)) (fun _ hk => hk.2) (.int .i64 t504)) (fun _ h_ => h_.1))) hb); have n2_ := am (Kd.R_elder' (by (with_reducible repeat (first | apply Kd.R_alloc | apply Kd.R_drewN | apply Kd.R_drew)); exact (Kd.R_mono (Kd.R_far (p := ⟨gb505, 5, none⟩) (Kd.R_far (p := ⟨gb505, 4, none⟩) (Kd.R_far (p := ⟨gb505, 3, none⟩) (Kd.R_far (p := ⟨gb505, 2, none⟩) (Kd.R_far (p := ⟨gb505, 1, none⟩) (Kd.R_far (p := ⟨gb505, 0, none⟩) (Kd.R_types HO_6.out BK505.out (by decide)) (fun _ hk => hk.2) (.int .i64 t499)) (fun _ hk => hk.2) (.int .i64 t500)) (fun _ hk => hk.2) (.int .i64 t501)) (fun _ hk => hk.2) (.int .i64 t502)) (fun _ hk => hk.2) (.int .i64 t503)) (fun _ hk => hk.2) (.int .i64 t504)) (fun _ h_ => h_.1))) (Kd.R_base ho0) hb); have n3_ := am (Kd.R_elder' (by (with_reducible repeat (first | apply Kd.R_alloc | apply Kd.R_drewN | apply Kd.R_drew)); exact (Kd.R_mono (Kd.R_far (p := ⟨gb505, 5, none⟩) (Kd.R_far (p := ⟨gb505, 4, none⟩) (Kd.R_far (p := ⟨gb505, 3, none⟩) (Kd.R_far (p := ⟨gb505, 2, none⟩) (Kd.R_far (p := ⟨gb505, 1, none⟩) (Kd.R_far (p := ⟨gb505, 0, none⟩) (Kd.R_types HO495.out BK505.out (by decide)) (fun _ hk => hk.2) (.int .i64 t499)) (fun _ hk => hk.2) (.int .i64 t500)) (fun _ hk => hk.2) (.int .i64 t501)) (fun _ hk => hk.2) (.int .i64 t502)) (fun _ hk => hk.2) (.int .i64 t503)) (fun _ hk => hk.2) (.int .i64 t504)) (fun _ h_ => h_.1))) (Kd.R_base ho0) hb); have n4_ := am (Kd.R_below (by (with_reducible repeat (first | apply Kd.R_alloc | apply Kd.R_drewN | apply Kd.R_drew)); exact (Kd.R_mono (Kd.R_far (p := ⟨gb505, 5, none⟩) (Kd.R_far (p := ⟨gb505, 4, none⟩) (Kd.R_far (p := ⟨gb505, 3, none⟩) (Kd.R_far (p := ⟨gb505, 2, none⟩) (Kd.R_far (p := ⟨gb505, 1, none⟩) (Kd.R_far (p := ⟨gb505, 0, none⟩) (Kd.R_types HO498.out BK505.out (by decide)) (fun _ hk => hk.2) (.int .i64 t499)) (fun _ hk => hk.2) (.int .i64 t500)) (fun _ hk => hk.2) (.int .i64 t501)) (fun _ hk => hk.2) (.int .i64 t502)) (fun _ hk => hk.2) (.int .i64 t503)) (fun _ hk => hk.2) (.int .i64 t504)) (fun _ h_ => h_.1))) hb); have n5_ := am (Kd.R_lower (Kd.R_new' (Kd.R_new' (Kd.R_new' ho0 (Kd.R_lt (by (with_reducible repeat (first | apply Kd.R_alloc | apply Kd.R_drewN | apply Kd.R_drew)); exact (Kd.R_mono (Kd.R_far (p := ⟨gb505, 5, none⟩) (Kd.R_far (p := ⟨gb505, 4, none⟩) (Kd.R_far (p := ⟨gb505, 3, none⟩) (Kd.R_far (p := ⟨gb505, 2, none⟩) (Kd.R_far (p := ⟨gb505, 1, none⟩) (Kd.R_far (p := ⟨gb505, 0, none⟩) (Kd.R_types HO_3.out BK505.out (by decide)) (fun _ hk => hk.2) (.int .i64 t499)) (fun _ hk => hk.2) (.int .i64 t500)) (fun _ hk => hk.2) (.int .i64 t501)) (fun _ hk => hk.2) (.int .i64 t502)) (fun _ hk => hk.2) (.int .i64 t503)) (fun _ hk => hk.2) (.int .i64 t504)) (fun _ h_ => h_.1))))) (Kd.R_lt (by (with_reducible repeat (first | apply Kd.R_alloc | apply Kd.R_drewN | apply Kd.R_drew)); exact (Kd.R_mono (Kd.R_far (p := ⟨gb505, 5, none⟩) (Kd.R_far (p := ⟨gb505, 4, none⟩) (Kd.R_far (p := ⟨gb505, 3, none⟩) (Kd.R_far (p := ⟨gb505, 2, none⟩) (Kd.R_far (p := ⟨gb505, 1, none⟩) (Kd.R_far (p := ⟨gb505, 0, none⟩) (Kd.R_types HO_6.out BK505.out (by decide)) (fun _ hk => hk.2) (.int .i64 t499)) (fun _ hk => hk.2) (.int .i64 t500)) (fun _ hk => hk.2) (.int .i64 t501)) (fun _ hk => hk.2) (.int .i64 t502)) (fun _ hk => hk.2) (.int .i64 t503)) (fun _ hk => hk.2) (.int .i64 t504)) (fun _ h_ => h_.1))))) (Kd.R_lt (by (with_reducible repeat (first | apply Kd.R_alloc | apply Kd.R_drewN | apply Kd.R_drew)); exact (Kd.R_mono (Kd.R_far (p := ⟨gb505, 5, none⟩) (Kd.R_far (p := ⟨gb505, 4, none⟩) (Kd.R_far (p := ⟨gb505, 3, none⟩) (Kd.R_far (p := ⟨gb505, 2, none⟩) (Kd.R_far (p := ⟨gb505, 1, none⟩) (Kd.R_far (p := ⟨gb505, 0, none⟩) (Kd.R_types HO495.out BK505.out (by decide)) (fun _ hk => hk.2) (.int .i64 t499)) (fun _ hk => hk.2) (.int .i64 t500)) (fun _ hk => hk.2) (.int .i64 t501)) (fun _ hk => hk.2) (.int .i64 t502)) (fun _ hk => hk.2) (.int .i64 t503)) (fun _ hk => hk.2) (.int .i64 t504)) (fun _ h_ => h_.1))))) (below_size (bS HB.out GE505.out))); have n6_ := am (blk_below (g := gb505) (o := .cells #[.int .i64 t499, .int .i64 t500, .int .i64 t501, .int .i64 t502, .int .i64 t503, .int .i64 t504] 30 (0, 0)) (by (with_reducible repeat (first | refine blk_drewN ?_ _ | refine blk_drew ?_ | refine blk_alloc ?_ _)); refine blk_put (cs := #[.int .i64 t499, .int .i64 t500, .int .i64 t501, .int .i64 t502, .int .i64 t503, .int .i64 0]) ?_ 5 _ rfl; (with_reducible repeat (first | refine blk_drewN ?_ _ | refine blk_drew ?_ | refine blk_alloc ?_ _)); refine blk_put (cs := #[.int .i64 t499, .int .i64 t500, .int .i64 t501, .int .i64 t502, .int .i64 0, .int .i64 0]) ?_ 4 _ rfl; (with_reducible repeat (first | refine blk_drewN ?_ _ | refine blk_drew ?_ | refine blk_alloc ?_ _)); refine blk_put (cs := #[.int .i64 t499, .int .i64 t500, .int .i64 t501, .int .i64 0, .int .i64 0, .int .i64 0]) ?_ 3 _ rfl; (with_reducible repeat (first | refine blk_drewN ?_ _ | refine blk_drew ?_ | refine blk_alloc ?_ _)); refine blk_put (cs := #[.int .i64 t499, .int .i64 t500, .int .i64 0, .int .i64 0, .int .i64 0, .int .i64 0]) ?_ 2 _ rfl; (with_reducible repeat (first | refine blk_drewN ?_ _ | refine blk_drew ?_ | refine blk_alloc ?_ _)); refine blk_put (cs := #[.int .i64 t499, .int .i64 0, .int .i64 0, .int .i64 0, .int .i64 0, .int .i64 0]) ?_ 1 _ rfl; (with_reducible repeat (first | refine blk_drewN ?_ _ | refine blk_drew ?_ | refine blk_alloc ?_ _)); refine blk_put (cs := #[.int .i64 0, .int .i64 0, .int .i64 0, .int .i64 0, .int .i64 0, .int .i64 0]) ?_ 0 _ rfl; exact kU BK505.out) hb); have n7_ := am (below_step (bS HB.out GE505.out) hb); clear HO_3; clear HO_4; clear HO_6; clear HO495; clear HO498; clear BK505; clear HB; have HO_3 := n0_; have HO_4 := n1_; have HO_6 := n2_; have HO495 := n3_; have HO498 := n4_; have HO508 := n5_; have BK505 := n6_; have HB := n7_; clear n0_ n1_ n2_ n3_ n4_ n5_ n6_ n7_; (try clear hb); (try clear hb2); (try clear hk); (try clear hi); (try clear ho0)))
      (try simp only [Act.put, List.setIfInBounds_toArray, List.set_cons_zero, List.set_cons_succ])
      go_cut [133] (fun v133 wc => ∃ (kq : Nat) (x133_60 : Bool), v133 = .bool x133_60 ∧ Aside0 (laws_FnSight.j2 kq t493 t496 t506 t509 x133_60 t499 t500 t501 t502 t503 t504 = some r) ∧ Aside0 (kq ≤ k1) ∧ Aside0 (Kd.R k59 59 wc w.heap.size (fun k_ => some k_ ≠ (v507 : Value).ownBlock) (.slice Ao67 t493.length co67) t493) ∧ Aside0 (Kd.R (Kd.int .i64) 3 wc w.heap.size (fun _ => True) (.slice Ao68 t496.length co68) t496) ∧ Aside0 (Kd.R k59 59 wc w.heap.size (fun k_ => some k_ ≠ ((.slice Ao67 t493.length co67) : Value).ownBlock) v507 t506) ∧ Aside0 (wc.heap[gb505]? = some (.cells #[.int .i64 t499, .int .i64 t500, .int .i64 t501, .int .i64 t502, .int .i64 t503, .int .i64 t504] 30 (0, 0))) ∧ Aside0 (Below w.heap.size w wc))
      case first =>
       have H := HC61.out
       clear HC61
       by_cases c70 : t509 = true
       ·subst c70
        have H1 : ((impl_MayEdit.f k1 t493 t496 t499 t500 t501 t502 t503 t504).bind fun t510 => (if t510 = true then (laws_FnSight.j2 k1 t493 t496 t506 true false t499 t500 t501 t502 t503 t504) else (laws_FnSight.j2 k1 t493 t496 t506 true true t499 t500 t501 t502 t503 t504))) = some r := by rw [if_pos rfl] at H; exact H
        clear H
        have H := H1
        clear H1
        replace H := Option.bind_eq_some_iff.mp H
        obtain ⟨t510, A710, H⟩ := H
        replace H : (if t510 = true then (laws_FnSight.j2 k1 t493 t496 t506 true false t499 t500 t501 t502 t503 t504) else (laws_FnSight.j2 k1 t493 t496 t506 true true t499 t500 t501 t502 t503 t504)) = some r := H
        have A71 := am A710
        clear A710
        by_cases c72 : t510 = true
        ·subst c72
         have H1 : (laws_FnSight.j2 k1 t493 t496 t506 true false t499 t500 t501 t502 t503 t504) = some r := by rw [if_pos rfl] at H; exact H
         clear H
         have H := H1
         clear H1
         have H' := am H
         clear H
         obtain ⟨hcz73_0, hcz73_1, hcz73_2, hcz73_3, hcz73_4, hcz73_5⟩ := bc6 BK505.out
         obtain ⟨hfz73_0, hfz73_1, hfz73_2, hfz73_3, hfz73_4, hfz73_5⟩ := bf6 BK505.out
         go_wp2_with (first | (go_at_call 45; (with_reducible refine (impl_MayEdit.calls k1 _ _ t493 _ _ t496 t499 t500 t501 t502 t503 t504 true _ ?side1 ?side2 ?side3 ?side4 A71.out).mono ?_); (case side1 => exact cU (Kd.R_reads' HO495.out).2.2); (case side2 => exact (Kd.R_reads' HO495.out).2.1); (case side3 => exact cU (Kd.R_reads' HO498.out).2.2); (case side4 => exact (Kd.R_reads' HO498.out).2.1); rintro e w74 ⟨rfl, hb⟩; have n0_ := am (Kd.R_below (rU HO_3.out) hb); have n1_ := am (Kd.R_below (rU HO_4.out) hb); have n2_ := am (Kd.R_below (rU HO_6.out) hb); have n3_ := am (Kd.R_below (rU HO495.out) hb); have n4_ := am (Kd.R_below (rU HO498.out) hb); have n5_ := am (Kd.R_below (rU HO508.out) hb); have n6_ := am (kB BK505.out hb); have n7_ := am (below_step (bS HB.out GE505.out) hb); clear HO_3; clear HO_4; clear HO_6; clear HO495; clear HO498; clear HO508; clear BK505; clear HB; have HO_3 := n0_; have HO_4 := n1_; have HO_6 := n2_; have HO495 := n3_; have HO498 := n4_; have HO508 := n5_; have BK505 := n6_; have HB := n7_; clear n0_ n1_ n2_ n3_ n4_ n5_ n6_ n7_; (try clear hb); (try clear hb2); (try clear hk); (try clear hi)))
         go_meet
         case rel => exact ⟨_, (false), (by first | rfl | (simp; done) | (simp [*]; done)), H', ⟨by have := HK1.out; first | omega | exact Nat.le_refl _⟩, ⟨by (with_reducible repeat (first | apply Kd.R_alloc | apply Kd.R_drewN | apply Kd.R_drew)); exact Kd.R_mono HO495.out (fun _ hk => hk.2)⟩, ⟨by (with_reducible repeat (first | apply Kd.R_alloc | apply Kd.R_drewN | apply Kd.R_drew)); exact Kd.R_mono HO498.out (fun _ hk => trivial)⟩, ⟨by (with_reducible repeat (first | apply Kd.R_alloc | apply Kd.R_drewN | apply Kd.R_drew)); exact Kd.R_mono HO508.out (fun _ hk => hk.2)⟩, ⟨kU BK505.out⟩, ⟨bS HB.out GE505.out⟩⟩
        ·replace c72 := Bool.eq_false_iff.mpr c72
         subst c72
         have H1 : (laws_FnSight.j2 k1 t493 t496 t506 true true t499 t500 t501 t502 t503 t504) = some r := by rw [if_neg (show ¬ (false = true) by decide)] at H; exact H
         clear H
         have H := H1
         clear H1
         have H' := am H
         clear H
         obtain ⟨hcz75_0, hcz75_1, hcz75_2, hcz75_3, hcz75_4, hcz75_5⟩ := bc6 BK505.out
         obtain ⟨hfz75_0, hfz75_1, hfz75_2, hfz75_3, hfz75_4, hfz75_5⟩ := bf6 BK505.out
         go_wp2_with (first | (go_at_call 45; (with_reducible refine (impl_MayEdit.calls k1 _ _ t493 _ _ t496 t499 t500 t501 t502 t503 t504 false _ ?side1 ?side2 ?side3 ?side4 A71.out).mono ?_); (case side1 => exact cU (Kd.R_reads' HO495.out).2.2); (case side2 => exact (Kd.R_reads' HO495.out).2.1); (case side3 => exact cU (Kd.R_reads' HO498.out).2.2); (case side4 => exact (Kd.R_reads' HO498.out).2.1); rintro e w76 ⟨rfl, hb⟩; have n0_ := am (Kd.R_below (rU HO_3.out) hb); have n1_ := am (Kd.R_below (rU HO_4.out) hb); have n2_ := am (Kd.R_below (rU HO_6.out) hb); have n3_ := am (Kd.R_below (rU HO495.out) hb); have n4_ := am (Kd.R_below (rU HO498.out) hb); have n5_ := am (Kd.R_below (rU HO508.out) hb); have n6_ := am (kB BK505.out hb); have n7_ := am (below_step (bS HB.out GE505.out) hb); clear HO_3; clear HO_4; clear HO_6; clear HO495; clear HO498; clear HO508; clear BK505; clear HB; have HO_3 := n0_; have HO_4 := n1_; have HO_6 := n2_; have HO495 := n3_; have HO498 := n4_; have HO508 := n5_; have BK505 := n6_; have HB := n7_; clear n0_ n1_ n2_ n3_ n4_ n5_ n6_ n7_; (try clear hb); (try clear hb2); (try clear hk); (try clear hi)))
         go_meet
         case rel => exact ⟨_, (true), (by first | rfl | (simp; done) | (simp [*]; done)), H', ⟨by have := HK1.out; first | omega | exact Nat.le_refl _⟩, ⟨by (with_reducible repeat (first | apply Kd.R_alloc | apply Kd.R_drewN | apply Kd.R_drew)); exact Kd.R_mono HO495.out (fun _ hk => hk.2)⟩, ⟨by (with_reducible repeat (first | apply Kd.R_alloc | apply Kd.R_drewN | apply Kd.R_drew)); exact Kd.R_mono HO498.out (fun _ hk => trivial)⟩, ⟨by (with_reducible repeat (first | apply Kd.R_alloc | apply Kd.R_drewN | apply Kd.R_drew)); exact Kd.R_mono HO508.out (fun _ hk => hk.2)⟩, ⟨kU BK505.out⟩, ⟨bS HB.out GE505.out⟩⟩
       ·replace c70 := Bool.eq_false_iff.mpr c70
        subst c70
        have H1 : ((impl_EqualDocuments.f k1 t506 t493).bind fun t511 => (laws_FnSight.j2 k1 t493 t496 t506 false (!t511) t499 t500 t501 t502 t503 t504)) = some r := by rw [if_neg (show ¬ (false = true) by decide)] at H; exact H
        clear H
        have H := H1
        clear H1
        replace H := Option.bind_eq_some_iff.mp H
        obtain ⟨t511, A770, H⟩ := H
        replace H : (laws_FnSight.j2 k1 t493 t496 t506 false (!t511) t499 t500 t501 t502 t503 t504) = some r := H
        have A77 := am A770
        clear A770
        have H' := am H
        clear H
        obtain ⟨Ao78, co78, eo78⟩ := Kd.R_slice HO508.out
        subst eo78
        go_wp2_with (first | (go_at_call 46; (with_reducible refine (impl_EqualDocuments.calls k1 _ _ t506 _ _ t493 t511 _ ?side1 ?side2 ?side3 ?side4 A77.out).mono ?_); (case side1 => exact cU (Kd.R_reads' HO508.out).2.2); (case side2 => exact (Kd.R_reads' HO508.out).2.1); (case side3 => exact cU (Kd.R_reads' HO495.out).2.2); (case side4 => exact (Kd.R_reads' HO495.out).2.1); rintro e w' ⟨rfl, ⟨nd, rfl⟩⟩))
        go_meet
        case rel => exact ⟨_, (!t511), (by first | rfl | (simp; done) | (simp [*]; done)), H', ⟨by have := HK1.out; first | omega | exact Nat.le_refl _⟩, ⟨by (with_reducible repeat (first | apply Kd.R_alloc | apply Kd.R_drewN | apply Kd.R_drew)); exact Kd.R_mono HO495.out (fun _ hk => hk.2)⟩, ⟨by (with_reducible repeat (first | apply Kd.R_alloc | apply Kd.R_drewN | apply Kd.R_drew)); exact Kd.R_mono HO498.out (fun _ hk => trivial)⟩, ⟨by (with_reducible repeat (first | apply Kd.R_alloc | apply Kd.R_drewN | apply Kd.R_drew)); exact Kd.R_mono HO508.out (fun _ hk => hk.2)⟩, ⟨kU BK505.out⟩, ⟨bS HB.out GE505.out⟩⟩
      case rest =>
       clear HC61
       try clear c1
       try clear c2
       try clear p2
       try clear c3
       try clear c4
       try clear p4
       try clear q4
       try clear hx4
       try clear c5
       try clear p6
       try clear c7
       try clear c8
       try clear c10
       try clear c10b0
       try clear c13
       try clear c13b0
       try clear c15
       try clear c15b0
       try clear c17
       try clear c17b0
       try clear c18
       try clear c18b0
       try clear c20
       try clear c20b0
       try clear c24
       try clear c25
       try clear c25b0
       try clear c25b1
       try clear c32
       try clear c37
       try clear c38
       try clear c38b0
       try clear c38b1
       try clear c39
       try clear c40
       try clear c43
       try clear c44
       try clear p46
       try clear q46
       try clear hx46
       try clear c47
       try clear p47
       try clear q47
       try clear hx47
       try clear c48
       try clear c48b0
       try clear c48b1
       try clear p48
       try clear q48
       try clear hx48
       try clear p49
       try clear q49
       try clear hx49
       try clear c56
       try clear c58
       try clear c58b0
       try clear c58b1
       try clear p64
       try clear c70
       try clear c72
       try clear hcz66_0 hcz66_1 hcz66_2 hcz66_3 hcz66_4 hcz66_5
       try clear hcz73_0 hcz73_1 hcz73_2 hcz73_3 hcz73_4 hcz73_5
       try clear hcz75_0 hcz75_1 hcz75_2 hcz75_3 hcz75_4 hcz75_5
       try clear hfz66_0 hfz66_1 hfz66_2 hfz66_3 hfz66_4 hfz66_5
       try clear hfz73_0 hfz73_1 hfz73_2 hfz73_3 hfz73_4 hfz73_5
       try clear hfz75_0 hfz75_1 hfz75_2 hfz75_3 hfz75_4 hfz75_5
       try clear hx466_0
       try clear hx466_1
       try clear hx466_2
       try clear hx466_3
       try clear hx466_4
       try clear hx468_0
       try clear hx468_1
       try clear hx468_2
       try clear hx468_3
       try clear hx468_4
       try clear hx469_0
       try clear hx469_1
       try clear hx469_2
       try clear hx469_3
       try clear hx469_4
       try clear hx471_0
       try clear hx471_1
       try clear hx471_2
       try clear hx471_3
       try clear hx471_4
       try clear hx473_0
       try clear hx473_1
       try clear hx473_2
       try clear hx473_3
       try clear hx473_4
       try clear hx474_0
       try clear hx474_1
       try clear hx474_2
       try clear hx474_3
       try clear hx474_4
       try clear hx476_0
       try clear hx476_1
       try clear hx476_2
       try clear hx476_3
       try clear hx476_4
       try clear hx478_0
       try clear hx478_1
       try clear hx478_2
       try clear hx478_3
       try clear hx478_4
       try clear hx480_0
       try clear hx480_1
       try clear hx480_2
       try clear hx480_3
       try clear hx480_4
       try clear hx481_0
       try clear hx481_1
       try clear hx481_2
       try clear hx481_3
       try clear hx481_4
       try clear hx483_0
       try clear hx483_1
       try clear hx483_2
       try clear hx483_3
       try clear hx483_4
       try clear hx485_0
       try clear hx485_1
       try clear hx485_2
       try clear hx485_3
       try clear hx485_4
       try clear hx487_0
       try clear hx487_1
       try clear hx487_2
       try clear hx487_3
       try clear hx487_4
       try clear hx488_0
       try clear hx488_1
       try clear hx488_2
       try clear hx488_3
       try clear hx488_4
       try clear hx490_0
       try clear hx490_1
       try clear hx490_2
       try clear hx490_3
       try clear hx490_4
       try clear p2
       try clear p4
       try clear p46
       try clear p466
       try clear p468
       try clear p469
       try clear p47
       try clear p471
       try clear p473
       try clear p474
       try clear p476
       try clear p478
       try clear p48
       try clear p480
       try clear p481
       try clear p483
       try clear p485
       try clear p487
       try clear p488
       try clear p49
       try clear p490
       try clear q4
       try clear q46
       try clear q466
       try clear q468
       try clear q469
       try clear q47
       try clear q471
       try clear q473
       try clear q474
       try clear q476
       try clear q478
       try clear q48
       try clear q480
       try clear q481
       try clear q483
       try clear q485
       try clear q487
       try clear q488
       try clear q49
       try clear q490
       obtain ⟨kq, x133_60, rfl, HA, HJ60, HO_8, HO_9, HO_11, BK505, HB⟩ := hcut
       cases kq with
       | zero => exact absurd HA.out (by simp [laws_FnSight.j2])
       | succ kj60 =>
        have H := HA.out
        clear HA
        simp only [laws_FnSight.j2] at H
        by_cases c79 : x133_60 = true
        ·subst c79
         have H1 : (some false) = some r := by rw [if_pos rfl] at H; exact H
         clear H
         have H := H1
         clear H1
         obtain rfl := Option.some.inj H
         go_wp2
         go_ret
         exact ⟨eU, bS HB.out GE505.out⟩
        ·replace c79 := Bool.eq_false_iff.mpr c79
         subst c79
         have H1 : (laws_FnSight.l1 kj60 t493 t496 t506 t509 0 t499 t500 t501 t502 t503 t504) = some r := by rw [if_neg (show ¬ (false = true) by decide)] at H; exact H
         clear H
         have H := H1
         clear H1
         have H' := am H
         clear H
         go_wp2
         go_loopg [13] kj60 (fun kq v13 w' => ∃ (x13_3 : Int), v13 = .int .i64 x13_3 ∧ Aside0 (laws_FnSight.l1 kq t493 t496 t506 t509 x13_3 t499 t500 t501 t502 t503 t504 = some r) ∧ Aside0 (kq ≤ kj60) ∧ Aside0 (Kd.R k59 59 w' w.heap.size (fun k_ => some k_ ≠ (v507 : Value).ownBlock) (.slice Ao67 t493.length co67) t493) ∧ Aside0 (Kd.R (Kd.int .i64) 3 w' w.heap.size (fun _ => True) (.slice Ao68 t496.length co68) t496) ∧ Aside0 (Kd.R k59 59 w' w.heap.size (fun k_ => some k_ ≠ ((.slice Ao67 t493.length co67) : Value).ownBlock) v507 t506) ∧ Aside0 (w'.heap[gb505]? = some (.cells #[.int .i64 t499, .int .i64 t500, .int .i64 t501, .int .i64 t502, .int .i64 t503, .int .i64 t504] 30 (0, 0))) ∧ Aside0 (Below w.heap.size w w'))
         case atStart => exact ⟨(0), (by first | rfl | (simp; done) | (simp [*]; done)), H', ⟨Nat.le_refl _⟩, ⟨rU HO_8.out⟩, ⟨rU HO_9.out⟩, ⟨rU HO_11.out⟩, ⟨kU BK505.out⟩, ⟨bS HB.out GE505.out⟩⟩
         case round =>
          clear H'
          try clear c1
          try clear c2
          try clear p2
          try clear c3
          try clear c4
          try clear p4
          try clear q4
          try clear hx4
          try clear c5
          try clear p6
          try clear c7
          try clear c8
          try clear c10
          try clear c10b0
          try clear c13
          try clear c13b0
          try clear c15
          try clear c15b0
          try clear c17
          try clear c17b0
          try clear c18
          try clear c18b0
          try clear c20
          try clear c20b0
          try clear c24
          try clear c25
          try clear c25b0
          try clear c25b1
          try clear c32
          try clear c37
          try clear c38
          try clear c38b0
          try clear c38b1
          try clear c39
          try clear c40
          try clear c43
          try clear c44
          try clear p46
          try clear q46
          try clear hx46
          try clear c47
          try clear p47
          try clear q47
          try clear hx47
          try clear c48
          try clear c48b0
          try clear c48b1
          try clear p48
          try clear q48
          try clear hx48
          try clear p49
          try clear q49
          try clear hx49
          try clear c56
          try clear c58
          try clear c58b0
          try clear c58b1
          try clear p64
          try clear c70
          try clear c72
          try clear c79
          try clear hcz66_0 hcz66_1 hcz66_2 hcz66_3 hcz66_4 hcz66_5
          try clear hcz73_0 hcz73_1 hcz73_2 hcz73_3 hcz73_4 hcz73_5
          try clear hcz75_0 hcz75_1 hcz75_2 hcz75_3 hcz75_4 hcz75_5
          try clear hfz66_0 hfz66_1 hfz66_2 hfz66_3 hfz66_4 hfz66_5
          try clear hfz73_0 hfz73_1 hfz73_2 hfz73_3 hfz73_4 hfz73_5
          try clear hfz75_0 hfz75_1 hfz75_2 hfz75_3 hfz75_4 hfz75_5
          try clear hx466_0
          try clear hx466_1
          try clear hx466_2
          try clear hx466_3
          try clear hx466_4
          try clear hx468_0
          try clear hx468_1
          try clear hx468_2
          try clear hx468_3
          try clear hx468_4
          try clear hx469_0
          try clear hx469_1
          try clear hx469_2
          try clear hx469_3
          try clear hx469_4
          try clear hx471_0
          try clear hx471_1
          try clear hx471_2
          try clear hx471_3
          try clear hx471_4
          try clear hx473_0
          try clear hx473_1
          try clear hx473_2
          try clear hx473_3
          try clear hx473_4
          try clear hx474_0
          try clear hx474_1
          try clear hx474_2
          try clear hx474_3
          try clear hx474_4
          try clear hx476_0
          try clear hx476_1
          try clear hx476_2
          try clear hx476_3
          try clear hx476_4
          try clear hx478_0
          try clear hx478_1
          try clear hx478_2
          try clear hx478_3
          try clear hx478_4
          try clear hx480_0
          try clear hx480_1
          try clear hx480_2
          try clear hx480_3
          try clear hx480_4
          try clear hx481_0
          try clear hx481_1
          try clear hx481_2
          try clear hx481_3
          try clear hx481_4
          try clear hx483_0
          try clear hx483_1
          try clear hx483_2
          try clear hx483_3
          try clear hx483_4
          try clear hx485_0
          try clear hx485_1
          try clear hx485_2
          try clear hx485_3
          try clear hx485_4
          try clear hx487_0
          try clear hx487_1
          try clear hx487_2
          try clear hx487_3
          try clear hx487_4
          try clear hx488_0
          try clear hx488_1
          try clear hx488_2
          try clear hx488_3
          try clear hx488_4
          try clear hx490_0
          try clear hx490_1
          try clear hx490_2
          try clear hx490_3
          try clear hx490_4
          try clear p2
          try clear p4
          try clear p46
          try clear p466
          try clear p468
          try clear p469
          try clear p47
          try clear p471
          try clear p473
          try clear p474
          try clear p476
          try clear p478
          try clear p48
          try clear p480
          try clear p481
          try clear p483
          try clear p485
          try clear p487
          try clear p488
          try clear p49
          try clear p490
          try clear p6
          try clear p64
          try clear q4
          try clear q46
          try clear q466
          try clear q468
          try clear q469
          try clear q47
          try clear q471
          try clear q473
          try clear q474
          try clear q476
          try clear q478
          try clear q48
          try clear q480
          try clear q481
          try clear q483
          try clear q485
          try clear q487
          try clear q488
          try clear q49
          try clear q490
          obtain ⟨x13_3, rfl, HA, HK3, HO_8, HO_9, HO_11, BK505, HB⟩ := hrel
          cases gk with
          | zero => exact absurd HA.out (by simp [laws_FnSight.l1])
          | succ k3 =>
           have H := HA.out
           clear HA
           simp only [laws_FnSight.l1] at H
           have HC80 := am H
           clear H
           go_upto_region 17 with (fail)
           go_cut [140] (fun v140 wc => ∃ (kq : Nat) (x140_79 : Bool), v140 = .bool x140_79 ∧ Aside0 (laws_FnSight.j4 kq t493 t496 t506 t509 x13_3 x140_79 t499 t500 t501 t502 t503 t504 = some r) ∧ Aside0 (kq ≤ k3) ∧ Aside0 (Kd.R k59 59 wc w.heap.size (fun k_ => some k_ ≠ (v507 : Value).ownBlock) (.slice Ao67 t493.length co67) t493) ∧ Aside0 (Kd.R (Kd.int .i64) 3 wc w.heap.size (fun _ => True) (.slice Ao68 t496.length co68) t496) ∧ Aside0 (Kd.R k59 59 wc w.heap.size (fun k_ => some k_ ≠ ((.slice Ao67 t493.length co67) : Value).ownBlock) v507 t506) ∧ Aside0 (wc.heap[gb505]? = some (.cells #[.int .i64 t499, .int .i64 t500, .int .i64 t501, .int .i64 t502, .int .i64 t503, .int .i64 t504] 30 (0, 0))) ∧ Aside0 (Below w.heap.size w wc))
           case first =>
            have H := HC80.out
            clear HC80
            by_cases c81 : x13_3 < (t493.length : Int)
            ·rw [if_pos c81] at H
             have c81b0 : decide (x13_3 < (t493.length : Int)) = true := decide_eq_true c81
             clear c81
             (first | rw [c81b0] | (simp only [i64_w, i32_w]; rw [c81b0]) | skip)
             have H' := am H
             clear H
             go_wp2
             go_meet
             case rel => exact ⟨_, (t509), (by first | rfl | (simp; done) | (simp [*]; done)), H', ⟨by have := HK1.out; have := HJ60.out; have := HK3.out; first | omega | exact Nat.le_refl _⟩, ⟨rU HO_8.out⟩, ⟨rU HO_9.out⟩, ⟨rU HO_11.out⟩, ⟨kU BK505.out⟩, ⟨bS HB.out GE505.out⟩⟩
            ·rw [if_neg c81] at H
             have c81b0 : decide (x13_3 < (t493.length : Int)) = false := decide_eq_false c81
             clear c81
             (first | rw [c81b0] | (simp only [i64_w, i32_w]; rw [c81b0]) | skip)
             have H' := am H
             clear H
             go_wp2
             go_meet
             case rel => exact ⟨_, (false), (by first | rfl | (simp; done) | (simp [*]; done)), H', ⟨by have := HK1.out; have := HJ60.out; have := HK3.out; first | omega | exact Nat.le_refl _⟩, ⟨rU HO_8.out⟩, ⟨rU HO_9.out⟩, ⟨rU HO_11.out⟩, ⟨kU BK505.out⟩, ⟨bS HB.out GE505.out⟩⟩
           case rest =>
            clear HC80
            try clear c1
            try clear c2
            try clear p2
            try clear c3
            try clear c4
            try clear p4
            try clear q4
            try clear hx4
            try clear c5
            try clear p6
            try clear c7
            try clear c8
            try clear c10
            try clear c10b0
            try clear c13
            try clear c13b0
            try clear c15
            try clear c15b0
            try clear c17
            try clear c17b0
            try clear c18
            try clear c18b0
            try clear c20
            try clear c20b0
            try clear c24
            try clear c25
            try clear c25b0
            try clear c25b1
            try clear c32
            try clear c37
            try clear c38
            try clear c38b0
            try clear c38b1
            try clear c39
            try clear c40
            try clear c43
            try clear c44
            try clear p46
            try clear q46
            try clear hx46
            try clear c47
            try clear p47
            try clear q47
            try clear hx47
            try clear c48
            try clear c48b0
            try clear c48b1
            try clear p48
            try clear q48
            try clear hx48
            try clear p49
            try clear q49
            try clear hx49
            try clear c56
            try clear c58
            try clear c58b0
            try clear c58b1
            try clear p64
            try clear c70
            try clear c72
            try clear c79
            try clear c81
            try clear c81b0
            try clear hcz66_0 hcz66_1 hcz66_2 hcz66_3 hcz66_4 hcz66_5
            try clear hcz73_0 hcz73_1 hcz73_2 hcz73_3 hcz73_4 hcz73_5
            try clear hcz75_0 hcz75_1 hcz75_2 hcz75_3 hcz75_4 hcz75_5
            try clear hfz66_0 hfz66_1 hfz66_2 hfz66_3 hfz66_4 hfz66_5
            try clear hfz73_0 hfz73_1 hfz73_2 hfz73_3 hfz73_4 hfz73_5
            try clear hfz75_0 hfz75_1 hfz75_2 hfz75_3 hfz75_4 hfz75_5
            try clear hx466_0
            try clear hx466_1
            try clear hx466_2
            try clear hx466_3
            try clear hx466_4
            try clear hx468_0
            try clear hx468_1
            try clear hx468_2
            try clear hx468_3
            try clear hx468_4
            try clear hx469_0
            try clear hx469_1
            try clear hx469_2
            try clear hx469_3
            try clear hx469_4
            try clear hx471_0
            try clear hx471_1
            try clear hx471_2
            try clear hx471_3
            try clear hx471_4
            try clear hx473_0
            try clear hx473_1
            try clear hx473_2
            try clear hx473_3
            try clear hx473_4
            try clear hx474_0
            try clear hx474_1
            try clear hx474_2
            try clear hx474_3
            try clear hx474_4
            try clear hx476_0
            try clear hx476_1
            try clear hx476_2
            try clear hx476_3
            try clear hx476_4
            try clear hx478_0
            try clear hx478_1
            try clear hx478_2
            try clear hx478_3
            try clear hx478_4
            try clear hx480_0
            try clear hx480_1
            try clear hx480_2
            try clear hx480_3
            try clear hx480_4
            try clear hx481_0
            try clear hx481_1
            try clear hx481_2
            try clear hx481_3
            try clear hx481_4
            try clear hx483_0
            try clear hx483_1
            try clear hx483_2
            try clear hx483_3
            try clear hx483_4
            try clear hx485_0
            try clear hx485_1
            try clear hx485_2
            try clear hx485_3
            try clear hx485_4
            try clear hx487_0
            try clear hx487_1
            try clear hx487_2
            try clear hx487_3
            try clear hx487_4
            try clear hx488_0
            try clear hx488_1
            try clear hx488_2
            try clear hx488_3
            try clear hx488_4
            try clear hx490_0
            try clear hx490_1
            try clear hx490_2
            try clear hx490_3
            try clear hx490_4
            try clear p2
            try clear p4
            try clear p46
            try clear p466
            try clear p468
            try clear p469
            try clear p47
            try clear p471
            try clear p473
            try clear p474
            try clear p476
            try clear p478
            try clear p48
            try clear p480
            try clear p481
            try clear p483
            try clear p485
            try clear p487
            try clear p488
            try clear p49
            try clear p490
            try clear p6
            try clear p64
            try clear q4
            try clear q46
            try clear q466
            try clear q468
            try clear q469
            try clear q47
            try clear q471
            try clear q473
            try clear q474
            try clear q476
            try clear q478
            try clear q48
            try clear q480
            try clear q481
            try clear q483
            try clear q485
            try clear q487
            try clear q488
            try clear q49
            try clear q490
            obtain ⟨kq, x140_79, rfl, HA, HJ79, HO_8, HO_9, HO_11, BK505, HB⟩ := hcut
            cases kq with
            | zero => exact absurd HA.out (by simp [laws_FnSight.j4])
            | succ kj79 =>
             have H := HA.out
             clear HA
             simp only [laws_FnSight.j4] at H
             by_cases c82 : x140_79 = true
             ·subst c82
              have H1 : (if 0 ≤ x13_3 then (if x13_3 < (t493.length : Int) then ((impl_SeesNode.f kj79 t493 t496 t504 ((rd_T59 t493 x13_3).f0)).bind fun t513 => (if t513 = true then (laws_FnSight.l1 kj79 t493 t496 t506 t509 (wrap64 (x13_3 + 1)) t499 t500 t501 t502 t503 t504) else ((impl_NodeOf.f kj79 t506 ((rd_T59 t493 x13_3).f0)).bind fun t515 => (if t515 < 0 then (laws_FnSight.j5 kj79 t493 t496 t506 t509 x13_3 true t499 t500 t501 t502 t503 t504) else (if 0 ≤ t515 then (if t515 < (t506.length : Int) then (laws_FnSight.j5 kj79 t493 t496 t506 t509 x13_3 (!(((rd_T59 t506 t515).f0) == ((rd_T59 t493 x13_3).f0)) || (!(((rd_T59 t506 t515).f1) == ((rd_T59 t493 x13_3).f1)) || (!(((rd_T59 t506 t515).f2) == ((rd_T59 t493 x13_3).f2)) || (!(((rd_T59 t506 t515).f3) == ((rd_T59 t493 x13_3).f3)) || (!(((rd_T59 t506 t515).f4) == ((rd_T59 t493 x13_3).f4))))))) t499 t500 t501 t502 t503 t504) else (none)) else (none)))))) else (none)) else (none)) = some r := by rw [if_pos rfl] at H; exact H
              clear H
              have H := H1
              clear H1
              by_cases c83 : 0 ≤ x13_3
              ·rw [if_pos c83] at H
               have c83b0 : decide (0 ≤ x13_3) = true := decide_eq_true c83
               clear c83
               by_cases c84 : x13_3 < (t493.length : Int)
               ·rw [if_pos c84] at H
                have c84b0 : decide (x13_3 < (t493.length : Int)) = true := decide_eq_true c84
                clear c84
                replace H := Option.bind_eq_some_iff.mp H
                obtain ⟨t513, A850, H⟩ := H
                replace H : (if t513 = true then (laws_FnSight.l1 kj79 t493 t496 t506 t509 (wrap64 (x13_3 + 1)) t499 t500 t501 t502 t503 t504) else ((impl_NodeOf.f kj79 t506 ((rd_T59 t493 x13_3).f0)).bind fun t515 => (if t515 < 0 then (laws_FnSight.j5 kj79 t493 t496 t506 t509 x13_3 true t499 t500 t501 t502 t503 t504) else (if 0 ≤ t515 then (if t515 < (t506.length : Int) then (laws_FnSight.j5 kj79 t493 t496 t506 t509 x13_3 (!(((rd_T59 t506 t515).f0) == ((rd_T59 t493 x13_3).f0)) || (!(((rd_T59 t506 t515).f1) == ((rd_T59 t493 x13_3).f1)) || (!(((rd_T59 t506 t515).f2) == ((rd_T59 t493 x13_3).f2)) || (!(((rd_T59 t506 t515).f3) == ((rd_T59 t493 x13_3).f3)) || (!(((rd_T59 t506 t515).f4) == ((rd_T59 t493 x13_3).f4))))))) t499 t500 t501 t502 t503 t504) else (none)) else (none))))) = some r := H
                have A85 := am A850
                clear A850
                by_cases c86 : t513 = true
                ·subst c86
                 have H1 : (laws_FnSight.l1 kj79 t493 t496 t506 t509 (wrap64 (x13_3 + 1)) t499 t500 t501 t502 t503 t504) = some r := by rw [if_pos rfl] at H; exact H
                 clear H
                 have H := H1
                 clear H1
                 have H' := am H
                 clear H
                 try go_wp2
                 have n0_ := am (Kd.R_drew HO_8.out)
                 have n1_ := am (Kd.R_drew HO_9.out)
                 have n2_ := am (Kd.R_drew HO_11.out)
                 have n3_ := am (blk_drew BK505.out)
                 have n4_ := am (below_drew1 HB.out)
                 clear HO_8
                 clear HO_9
                 clear HO_11
                 clear BK505
                 clear HB
                 have HO_8 := n0_
                 have HO_9 := n1_
                 have HO_11 := n2_
                 have BK505 := n3_
                 have HB := n4_
                 clear n0_ n1_ n2_ n3_ n4_
                 have p512 : 0 ≤ (x13_3 : Int) := dU
                 have q512 : x13_3 < (t493.length : Int) := dU
                 obtain ⟨ad512, e512, hx512_0, hx512_1, hx512_2, hx512_3, hx512_4⟩ := at_T59 (Kd.R_reads' HO_8.out).2.2 x13_3 p512 q512
                 cases e512
                 replace p512 := eq_true p512
                 replace q512 := eq_true q512
                 refine start_ (n := 11) (S := fun w' => w'.cell? ⟨gb505, 0, none⟩ = some (.int .i64 t499) ∧ w'.cell? ⟨gb505, 1, none⟩ = some (.int .i64 t500) ∧ w'.cell? ⟨gb505, 2, none⟩ = some (.int .i64 t501) ∧ w'.cell? ⟨gb505, 3, none⟩ = some (.int .i64 t502) ∧ w'.cell? ⟨gb505, 4, none⟩ = some (.int .i64 t503) ∧ w'.cell? ⟨gb505, 5, none⟩ = some (.int .i64 t504) ∧ w'.cell? (ad512.add ((x13_3).toNat * 5)) = some (.int .i64 ((rd_T59 t493 x13_3).f0)) ∧ w'.cell? ⟨(ad512.add ((x13_3).toNat * 5)).block, (ad512.add ((x13_3).toNat * 5)).off + 1, none⟩ = some (.int .i64 ((rd_T59 t493 x13_3).f1)) ∧ w'.cell? ⟨(ad512.add ((x13_3).toNat * 5)).block, (ad512.add ((x13_3).toNat * 5)).off + 2, none⟩ = some (.int .i64 ((rd_T59 t493 x13_3).f2)) ∧ w'.cell? ⟨(ad512.add ((x13_3).toNat * 5)).block, (ad512.add ((x13_3).toNat * 5)).off + 3, none⟩ = some (.int .i64 ((rd_T59 t493 x13_3).f3)) ∧ w'.cell? ⟨(ad512.add ((x13_3).toNat * 5)).block, (ad512.add ((x13_3).toNat * 5)).off + 4, none⟩ = some (.int .i64 ((rd_T59 t493 x13_3).f4))) (ds := []) #[false, false, false, false, false, false, false, false, false, false, false] (by kernel_rfl) rfl rfl ⟨(blk_cell BK505.out 0).trans rfl, (blk_cell BK505.out 1).trans rfl, (blk_cell BK505.out 2).trans rfl, (blk_cell BK505.out 3).trans rfl, (blk_cell BK505.out 4).trans rfl, (blk_cell BK505.out 5).trans rfl, hx512_0, hx512_1, hx512_2, hx512_3, hx512_4⟩ (fun hHeld => ?_); refine with_tabW laws_FnSight.tab19 laws_FnSight.bits19 (fun HT_ HW_ => ?_)
                 generalize wc.drew = w87 at HO_8 HO_9 HO_11 BK505 HB hx512_0 hx512_1 hx512_2 hx512_3 hx512_4 hHeld ⊢
                 refine pure_ (i := 0) (N := some 143) (v := ?_) (a' := ?_) #[true, false, false, false, false, false, false, false, false, false, false] rfl rfl (any_of HT_.out (by kernel_rfl)) (fun _ _ _ h => h) (Or.inl ⟨by rfl, ?_⟩) ?_ ?_
                 rotate_left
                 ·intro w'
                  go_simp
                  with_reducible rfl
                 rotate_left
                 ·simp only [Act.put, List.setIfInBounds_toArray, List.set_cons_zero, List.set_cons_succ, i64_w, i32_w]
                  rfl
                 refine pure_ (i := 1) (N := some 144) (v := ?_) (a' := ?_) #[true, true, false, false, false, false, false, false, false, false, false] rfl rfl (any_of HT_.out (by kernel_rfl)) (fun _ _ _ h => h) (Or.inl ⟨by rfl, ?_⟩) ?_ ?_
                 rotate_left
                 ·intro w'
                  go_simp
                  with_reducible rfl
                 rotate_left
                 ·simp only [Act.put, List.setIfInBounds_toArray, List.set_cons_zero, List.set_cons_succ, i64_w, i32_w]
                  rfl
                 refine pure_ (i := 2) (N := some 145) (v := ?_) (a' := ?_) #[true, true, true, false, false, false, false, false, false, false, false] rfl rfl (any_of HT_.out (by kernel_rfl)) (fun _ _ _ h => h) (Or.inl ⟨by rfl, ?_⟩) ?_ ?_
                 rotate_left
                 ·intro w'
                  go_simp
                  with_reducible rfl
                 rotate_left
                 ·simp only [Act.put, List.setIfInBounds_toArray, List.set_cons_zero, List.set_cons_succ, i64_w, i32_w]
                  rfl
                 refine pure_ (i := 4) (N := some 147) (v := ?_) (a' := ?_) #[true, true, true, false, true, false, false, false, false, false, false] rfl rfl (any_of HT_.out (by kernel_rfl)) (fun _ _ _ h => h) (Or.inl ⟨by rfl, ?_⟩) ?_ ?_
                 rotate_left
                 ·intro w'
                  go_simp
                  with_reducible rfl
                 rotate_left
                 ·simp only [Act.put, List.setIfInBounds_toArray, List.set_cons_zero, List.set_cons_succ, i64_w, i32_w]
                  rfl
                 refine pure_ (i := 5) (N := some 148) (v := ?_) (a' := ?_) #[true, true, true, false, true, true, false, false, false, false, false] rfl rfl (any_of HT_.out (by kernel_rfl)) (fun _ _ _ h => h) (Or.inl ⟨by rfl, ?_⟩) ?_ ?_
                 rotate_left
                 ·intro w'
                  go_simp
                  with_reducible rfl
                 rotate_left
                 ·simp only [Act.put, List.setIfInBounds_toArray, List.set_cons_zero, List.set_cons_succ, i64_w, i32_w]
                  rfl
                 refine pure_ (i := 6) (N := some 149) (v := ?_) (a' := ?_) #[true, true, true, false, true, true, true, false, false, false, false] rfl rfl (any_of HT_.out (by kernel_rfl)) (fun _ _ _ h => h) (Or.inl ⟨by rfl, ?_⟩) ?_ ?_
                 rotate_left
                 ·intro w'
                  go_simp
                  with_reducible rfl
                 rotate_left
                 ·simp only [Act.put, List.setIfInBounds_toArray, List.set_cons_zero, List.set_cons_succ, i64_w, i32_w]
                  rfl
                 refine pure_ (i := 7) (N := some 150) (v := ?_) (a' := ?_) #[true, true, true, false, true, true, true, true, false, false, false] rfl rfl (any_of HT_.out (by kernel_rfl)) (fun _ _ _ h => h) (Or.inl ⟨by rfl, ?_⟩) ?_ ?_
                 rotate_left
                 ·intro w'
                  go_simp
                  with_reducible rfl
                 rotate_left
                 ·simp only [Act.put, List.setIfInBounds_toArray, List.set_cons_zero, List.set_cons_succ, i64_w, i32_w]
                  rfl
                 refine take_ (i := 3) (N := some 146) (v := ?_) (a' := ?_) #[true, true, true, true, true, true, true, true, false, false, false] rfl rfl (take_ofW HT_.out HW_.out (by kernel_rfl)) (fun _ _ _ h => h) (Or.inl ⟨by rfl, ?_⟩) hHeld ?_ ?_
                 rotate_left
                 ·rintro w' ⟨s0, s1, s2, s3, s4, s5, s6, s7, s8, s9, s10⟩
                  go_simp
                  with_reducible rfl
                 rotate_left
                 ·simp only [Act.put, List.setIfInBounds_toArray, List.set_cons_zero, List.set_cons_succ, i64_w, i32_w]
                  rfl
                 refine take_ (i := 8) (N := some 151) (v := ?_) (a' := ?_) #[true, true, true, true, true, true, true, true, true, false, false] rfl rfl (take_ofW HT_.out HW_.out (by kernel_rfl)) (fun _ _ _ h => h) (Or.inl ⟨by rfl, ?_⟩) hHeld ?_ ?_
                 rotate_left
                 ·rintro w' ⟨s0, s1, s2, s3, s4, s5, s6, s7, s8, s9, s10⟩
                  go_simp
                  with_reducible rfl
                 rotate_left
                 ·simp only [Act.put, List.setIfInBounds_toArray, List.set_cons_zero, List.set_cons_succ, i64_w, i32_w]
                  rfl
                 refine one_ (i := 9) (N := some 152) #[true, true, true, true, true, true, true, true, true, true, false] rfl rfl (one_of HT_.out (by kernel_rfl)) (by decide) (fun K hK => ?_)
                 refine goes_ Try.func42 (by kernel_rfl) rfl #[.slice (some ad512) t493.length co67, .slice Ao68 t496.length co68, .int .i64 t504, .int .i64 ((rd_T59 t493 x13_3).f0)] (by rfl) rfl rfl mU ?_
                 with_reducible refine (impl_SeesNode.calls kj79 _ _ t493 _ _ t496 t504 ((rd_T59 t493 x13_3).f0) true _ ?side1 ?side2 ?side3 ?side4 A85.out).mono ?_
                 (case side1 => exact cU (Kd.R_reads' HO_8.out).2.2)
                 (case side2 => exact (Kd.R_reads' HO_8.out).2.1)
                 (case side3 => exact cU (Kd.R_reads' HO_9.out).2.2)
                 (case side4 => exact (Kd.R_reads' HO_9.out).2.1)
                 rintro e w88 ⟨rfl, hb⟩
                 have HS6_ := (hb.cell (World.block_lt_of_cell? _ _ (hHeld.2.2.2.2.2.2.1))).trans (hHeld.2.2.2.2.2.2.1)
                 have HS7_ := (hb.cell (World.block_lt_of_cell? _ _ (hHeld.2.2.2.2.2.2.2.1))).trans (hHeld.2.2.2.2.2.2.2.1)
                 have HS8_ := (hb.cell (World.block_lt_of_cell? _ _ (hHeld.2.2.2.2.2.2.2.2.1))).trans (hHeld.2.2.2.2.2.2.2.2.1)
                 have HS9_ := (hb.cell (World.block_lt_of_cell? _ _ (hHeld.2.2.2.2.2.2.2.2.2.1))).trans (hHeld.2.2.2.2.2.2.2.2.2.1)
                 have HS10_ := (hb.cell (World.block_lt_of_cell? _ _ (hHeld.2.2.2.2.2.2.2.2.2.2))).trans (hHeld.2.2.2.2.2.2.2.2.2.2)
                 refine ⟨_, rfl, ?_⟩
                 have n0_ := am (Kd.R_below (rU HO_8.out) hb)
                 have n1_ := am (Kd.R_below (rU HO_9.out) hb)
                 have n2_ := am (Kd.R_below (rU HO_11.out) hb)
                 have n3_ := am (kB BK505.out hb)
                 have n4_ := am (below_step (bS HB.out GE505.out) hb)
                 clear HO_8
                 clear HO_9
                 clear HO_11
                 clear BK505
                 clear HB
                 have HO_8 := n0_
                 have HO_9 := n1_
                 have HO_11 := n2_
                 have BK505 := n3_
                 have HB := n4_
                 clear n0_ n1_ n2_ n3_ n4_
                 (try clear hb)
                 (try clear hb2)
                 (try clear hk)
                 (try clear hi)
                 refine hK.out _ _ ⟨(blk_cell BK505.out 0).trans rfl, (blk_cell BK505.out 1).trans rfl, (blk_cell BK505.out 2).trans rfl, (blk_cell BK505.out 3).trans rfl, (blk_cell BK505.out 4).trans rfl, (blk_cell BK505.out 5).trans rfl, HS6_, HS7_, HS8_, HS9_, HS10_⟩ (fun hHeld => ?_)
                 clear hK K
                 refine norm_ (a' := ?_) ?_ ?_
                 rotate_left
                 ·show Act.put _ (some 152) _ = _
                  simp only [Act.put, List.setIfInBounds_toArray, List.set_cons_zero, List.set_cons_succ, i64_w, i32_w]
                  rfl
                 refine pure_ (i := 10) (N := some 153) (v := ?_) (a' := ?_) #[true, true, true, true, true, true, true, true, true, true, true] rfl rfl (any_of HT_.out (by kernel_rfl)) (fun _ _ _ h => h) (Or.inl ⟨by rfl, ?_⟩) ?_ ?_
                 rotate_left
                 ·intro w'
                  go_simp
                  with_reducible rfl
                 rotate_left
                 ·simp only [Act.put, List.setIfInBounds_toArray, List.set_cons_zero, List.set_cons_succ, i64_w, i32_w]
                  rfl
                 refine done_ (done_of HT_.out (by kernel_rfl)) ?_
                 try go_wp2
                 go_roundg kj79
                 case measure => have := HK1.out; have := HJ60.out; have := HK3.out; have := HJ79.out; omega
                 case rel => exact ⟨(wrap64 (x13_3 + 1)), (by first | rfl | (simp; done) | (simp [*]; done)), H', ⟨by have := HK1.out; have := HJ60.out; have := HK3.out; have := HJ79.out; omega⟩, ⟨rU HO_8.out⟩, ⟨rU HO_9.out⟩, ⟨rU HO_11.out⟩, ⟨kU BK505.out⟩, ⟨bS HB.out GE505.out⟩⟩
                ·replace c86 := Bool.eq_false_iff.mpr c86
                 subst c86
                 have H1 : ((impl_NodeOf.f kj79 t506 ((rd_T59 t493 x13_3).f0)).bind fun t515 => (if t515 < 0 then (laws_FnSight.j5 kj79 t493 t496 t506 t509 x13_3 true t499 t500 t501 t502 t503 t504) else (if 0 ≤ t515 then (if t515 < (t506.length : Int) then (laws_FnSight.j5 kj79 t493 t496 t506 t509 x13_3 (!(((rd_T59 t506 t515).f0) == ((rd_T59 t493 x13_3).f0)) || (!(((rd_T59 t506 t515).f1) == ((rd_T59 t493 x13_3).f1)) || (!(((rd_T59 t506 t515).f2) == ((rd_T59 t493 x13_3).f2)) || (!(((rd_T59 t506 t515).f3) == ((rd_T59 t493 x13_3).f3)) || (!(((rd_T59 t506 t515).f4) == ((rd_T59 t493 x13_3).f4))))))) t499 t500 t501 t502 t503 t504) else (none)) else (none)))) = some r := by rw [if_neg (show ¬ (false = true) by decide)] at H; exact H
                 clear H
                 have H := H1
                 clear H1
                 replace H := Option.bind_eq_some_iff.mp H
                 obtain ⟨t515, A890, H⟩ := H
                 replace H : (if t515 < 0 then (laws_FnSight.j5 kj79 t493 t496 t506 t509 x13_3 true t499 t500 t501 t502 t503 t504) else (if 0 ≤ t515 then (if t515 < (t506.length : Int) then (laws_FnSight.j5 kj79 t493 t496 t506 t509 x13_3 (!(((rd_T59 t506 t515).f0) == ((rd_T59 t493 x13_3).f0)) || (!(((rd_T59 t506 t515).f1) == ((rd_T59 t493 x13_3).f1)) || (!(((rd_T59 t506 t515).f2) == ((rd_T59 t493 x13_3).f2)) || (!(((rd_T59 t506 t515).f3) == ((rd_T59 t493 x13_3).f3)) || (!(((rd_T59 t506 t515).f4) == ((rd_T59 t493 x13_3).f4))))))) t499 t500 t501 t502 t503 t504) else (none)) else (none))) = some r := H
                 have A89 := am A890
                 clear A890
                 have HC90 := am H
                 clear H
                 try go_wp2
                 have n0_ := am (Kd.R_drew HO_8.out)
                 have n1_ := am (Kd.R_drew HO_9.out)
                 have n2_ := am (Kd.R_drew HO_11.out)
                 have n3_ := am (blk_drew BK505.out)
                 have n4_ := am (below_drew1 HB.out)
                 clear HO_8
                 clear HO_9
                 clear HO_11
                 clear BK505
                 clear HB
                 have HO_8 := n0_
                 have HO_9 := n1_
                 have HO_11 := n2_
                 have BK505 := n3_
                 have HB := n4_
                 clear n0_ n1_ n2_ n3_ n4_
                 have p512 : 0 ≤ (x13_3 : Int) := dU
                 have q512 : x13_3 < (t493.length : Int) := dU
                 obtain ⟨ad512, e512, hx512_0, hx512_1, hx512_2, hx512_3, hx512_4⟩ := at_T59 (Kd.R_reads' HO_8.out).2.2 x13_3 p512 q512
                 cases e512
                 replace p512 := eq_true p512
                 replace q512 := eq_true q512
                 refine start_ (n := 11) (S := fun w' => w'.cell? ⟨gb505, 0, none⟩ = some (.int .i64 t499) ∧ w'.cell? ⟨gb505, 1, none⟩ = some (.int .i64 t500) ∧ w'.cell? ⟨gb505, 2, none⟩ = some (.int .i64 t501) ∧ w'.cell? ⟨gb505, 3, none⟩ = some (.int .i64 t502) ∧ w'.cell? ⟨gb505, 4, none⟩ = some (.int .i64 t503) ∧ w'.cell? ⟨gb505, 5, none⟩ = some (.int .i64 t504) ∧ w'.cell? (ad512.add ((x13_3).toNat * 5)) = some (.int .i64 ((rd_T59 t493 x13_3).f0)) ∧ w'.cell? ⟨(ad512.add ((x13_3).toNat * 5)).block, (ad512.add ((x13_3).toNat * 5)).off + 1, none⟩ = some (.int .i64 ((rd_T59 t493 x13_3).f1)) ∧ w'.cell? ⟨(ad512.add ((x13_3).toNat * 5)).block, (ad512.add ((x13_3).toNat * 5)).off + 2, none⟩ = some (.int .i64 ((rd_T59 t493 x13_3).f2)) ∧ w'.cell? ⟨(ad512.add ((x13_3).toNat * 5)).block, (ad512.add ((x13_3).toNat * 5)).off + 3, none⟩ = some (.int .i64 ((rd_T59 t493 x13_3).f3)) ∧ w'.cell? ⟨(ad512.add ((x13_3).toNat * 5)).block, (ad512.add ((x13_3).toNat * 5)).off + 4, none⟩ = some (.int .i64 ((rd_T59 t493 x13_3).f4))) (ds := []) #[false, false, false, false, false, false, false, false, false, false, false] (by kernel_rfl) rfl rfl ⟨(blk_cell BK505.out 0).trans rfl, (blk_cell BK505.out 1).trans rfl, (blk_cell BK505.out 2).trans rfl, (blk_cell BK505.out 3).trans rfl, (blk_cell BK505.out 4).trans rfl, (blk_cell BK505.out 5).trans rfl, hx512_0, hx512_1, hx512_2, hx512_3, hx512_4⟩ (fun hHeld => ?_); refine with_tabW laws_FnSight.tab19 laws_FnSight.bits19 (fun HT_ HW_ => ?_)
                 generalize wc.drew = w91 at HO_8 HO_9 HO_11 BK505 HB hx512_0 hx512_1 hx512_2 hx512_3 hx512_4 hHeld ⊢
                 refine pure_ (i := 0) (N := some 143) (v := ?_) (a' := ?_) #[true, false, false, false, false, false, false, false, false, false, false] rfl rfl (any_of HT_.out (by kernel_rfl)) (fun _ _ _ h => h) (Or.inl ⟨by rfl, ?_⟩) ?_ ?_
                 rotate_left
                 ·intro w'
                  go_simp
                  with_reducible rfl
                 rotate_left
                 ·simp only [Act.put, List.setIfInBounds_toArray, List.set_cons_zero, List.set_cons_succ, i64_w, i32_w]
                  rfl
                 refine pure_ (i := 1) (N := some 144) (v := ?_) (a' := ?_) #[true, true, false, false, false, false, false, false, false, false, false] rfl rfl (any_of HT_.out (by kernel_rfl)) (fun _ _ _ h => h) (Or.inl ⟨by rfl, ?_⟩) ?_ ?_
                 rotate_left
                 ·intro w'
                  go_simp
                  with_reducible rfl
                 rotate_left
                 ·simp only [Act.put, List.setIfInBounds_toArray, List.set_cons_zero, List.set_cons_succ, i64_w, i32_w]
                  rfl
                 refine pure_ (i := 2) (N := some 145) (v := ?_) (a' := ?_) #[true, true, true, false, false, false, false, false, false, false, false] rfl rfl (any_of HT_.out (by kernel_rfl)) (fun _ _ _ h => h) (Or.inl ⟨by rfl, ?_⟩) ?_ ?_
                 rotate_left
                 ·intro w'
                  go_simp
                  with_reducible rfl
                 rotate_left
                 ·simp only [Act.put, List.setIfInBounds_toArray, List.set_cons_zero, List.set_cons_succ, i64_w, i32_w]
                  rfl
                 refine pure_ (i := 4) (N := some 147) (v := ?_) (a' := ?_) #[true, true, true, false, true, false, false, false, false, false, false] rfl rfl (any_of HT_.out (by kernel_rfl)) (fun _ _ _ h => h) (Or.inl ⟨by rfl, ?_⟩) ?_ ?_
                 rotate_left
                 ·intro w'
                  go_simp
                  with_reducible rfl
                 rotate_left
                 ·simp only [Act.put, List.setIfInBounds_toArray, List.set_cons_zero, List.set_cons_succ, i64_w, i32_w]
                  rfl
                 refine pure_ (i := 5) (N := some 148) (v := ?_) (a' := ?_) #[true, true, true, false, true, true, false, false, false, false, false] rfl rfl (any_of HT_.out (by kernel_rfl)) (fun _ _ _ h => h) (Or.inl ⟨by rfl, ?_⟩) ?_ ?_
                 rotate_left
                 ·intro w'
                  go_simp
                  with_reducible rfl
                 rotate_left
                 ·simp only [Act.put, List.setIfInBounds_toArray, List.set_cons_zero, List.set_cons_succ, i64_w, i32_w]
                  rfl
                 refine pure_ (i := 6) (N := some 149) (v := ?_) (a' := ?_) #[true, true, true, false, true, true, true, false, false, false, false] rfl rfl (any_of HT_.out (by kernel_rfl)) (fun _ _ _ h => h) (Or.inl ⟨by rfl, ?_⟩) ?_ ?_
                 rotate_left
                 ·intro w'
                  go_simp
                  with_reducible rfl
                 rotate_left
                 ·simp only [Act.put, List.setIfInBounds_toArray, List.set_cons_zero, List.set_cons_succ, i64_w, i32_w]
                  rfl
                 refine pure_ (i := 7) (N := some 150) (v := ?_) (a' := ?_) #[true, true, true, false, true, true, true, true, false, false, false] rfl rfl (any_of HT_.out (by kernel_rfl)) (fun _ _ _ h => h) (Or.inl ⟨by rfl, ?_⟩) ?_ ?_
                 rotate_left
                 ·intro w'
                  go_simp
                  with_reducible rfl
                 rotate_left
                 ·simp only [Act.put, List.setIfInBounds_toArray, List.set_cons_zero, List.set_cons_succ, i64_w, i32_w]
                  rfl
                 refine take_ (i := 3) (N := some 146) (v := ?_) (a' := ?_) #[true, true, true, true, true, true, true, true, false, false, false] rfl rfl (take_ofW HT_.out HW_.out (by kernel_rfl)) (fun _ _ _ h => h) (Or.inl ⟨by rfl, ?_⟩) hHeld ?_ ?_
                 rotate_left
                 ·rintro w' ⟨s0, s1, s2, s3, s4, s5, s6, s7, s8, s9, s10⟩
                  go_simp
                  with_reducible rfl
                 rotate_left
                 ·simp only [Act.put, List.setIfInBounds_toArray, List.set_cons_zero, List.set_cons_succ, i64_w, i32_w]
                  rfl
                 refine take_ (i := 8) (N := some 151) (v := ?_) (a' := ?_) #[true, true, true, true, true, true, true, true, true, false, false] rfl rfl (take_ofW HT_.out HW_.out (by kernel_rfl)) (fun _ _ _ h => h) (Or.inl ⟨by rfl, ?_⟩) hHeld ?_ ?_
                 rotate_left
                 ·rintro w' ⟨s0, s1, s2, s3, s4, s5, s6, s7, s8, s9, s10⟩
                  go_simp
                  with_reducible rfl
                 rotate_left
                 ·simp only [Act.put, List.setIfInBounds_toArray, List.set_cons_zero, List.set_cons_succ, i64_w, i32_w]
                  rfl
                 refine one_ (i := 9) (N := some 152) #[true, true, true, true, true, true, true, true, true, true, false] rfl rfl (one_of HT_.out (by kernel_rfl)) (by decide) (fun K hK => ?_)
                 refine goes_ Try.func42 (by kernel_rfl) rfl #[.slice (some ad512) t493.length co67, .slice Ao68 t496.length co68, .int .i64 t504, .int .i64 ((rd_T59 t493 x13_3).f0)] (by rfl) rfl rfl mU ?_
                 with_reducible refine (impl_SeesNode.calls kj79 _ _ t493 _ _ t496 t504 ((rd_T59 t493 x13_3).f0) false _ ?side1 ?side2 ?side3 ?side4 A85.out).mono ?_
                 (case side1 => exact cU (Kd.R_reads' HO_8.out).2.2)
                 (case side2 => exact (Kd.R_reads' HO_8.out).2.1)
                 (case side3 => exact cU (Kd.R_reads' HO_9.out).2.2)
                 (case side4 => exact (Kd.R_reads' HO_9.out).2.1)
                 rintro e w92 ⟨rfl, hb⟩
                 have HS6_ := (hb.cell (World.block_lt_of_cell? _ _ (hHeld.2.2.2.2.2.2.1))).trans (hHeld.2.2.2.2.2.2.1)
                 have HS7_ := (hb.cell (World.block_lt_of_cell? _ _ (hHeld.2.2.2.2.2.2.2.1))).trans (hHeld.2.2.2.2.2.2.2.1)
                 have HS8_ := (hb.cell (World.block_lt_of_cell? _ _ (hHeld.2.2.2.2.2.2.2.2.1))).trans (hHeld.2.2.2.2.2.2.2.2.1)
                 have HS9_ := (hb.cell (World.block_lt_of_cell? _ _ (hHeld.2.2.2.2.2.2.2.2.2.1))).trans (hHeld.2.2.2.2.2.2.2.2.2.1)
                 have HS10_ := (hb.cell (World.block_lt_of_cell? _ _ (hHeld.2.2.2.2.2.2.2.2.2.2))).trans (hHeld.2.2.2.2.2.2.2.2.2.2)
                 refine ⟨_, rfl, ?_⟩
                 have n0_ := am (Kd.R_below (rU HO_8.out) hb)
                 have n1_ := am (Kd.R_below (rU HO_9.out) hb)
                 have n2_ := am (Kd.R_below (rU HO_11.out) hb)
                 have n3_ := am (kB BK505.out hb)
                 have n4_ := am (below_step (bS HB.out GE505.out) hb)
                 clear HO_8
                 clear HO_9
                 clear HO_11
                 clear BK505
                 clear HB
                 have HO_8 := n0_
                 have HO_9 := n1_
                 have HO_11 := n2_
                 have BK505 := n3_
                 have HB := n4_
                 clear n0_ n1_ n2_ n3_ n4_
                 (try clear hb)
                 (try clear hb2)
                 (try clear hk)
                 (try clear hi)
                 refine hK.out _ _ ⟨(blk_cell BK505.out 0).trans rfl, (blk_cell BK505.out 1).trans rfl, (blk_cell BK505.out 2).trans rfl, (blk_cell BK505.out 3).trans rfl, (blk_cell BK505.out 4).trans rfl, (blk_cell BK505.out 5).trans rfl, HS6_, HS7_, HS8_, HS9_, HS10_⟩ (fun hHeld => ?_)
                 clear hK K
                 refine norm_ (a' := ?_) ?_ ?_
                 rotate_left
                 ·show Act.put _ (some 152) _ = _
                  simp only [Act.put, List.setIfInBounds_toArray, List.set_cons_zero, List.set_cons_succ, i64_w, i32_w]
                  rfl
                 refine pure_ (i := 10) (N := some 153) (v := ?_) (a' := ?_) #[true, true, true, true, true, true, true, true, true, true, true] rfl rfl (any_of HT_.out (by kernel_rfl)) (fun _ _ _ h => h) (Or.inl ⟨by rfl, ?_⟩) ?_ ?_
                 rotate_left
                 ·intro w'
                  go_simp
                  with_reducible rfl
                 rotate_left
                 ·simp only [Act.put, List.setIfInBounds_toArray, List.set_cons_zero, List.set_cons_succ, i64_w, i32_w]
                  rfl
                 refine done_ (done_of HT_.out (by kernel_rfl)) ?_
                 have p514 : 0 ≤ (x13_3 : Int) := dU
                 have q514 : x13_3 < (t493.length : Int) := dU
                 obtain ⟨ad514, e514, hx514_0, hx514_1, hx514_2, hx514_3, hx514_4⟩ := at_T59 (Kd.R_reads' HO_8.out).2.2 x13_3 p514 q514
                 obtain rfl : ad512 = ad514 := (by injection e514)
                 replace p514 := eq_true p514
                 replace q514 := eq_true q514
                 obtain ⟨Ao93, co93, eo93⟩ := Kd.R_slice HO_11.out
                 subst eo93
                 go_upto_region 21 with (first | ((with_reducible refine gate_callee (f := 40) rfl ?_); refine goesL_ (some 160) rfl rfl Try.func40 (by kernel_rfl) rfl #[.slice Ao93 t506.length co93, .int .i64 ((rd_T59 t493 x13_3).f0)] rfl mU ?_; (with_reducible refine (impl_NodeOf.calls kj79 _ _ t506 ((rd_T59 t493 x13_3).f0) t515 _ ?side1 ?side2 A89.out).mono ?_); (case side1 => exact cU (Kd.R_reads' HO_11.out).2.2); (case side2 => exact (Kd.R_reads' HO_11.out).2.1); rintro e w94 ⟨rfl, hb⟩; refine ⟨_, rfl, ?_⟩; have n0_ := am (Kd.R_below (rU HO_8.out) hb); have n1_ := am (Kd.R_below (rU HO_9.out) hb); have n2_ := am (Kd.R_below (rU HO_11.out) hb); have n3_ := am (kB BK505.out hb); have n4_ := am (below_step (bS HB.out GE505.out) hb); clear HO_8; clear HO_9; clear HO_11; clear BK505; clear HB; have HO_8 := n0_; have HO_9 := n1_; have HO_11 := n2_; have BK505 := n3_; have HB := n4_; clear n0_ n1_ n2_ n3_ n4_; (try clear hb); (try clear hb2); (try clear hk); (try clear hi)))
                 (try simp only [Act.put, List.setIfInBounds_toArray, List.set_cons_zero, List.set_cons_succ])
                 go_cut [173] (fun v173 wc => ∃ (kq : Nat) (x173_89 : Bool), v173 = .bool x173_89 ∧ Aside0 (laws_FnSight.j5 kq t493 t496 t506 t509 x13_3 x173_89 t499 t500 t501 t502 t503 t504 = some r) ∧ Aside0 (kq ≤ kj79) ∧ Aside0 (Kd.R k59 59 wc w.heap.size (fun k_ => some k_ ≠ ((.slice Ao93 t506.length co93) : Value).ownBlock) (.slice (some ad512) t493.length co67) t493) ∧ Aside0 (Kd.R (Kd.int .i64) 3 wc w.heap.size (fun _ => True) (.slice Ao68 t496.length co68) t496) ∧ Aside0 (Kd.R k59 59 wc w.heap.size (fun k_ => some k_ ≠ ((.slice (some ad512) t493.length co67) : Value).ownBlock) (.slice Ao93 t506.length co93) t506) ∧ Aside0 (wc.heap[gb505]? = some (.cells #[.int .i64 t499, .int .i64 t500, .int .i64 t501, .int .i64 t502, .int .i64 t503, .int .i64 t504] 30 (0, 0))) ∧ Aside0 (Below w.heap.size w wc))
                 case first =>
                  have H := HC90.out
                  clear HC90
                  by_cases c95 : t515 < 0
                  ·rw [if_pos c95] at H
                   have c95b0 : decide (t515 < 0) = true := decide_eq_true c95
                   clear c95
                   (first | rw [c95b0] | (simp only [i64_w, i32_w]; rw [c95b0]) | skip)
                   have H' := am H
                   clear H
                   try go_wp2
                   have n0_ := am (Kd.R_drew HO_8.out)
                   have n1_ := am (Kd.R_drew HO_9.out)
                   have n2_ := am (Kd.R_drew HO_11.out)
                   have n3_ := am (blk_drew BK505.out)
                   have n4_ := am (below_drew1 HB.out)
                   clear HO_8
                   clear HO_9
                   clear HO_11
                   clear BK505
                   clear HB
                   have HO_8 := n0_
                   have HO_9 := n1_
                   have HO_11 := n2_
                   have BK505 := n3_
                   have HB := n4_
                   clear n0_ n1_ n2_ n3_ n4_
                   refine start_ (n := 13) (S := fun w' => True) (ds := []) #[false, false, false, false, false, false, false, false, false, false, false, false, false] (by kernel_rfl) rfl rfl trivial (fun hHeld => ?_); refine with_tabW laws_FnSight.tab21 laws_FnSight.bits21 (fun HT_ HW_ => ?_)
                   generalize w94.drew = w96 at HO_8 HO_9 HO_11 BK505 HB hHeld ⊢
                   refine pure_ (i := 0) (N := some 161) (v := ?_) (a' := ?_) #[true, false, false, false, false, false, false, false, false, false, false, false, false] rfl rfl (any_of HT_.out (by kernel_rfl)) (fun _ _ _ h => h) (Or.inl ⟨by rfl, ?_⟩) ?_ ?_
                   rotate_left
                   ·intro w'
                    go_simp
                    with_reducible rfl
                   rotate_left
                   ·simp only [Act.put, List.setIfInBounds_toArray, List.set_cons_zero, List.set_cons_succ, i64_w, i32_w]
                    rfl
                   refine pure_ (i := 1) (N := some 162) (v := ?_) (a' := ?_) #[true, true, false, false, false, false, false, false, false, false, false, false, false] rfl rfl (any_of HT_.out (by kernel_rfl)) (fun _ _ _ h => h) (Or.inl ⟨by rfl, ?_⟩) ?_ ?_
                   rotate_left
                   ·intro w'
                    go_simp
                    with_reducible rfl
                   rotate_left
                   ·simp only [Act.put, List.setIfInBounds_toArray, List.set_cons_zero, List.set_cons_succ, i64_w, i32_w]
                    rfl
                   refine pure_ (i := 2) (N := some 163) (v := ?_) (a' := ?_) #[true, true, true, false, false, false, false, false, false, false, false, false, false] rfl rfl (any_of HT_.out (by kernel_rfl)) (fun _ _ _ h => h) (Or.inl ⟨by rfl, ?_⟩) ?_ ?_
                   rotate_left
                   ·intro w'
                    go_simp
                    with_reducible rfl
                   rotate_left
                   ·simp only [Act.put, List.setIfInBounds_toArray, List.set_cons_zero, List.set_cons_succ, i64_w, i32_w]
                    rfl
                   refine pure_ (i := 3) (N := some 164) (v := undef) (a' := ?_) #[true, true, true, true, false, false, false, false, false, false, false, false, false] rfl rfl (any_of HT_.out (by kernel_rfl)) (fun _ _ _ h => h) (Or.inr ⟨by rfl, rfl⟩) ?_ ?_
                   rotate_left
                   ·simp only [Act.put, List.setIfInBounds_toArray, List.set_cons_zero, List.set_cons_succ, i64_w, i32_w]
                    rfl
                   refine pure_ (i := 4) (N := some 165) (v := undef) (a' := ?_) #[true, true, true, true, true, false, false, false, false, false, false, false, false] rfl rfl (any_of HT_.out (by kernel_rfl)) (fun _ _ _ h => h) (Or.inr ⟨by rfl, rfl⟩) ?_ ?_
                   rotate_left
                   ·simp only [Act.put, List.setIfInBounds_toArray, List.set_cons_zero, List.set_cons_succ, i64_w, i32_w]
                    rfl
                   refine pure_ (i := 5) (N := some 166) (v := undef) (a' := ?_) #[true, true, true, true, true, true, false, false, false, false, false, false, false] rfl rfl (any_of HT_.out (by kernel_rfl)) (fun _ _ _ h => h) (Or.inr ⟨by rfl, rfl⟩) ?_ ?_
                   rotate_left
                   ·simp only [Act.put, List.setIfInBounds_toArray, List.set_cons_zero, List.set_cons_succ, i64_w, i32_w]
                    rfl
                   refine pure_ (i := 6) (N := some 167) (v := undef) (a' := ?_) #[true, true, true, true, true, true, true, false, false, false, false, false, false] rfl rfl (any_of HT_.out (by kernel_rfl)) (fun _ _ _ h => h) (Or.inr ⟨by rfl, rfl⟩) ?_ ?_
                   rotate_left
                   ·simp only [Act.put, List.setIfInBounds_toArray, List.set_cons_zero, List.set_cons_succ, i64_w, i32_w]
                    rfl
                   refine pure_ (i := 7) (N := some 168) (v := undef) (a' := ?_) #[true, true, true, true, true, true, true, true, false, false, false, false, false] rfl rfl (any_of HT_.out (by kernel_rfl)) (fun _ _ _ h => h) (Or.inr ⟨by rfl, rfl⟩) ?_ ?_
                   rotate_left
                   ·simp only [Act.put, List.setIfInBounds_toArray, List.set_cons_zero, List.set_cons_succ, i64_w, i32_w]
                    rfl
                   refine pure_ (i := 8) (N := some 169) (v := undef) (a' := ?_) #[true, true, true, true, true, true, true, true, true, false, false, false, false] rfl rfl (any_of HT_.out (by kernel_rfl)) (fun _ _ _ h => h) (Or.inr ⟨by rfl, rfl⟩) ?_ ?_
                   rotate_left
                   ·simp only [Act.put, List.setIfInBounds_toArray, List.set_cons_zero, List.set_cons_succ, i64_w, i32_w]
                    rfl
                   refine pure_ (i := 9) (N := some 170) (v := undef) (a' := ?_) #[true, true, true, true, true, true, true, true, true, true, false, false, false] rfl rfl (any_of HT_.out (by kernel_rfl)) (fun _ _ _ h => h) (Or.inr ⟨by rfl, rfl⟩) ?_ ?_
                   rotate_left
                   ·simp only [Act.put, List.setIfInBounds_toArray, List.set_cons_zero, List.set_cons_succ, i64_w, i32_w]
                    rfl
                   refine pure_ (i := 10) (N := some 171) (v := undef) (a' := ?_) #[true, true, true, true, true, true, true, true, true, true, true, false, false] rfl rfl (any_of HT_.out (by kernel_rfl)) (fun _ _ _ h => h) (Or.inr ⟨by rfl, rfl⟩) ?_ ?_
                   rotate_left
                   ·simp only [Act.put, List.setIfInBounds_toArray, List.set_cons_zero, List.set_cons_succ, i64_w, i32_w]
                    rfl
                   refine pure_ (i := 11) (N := some 172) (v := undef) (a' := ?_) #[true, true, true, true, true, true, true, true, true, true, true, true, false] rfl rfl (any_of HT_.out (by kernel_rfl)) (fun _ _ _ h => h) (Or.inr ⟨by rfl, rfl⟩) ?_ ?_
                   rotate_left
                   ·simp only [Act.put, List.setIfInBounds_toArray, List.set_cons_zero, List.set_cons_succ, i64_w, i32_w]
                    rfl
                   refine pure_ (i := 12) (N := some 173) (v := ?_) (a' := ?_) #[true, true, true, true, true, true, true, true, true, true, true, true, true] rfl rfl (any_of HT_.out (by kernel_rfl)) (fun _ _ _ h => h) (Or.inl ⟨by rfl, ?_⟩) ?_ ?_
                   rotate_left
                   ·intro w'
                    go_simp
                    with_reducible rfl
                   rotate_left
                   ·simp only [Act.put, List.setIfInBounds_toArray, List.set_cons_zero, List.set_cons_succ, i64_w, i32_w]
                    rfl
                   refine done_ (done_of HT_.out (by kernel_rfl)) ?_
                   try go_wp2
                   go_meet
                   case rel => exact ⟨_, (true), (by first | rfl | (simp; done) | (simp [*]; done)), H', ⟨by have := HK1.out; have := HJ60.out; have := HK3.out; have := HJ79.out; first | omega | exact Nat.le_refl _⟩, ⟨rU HO_8.out⟩, ⟨rU HO_9.out⟩, ⟨rU HO_11.out⟩, ⟨kU BK505.out⟩, ⟨bS HB.out GE505.out⟩⟩
                  ·rw [if_neg c95] at H
                   have c95b0 : decide (t515 < 0) = false := decide_eq_false c95
                   clear c95
                   (first | rw [c95b0] | (simp only [i64_w, i32_w]; rw [c95b0]) | skip)
                   by_cases c97 : 0 ≤ t515
                   ·rw [if_pos c97] at H
                    have c97b0 : decide (0 ≤ t515) = true := decide_eq_true c97
                    clear c97
                    by_cases c98 : t515 < (t506.length : Int)
                    ·rw [if_pos c98] at H
                     have c98b0 : decide (t515 < (t506.length : Int)) = true := decide_eq_true c98
                     clear c98
                     have H' := am H
                     clear H
                     try go_wp2
                     have n0_ := am (Kd.R_drew HO_8.out)
                     have n1_ := am (Kd.R_drew HO_9.out)
                     have n2_ := am (Kd.R_drew HO_11.out)
                     have n3_ := am (blk_drew BK505.out)
                     have n4_ := am (below_drew1 HB.out)
                     clear HO_8
                     clear HO_9
                     clear HO_11
                     clear BK505
                     clear HB
                     have HO_8 := n0_
                     have HO_9 := n1_
                     have HO_11 := n2_
                     have BK505 := n3_
                     have HB := n4_
                     clear n0_ n1_ n2_ n3_ n4_
                     have p516 : 0 ≤ (t515 : Int) := dU
                     have q516 : t515 < (t506.length : Int) := dU
                     obtain ⟨ad516, e516, hx516_0, hx516_1, hx516_2, hx516_3, hx516_4⟩ := at_T59 (Kd.R_reads' HO_11.out).2.2 t515 p516 q516
                     cases e516
                     replace p516 := eq_true p516
                     replace q516 := eq_true q516
                     have p517 : 0 ≤ (x13_3 : Int) := dU
                     have q517 : x13_3 < (t493.length : Int) := dU
                     obtain ⟨ad517, e517, hx517_0, hx517_1, hx517_2, hx517_3, hx517_4⟩ := at_T59 (Kd.R_reads' HO_8.out).2.2 x13_3 p517 q517
                     obtain rfl : ad512 = ad517 := (by injection e517)
                     replace p517 := eq_true p517
                     replace q517 := eq_true q517
                     refine start_ (n := 13) (S := fun w' => w'.cell? (ad516.add ((t515).toNat * 5)) = some (.int .i64 ((rd_T59 t506 t515).f0)) ∧ w'.cell? ⟨(ad516.add ((t515).toNat * 5)).block, (ad516.add ((t515).toNat * 5)).off + 1, none⟩ = some (.int .i64 ((rd_T59 t506 t515).f1)) ∧ w'.cell? ⟨(ad516.add ((t515).toNat * 5)).block, (ad516.add ((t515).toNat * 5)).off + 2, none⟩ = some (.int .i64 ((rd_T59 t506 t515).f2)) ∧ w'.cell? ⟨(ad516.add ((t515).toNat * 5)).block, (ad516.add ((t515).toNat * 5)).off + 3, none⟩ = some (.int .i64 ((rd_T59 t506 t515).f3)) ∧ w'.cell? ⟨(ad516.add ((t515).toNat * 5)).block, (ad516.add ((t515).toNat * 5)).off + 4, none⟩ = some (.int .i64 ((rd_T59 t506 t515).f4)) ∧ w'.cell? (ad512.add ((x13_3).toNat * 5)) = some (.int .i64 ((rd_T59 t493 x13_3).f0)) ∧ w'.cell? ⟨(ad512.add ((x13_3).toNat * 5)).block, (ad512.add ((x13_3).toNat * 5)).off + 1, none⟩ = some (.int .i64 ((rd_T59 t493 x13_3).f1)) ∧ w'.cell? ⟨(ad512.add ((x13_3).toNat * 5)).block, (ad512.add ((x13_3).toNat * 5)).off + 2, none⟩ = some (.int .i64 ((rd_T59 t493 x13_3).f2)) ∧ w'.cell? ⟨(ad512.add ((x13_3).toNat * 5)).block, (ad512.add ((x13_3).toNat * 5)).off + 3, none⟩ = some (.int .i64 ((rd_T59 t493 x13_3).f3)) ∧ w'.cell? ⟨(ad512.add ((x13_3).toNat * 5)).block, (ad512.add ((x13_3).toNat * 5)).off + 4, none⟩ = some (.int .i64 ((rd_T59 t493 x13_3).f4))) (ds := []) #[false, false, false, false, false, false, false, false, false, false, false, false, false] (by kernel_rfl) rfl rfl ⟨hx516_0, hx516_1, hx516_2, hx516_3, hx516_4, hx517_0, hx517_1, hx517_2, hx517_3, hx517_4⟩ (fun hHeld => ?_); refine with_tabW laws_FnSight.tab21 laws_FnSight.bits21 (fun HT_ HW_ => ?_)
                     generalize w94.drew = w99 at HO_8 HO_9 HO_11 BK505 HB hx516_0 hx516_1 hx516_2 hx516_3 hx516_4 hx517_0 hx517_1 hx517_2 hx517_3 hx517_4 hHeld ⊢
                     refine pure_ (i := 0) (N := some 161) (v := ?_) (a' := ?_) #[true, false, false, false, false, false, false, false, false, false, false, false, false] rfl rfl (any_of HT_.out (by kernel_rfl)) (fun _ _ _ h => h) (Or.inl ⟨by rfl, ?_⟩) ?_ ?_
                     rotate_left
                     ·intro w'
                      go_simp
                      with_reducible rfl
                     rotate_left
                     ·simp only [Act.put, List.setIfInBounds_toArray, List.set_cons_zero, List.set_cons_succ, i64_w, i32_w]
                      rfl
                     refine pure_ (i := 1) (N := some 162) (v := ?_) (a' := ?_) #[true, true, false, false, false, false, false, false, false, false, false, false, false] rfl rfl (any_of HT_.out (by kernel_rfl)) (fun _ _ _ h => h) (Or.inl ⟨by rfl, ?_⟩) ?_ ?_
                     rotate_left
                     ·intro w'
                      go_simp
                      with_reducible rfl
                     rotate_left
                     ·simp only [Act.put, List.setIfInBounds_toArray, List.set_cons_zero, List.set_cons_succ, i64_w, i32_w]
                      rfl
                     refine pure_ (i := 2) (N := some 163) (v := ?_) (a' := ?_) #[true, true, true, false, false, false, false, false, false, false, false, false, false] rfl rfl (any_of HT_.out (by kernel_rfl)) (fun _ _ _ h => h) (Or.inl ⟨by rfl, ?_⟩) ?_ ?_
                     rotate_left
                     ·intro w'
                      go_simp
                      with_reducible rfl
                     rotate_left
                     ·simp only [Act.put, List.setIfInBounds_toArray, List.set_cons_zero, List.set_cons_succ, i64_w, i32_w]
                      rfl
                     refine pure_ (i := 3) (N := some 164) (v := ?_) (a' := ?_) #[true, true, true, true, false, false, false, false, false, false, false, false, false] rfl rfl (any_of HT_.out (by kernel_rfl)) (fun _ _ _ h => h) (Or.inl ⟨by rfl, ?_⟩) ?_ ?_
                     rotate_left
                     ·intro w'
                      go_simp
                      with_reducible rfl
                     rotate_left
                     ·simp only [Act.put, List.setIfInBounds_toArray, List.set_cons_zero, List.set_cons_succ, i64_w, i32_w]
                      rfl
                     refine pure_ (i := 4) (N := some 165) (v := ?_) (a' := ?_) #[true, true, true, true, true, false, false, false, false, false, false, false, false] rfl rfl (any_of HT_.out (by kernel_rfl)) (fun _ _ _ h => h) (Or.inl ⟨by rfl, ?_⟩) ?_ ?_
                     rotate_left
                     ·intro w'
                      go_simp
                      with_reducible rfl
                     rotate_left
                     ·simp only [Act.put, List.setIfInBounds_toArray, List.set_cons_zero, List.set_cons_succ, i64_w, i32_w]
                      rfl
                     refine pure_ (i := 5) (N := some 166) (v := ?_) (a' := ?_) #[true, true, true, true, true, true, false, false, false, false, false, false, false] rfl rfl (any_of HT_.out (by kernel_rfl)) (fun _ _ _ h => h) (Or.inl ⟨by rfl, ?_⟩) ?_ ?_
                     rotate_left
                     ·intro w'
                      go_simp
                      with_reducible rfl
                     rotate_left
                     ·simp only [Act.put, List.setIfInBounds_toArray, List.set_cons_zero, List.set_cons_succ, i64_w, i32_w]
                      rfl
                     refine pure_ (i := 7) (N := some 168) (v := ?_) (a' := ?_) #[true, true, true, true, true, true, false, true, false, false, false, false, false] rfl rfl (any_of HT_.out (by kernel_rfl)) (fun _ _ _ h => h) (Or.inl ⟨by rfl, ?_⟩) ?_ ?_
                     rotate_left
                     ·intro w'
                      go_simp
                      with_reducible rfl
                     rotate_left
                     ·simp only [Act.put, List.setIfInBounds_toArray, List.set_cons_zero, List.set_cons_succ, i64_w, i32_w]
                      rfl
                     refine pure_ (i := 8) (N := some 169) (v := ?_) (a' := ?_) #[true, true, true, true, true, true, false, true, true, false, false, false, false] rfl rfl (any_of HT_.out (by kernel_rfl)) (fun _ _ _ h => h) (Or.inl ⟨by rfl, ?_⟩) ?_ ?_
                     rotate_left
                     ·intro w'
                      go_simp
                      with_reducible rfl
                     rotate_left
                     ·simp only [Act.put, List.setIfInBounds_toArray, List.set_cons_zero, List.set_cons_succ, i64_w, i32_w]
                      rfl
                     refine pure_ (i := 9) (N := some 170) (v := ?_) (a' := ?_) #[true, true, true, true, true, true, false, true, true, true, false, false, false] rfl rfl (any_of HT_.out (by kernel_rfl)) (fun _ _ _ h => h) (Or.inl ⟨by rfl, ?_⟩) ?_ ?_
                     rotate_left
                     ·intro w'
                      go_simp
                      with_reducible rfl
                     rotate_left
                     ·simp only [Act.put, List.setIfInBounds_toArray, List.set_cons_zero, List.set_cons_succ, i64_w, i32_w]
                      rfl
                     refine take_ (i := 6) (N := some 167) (v := ?_) (a' := ?_) #[true, true, true, true, true, true, true, true, true, true, false, false, false] rfl rfl (take_ofW HT_.out HW_.out (by kernel_rfl)) (fun _ _ _ h => h) (Or.inl ⟨by rfl, ?_⟩) hHeld ?_ ?_
                     rotate_left
                     ·rintro w' ⟨s0, s1, s2, s3, s4, s5, s6, s7, s8, s9⟩
                      go_simp
                      with_reducible rfl
                     rotate_left
                     ·simp only [Act.put, List.setIfInBounds_toArray, List.set_cons_zero, List.set_cons_succ, i64_w, i32_w]
                      rfl
                     refine take_ (i := 10) (N := some 171) (v := ?_) (a' := ?_) #[true, true, true, true, true, true, true, true, true, true, true, false, false] rfl rfl (take_ofW HT_.out HW_.out (by kernel_rfl)) (fun _ _ _ h => h) (Or.inl ⟨by rfl, ?_⟩) hHeld ?_ ?_
                     rotate_left
                     ·rintro w' ⟨s0, s1, s2, s3, s4, s5, s6, s7, s8, s9⟩
                      go_simp
                      with_reducible rfl
                     rotate_left
                     ·simp only [Act.put, List.setIfInBounds_toArray, List.set_cons_zero, List.set_cons_succ, i64_w, i32_w]
                      rfl
                     refine pure_ (i := 11) (N := some 172) (v := ?_) (a' := ?_) #[true, true, true, true, true, true, true, true, true, true, true, true, false] rfl rfl (any_of HT_.out (by kernel_rfl)) (fun _ _ _ h => h) (Or.inl ⟨by rfl, ?_⟩) ?_ ?_
                     rotate_left
                     ·intro w'
                      go_simp
                      with_reducible rfl
                     rotate_left
                     ·simp only [Act.put, List.setIfInBounds_toArray, List.set_cons_zero, List.set_cons_succ, i64_w, i32_w]
                      rfl
                     refine pure_ (i := 12) (N := some 173) (v := ?_) (a' := ?_) #[true, true, true, true, true, true, true, true, true, true, true, true, true] rfl rfl (any_of HT_.out (by kernel_rfl)) (fun _ _ _ h => h) (Or.inl ⟨by rfl, ?_⟩) ?_ ?_
                     rotate_left
                     ·intro w'
                      go_simp
                      with_reducible rfl
                     rotate_left
                     ·simp only [Act.put, List.setIfInBounds_toArray, List.set_cons_zero, List.set_cons_succ, i64_w, i32_w]
                      rfl
                     refine done_ (done_of HT_.out (by kernel_rfl)) ?_
                     try go_wp2
                     go_meet
                     case rel => exact ⟨_, ((!(((rd_T59 t506 t515).f0) == ((rd_T59 t493 x13_3).f0)) || (!(((rd_T59 t506 t515).f1) == ((rd_T59 t493 x13_3).f1)) || (!(((rd_T59 t506 t515).f2) == ((rd_T59 t493 x13_3).f2)) || (!(((rd_T59 t506 t515).f3) == ((rd_T59 t493 x13_3).f3)) || (!(((rd_T59 t506 t515).f4) == ((rd_T59 t493 x13_3).f4)))))))), (by first | rfl | (simp; done) | (simp [*]; done)), H', ⟨by have := HK1.out; have := HJ60.out; have := HK3.out; have := HJ79.out; first | omega | exact Nat.le_refl _⟩, ⟨rU HO_8.out⟩, ⟨rU HO_9.out⟩, ⟨rU HO_11.out⟩, ⟨kU BK505.out⟩, ⟨bS HB.out GE505.out⟩⟩
                    ·rw [if_neg c98] at H
                     exact absurd H (by simp)
                   ·rw [if_neg c97] at H
                    exact absurd H (by simp)
                 case rest =>
                  clear HC90
                  try clear p2
                  try clear c4
                  try clear p5
                  try clear q5
                  try clear hx5
                  try clear p6
                  try clear c8
                  try clear c9
                  try clear c40
                  try clear c42
                  try clear p51
                  try clear q51
                  try clear hx51
                  try clear p64
                  try clear c83
                  try clear c84
                  try clear c84b0
                  try clear c86
                  try clear c95
                  try clear c95b0
                  try clear c97
                  try clear c97b0
                  try clear c98
                  try clear c98b0
                  try clear hx512_0
                  try clear hx512_1
                  try clear hx512_2
                  try clear hx512_3
                  try clear hx512_4
                  try clear hx514_0
                  try clear hx514_1
                  try clear hx514_2
                  try clear hx514_3
                  try clear hx514_4
                  try clear hx516_0
                  try clear hx516_1
                  try clear hx516_2
                  try clear hx516_3
                  try clear hx516_4
                  try clear hx517_0
                  try clear hx517_1
                  try clear hx517_2
                  try clear hx517_3
                  try clear hx517_4
                  try clear p512
                  try clear p514
                  try clear p516
                  try clear p517
                  try clear q512
                  try clear q514
                  try clear q516
                  try clear q517
                  obtain ⟨kq, x173_89, rfl, HA, HJ89, HO_8, HO_9, HO_11, BK505, HB⟩ := hcut
                  cases kq with
                  | zero => exact absurd HA.out (by simp [laws_FnSight.j5])
                  | succ kj89 =>
                   have H := HA.out
                   clear HA
                   simp only [laws_FnSight.j5] at H
                   by_cases c100 : x173_89 = true
                   ·subst c100
                    have H1 : (some false) = some r := by rw [if_pos rfl] at H; exact H
                    clear H
                    have H := H1
                    clear H1
                    obtain rfl := Option.some.inj H
                    go_wp2
                    go_ret
                    exact ⟨eU, bS HB.out GE505.out⟩
                   ·replace c100 := Bool.eq_false_iff.mpr c100
                    subst c100
                    have H1 : (laws_FnSight.l1 kj89 t493 t496 t506 t509 (wrap64 (x13_3 + 1)) t499 t500 t501 t502 t503 t504) = some r := by rw [if_neg (show ¬ (false = true) by decide)] at H; exact H
                    clear H
                    have H := H1
                    clear H1
                    have H' := am H
                    clear H
                    go_wp2
                    go_roundg kj89
                    case measure => have := HK1.out; have := HJ60.out; have := HK3.out; have := HJ79.out; have := HJ89.out; omega
                    case rel => exact ⟨(wrap64 (x13_3 + 1)), (by first | rfl | (simp; done) | (simp [*]; done)), H', ⟨by have := HK1.out; have := HJ60.out; have := HK3.out; have := HJ79.out; have := HJ89.out; omega⟩, ⟨rU HO_8.out⟩, ⟨rU HO_9.out⟩, ⟨rU HO_11.out⟩, ⟨kU BK505.out⟩, ⟨bS HB.out GE505.out⟩⟩
               ·rw [if_neg c84] at H
                exact absurd H (by simp)
              ·rw [if_neg c83] at H
               exact absurd H (by simp)
             ·replace c82 := Bool.eq_false_iff.mpr c82
              subst c82
              have H1 : (some true) = some r := by rw [if_neg (show ¬ (false = true) by decide)] at H; exact H
              clear H
              have H := H1
              clear H1
              obtain rfl := Option.some.inj H
              go_wp2
              go_ret
              exact ⟨eU, bS HB.out GE505.out⟩
     ·rw [if_neg c58] at H
      have c58b0 : ((wrap64 (t492 + (t463.length : Int))) == (t456.length : Int)) = false := beq_eq_false_iff_ne.mpr c58
      have c58b1 : ((wrap64 (t492 + (t463.length : Int))) != (t456.length : Int)) = true := bne_iff_ne.mpr c58
      obtain rfl := Option.some.inj H
      obtain ⟨Ao101, co101, eo101⟩ := Kd.R_slice HO_6.out
      subst eo101
      go_wp2_with (first | ((with_reducible refine gate_callee (f := 43) rfl ?_); refine goesL_ (some 96) rfl rfl Try.func43 (by kernel_rfl) rfl #[.slice Ao7 t456.length co7, .slice Ao8 t457.length co8, .int .i64 t458] rfl mU ?_; (with_reducible refine (impl_HiddenCount.calls k1 _ _ t456 _ _ t457 t458 t492 _ ?side1 ?side2 ?side3 ?side4 A57.out).mono ?_); (case side1 => exact cU (Kd.R_reads' HO_3.out).2.2); (case side2 => exact (Kd.R_reads' HO_3.out).2.1); (case side3 => exact cU (Kd.R_reads' HO_4.out).2.2); (case side4 => exact (Kd.R_reads' HO_4.out).2.1); rintro e w102 ⟨rfl, hb⟩; refine ⟨_, rfl, ?_⟩; have n0_ := am (Kd.R_below (rU HO_3.out) hb); have n1_ := am (Kd.R_below (rU HO_4.out) hb); have n2_ := am (Kd.R_below (rU HO_6.out) hb); have n3_ := am (below_step (bU HB.out) hb); clear HO_3; clear HO_4; clear HO_6; clear HB; have HO_3 := n0_; have HO_4 := n1_; have HO_6 := n2_; have HB := n3_; clear n0_ n1_ n2_ n3_; (try clear hb); (try clear hb2); (try clear hk); (try clear hi)))
      go_ret
      exact ⟨eU, bU HB.out⟩
def laws_FnSight.Pure : Prop := ∀ (l0 : List Int), l0.length ≤ maxLen → l0.length * 1 ≤ 140737488351232 → (∀ x ∈ l0, (Lit.int .u8 x).wf = true) → ∃ k, laws_FnSight.f k l0 = some true
theorem laws_FnSight.walk (P : laws_FnSight.Pure) (a0 : Option Addr) (len0 cap0 : Nat) (z0 : List Int) (w : World) (w0 : (a0 = none ∧ len0 = 0 ∧ cap0 = 0 ∧ z0 = []) ∨ ∃ x, a0 = some x ∧ len0 ≤ cap0 ∧ cap0 ≤ maxLen ∧ z0.length = cap0 ∧ (∀ i, i < z0.length → w.cell? (x.add i) = some (.int .u8 (z0.getD i 0))) ∧ ∀ n ∈ z0, (Lit.int .u8 n).wf = true) (y0 : len0 * 1 ≤ 140737488351232) :
  Calls Try.prog 8 #[.slice a0 len0 cap0] w fun e w' => e = .returned (.bool true) ∧ Below w.heap.size w w' := by
 obtain ⟨l0, rfl, hr0, hm0, hw0, hc0⟩ := ReadsInt.ofRowC w0
 obtain ⟨k, h⟩ := P l0 hm0 y0 hw0
 refine (laws_FnSight.calls k _ _ l0 true w (Kd.C_of_reads (d := (0 : Int)) (h1 := fun _ => rfl) hr0) hc0 h).mono ?_
 rintro e w' ⟨rfl, hd⟩
 exact ⟨rfl, hd⟩
end Go.Proofs.Ytiiibfpijmmbfaa.QFnSight
