import Derived.Test.YtefppmgcenfemaaDoorUp
import Derived.Test.YtefppmgcenfemaaDoorUp2
import Derived.Test.YtefppmgcenfemaaDoorQFnEditsx0
import Derived.Test.YtefppmgcenfemaaDoorQFnEditsx1
import Derived.Test.YtefppmgcenfemaaDoorQFnEditsx2
import Derived.Test.YtefppmgcenfemaaDoorQFnEditsx3
import Derived.Test.YtefppmgcenfemaaDoorQFnEditsx4
import Derived.Test.YtefppmgcenfemaaDoorQFnEditsx5
import Derived.Test.YtefppmgcenfemaaDoorQFnEditsx6
import Derived.Test.YtefppmgcenfemaaDoorQFnEditsx7
import Derived.Test.YtefppmgcenfemaaDoorQFnEditsx8
import Derived.Test.YtefppmgcenfemaaDoorQFnEditsx9
namespace Go.Proofs.YtefppmgcenfemaaDoor.QFnEdits
open Go.RowKit Go.Proofs.YtefppmgcenfemaaDoorW.PrintWords Go.Proofs.YtefppmgcenfemaaDoorW.PrintLast Go.Proofs.YtefppmgcenfemaaDoorW.PrintMore
attribute [local go_sem] max2_int min2_int max_two min_two max_three min_three max_four min_four
set_option linter.unusedVariables false
set_option linter.unusedSimpArgs false
attribute [local go_sem high] eqA34
mutual
def laws_FnEdits.j0 : Nat → List Int → List (S34) → List (S34) → Bool → Int → Int → Int → Int → Int → Int → Option (Bool)
 | 0, _, _, _, _, _, _, _, _, _, _ => none
 | k + 1, x0, x3, x5, x42, x415000, x415001, x415002, x415003, x415004, x415005 => if x42 = true then (some false) else ((impl_NodeOf.f k x5 x415001).bind fun t423 => (if ((x415000 == 2) != (decide (t423 < 0))) = true then (laws_FnEdits.j1 k x0 x3 x5 true x415000 x415001 x415002 x415003 x415004 x415005) else (if t423 ≥ 0 then (if 0 ≤ t423 then (if t423 < (x5.length : Int) then (laws_FnEdits.j1 k x0 x3 x5 (((rd_T34 x5 t423).f4) != x415005) x415000 x415001 x415002 x415003 x415004 x415005) else (none)) else (none)) else (laws_FnEdits.j1 k x0 x3 x5 false x415000 x415001 x415002 x415003 x415004 x415005))))
def laws_FnEdits.j1 : Nat → List Int → List (S34) → List (S34) → Bool → Int → Int → Int → Int → Int → Int → Option (Bool)
 | 0, _, _, _, _, _, _, _, _, _, _ => none
 | k + 1, x0, x3, x5, x66, x415000, x415001, x415002, x415003, x415004, x415005 => if x66 = true then (some false) else (laws_FnEdits.l0 k x0 x3 x5 0 x415000 x415001 x415002 x415003 x415004 x415005)
def laws_FnEdits.l0 : Nat → List Int → List (S34) → List (S34) → Int → Int → Int → Int → Int → Int → Int → Option (Bool)
 | 0, _, _, _, _, _, _, _, _, _, _ => none
 | k + 1, x0, x3, x5, x8, x415000, x415001, x415002, x415003, x415004, x415005 => if x8 < (x3.length : Int) then (if 0 ≤ x8 then ((impl_NodeOf.f k x5 ((rd_T34 x3 x8).f0)).bind fun t426 => (if ((rd_T34 x3 x8).f0) = x415001 then (if t426 < 0 then (if x415000 = 2 then ((impl_IsUnder.f k x3 ((rd_T34 x3 x8).f0) x415001).bind fun t429 => (laws_FnEdits.j3 k x0 x3 x5 x8 (!t429) x415000 x415001 x415002 x415003 x415004 x415005)) else (laws_FnEdits.j3 k x0 x3 x5 x8 true x415000 x415001 x415002 x415003 x415004 x415005)) else (laws_FnEdits.j3 k x0 x3 x5 x8 false x415000 x415001 x415002 x415003 x415004 x415005)) else (if t426 ≥ 0 then (if 0 ≤ t426 then (if t426 < (x5.length : Int) then (if (!(((rd_T34 x5 t426).f0) == ((rd_T34 x3 x8).f0)) || (!(((rd_T34 x5 t426).f1) == ((rd_T34 x3 x8).f1)) || (!(((rd_T34 x5 t426).f2) == ((rd_T34 x3 x8).f2)) || (!(((rd_T34 x5 t426).f3) == ((rd_T34 x3 x8).f3)) || (!(((rd_T34 x5 t426).f4) == ((rd_T34 x3 x8).f4))))))) = true then (laws_FnEdits.j3 k x0 x3 x5 x8 true x415000 x415001 x415002 x415003 x415004 x415005) else (if t426 < 0 then (if x415000 = 2 then ((impl_IsUnder.f k x3 ((rd_T34 x3 x8).f0) x415001).bind fun t433 => (laws_FnEdits.j3 k x0 x3 x5 x8 (!t433) x415000 x415001 x415002 x415003 x415004 x415005)) else (laws_FnEdits.j3 k x0 x3 x5 x8 true x415000 x415001 x415002 x415003 x415004 x415005)) else (laws_FnEdits.j3 k x0 x3 x5 x8 false x415000 x415001 x415002 x415003 x415004 x415005))) else (none)) else (none)) else (if t426 < 0 then (if x415000 = 2 then ((impl_IsUnder.f k x3 ((rd_T34 x3 x8).f0) x415001).bind fun t435 => (laws_FnEdits.j3 k x0 x3 x5 x8 (!t435) x415000 x415001 x415002 x415003 x415004 x415005)) else (laws_FnEdits.j3 k x0 x3 x5 x8 true x415000 x415001 x415002 x415003 x415004 x415005)) else (laws_FnEdits.j3 k x0 x3 x5 x8 false x415000 x415001 x415002 x415003 x415004 x415005))))) else (none)) else ((spec_DrawRunEdits.f k x0).bind fun bt436 => ((impl_RunEdits.f k bt436.1 bt436.2).bind fun t442 => ((impl_IsDocument.f k t442).bind fun t445 => ((impl_IsDocument.f k bt436.1).bind fun t446 => (some (t445 == t446))))))
def laws_FnEdits.j3 : Nat → List Int → List (S34) → List (S34) → Int → Bool → Int → Int → Int → Int → Int → Int → Option (Bool)
 | 0, _, _, _, _, _, _, _, _, _, _, _ => none
 | k + 1, x0, x3, x5, x8, x123, x415000, x415001, x415002, x415003, x415004, x415005 => if x123 = true then (some false) else (laws_FnEdits.l0 k x0 x3 x5 (wrap64 (x8 + 1)) x415000 x415001 x415002 x415003 x415004 x415005)
end
def laws_FnEdits.f (k : Nat) (l0 : List Int) : Option (Bool) := (laws_big.f l0).bind fun t404 => (if t404 = true then (some true) else ((spec_DrawApplyEdit.f k l0).bind fun bt405 => ((impl_ApplyEdit.f k bt405.1 bt405.2.1 bt405.2.2.1 bt405.2.2.2.1 bt405.2.2.2.2.1 bt405.2.2.2.2.2.1 bt405.2.2.2.2.2.2).bind fun bt415 => (if bt415.2 = true then ((impl_IsDocument.f k bt415.1).bind fun t420 => (if t420 = true then ((impl_IsEdit.f bt405.2.1 bt405.2.2.1 bt405.2.2.2.1 bt405.2.2.2.2.1 bt405.2.2.2.2.2.1 bt405.2.2.2.2.2.2).bind fun t421 => (if t421 = true then ((impl_EditText.f bt405.2.1 bt405.2.2.1 bt405.2.2.2.1 bt405.2.2.2.2.1 bt405.2.2.2.2.2.1 bt405.2.2.2.2.2.2).bind fun t422 => (laws_FnEdits.j0 k l0 bt405.1 bt415.1 (t422.toList == ([] : List UInt8)) bt405.2.1 bt405.2.2.1 bt405.2.2.2.1 bt405.2.2.2.2.1 bt405.2.2.2.2.2.1 bt405.2.2.2.2.2.2)) else (laws_FnEdits.j0 k l0 bt405.1 bt415.1 true bt405.2.1 bt405.2.2.1 bt405.2.2.2.1 bt405.2.2.2.2.1 bt405.2.2.2.2.2.1 bt405.2.2.2.2.2.2))) else (laws_FnEdits.j0 k l0 bt405.1 bt415.1 true bt405.2.1 bt405.2.2.1 bt405.2.2.2.1 bt405.2.2.2.2.1 bt405.2.2.2.2.2.1 bt405.2.2.2.2.2.2))) else ((impl_EqualDocuments.f k bt415.1 bt405.1).bind fun t419 => (some t419))))))
theorem laws_FnEdits.mono_l : ∀ k, (∀ y0 y1 y2 y3 y4 y5 y6 y7 y8 y9, LeO (laws_FnEdits.j0 k y0 y1 y2 y3 y4 y5 y6 y7 y8 y9) (laws_FnEdits.j0 (k + 1) y0 y1 y2 y3 y4 y5 y6 y7 y8 y9)) ∧ (∀ y0 y1 y2 y3 y4 y5 y6 y7 y8 y9, LeO (laws_FnEdits.j1 k y0 y1 y2 y3 y4 y5 y6 y7 y8 y9) (laws_FnEdits.j1 (k + 1) y0 y1 y2 y3 y4 y5 y6 y7 y8 y9)) ∧ (∀ y0 y1 y2 y3 y4 y5 y6 y7 y8 y9, LeO (laws_FnEdits.l0 k y0 y1 y2 y3 y4 y5 y6 y7 y8 y9) (laws_FnEdits.l0 (k + 1) y0 y1 y2 y3 y4 y5 y6 y7 y8 y9)) ∧ (∀ y0 y1 y2 y3 y4 y5 y6 y7 y8 y9 y10, LeO (laws_FnEdits.j3 k y0 y1 y2 y3 y4 y5 y6 y7 y8 y9 y10) (laws_FnEdits.j3 (k + 1) y0 y1 y2 y3 y4 y5 y6 y7 y8 y9 y10))
 | 0 => ⟨fun _ _ _ _ _ _ _ _ _ _ r h => by simp [laws_FnEdits.j0] at h, fun _ _ _ _ _ _ _ _ _ _ r h => by simp [laws_FnEdits.j1] at h, fun _ _ _ _ _ _ _ _ _ _ r h => by simp [laws_FnEdits.l0] at h, fun _ _ _ _ _ _ _ _ _ _ _ r h => by simp [laws_FnEdits.j3] at h⟩
 | k + 1 => by
  obtain ⟨ih0, ih1, ih2, ih3⟩ := laws_FnEdits.mono_l k
  refine ⟨?_, ?_, ?_, ?_⟩
  ·intro y0 y1 y2 y3 y4 y5 y6 y7 y8 y9
   unfold laws_FnEdits.j0
   repeat' first
   | (with_reducible exact ih0 _ _ _ _ _ _ _ _ _ _)
   | (with_reducible exact ih1 _ _ _ _ _ _ _ _ _ _)
   | (with_reducible exact ih2 _ _ _ _ _ _ _ _ _ _)
   | (with_reducible exact ih3 _ _ _ _ _ _ _ _ _ _ _)
   | (with_reducible exact impl_ApplyEdit.mono _ _ _ _ _ _ _ _)
   | (with_reducible exact impl_EqualDocuments.mono _ _ _)
   | (with_reducible exact impl_IsDocument.mono _ _)
   | (with_reducible exact impl_IsUnder.mono _ _ _ _)
   | (with_reducible exact impl_NodeOf.mono _ _ _)
   | (with_reducible exact impl_RunEdits.mono _ _ _)
   | (with_reducible exact spec_DrawApplyEdit.mono _ _)
   | (with_reducible exact spec_DrawRunEdits.mono _ _)
   | (with_reducible exact LeO.refl _)
   | (with_reducible exact LeO.none _)
   | (with_reducible refine LeO.ite ?_ ?_)
   | (with_reducible refine LeO.bind ?_ (fun _ => ?_))
   | exact ih0 _ _ _ _ _ _ _ _ _ _
   | exact ih1 _ _ _ _ _ _ _ _ _ _
   | exact ih2 _ _ _ _ _ _ _ _ _ _
   | exact ih3 _ _ _ _ _ _ _ _ _ _ _
   | exact impl_ApplyEdit.mono _ _ _ _ _ _ _ _
   | exact impl_EqualDocuments.mono _ _ _
   | exact impl_IsDocument.mono _ _
   | exact impl_IsUnder.mono _ _ _ _
   | exact impl_NodeOf.mono _ _ _
   | exact impl_RunEdits.mono _ _ _
   | exact spec_DrawApplyEdit.mono _ _
   | exact spec_DrawRunEdits.mono _ _
   | exact LeO.none _
   | refine LeO.ite ?_ ?_
   | refine LeO.bind ?_ (fun _ => ?_)
  ·intro y0 y1 y2 y3 y4 y5 y6 y7 y8 y9
   unfold laws_FnEdits.j1
   repeat' first
   | (with_reducible exact ih0 _ _ _ _ _ _ _ _ _ _)
   | (with_reducible exact ih1 _ _ _ _ _ _ _ _ _ _)
   | (with_reducible exact ih2 _ _ _ _ _ _ _ _ _ _)
   | (with_reducible exact ih3 _ _ _ _ _ _ _ _ _ _ _)
   | (with_reducible exact impl_ApplyEdit.mono _ _ _ _ _ _ _ _)
   | (with_reducible exact impl_EqualDocuments.mono _ _ _)
   | (with_reducible exact impl_IsDocument.mono _ _)
   | (with_reducible exact impl_IsUnder.mono _ _ _ _)
   | (with_reducible exact impl_NodeOf.mono _ _ _)
   | (with_reducible exact impl_RunEdits.mono _ _ _)
   | (with_reducible exact spec_DrawApplyEdit.mono _ _)
   | (with_reducible exact spec_DrawRunEdits.mono _ _)
   | (with_reducible exact LeO.refl _)
   | (with_reducible exact LeO.none _)
   | (with_reducible refine LeO.ite ?_ ?_)
   | (with_reducible refine LeO.bind ?_ (fun _ => ?_))
   | exact ih0 _ _ _ _ _ _ _ _ _ _
   | exact ih1 _ _ _ _ _ _ _ _ _ _
   | exact ih2 _ _ _ _ _ _ _ _ _ _
   | exact ih3 _ _ _ _ _ _ _ _ _ _ _
   | exact impl_ApplyEdit.mono _ _ _ _ _ _ _ _
   | exact impl_EqualDocuments.mono _ _ _
   | exact impl_IsDocument.mono _ _
   | exact impl_IsUnder.mono _ _ _ _
   | exact impl_NodeOf.mono _ _ _
   | exact impl_RunEdits.mono _ _ _
   | exact spec_DrawApplyEdit.mono _ _
   | exact spec_DrawRunEdits.mono _ _
   | exact LeO.none _
   | refine LeO.ite ?_ ?_
   | refine LeO.bind ?_ (fun _ => ?_)
  ·intro y0 y1 y2 y3 y4 y5 y6 y7 y8 y9
   unfold laws_FnEdits.l0
   repeat' first
   | (with_reducible exact ih0 _ _ _ _ _ _ _ _ _ _)
   | (with_reducible exact ih1 _ _ _ _ _ _ _ _ _ _)
   | (with_reducible exact ih2 _ _ _ _ _ _ _ _ _ _)
   | (with_reducible exact ih3 _ _ _ _ _ _ _ _ _ _ _)
   | (with_reducible exact impl_ApplyEdit.mono _ _ _ _ _ _ _ _)
   | (with_reducible exact impl_EqualDocuments.mono _ _ _)
   | (with_reducible exact impl_IsDocument.mono _ _)
   | (with_reducible exact impl_IsUnder.mono _ _ _ _)
   | (with_reducible exact impl_NodeOf.mono _ _ _)
   | (with_reducible exact impl_RunEdits.mono _ _ _)
   | (with_reducible exact spec_DrawApplyEdit.mono _ _)
   | (with_reducible exact spec_DrawRunEdits.mono _ _)
   | (with_reducible exact LeO.refl _)
   | (with_reducible exact LeO.none _)
   | (with_reducible refine LeO.ite ?_ ?_)
   | (with_reducible refine LeO.bind ?_ (fun _ => ?_))
   | exact ih0 _ _ _ _ _ _ _ _ _ _
   | exact ih1 _ _ _ _ _ _ _ _ _ _
   | exact ih2 _ _ _ _ _ _ _ _ _ _
   | exact ih3 _ _ _ _ _ _ _ _ _ _ _
   | exact impl_ApplyEdit.mono _ _ _ _ _ _ _ _
   | exact impl_EqualDocuments.mono _ _ _
   | exact impl_IsDocument.mono _ _
   | exact impl_IsUnder.mono _ _ _ _
   | exact impl_NodeOf.mono _ _ _
   | exact impl_RunEdits.mono _ _ _
   | exact spec_DrawApplyEdit.mono _ _
   | exact spec_DrawRunEdits.mono _ _
   | exact LeO.none _
   | refine LeO.ite ?_ ?_
   | refine LeO.bind ?_ (fun _ => ?_)
  ·intro y0 y1 y2 y3 y4 y5 y6 y7 y8 y9 y10
   unfold laws_FnEdits.j3
   repeat' first
   | (with_reducible exact ih0 _ _ _ _ _ _ _ _ _ _)
   | (with_reducible exact ih1 _ _ _ _ _ _ _ _ _ _)
   | (with_reducible exact ih2 _ _ _ _ _ _ _ _ _ _)
   | (with_reducible exact ih3 _ _ _ _ _ _ _ _ _ _ _)
   | (with_reducible exact impl_ApplyEdit.mono _ _ _ _ _ _ _ _)
   | (with_reducible exact impl_EqualDocuments.mono _ _ _)
   | (with_reducible exact impl_IsDocument.mono _ _)
   | (with_reducible exact impl_IsUnder.mono _ _ _ _)
   | (with_reducible exact impl_NodeOf.mono _ _ _)
   | (with_reducible exact impl_RunEdits.mono _ _ _)
   | (with_reducible exact spec_DrawApplyEdit.mono _ _)
   | (with_reducible exact spec_DrawRunEdits.mono _ _)
   | (with_reducible exact LeO.refl _)
   | (with_reducible exact LeO.none _)
   | (with_reducible refine LeO.ite ?_ ?_)
   | (with_reducible refine LeO.bind ?_ (fun _ => ?_))
   | exact ih0 _ _ _ _ _ _ _ _ _ _
   | exact ih1 _ _ _ _ _ _ _ _ _ _
   | exact ih2 _ _ _ _ _ _ _ _ _ _
   | exact ih3 _ _ _ _ _ _ _ _ _ _ _
   | exact impl_ApplyEdit.mono _ _ _ _ _ _ _ _
   | exact impl_EqualDocuments.mono _ _ _
   | exact impl_IsDocument.mono _ _
   | exact impl_IsUnder.mono _ _ _ _
   | exact impl_NodeOf.mono _ _ _
   | exact impl_RunEdits.mono _ _ _
   | exact spec_DrawApplyEdit.mono _ _
   | exact spec_DrawRunEdits.mono _ _
   | exact LeO.none _
   | refine LeO.ite ?_ ?_
   | refine LeO.bind ?_ (fun _ => ?_)
theorem laws_FnEdits.mono : ∀ a0 k, LeO (laws_FnEdits.f k a0) (laws_FnEdits.f (k + 1) a0) := by
 intro a0 k
 obtain ⟨ih0, ih1, ih2, ih3⟩ := laws_FnEdits.mono_l k
 unfold laws_FnEdits.f
 repeat' first
   | (with_reducible exact ih0 _ _ _ _ _ _ _ _ _ _)
   | (with_reducible exact ih1 _ _ _ _ _ _ _ _ _ _)
   | (with_reducible exact ih2 _ _ _ _ _ _ _ _ _ _)
   | (with_reducible exact ih3 _ _ _ _ _ _ _ _ _ _ _)
   | (with_reducible exact impl_ApplyEdit.mono _ _ _ _ _ _ _ _)
   | (with_reducible exact impl_EqualDocuments.mono _ _ _)
   | (with_reducible exact impl_IsDocument.mono _ _)
   | (with_reducible exact impl_IsUnder.mono _ _ _ _)
   | (with_reducible exact impl_NodeOf.mono _ _ _)
   | (with_reducible exact impl_RunEdits.mono _ _ _)
   | (with_reducible exact spec_DrawApplyEdit.mono _ _)
   | (with_reducible exact spec_DrawRunEdits.mono _ _)
   | (with_reducible exact LeO.refl _)
   | (with_reducible exact LeO.none _)
   | (with_reducible refine LeO.ite ?_ ?_)
   | (with_reducible refine LeO.bind ?_ (fun _ => ?_))
   | exact ih0 _ _ _ _ _ _ _ _ _ _
   | exact ih1 _ _ _ _ _ _ _ _ _ _
   | exact ih2 _ _ _ _ _ _ _ _ _ _
   | exact ih3 _ _ _ _ _ _ _ _ _ _ _
   | exact impl_ApplyEdit.mono _ _ _ _ _ _ _ _
   | exact impl_EqualDocuments.mono _ _ _
   | exact impl_IsDocument.mono _ _
   | exact impl_IsUnder.mono _ _ _ _
   | exact impl_NodeOf.mono _ _ _
   | exact impl_RunEdits.mono _ _ _
   | exact spec_DrawApplyEdit.mono _ _
   | exact spec_DrawRunEdits.mono _ _
   | exact LeO.none _
   | refine LeO.ite ?_ ?_
   | refine LeO.bind ?_ (fun _ => ?_)
def laws_FnEdits.T10 : Bool × List (List Nat × List Nat) := (true, [([], []), ([0], [0]), ([1], [1]), ([], []), ([3], [3]), ([2, 4], [2, 4]), ([5], [5]), ([6], [6]), ([7, 6], [6, 7]), ([8, 6, 6], [6, 8]), ([9], [9]), ([9], [9]), ([10, 11, 9], [9, 10, 11]), ([12, 9], [9, 12]), ([13, 9], [9, 13]), ([9], [9]), ([15, 9], [9, 15]), ([14, 16, 9], [9, 14, 16]), ([9, 17, 6], [6, 9, 17]), ([6, 18], [6, 18])])
def laws_FnEdits.B10 : List Nat := [0, 1, 3, 0, 8, 31, 63, 127, 255, 511, 1023, 1023, 4095, 8191, 16383, 1023, 33791, 131071, 262143, 524287]
theorem laws_FnEdits.tab10 : rtab .any (opsOf Tryd.f4 10) = laws_FnEdits.T10 := by kernel_rfl
theorem laws_FnEdits.bits10 : waitsOk laws_FnEdits.T10.2 laws_FnEdits.B10 = true := by kernel_rfl
def laws_FnEdits.T16 : Bool × List (List Nat × List Nat) := (true, [([], []), ([], []), ([0, 1], [0, 1]), ([2], [2]), ([3], [3]), ([], []), ([5], [5]), ([4, 6], [4, 6]), ([7], [7]), ([8], [8]), ([9, 8], [8, 9]), ([8, 10], [8, 10]), ([11, 8], [11]), ([12], [12]), ([12], [12]), ([13, 14, 12], [12, 13, 14]), ([15, 12], [12, 15]), ([12], [12]), ([12], [12]), ([17, 18, 12], [12, 17, 18]), ([19, 12], [12, 19]), ([16, 20, 12], [12, 16, 20]), ([12, 21], [12, 21]), ([22, 12], [22]), ([23], [23]), ([24, 23], [23, 24]), ([25, 23, 23], [23, 25]), ([26], [26]), ([27, 26], [26, 27]), ([28, 26], [26, 28]), ([29, 26, 26], [26, 29]), ([30], [30]), ([30], [30]), ([30], [30]), ([32, 33, 30], [30, 32, 33]), ([34, 30], [30, 34]), ([35, 30], [30, 35]), ([30], [30]), ([37, 30], [30, 37]), ([31, 36, 38, 30, 30], [30, 31, 36, 38]), ([39, 30], [30, 39]), ([30, 40, 26], [26, 30, 40]), ([26, 41, 23], [23, 26, 41]), ([23, 42], [23, 42])])
def laws_FnEdits.B16 : List Nat := [0, 0, 3, 7, 15, 0, 32, 127, 255, 511, 1023, 2047, 4095, 8191, 8191, 32767, 65535, 8191, 8191, 401407, 925695, 2097151, 4194303, 8388607, 16777215, 33554431, 67108863, 134217727, 268435455, 536870911, 1073741823, 2147483647, 2147483647, 2147483647, 15032385535, 32212254719, 66571993087, 2147483647, 139586437119, 549755813887, 1099511627775, 2199023255551, 4398046511103, 8796093022207]
theorem laws_FnEdits.tab16 : rtab .any (opsOf Tryd.f4 16) = laws_FnEdits.T16 := by kernel_rfl
theorem laws_FnEdits.bits16 : waitsOk laws_FnEdits.T16.2 laws_FnEdits.B16 = true := by kernel_rfl
set_option maxHeartbeats 8000000 in
set_option maxRecDepth 100000 in
theorem laws_FnEdits.calls (k : Nat) (A0 : Option Addr) (c0 : Nat) (l0 : List Int) (r : Bool) (w : World) (hr0 : Kd.C (Kd.int .u8) w A0 l0.length l0) (hc0 : l0.length ≤ c0) (HTAB : TabHolds w) (h : laws_FnEdits.f k l0 = some r) :
  Calls Tryd.prog 4 #[.slice A0 l0.length c0] w fun e w' => e = .returned (.bool r) ∧ Below w.heap.size w w' := by
 have hu40 := Tryd.underlying40
 have hu34 := Tryd.underlying34
 have HR0 := am hr0
 have HC0 := am hc0
 clear hr0 hc0
 have HB := am (Below.refl w.heap.size w)
 have H : ((laws_big.f l0).bind fun t404 => (if t404 = true then (some true) else ((spec_DrawApplyEdit.f k l0).bind fun bt405 => ((impl_ApplyEdit.f k bt405.1 bt405.2.1 bt405.2.2.1 bt405.2.2.2.1 bt405.2.2.2.2.1 bt405.2.2.2.2.2.1 bt405.2.2.2.2.2.2).bind fun bt415 => (if bt415.2 = true then ((impl_IsDocument.f k bt415.1).bind fun t420 => (if t420 = true then ((impl_IsEdit.f bt405.2.1 bt405.2.2.1 bt405.2.2.2.1 bt405.2.2.2.2.1 bt405.2.2.2.2.2.1 bt405.2.2.2.2.2.2).bind fun t421 => (if t421 = true then ((impl_EditText.f bt405.2.1 bt405.2.2.1 bt405.2.2.2.1 bt405.2.2.2.2.1 bt405.2.2.2.2.2.1 bt405.2.2.2.2.2.2).bind fun t422 => (laws_FnEdits.j0 k l0 bt405.1 bt415.1 (t422.toList == ([] : List UInt8)) bt405.2.1 bt405.2.2.1 bt405.2.2.2.1 bt405.2.2.2.2.1 bt405.2.2.2.2.2.1 bt405.2.2.2.2.2.2)) else (laws_FnEdits.j0 k l0 bt405.1 bt415.1 true bt405.2.1 bt405.2.2.1 bt405.2.2.2.1 bt405.2.2.2.2.1 bt405.2.2.2.2.2.1 bt405.2.2.2.2.2.2))) else (laws_FnEdits.j0 k l0 bt405.1 bt415.1 true bt405.2.1 bt405.2.2.1 bt405.2.2.2.1 bt405.2.2.2.2.1 bt405.2.2.2.2.2.1 bt405.2.2.2.2.2.2))) else ((impl_EqualDocuments.f k bt415.1 bt405.1).bind fun t419 => (some t419))))))) = some r := h
 clear h
 replace H := Option.bind_eq_some_iff.mp H
 obtain ⟨t404, A20, H⟩ := H
 replace H : (if t404 = true then (some true) else ((spec_DrawApplyEdit.f k l0).bind fun bt405 => ((impl_ApplyEdit.f k bt405.1 bt405.2.1 bt405.2.2.1 bt405.2.2.2.1 bt405.2.2.2.2.1 bt405.2.2.2.2.2.1 bt405.2.2.2.2.2.2).bind fun bt415 => (if bt415.2 = true then ((impl_IsDocument.f k bt415.1).bind fun t420 => (if t420 = true then ((impl_IsEdit.f bt405.2.1 bt405.2.2.1 bt405.2.2.2.1 bt405.2.2.2.2.1 bt405.2.2.2.2.2.1 bt405.2.2.2.2.2.2).bind fun t421 => (if t421 = true then ((impl_EditText.f bt405.2.1 bt405.2.2.1 bt405.2.2.2.1 bt405.2.2.2.2.1 bt405.2.2.2.2.2.1 bt405.2.2.2.2.2.2).bind fun t422 => (laws_FnEdits.j0 k l0 bt405.1 bt415.1 (t422.toList == ([] : List UInt8)) bt405.2.1 bt405.2.2.1 bt405.2.2.2.1 bt405.2.2.2.2.1 bt405.2.2.2.2.2.1 bt405.2.2.2.2.2.2)) else (laws_FnEdits.j0 k l0 bt405.1 bt415.1 true bt405.2.1 bt405.2.2.1 bt405.2.2.2.1 bt405.2.2.2.2.1 bt405.2.2.2.2.2.1 bt405.2.2.2.2.2.2))) else (laws_FnEdits.j0 k l0 bt405.1 bt415.1 true bt405.2.1 bt405.2.2.1 bt405.2.2.2.1 bt405.2.2.2.2.1 bt405.2.2.2.2.2.1 bt405.2.2.2.2.2.2))) else ((impl_EqualDocuments.f k bt415.1 bt405.1).bind fun t419 => (some t419)))))) = some r := H
 have A2 := am A20
 clear A20
 by_cases c3 : t404 = true
 ·subst c3
  have H1 : (some true) = some r := by rw [if_pos rfl] at H; exact H
  clear H
  have H := H1
  clear H1
  obtain rfl := Option.some.inj H
  go_enter Tryd.func4, Tryd.ntmps4
  go_wp2_with (first | ((with_reducible refine gate_callee (f := 5) rfl ?_); refine goesL_ (some 13) rfl rfl Tryd.func5 (by kernel_rfl) rfl #[.slice A0 l0.length c0] rfl mU ?_; (with_reducible refine (laws_big.calls _ _ l0 true _ ?side1 ?side2 A2.out).mono ?_); (case side1 => exact cU HR0.out); (case side2 => exact HC0.out); rintro e w' ⟨rfl, ⟨nd, rfl⟩⟩; refine ⟨_, rfl, ?_⟩))
  go_ret
  exact ⟨eU, bU HB.out⟩
 ·replace c3 := Bool.eq_false_iff.mpr c3
  subst c3
  have H1 : ((spec_DrawApplyEdit.f k l0).bind fun bt405 => ((impl_ApplyEdit.f k bt405.1 bt405.2.1 bt405.2.2.1 bt405.2.2.2.1 bt405.2.2.2.2.1 bt405.2.2.2.2.2.1 bt405.2.2.2.2.2.2).bind fun bt415 => (if bt415.2 = true then ((impl_IsDocument.f k bt415.1).bind fun t420 => (if t420 = true then ((impl_IsEdit.f bt405.2.1 bt405.2.2.1 bt405.2.2.2.1 bt405.2.2.2.2.1 bt405.2.2.2.2.2.1 bt405.2.2.2.2.2.2).bind fun t421 => (if t421 = true then ((impl_EditText.f bt405.2.1 bt405.2.2.1 bt405.2.2.2.1 bt405.2.2.2.2.1 bt405.2.2.2.2.2.1 bt405.2.2.2.2.2.2).bind fun t422 => (laws_FnEdits.j0 k l0 bt405.1 bt415.1 (t422.toList == ([] : List UInt8)) bt405.2.1 bt405.2.2.1 bt405.2.2.2.1 bt405.2.2.2.2.1 bt405.2.2.2.2.2.1 bt405.2.2.2.2.2.2)) else (laws_FnEdits.j0 k l0 bt405.1 bt415.1 true bt405.2.1 bt405.2.2.1 bt405.2.2.2.1 bt405.2.2.2.2.1 bt405.2.2.2.2.2.1 bt405.2.2.2.2.2.2))) else (laws_FnEdits.j0 k l0 bt405.1 bt415.1 true bt405.2.1 bt405.2.2.1 bt405.2.2.2.1 bt405.2.2.2.2.1 bt405.2.2.2.2.2.1 bt405.2.2.2.2.2.2))) else ((impl_EqualDocuments.f k bt415.1 bt405.1).bind fun t419 => (some t419))))) = some r := by rw [if_neg (show ¬ (false = true) by decide)] at H; exact H
  clear H
  have H := H1
  clear H1
  replace H := Option.bind_eq_some_iff.mp H
  obtain ⟨⟨t405, t408, t409, t410, t411, t412, t413⟩, A40, H⟩ := H
  replace H : ((impl_ApplyEdit.f k t405 t408 t409 t410 t411 t412 t413).bind fun bt415 => (if bt415.2 = true then ((impl_IsDocument.f k bt415.1).bind fun t420 => (if t420 = true then ((impl_IsEdit.f t408 t409 t410 t411 t412 t413).bind fun t421 => (if t421 = true then ((impl_EditText.f t408 t409 t410 t411 t412 t413).bind fun t422 => (laws_FnEdits.j0 k l0 t405 bt415.1 (t422.toList == ([] : List UInt8)) t408 t409 t410 t411 t412 t413)) else (laws_FnEdits.j0 k l0 t405 bt415.1 true t408 t409 t410 t411 t412 t413))) else (laws_FnEdits.j0 k l0 t405 bt415.1 true t408 t409 t410 t411 t412 t413))) else ((impl_EqualDocuments.f k bt415.1 t405).bind fun t419 => (some t419)))) = some r := H
  have A4 := am A40
  clear A40
  replace H := Option.bind_eq_some_iff.mp H
  obtain ⟨⟨t415, t418⟩, A50, H⟩ := H
  replace H : (if t418 = true then ((impl_IsDocument.f k t415).bind fun t420 => (if t420 = true then ((impl_IsEdit.f t408 t409 t410 t411 t412 t413).bind fun t421 => (if t421 = true then ((impl_EditText.f t408 t409 t410 t411 t412 t413).bind fun t422 => (laws_FnEdits.j0 k l0 t405 t415 (t422.toList == ([] : List UInt8)) t408 t409 t410 t411 t412 t413)) else (laws_FnEdits.j0 k l0 t405 t415 true t408 t409 t410 t411 t412 t413))) else (laws_FnEdits.j0 k l0 t405 t415 true t408 t409 t410 t411 t412 t413))) else ((impl_EqualDocuments.f k t415 t405).bind fun t419 => (some t419))) = some r := H
  have A5 := am A50
  clear A50
  by_cases c6 : t418 = true
  ·subst c6
   have H1 : ((impl_IsDocument.f k t415).bind fun t420 => (if t420 = true then ((impl_IsEdit.f t408 t409 t410 t411 t412 t413).bind fun t421 => (if t421 = true then ((impl_EditText.f t408 t409 t410 t411 t412 t413).bind fun t422 => (laws_FnEdits.j0 k l0 t405 t415 (t422.toList == ([] : List UInt8)) t408 t409 t410 t411 t412 t413)) else (laws_FnEdits.j0 k l0 t405 t415 true t408 t409 t410 t411 t412 t413))) else (laws_FnEdits.j0 k l0 t405 t415 true t408 t409 t410 t411 t412 t413))) = some r := by rw [if_pos rfl] at H; exact H
   clear H
   have H := H1
   clear H1
   have HC7 := am H
   clear H
   go_enter Tryd.func4, Tryd.ntmps4
   go_upto_region 7 with (first | ((with_reducible refine gate_callee (f := 5) rfl ?_); refine goesL_ (some 13) rfl rfl Tryd.func5 (by kernel_rfl) rfl #[.slice A0 l0.length c0] rfl mU ?_; (with_reducible refine (laws_big.calls _ _ l0 false _ ?side1 ?side2 A2.out).mono ?_); (case side1 => exact cU HR0.out); (case side2 => exact HC0.out); rintro e w' ⟨rfl, ⟨nd, rfl⟩⟩; refine ⟨_, rfl, ?_⟩) | ((with_reducible refine gate_callee (f := 16) rfl ?_); refine goesL_ (some 16) rfl rfl Tryd.func16 (by kernel_rfl) rfl #[.slice A0 l0.length c0] rfl mU ?_; (with_reducible refine (spec_DrawApplyEdit.calls k _ _ l0 t405 t408 t409 t410 t411 t412 t413 _ ?side1 ?side2 A4.out).mono ?_); (case side1 => exact cU HR0.out); (case side2 => exact HC0.out); rintro e w8 ⟨v406, rfl, ho0, hb⟩; refine ⟨_, rfl, ?_⟩; have n0_ := am (Kd.R_lower ho0 (below_size (bU HB.out))); have n1_ := am (below_step (bU HB.out) hb); clear HB; have HO407 := n0_; have HB := n1_; clear n0_ n1_; (try clear hb); (try clear hb2); (try clear hk); (try clear hi); (try clear ho0)) | ((with_reducible refine gate_dst (N := 4) rfl ?_); refine box_event ?hg (N := 4) ?hd (cs := #[.int .i64 0, .int .i64 0, .int .i64 0, .int .i64 0, .int .i64 0, .int .i64 0]) (t := 40) ?hr ?_; (case hd => rfl); (case hg => rfl); (case hr => first | (go_simp; done) | (go_simp; rfl)); intro gb414 hg w9 hbox hb; have n0_ := am (Kd.R_below (rU HO407.out) hb); have n1_ := am (below_step (bU HB.out) hb); have n2_ := am (hbox); have n3_ := am ((by rw [hg]; exact (below_size (bU HB.out)) : w.heap.size ≤ gb414)); have n4_ := am ((by rw [hg]; exact (below_size (bU HB.out)) : w.heap.size ≤ gb414)); clear HO407; clear HB; have HO407 := n0_; have HB := n1_; have BK414 := n2_; have GW414 := n3_; have GE414 := n4_; clear n0_ n1_ n2_ n3_ n4_; clear hb hbox hg; obtain ⟨hcz10_0, hcz10_1, hcz10_2, hcz10_3, hcz10_4, hcz10_5⟩ := bc6 BK414.out; obtain ⟨hfz10_0, hfz10_1, hfz10_2, hfz10_3, hfz10_4, hfz10_5⟩ := bf6 BK414.out; obtain ⟨Ao11, co11, eo11⟩ := Kd.R_slice HO407.out; subst eo11) | ((with_reducible refine gate_callee (f := 17) rfl ?_); refine goesL_ (some 22) rfl rfl Tryd.func17 (by kernel_rfl) rfl #[.slice Ao11 t405.length co11, .agg #[.int .i64 t408, .int .i64 t409, .int .i64 t410, .int .i64 t411, .int .i64 t412, .int .i64 t413]] rfl mU ?_; (with_reducible refine (impl_ApplyEdit.calls k _ _ t405 t408 t409 t410 t411 t412 t413 t415 true _ ?side1 ?side2 A5.out).mono ?_); (case side1 => refine (Kd.R_reads' (e := 34) (base := w.heap.size) (ok := fun k_ => True) (n := t405.length) (c := co11) ?_).2.2; exact (by (with_reducible repeat (first | apply Kd.R_alloc | apply Kd.R_drewN | apply Kd.R_drew)); exact (Kd.R_mono (Kd.R_far (p := ⟨gb414, 5, none⟩) (Kd.R_far (p := ⟨gb414, 4, none⟩) (Kd.R_far (p := ⟨gb414, 3, none⟩) (Kd.R_far (p := ⟨gb414, 2, none⟩) (Kd.R_far (p := ⟨gb414, 1, none⟩) (Kd.R_far (p := ⟨gb414, 0, none⟩) (Kd.R_types HO407.out BK414.out (by decide)) (fun _ hk => hk.2) (.int .i64 t408)) (fun _ hk => hk.2) (.int .i64 t409)) (fun _ hk => hk.2) (.int .i64 t410)) (fun _ hk => hk.2) (.int .i64 t411)) (fun _ hk => hk.2) (.int .i64 t412)) (fun _ hk => hk.2) (.int .i64 t413)) (fun _ h_ => h_.1)))); (case side2 => exact (Kd.R_reads' HO407.out).2.1); rintro e w12 ⟨v416, rfl, ho0, hb⟩; refine ⟨_, rfl, ?_⟩; have n0_ := am (Kd.R_elder' (by (with_reducible repeat (first | apply Kd.R_alloc | apply Kd.R_drewN | apply Kd.R_drew)); exact (Kd.R_mono (Kd.R_far (p := ⟨gb414, 5, none⟩) (Kd.R_far (p := ⟨gb414, 4, none⟩) (Kd.R_far (p := ⟨gb414, 3, none⟩) (Kd.R_far (p := ⟨gb414, 2, none⟩) (Kd.R_far (p := ⟨gb414, 1, none⟩) (Kd.R_far (p := ⟨gb414, 0, none⟩) (Kd.R_types HO407.out BK414.out (by decide)) (fun _ hk => hk.2) (.int .i64 t408)) (fun _ hk => hk.2) (.int .i64 t409)) (fun _ hk => hk.2) (.int .i64 t410)) (fun _ hk => hk.2) (.int .i64 t411)) (fun _ hk => hk.2) (.int .i64 t412)) (fun _ hk => hk.2) (.int .i64 t413)) (fun _ h_ => h_.1))) (Kd.R_base ho0) hb); have n1_ := am (Kd.R_lower (Kd.R_new' ho0 (Kd.R_lt (by (with_reducible repeat (first | apply Kd.R_alloc | apply Kd.R_drewN | apply Kd.R_drew)); exact (Kd.R_mono (Kd.R_far (p := ⟨gb414, 5, none⟩) (Kd.R_far (p := ⟨gb414, 4, none⟩) (Kd.R_far (p := ⟨gb414, 3, none⟩) (Kd.R_far (p := ⟨gb414, 2, none⟩) (Kd.R_far (p := ⟨gb414, 1, none⟩) (Kd.R_far (p := ⟨gb414, 0, none⟩) (Kd.R_types HO407.out BK414.out (by decide)) (fun _ hk => hk.2) (.int .i64 t408)) (fun _ hk => hk.2) (.int .i64 t409)) (fun _ hk => hk.2) (.int .i64 t410)) (fun _ hk => hk.2) (.int .i64 t411)) (fun _ hk => hk.2) (.int .i64 t412)) (fun _ hk => hk.2) (.int .i64 t413)) (fun _ h_ => h_.1))))) (below_size (bS HB.out GE414.out))); have n2_ := am (blk_below (g := gb414) (o := .cells #[.int .i64 t408, .int .i64 t409, .int .i64 t410, .int .i64 t411, .int .i64 t412, .int .i64 t413] 40 (0, 0)) (by (with_reducible repeat (first | refine blk_drewN ?_ _ | refine blk_drew ?_ | refine blk_alloc ?_ _)); refine blk_put (cs := #[.int .i64 t408, .int .i64 t409, .int .i64 t410, .int .i64 t411, .int .i64 t412, .int .i64 0]) ?_ 5 _ rfl; (with_reducible repeat (first | refine blk_drewN ?_ _ | refine blk_drew ?_ | refine blk_alloc ?_ _)); refine blk_put (cs := #[.int .i64 t408, .int .i64 t409, .int .i64 t410, .int .i64 t411, .int .i64 0, .int .i64 0]) ?_ 4 _ rfl; (with_reducible repeat (first | refine blk_drewN ?_ _ | refine blk_drew ?_ | refine blk_alloc ?_ _)); refine blk_put (cs := #[.int .i64 t408, .int .i64 t409, .int .i64 t410, .int .i64 0, .int .i64 0, .int .i64 0]) ?_ 3 _ rfl; (with_reducible repeat (first | refine blk_drewN ?_ _ | refine blk_drew ?_ | refine blk_alloc ?_ _)); refine blk_put (cs := #[.int .i64 t408, .int .i64 t409, .int .i64 0, .int .i64 0, .int .i64 0, .int .i64 0]) ?_ 2 _ rfl; (with_reducible repeat (first | refine blk_drewN ?_ _ | refine blk_drew ?_ | refine blk_alloc ?_ _)); refine blk_put (cs := #[.int .i64 t408, .int .i64 0, .int .i64 0, .int .i64 0, .int .i64 0, .int .i64 0]) ?_ 1 _ rfl; (with_reducible repeat (first | refine blk_drewN ?_ _ | refine blk_drew ?_ | refine blk_alloc ?_ _)); refine blk_put (cs := #[.int .i64 0, .int .i64 0, .int .i64 0, .int .i64 0, .int .i64 0, .int .i64 0]) ?_ 0 _ rfl; exact kU BK414.out) hb); have n3_ := am (below_step (bS HB.out GE414.out) hb); clear HO407; clear BK414; clear HB; have HO407 := n0_; have HO417 := n1_; have BK414 := n2_; have HB := n3_; clear n0_ n1_ n2_ n3_; (try clear hb); (try clear hb2); (try clear hk); (try clear hi); (try clear ho0)))
   (try simp only [Act.put, List.setIfInBounds_toArray, List.set_cons_zero, List.set_cons_succ])
   go_cut [42] (fun v42 wc => ∃ (kq : Nat) (x42_6 : Bool), v42 = .bool x42_6 ∧ Aside0 (laws_FnEdits.j0 kq l0 t405 t415 x42_6 t408 t409 t410 t411 t412 t413 = some r) ∧ Aside0 (kq ≤ k) ∧ Aside0 (Kd.R k34 34 wc w.heap.size (fun k_ => some k_ ≠ (v416 : Value).ownBlock) (.slice Ao11 t405.length co11) t405) ∧ Aside0 (Kd.R k34 34 wc w.heap.size (fun k_ => some k_ ≠ ((.slice Ao11 t405.length co11) : Value).ownBlock) v416 t415) ∧ Aside0 (wc.heap[gb414]? = some (.cells #[.int .i64 t408, .int .i64 t409, .int .i64 t410, .int .i64 t411, .int .i64 t412, .int .i64 t413] 40 (0, 0))) ∧ Aside0 (Below w.heap.size w wc))
   case first =>
    have H := HC7.out
    clear HC7
    replace H := Option.bind_eq_some_iff.mp H
    obtain ⟨t420, A130, H⟩ := H
    replace H : (if t420 = true then ((impl_IsEdit.f t408 t409 t410 t411 t412 t413).bind fun t421 => (if t421 = true then ((impl_EditText.f t408 t409 t410 t411 t412 t413).bind fun t422 => (laws_FnEdits.j0 k l0 t405 t415 (t422.toList == ([] : List UInt8)) t408 t409 t410 t411 t412 t413)) else (laws_FnEdits.j0 k l0 t405 t415 true t408 t409 t410 t411 t412 t413))) else (laws_FnEdits.j0 k l0 t405 t415 true t408 t409 t410 t411 t412 t413)) = some r := H
    have A13 := am A130
    clear A130
    by_cases c14 : t420 = true
    ·subst c14
     have H1 : ((impl_IsEdit.f t408 t409 t410 t411 t412 t413).bind fun t421 => (if t421 = true then ((impl_EditText.f t408 t409 t410 t411 t412 t413).bind fun t422 => (laws_FnEdits.j0 k l0 t405 t415 (t422.toList == ([] : List UInt8)) t408 t409 t410 t411 t412 t413)) else (laws_FnEdits.j0 k l0 t405 t415 true t408 t409 t410 t411 t412 t413))) = some r := by rw [if_pos rfl] at H; exact H
     clear H
     have H := H1
     clear H1
     replace H := Option.bind_eq_some_iff.mp H
     obtain ⟨t421, A150, H⟩ := H
     replace H : (if t421 = true then ((impl_EditText.f t408 t409 t410 t411 t412 t413).bind fun t422 => (laws_FnEdits.j0 k l0 t405 t415 (t422.toList == ([] : List UInt8)) t408 t409 t410 t411 t412 t413)) else (laws_FnEdits.j0 k l0 t405 t415 true t408 t409 t410 t411 t412 t413)) = some r := H
     have A15 := am A150
     clear A150
     by_cases c16 : t421 = true
     ·subst c16
      have H1 : ((impl_EditText.f t408 t409 t410 t411 t412 t413).bind fun t422 => (laws_FnEdits.j0 k l0 t405 t415 (t422.toList == ([] : List UInt8)) t408 t409 t410 t411 t412 t413)) = some r := by rw [if_pos rfl] at H; exact H
      clear H
      have H := H1
      clear H1
      replace H := Option.bind_eq_some_iff.mp H
      obtain ⟨t422, A170, H⟩ := H
      replace H : (laws_FnEdits.j0 k l0 t405 t415 (t422.toList == ([] : List UInt8)) t408 t409 t410 t411 t412 t413) = some r := H
      have A17 := am A170
      clear A170
      have H' := am H
      clear H
      obtain ⟨Ao18, co18, eo18⟩ := Kd.R_slice HO417.out
      subst eo18
      go_wp2_with (first | ((with_reducible refine gate_callee (f := 8) rfl ?_); refine goesL_ (some 31) rfl rfl Tryd.func8 (by kernel_rfl) rfl #[.slice Ao18 t415.length co18] rfl mU ?_; (with_reducible refine (impl_IsDocument.calls k _ _ t415 true _ ?side1 ?side2 A13.out).mono ?_); (case side1 => exact cU (Kd.R_reads' HO417.out).2.2); (case side2 => exact (Kd.R_reads' HO417.out).2.1); rintro e w19 ⟨rfl, hb⟩; refine ⟨_, rfl, ?_⟩; have n0_ := am (Kd.R_below (rU HO407.out) hb); have n1_ := am (Kd.R_below (rU HO417.out) hb); have n2_ := am (kB BK414.out hb); have n3_ := am (below_step (bS HB.out GE414.out) hb); clear HO407; clear HO417; clear BK414; clear HB; have HO407 := n0_; have HO417 := n1_; have BK414 := n2_; have HB := n3_; clear n0_ n1_ n2_ n3_; (try clear hb); (try clear hb2); (try clear hk); (try clear hi); obtain ⟨hcz20_0, hcz20_1, hcz20_2, hcz20_3, hcz20_4, hcz20_5⟩ := bc6 BK414.out; obtain ⟨hfz20_0, hfz20_1, hfz20_2, hfz20_3, hfz20_4, hfz20_5⟩ := bf6 BK414.out) | (go_at_call 18; (with_reducible refine (impl_IsEdit.calls t408 t409 t410 t411 t412 t413 true _ A15.out).mono ?_); rintro e w21 ⟨rfl, hb⟩; have n0_ := am (Kd.R_below (rU HO407.out) hb); have n1_ := am (Kd.R_below (rU HO417.out) hb); have n2_ := am (kB BK414.out hb); have n3_ := am (below_step (bS HB.out GE414.out) hb); clear HO407; clear HO417; clear BK414; clear HB; have HO407 := n0_; have HO417 := n1_; have BK414 := n2_; have HB := n3_; clear n0_ n1_ n2_ n3_; (try clear hb); (try clear hb2); (try clear hk); (try clear hi); obtain ⟨hcz22_0, hcz22_1, hcz22_2, hcz22_3, hcz22_4, hcz22_5⟩ := bc6 BK414.out; obtain ⟨hfz22_0, hfz22_1, hfz22_2, hfz22_3, hfz22_4, hfz22_5⟩ := bf6 BK414.out) | (go_at_call 19; (with_reducible refine (impl_EditText.calls t408 t409 t410 t411 t412 t413 t422 _ ?sidet A17.out).mono ?_); (case sidet => exact tab_on HTAB (bS HB.out GE414.out)); rintro e w23 ⟨rfl, hb⟩; have n0_ := am (Kd.R_below (rU HO407.out) hb); have n1_ := am (Kd.R_below (rU HO417.out) hb); have n2_ := am (kB BK414.out hb); have n3_ := am (below_step (bS HB.out GE414.out) hb); clear HO407; clear HO417; clear BK414; clear HB; have HO407 := n0_; have HO417 := n1_; have BK414 := n2_; have HB := n3_; clear n0_ n1_ n2_ n3_; (try clear hb); (try clear hb2); (try clear hk); (try clear hi)))
      go_meet
      case rel => exact ⟨_, ((t422.toList == ([] : List UInt8))), (by first | rfl | (simp; done) | (simp [*]; done)), H', ⟨by first | omega | exact Nat.le_refl _⟩, ⟨by (with_reducible repeat (first | apply Kd.R_alloc | apply Kd.R_drewN | apply Kd.R_drew)); exact Kd.R_mono HO407.out (fun _ hk => hk.2)⟩, ⟨by (with_reducible repeat (first | apply Kd.R_alloc | apply Kd.R_drewN | apply Kd.R_drew)); exact Kd.R_mono HO417.out (fun _ hk => hk.2)⟩, ⟨kU BK414.out⟩, ⟨bS HB.out GE414.out⟩⟩
     ·replace c16 := Bool.eq_false_iff.mpr c16
      subst c16
      have H1 : (laws_FnEdits.j0 k l0 t405 t415 true t408 t409 t410 t411 t412 t413) = some r := by rw [if_neg (show ¬ (false = true) by decide)] at H; exact H
      clear H
      have H := H1
      clear H1
      have H' := am H
      clear H
      obtain ⟨Ao24, co24, eo24⟩ := Kd.R_slice HO417.out
      subst eo24
      go_wp2_with (first | ((with_reducible refine gate_callee (f := 8) rfl ?_); refine goesL_ (some 31) rfl rfl Tryd.func8 (by kernel_rfl) rfl #[.slice Ao24 t415.length co24] rfl mU ?_; (with_reducible refine (impl_IsDocument.calls k _ _ t415 true _ ?side1 ?side2 A13.out).mono ?_); (case side1 => exact cU (Kd.R_reads' HO417.out).2.2); (case side2 => exact (Kd.R_reads' HO417.out).2.1); rintro e w25 ⟨rfl, hb⟩; refine ⟨_, rfl, ?_⟩; have n0_ := am (Kd.R_below (rU HO407.out) hb); have n1_ := am (Kd.R_below (rU HO417.out) hb); have n2_ := am (kB BK414.out hb); have n3_ := am (below_step (bS HB.out GE414.out) hb); clear HO407; clear HO417; clear BK414; clear HB; have HO407 := n0_; have HO417 := n1_; have BK414 := n2_; have HB := n3_; clear n0_ n1_ n2_ n3_; (try clear hb); (try clear hb2); (try clear hk); (try clear hi); obtain ⟨hcz26_0, hcz26_1, hcz26_2, hcz26_3, hcz26_4, hcz26_5⟩ := bc6 BK414.out; obtain ⟨hfz26_0, hfz26_1, hfz26_2, hfz26_3, hfz26_4, hfz26_5⟩ := bf6 BK414.out) | (go_at_call 18; (with_reducible refine (impl_IsEdit.calls t408 t409 t410 t411 t412 t413 false _ A15.out).mono ?_); rintro e w27 ⟨rfl, hb⟩; have n0_ := am (Kd.R_below (rU HO407.out) hb); have n1_ := am (Kd.R_below (rU HO417.out) hb); have n2_ := am (kB BK414.out hb); have n3_ := am (below_step (bS HB.out GE414.out) hb); clear HO407; clear HO417; clear BK414; clear HB; have HO407 := n0_; have HO417 := n1_; have BK414 := n2_; have HB := n3_; clear n0_ n1_ n2_ n3_; (try clear hb); (try clear hb2); (try clear hk); (try clear hi)))
      go_meet
      case rel => exact ⟨_, (true), (by first | rfl | (simp; done) | (simp [*]; done)), H', ⟨by first | omega | exact Nat.le_refl _⟩, ⟨by (with_reducible repeat (first | apply Kd.R_alloc | apply Kd.R_drewN | apply Kd.R_drew)); exact Kd.R_mono HO407.out (fun _ hk => hk.2)⟩, ⟨by (with_reducible repeat (first | apply Kd.R_alloc | apply Kd.R_drewN | apply Kd.R_drew)); exact Kd.R_mono HO417.out (fun _ hk => hk.2)⟩, ⟨kU BK414.out⟩, ⟨bS HB.out GE414.out⟩⟩
    ·replace c14 := Bool.eq_false_iff.mpr c14
     subst c14
     have H1 : (laws_FnEdits.j0 k l0 t405 t415 true t408 t409 t410 t411 t412 t413) = some r := by rw [if_neg (show ¬ (false = true) by decide)] at H; exact H
     clear H
     have H := H1
     clear H1
     have H' := am H
     clear H
     obtain ⟨Ao28, co28, eo28⟩ := Kd.R_slice HO417.out
     subst eo28
     go_wp2_with (first | ((with_reducible refine gate_callee (f := 8) rfl ?_); refine goesL_ (some 31) rfl rfl Tryd.func8 (by kernel_rfl) rfl #[.slice Ao28 t415.length co28] rfl mU ?_; (with_reducible refine (impl_IsDocument.calls k _ _ t415 false _ ?side1 ?side2 A13.out).mono ?_); (case side1 => exact cU (Kd.R_reads' HO417.out).2.2); (case side2 => exact (Kd.R_reads' HO417.out).2.1); rintro e w29 ⟨rfl, hb⟩; refine ⟨_, rfl, ?_⟩; have n0_ := am (Kd.R_below (rU HO407.out) hb); have n1_ := am (Kd.R_below (rU HO417.out) hb); have n2_ := am (kB BK414.out hb); have n3_ := am (below_step (bS HB.out GE414.out) hb); clear HO407; clear HO417; clear BK414; clear HB; have HO407 := n0_; have HO417 := n1_; have BK414 := n2_; have HB := n3_; clear n0_ n1_ n2_ n3_; (try clear hb); (try clear hb2); (try clear hk); (try clear hi)))
     go_meet
     case rel => exact ⟨_, (true), (by first | rfl | (simp; done) | (simp [*]; done)), H', ⟨by first | omega | exact Nat.le_refl _⟩, ⟨by (with_reducible repeat (first | apply Kd.R_alloc | apply Kd.R_drewN | apply Kd.R_drew)); exact Kd.R_mono HO407.out (fun _ hk => hk.2)⟩, ⟨by (with_reducible repeat (first | apply Kd.R_alloc | apply Kd.R_drewN | apply Kd.R_drew)); exact Kd.R_mono HO417.out (fun _ hk => hk.2)⟩, ⟨kU BK414.out⟩, ⟨bS HB.out GE414.out⟩⟩
   case rest =>
    clear HC7
    try clear c1
    try clear p2
    try clear c3
    try clear c4
    try clear c5
    try clear c6
    try clear c8
    try clear c14
    try clear c16
    try clear c17
    try clear hcz10_0 hcz10_1 hcz10_2 hcz10_3 hcz10_4 hcz10_5
    try clear hcz20_0 hcz20_1 hcz20_2 hcz20_3 hcz20_4 hcz20_5
    try clear hcz22_0 hcz22_1 hcz22_2 hcz22_3 hcz22_4 hcz22_5
    try clear hcz26_0 hcz26_1 hcz26_2 hcz26_3 hcz26_4 hcz26_5
    try clear hfz10_0 hfz10_1 hfz10_2 hfz10_3 hfz10_4 hfz10_5
    try clear hfz20_0 hfz20_1 hfz20_2 hfz20_3 hfz20_4 hfz20_5
    try clear hfz22_0 hfz22_1 hfz22_2 hfz22_3 hfz22_4 hfz22_5
    try clear hfz26_0 hfz26_1 hfz26_2 hfz26_3 hfz26_4 hfz26_5
    obtain ⟨kq, x42_6, rfl, HA, HJ6, HO_3, HO_5, BK414, HB⟩ := hcut
    cases kq with
    | zero => exact absurd HA.out (by simp [laws_FnEdits.j0])
    | succ kj6 =>
     have H := HA.out
     clear HA
     simp only [laws_FnEdits.j0] at H
     by_cases c30 : x42_6 = true
     ·subst c30
      have H1 : (some false) = some r := by rw [if_pos rfl] at H; exact H
      clear H
      have H := H1
      clear H1
      obtain rfl := Option.some.inj H
      go_wp2
      go_ret
      exact ⟨eU, bS HB.out GE414.out⟩
     ·replace c30 := Bool.eq_false_iff.mpr c30
      subst c30
      have H1 : ((impl_NodeOf.f kj6 t415 t409).bind fun t423 => (if ((t408 == 2) != (decide (t423 < 0))) = true then (laws_FnEdits.j1 kj6 l0 t405 t415 true t408 t409 t410 t411 t412 t413) else (if t423 ≥ 0 then (if 0 ≤ t423 then (if t423 < (t415.length : Int) then (laws_FnEdits.j1 kj6 l0 t405 t415 (((rd_T34 t415 t423).f4) != t413) t408 t409 t410 t411 t412 t413) else (none)) else (none)) else (laws_FnEdits.j1 kj6 l0 t405 t415 false t408 t409 t410 t411 t412 t413)))) = some r := by rw [if_neg (show ¬ (false = true) by decide)] at H; exact H
      clear H
      have H := H1
      clear H1
      replace H := Option.bind_eq_some_iff.mp H
      obtain ⟨t423, A310, H⟩ := H
      replace H : (if ((t408 == 2) != (decide (t423 < 0))) = true then (laws_FnEdits.j1 kj6 l0 t405 t415 true t408 t409 t410 t411 t412 t413) else (if t423 ≥ 0 then (if 0 ≤ t423 then (if t423 < (t415.length : Int) then (laws_FnEdits.j1 kj6 l0 t405 t415 (((rd_T34 t415 t423).f4) != t413) t408 t409 t410 t411 t412 t413) else (none)) else (none)) else (laws_FnEdits.j1 kj6 l0 t405 t415 false t408 t409 t410 t411 t412 t413))) = some r := H
      have A31 := am A310
      clear A310
      have HC32 := am H
      clear H
      obtain ⟨hcz33_0, hcz33_1, hcz33_2, hcz33_3, hcz33_4, hcz33_5⟩ := bc6 BK414.out
      obtain ⟨hfz33_0, hfz33_1, hfz33_2, hfz33_3, hfz33_4, hfz33_5⟩ := bf6 BK414.out
      obtain ⟨Ao34, co34, eo34⟩ := Kd.R_slice HO_5.out
      subst eo34
      go_upto_region 10 with (first | ((with_reducible refine gate_callee (f := 10) rfl ?_); refine goesL_ (some 46) rfl rfl Tryd.func10 (by kernel_rfl) rfl #[.slice Ao34 t415.length co34, .int .i64 t409] rfl mU ?_; (with_reducible refine (impl_NodeOf.calls kj6 _ _ t415 t409 t423 _ ?side1 ?side2 A31.out).mono ?_); (case side1 => exact cU (Kd.R_reads' HO_5.out).2.2); (case side2 => exact (Kd.R_reads' HO_5.out).2.1); rintro e w35 ⟨rfl, hb⟩; refine ⟨_, rfl, ?_⟩; have n0_ := am (Kd.R_below (rU HO_3.out) hb); have n1_ := am (Kd.R_below (rU HO_5.out) hb); have n2_ := am (kB BK414.out hb); have n3_ := am (below_step (bS HB.out GE414.out) hb); clear HO_3; clear HO_5; clear BK414; clear HB; have HO_3 := n0_; have HO_5 := n1_; have BK414 := n2_; have HB := n3_; clear n0_ n1_ n2_ n3_; (try clear hb); (try clear hb2); (try clear hk); (try clear hi)))
      (try simp only [Act.put, List.setIfInBounds_toArray, List.set_cons_zero, List.set_cons_succ])
      go_cut [66] (fun v66 wc => ∃ (kq : Nat) (x66_31 : Bool), v66 = .bool x66_31 ∧ Aside0 (laws_FnEdits.j1 kq l0 t405 t415 x66_31 t408 t409 t410 t411 t412 t413 = some r) ∧ Aside0 (kq ≤ kj6) ∧ Aside0 (Kd.R k34 34 wc w.heap.size (fun k_ => some k_ ≠ ((.slice Ao34 t415.length co34) : Value).ownBlock) (.slice Ao11 t405.length co11) t405) ∧ Aside0 (Kd.R k34 34 wc w.heap.size (fun k_ => some k_ ≠ ((.slice Ao11 t405.length co11) : Value).ownBlock) (.slice Ao34 t415.length co34) t415) ∧ Aside0 (wc.heap[gb414]? = some (.cells #[.int .i64 t408, .int .i64 t409, .int .i64 t410, .int .i64 t411, .int .i64 t412, .int .i64 t413] 40 (0, 0))) ∧ Aside0 (Below w.heap.size w wc))
      case first =>
       have H := HC32.out
       clear HC32
       by_cases c36 : ((t408 == 2) != (decide (t423 < 0))) = true
       ·rw [if_pos c36] at H
        have c36b0 : ((t408 == 2) != (decide (t423 < 0))) = true := c36
        (try (have c36b1 : decide ((t408 == 2) = (decide (t423 < 0))) = false := by simpa using c36))
        (try (have c36b2 : ((t408 == 2) == (decide (t423 < 0))) = false := by simpa using c36))
        (try (have c36b3 : ¬ ((t408 == 2) = (decide (t423 < 0))) := by simpa using c36))
        clear c36
        (first | rw [c36b0] | (simp only [i64_w, i32_w]; rw [c36b0]) | skip)
        have H' := am H
        clear H
        try go_wp2
        have n0_ := am (Kd.R_drew HO_3.out)
        have n1_ := am (Kd.R_drew HO_5.out)
        have n2_ := am (blk_drew BK414.out)
        have n3_ := am (below_drew1 HB.out)
        clear HO_3
        clear HO_5
        clear BK414
        clear HB
        have HO_3 := n0_
        have HO_5 := n1_
        have BK414 := n2_
        have HB := n3_
        clear n0_ n1_ n2_ n3_
        refine start_ (n := 20) (S := fun w' => w'.cell? ⟨gb414, 0, none⟩ = some (.int .i64 t408) ∧ w'.cell? ⟨gb414, 1, none⟩ = some (.int .i64 t409) ∧ w'.cell? ⟨gb414, 2, none⟩ = some (.int .i64 t410) ∧ w'.cell? ⟨gb414, 3, none⟩ = some (.int .i64 t411) ∧ w'.cell? ⟨gb414, 4, none⟩ = some (.int .i64 t412) ∧ w'.cell? ⟨gb414, 5, none⟩ = some (.int .i64 t413)) (ds := []) #[false, false, false, false, false, false, false, false, false, false, false, false, false, false, false, false, false, false, false, false] (by kernel_rfl) rfl rfl (bc6 BK414.out) (fun hHeld => ?_); refine with_tabW laws_FnEdits.tab10 laws_FnEdits.bits10 (fun HT_ HW_ => ?_)
        generalize w35.drew = w37 at HO_3 HO_5 BK414 HB hHeld ⊢
        refine pS 0 47 HT_.out ?_
        refine pS 3 50 HT_.out ?_
        refine pS 4 51 HT_.out ?_
        refine take_ (i := 1) (N := some 48) (v := ?_) (a' := ?_) #[true, true, false, true, true, false, false, false, false, false, false, false, false, false, false, false, false, false, false, false] rfl rfl (take_ofW HT_.out HW_.out (by kernel_rfl)) (fun _ _ _ h => h) (Or.inl ⟨by rfl, ?_⟩) hHeld ?_ ?_
        rotate_left
        ·rintro w' ⟨s0, s1, s2, s3, s4, s5⟩
         go_simp
         with_reducible rfl
        rotate_left
        ·simp only [Act.put, List.setIfInBounds_toArray, List.set_cons_zero, List.set_cons_succ, i64_w, i32_w]
         rfl
        refine pS 2 49 HT_.out ?_
        refine pS 5 52 HT_.out ?_
        refine pS 6 53 HT_.out ?_
        refine pW 7 54 HT_.out ?_
        refine pW 8 55 HT_.out ?_
        refine pW 9 56 HT_.out ?_
        refine pW 10 57 HT_.out ?_
        refine pW 11 58 HT_.out ?_
        refine pW 12 59 HT_.out ?_
        refine pW 13 60 HT_.out ?_
        refine pW 14 61 HT_.out ?_
        refine pW 15 62 HT_.out ?_
        refine pW 16 63 HT_.out ?_
        refine pW 17 64 HT_.out ?_
        refine pW 18 65 HT_.out ?_
        refine pS 19 66 HT_.out ?_
        refine done_ (done_of HT_.out (by kernel_rfl)) ?_
        try go_wp2
        go_meet
        case rel => exact ⟨_, (true), (by first | rfl | (simp; done) | (simp [*]; done)), H', ⟨by have := HJ6.out; first | omega | exact Nat.le_refl _⟩, ⟨rU HO_3.out⟩, ⟨rU HO_5.out⟩, ⟨kU BK414.out⟩, ⟨bS HB.out GE414.out⟩⟩
       ·rw [if_neg c36] at H
        have c36b0 : ((t408 == 2) != (decide (t423 < 0))) = false := by simpa using c36
        (try (have c36b1 : decide ((t408 == 2) = (decide (t423 < 0))) = true := by simpa using c36))
        (try (have c36b2 : ((t408 == 2) == (decide (t423 < 0))) = true := by simpa using c36))
        clear c36
        (first | rw [c36b0] | (simp only [i64_w, i32_w]; rw [c36b0]) | skip)
        by_cases c38 : t423 ≥ 0
        ·rw [if_pos c38] at H
         have c38b0 : decide (0 ≤ t423) = true := decide_eq_true c38
         clear c38
         by_cases c39 : 0 ≤ t423
         ·rw [if_pos c39] at H
          have c39b0 : decide (0 ≤ t423) = true := decide_eq_true c39
          clear c39
          by_cases c40 : t423 < (t415.length : Int)
          ·rw [if_pos c40] at H
           have c40b0 : decide (t423 < (t415.length : Int)) = true := decide_eq_true c40
           clear c40
           have H' := am H
           clear H
           try go_wp2
           have n0_ := am (Kd.R_drew HO_3.out)
           have n1_ := am (Kd.R_drew HO_5.out)
           have n2_ := am (blk_drew BK414.out)
           have n3_ := am (below_drew1 HB.out)
           clear HO_3
           clear HO_5
           clear BK414
           clear HB
           have HO_3 := n0_
           have HO_5 := n1_
           have BK414 := n2_
           have HB := n3_
           clear n0_ n1_ n2_ n3_
           have p424 : 0 ≤ (t423 : Int) := dU
           have q424 : t423 < (t415.length : Int) := dU
           obtain ⟨ad424, e424, hx424_0, hx424_1, hx424_2, hx424_3, hx424_4⟩ := at_T34 (Kd.R_reads' HO_5.out).2.2 t423 p424 q424
           cases e424
           replace p424 := eq_true p424
           replace q424 := eq_true q424
           refine start_ (n := 20) (S := fun w' => w'.cell? ⟨gb414, 0, none⟩ = some (.int .i64 t408) ∧ w'.cell? ⟨gb414, 1, none⟩ = some (.int .i64 t409) ∧ w'.cell? ⟨gb414, 2, none⟩ = some (.int .i64 t410) ∧ w'.cell? ⟨gb414, 3, none⟩ = some (.int .i64 t411) ∧ w'.cell? ⟨gb414, 4, none⟩ = some (.int .i64 t412) ∧ w'.cell? ⟨gb414, 5, none⟩ = some (.int .i64 t413) ∧ w'.cell? (ad424.add ((t423).toNat * 5)) = some (.int .i64 ((rd_T34 t415 t423).f0)) ∧ w'.cell? ⟨(ad424.add ((t423).toNat * 5)).block, (ad424.add ((t423).toNat * 5)).off + 1, none⟩ = some (.int .i64 ((rd_T34 t415 t423).f1)) ∧ w'.cell? ⟨(ad424.add ((t423).toNat * 5)).block, (ad424.add ((t423).toNat * 5)).off + 2, none⟩ = some (.int .i64 ((rd_T34 t415 t423).f2)) ∧ w'.cell? ⟨(ad424.add ((t423).toNat * 5)).block, (ad424.add ((t423).toNat * 5)).off + 3, none⟩ = some (.int .i64 ((rd_T34 t415 t423).f3)) ∧ w'.cell? ⟨(ad424.add ((t423).toNat * 5)).block, (ad424.add ((t423).toNat * 5)).off + 4, none⟩ = some (.int .i64 ((rd_T34 t415 t423).f4))) (ds := []) #[false, false, false, false, false, false, false, false, false, false, false, false, false, false, false, false, false, false, false, false] (by kernel_rfl) rfl rfl ⟨(blk_cell BK414.out 0).trans rfl, (blk_cell BK414.out 1).trans rfl, (blk_cell BK414.out 2).trans rfl, (blk_cell BK414.out 3).trans rfl, (blk_cell BK414.out 4).trans rfl, (blk_cell BK414.out 5).trans rfl, hx424_0, hx424_1, hx424_2, hx424_3, hx424_4⟩ (fun hHeld => ?_); refine with_tabW laws_FnEdits.tab10 laws_FnEdits.bits10 (fun HT_ HW_ => ?_)
           generalize w35.drew = w41 at HO_3 HO_5 BK414 HB hx424_0 hx424_1 hx424_2 hx424_3 hx424_4 hHeld ⊢
           refine pS 0 47 HT_.out ?_
           refine pS 3 50 HT_.out ?_
           refine pS 4 51 HT_.out ?_
           refine take_ (i := 1) (N := some 48) (v := ?_) (a' := ?_) #[true, true, false, true, true, false, false, false, false, false, false, false, false, false, false, false, false, false, false, false] rfl rfl (take_ofW HT_.out HW_.out (by kernel_rfl)) (fun _ _ _ h => h) (Or.inl ⟨by rfl, ?_⟩) hHeld ?_ ?_
           rotate_left
           ·rintro w' ⟨s0, s1, s2, s3, s4, s5, s6, s7, s8, s9, s10⟩
            go_simp
            with_reducible rfl
           rotate_left
           ·simp only [Act.put, List.setIfInBounds_toArray, List.set_cons_zero, List.set_cons_succ, i64_w, i32_w]
            rfl
           refine pS 2 49 HT_.out ?_
           refine pS 5 52 HT_.out ?_
           refine pS 6 53 HT_.out ?_
           refine pS 7 54 HT_.out ?_
           refine pS 8 55 HT_.out ?_
           refine pS 9 56 HT_.out ?_
           refine pS 10 57 HT_.out ?_
           refine pS 11 58 HT_.out ?_
           refine pS 12 59 HT_.out ?_
           refine pS 13 60 HT_.out ?_
           refine pS 15 62 HT_.out ?_
           refine take_ (i := 14) (N := some 61) (v := ?_) (a' := ?_) #[true, true, true, true, true, true, true, true, true, true, true, true, true, true, true, true, false, false, false, false] rfl rfl (take_ofW HT_.out HW_.out (by kernel_rfl)) (fun _ _ _ h => h) (Or.inl ⟨by rfl, ?_⟩) hHeld ?_ ?_
           rotate_left
           ·rintro w' ⟨s0, s1, s2, s3, s4, s5, s6, s7, s8, s9, s10⟩
            go_simp
            with_reducible rfl
           rotate_left
           ·simp only [Act.put, List.setIfInBounds_toArray, List.set_cons_zero, List.set_cons_succ, i64_w, i32_w]
            rfl
           refine take_ (i := 16) (N := some 63) (v := ?_) (a' := ?_) #[true, true, true, true, true, true, true, true, true, true, true, true, true, true, true, true, true, false, false, false] rfl rfl (take_ofW HT_.out HW_.out (by kernel_rfl)) (fun _ _ _ h => h) (Or.inl ⟨by rfl, ?_⟩) hHeld ?_ ?_
           rotate_left
           ·rintro w' ⟨s0, s1, s2, s3, s4, s5, s6, s7, s8, s9, s10⟩
            go_simp
            with_reducible rfl
           rotate_left
           ·simp only [Act.put, List.setIfInBounds_toArray, List.set_cons_zero, List.set_cons_succ, i64_w, i32_w]
            rfl
           refine pS 17 64 HT_.out ?_
           refine pS 18 65 HT_.out ?_
           refine pS 19 66 HT_.out ?_
           refine done_ (done_of HT_.out (by kernel_rfl)) ?_
           try go_wp2
           go_meet
           case rel => exact ⟨_, ((((rd_T34 t415 t423).f4) != t413)), (by first | rfl | (simp; done) | (simp [*]; done)), H', ⟨by have := HJ6.out; first | omega | exact Nat.le_refl _⟩, ⟨rU HO_3.out⟩, ⟨rU HO_5.out⟩, ⟨kU BK414.out⟩, ⟨bS HB.out GE414.out⟩⟩
          ·rw [if_neg c40] at H
           exact absurd H (by simp)
         ·rw [if_neg c39] at H
          exact absurd H (by simp)
        ·rw [if_neg c38] at H
         have c38b0 : decide (0 ≤ t423) = false := decide_eq_false c38
         clear c38
         have H' := am H
         clear H
         try go_wp2
         have n0_ := am (Kd.R_drew HO_3.out)
         have n1_ := am (Kd.R_drew HO_5.out)
         have n2_ := am (blk_drew BK414.out)
         have n3_ := am (below_drew1 HB.out)
         clear HO_3
         clear HO_5
         clear BK414
         clear HB
         have HO_3 := n0_
         have HO_5 := n1_
         have BK414 := n2_
         have HB := n3_
         clear n0_ n1_ n2_ n3_
         refine start_ (n := 20) (S := fun w' => w'.cell? ⟨gb414, 0, none⟩ = some (.int .i64 t408) ∧ w'.cell? ⟨gb414, 1, none⟩ = some (.int .i64 t409) ∧ w'.cell? ⟨gb414, 2, none⟩ = some (.int .i64 t410) ∧ w'.cell? ⟨gb414, 3, none⟩ = some (.int .i64 t411) ∧ w'.cell? ⟨gb414, 4, none⟩ = some (.int .i64 t412) ∧ w'.cell? ⟨gb414, 5, none⟩ = some (.int .i64 t413)) (ds := []) #[false, false, false, false, false, false, false, false, false, false, false, false, false, false, false, false, false, false, false, false] (by kernel_rfl) rfl rfl (bc6 BK414.out) (fun hHeld => ?_); refine with_tabW laws_FnEdits.tab10 laws_FnEdits.bits10 (fun HT_ HW_ => ?_)
         generalize w35.drew = w42 at HO_3 HO_5 BK414 HB hHeld ⊢
         refine pS 0 47 HT_.out ?_
         refine pS 3 50 HT_.out ?_
         refine pS 4 51 HT_.out ?_
         refine take_ (i := 1) (N := some 48) (v := ?_) (a' := ?_) #[true, true, false, true, true, false, false, false, false, false, false, false, false, false, false, false, false, false, false, false] rfl rfl (take_ofW HT_.out HW_.out (by kernel_rfl)) (fun _ _ _ h => h) (Or.inl ⟨by rfl, ?_⟩) hHeld ?_ ?_
         rotate_left
         ·rintro w' ⟨s0, s1, s2, s3, s4, s5⟩
          go_simp
          with_reducible rfl
         rotate_left
         ·simp only [Act.put, List.setIfInBounds_toArray, List.set_cons_zero, List.set_cons_succ, i64_w, i32_w]
          rfl
         refine pS 2 49 HT_.out ?_
         refine pS 5 52 HT_.out ?_
         refine pS 6 53 HT_.out ?_
         refine pS 7 54 HT_.out ?_
         refine pS 8 55 HT_.out ?_
         refine pS 9 56 HT_.out ?_
         refine pW 10 57 HT_.out ?_
         refine pW 11 58 HT_.out ?_
         refine pW 12 59 HT_.out ?_
         refine pW 13 60 HT_.out ?_
         refine pW 14 61 HT_.out ?_
         refine pW 15 62 HT_.out ?_
         refine pW 16 63 HT_.out ?_
         refine pW 17 64 HT_.out ?_
         refine pS 18 65 HT_.out ?_
         refine pS 19 66 HT_.out ?_
         refine done_ (done_of HT_.out (by kernel_rfl)) ?_
         try go_wp2
         go_meet
         case rel => exact ⟨_, (false), (by first | rfl | (simp; done) | (simp [*]; done)), H', ⟨by have := HJ6.out; first | omega | exact Nat.le_refl _⟩, ⟨rU HO_3.out⟩, ⟨rU HO_5.out⟩, ⟨kU BK414.out⟩, ⟨bS HB.out GE414.out⟩⟩
      case rest =>
       clear HC32
       try clear c1
       try clear p2
       try clear c3
       try clear c4
       try clear p4
       try clear q4
       try clear hx4
       try clear c10
       try clear c30
       try clear c36
       try clear c36b0
       try clear c36b1
       try clear c36b2
       try clear c38
       try clear c38b0
       try clear c39
       try clear c39b0
       try clear c40
       try clear c40b0
       try clear p42
       try clear q42
       try clear hx42
       try clear hcz10_5
       try clear hcz20_0 hcz20_1 hcz20_2 hcz20_3 hcz20_4 hcz20_5
       try clear hcz22_0 hcz22_1 hcz22_2 hcz22_3 hcz22_4 hcz22_5
       try clear hcz26_0 hcz26_1 hcz26_2 hcz26_3 hcz26_4 hcz26_5
       try clear hcz33_0 hcz33_1 hcz33_2 hcz33_3 hcz33_4 hcz33_5
       try clear hfz10_0 hfz10_1 hfz10_2 hfz10_3 hfz10_4 hfz10_5
       try clear hfz20_0 hfz20_1 hfz20_2 hfz20_3 hfz20_4 hfz20_5
       try clear hfz22_0 hfz22_1 hfz22_2 hfz22_3 hfz22_4 hfz22_5
       try clear hfz26_0 hfz26_1 hfz26_2 hfz26_3 hfz26_4 hfz26_5
       try clear hfz33_0 hfz33_1 hfz33_2 hfz33_3 hfz33_4 hfz33_5
       try clear hx424_0
       try clear hx424_1
       try clear hx424_2
       try clear hx424_3
       try clear hx424_4
       try clear p424
       try clear q424
       obtain ⟨kq, x66_31, rfl, HA, HJ31, HO_3, HO_5, BK414, HB⟩ := hcut
       cases kq with
       | zero => exact absurd HA.out (by simp [laws_FnEdits.j1])
       | succ kj31 =>
        have H := HA.out
        clear HA
        simp only [laws_FnEdits.j1] at H
        by_cases c43 : x66_31 = true
        ·subst c43
         have H1 : (some false) = some r := by rw [if_pos rfl] at H; exact H
         clear H
         have H := H1
         clear H1
         obtain rfl := Option.some.inj H
         go_wp2
         go_ret
         exact ⟨eU, bS HB.out GE414.out⟩
        ·replace c43 := Bool.eq_false_iff.mpr c43
         subst c43
         have H1 : (laws_FnEdits.l0 kj31 l0 t405 t415 0 t408 t409 t410 t411 t412 t413) = some r := by rw [if_neg (show ¬ (false = true) by decide)] at H; exact H
         clear H
         have H := H1
         clear H1
         have H' := am H
         clear H
         go_wp2
         go_loopg [8] kj31 (fun kq v8 w' => ∃ (x8_3 : Int), v8 = .int .i64 x8_3 ∧ Aside0 (laws_FnEdits.l0 kq l0 t405 t415 x8_3 t408 t409 t410 t411 t412 t413 = some r) ∧ Aside0 (kq ≤ kj31) ∧ Aside0 (Kd.R k34 34 w' w.heap.size (fun k_ => some k_ ≠ ((.slice Ao34 t415.length co34) : Value).ownBlock) (.slice Ao11 t405.length co11) t405) ∧ Aside0 (Kd.R k34 34 w' w.heap.size (fun k_ => some k_ ≠ ((.slice Ao11 t405.length co11) : Value).ownBlock) (.slice Ao34 t415.length co34) t415) ∧ Aside0 (w'.heap[gb414]? = some (.cells #[.int .i64 t408, .int .i64 t409, .int .i64 t410, .int .i64 t411, .int .i64 t412, .int .i64 t413] 40 (0, 0))) ∧ Aside0 (Below w.heap.size w w'))
         case atStart => exact ⟨(0), (by first | rfl | (simp; done) | (simp [*]; done)), H', ⟨Nat.le_refl _⟩, ⟨rU HO_3.out⟩, ⟨rU HO_5.out⟩, ⟨kU BK414.out⟩, ⟨bS HB.out GE414.out⟩⟩
         case round =>
          clear H'
          try clear c1
          try clear p2
          try clear c3
          try clear c4
          try clear p4
          try clear q4
          try clear hx4
          try clear c10
          try clear c30
          try clear c36
          try clear c36b0
          try clear c36b1
          try clear c36b2
          try clear c38
          try clear c38b0
          try clear c39
          try clear c39b0
          try clear c40
          try clear c40b0
          try clear p42
          try clear q42
          try clear hx42
          try clear c43
          try clear hcz10_5
          try clear hcz20_0 hcz20_1 hcz20_2 hcz20_3 hcz20_4 hcz20_5
          try clear hcz22_0 hcz22_1 hcz22_2 hcz22_3 hcz22_4 hcz22_5
          try clear hcz26_0 hcz26_1 hcz26_2 hcz26_3 hcz26_4 hcz26_5
          try clear hcz33_0 hcz33_1 hcz33_2 hcz33_3 hcz33_4 hcz33_5
          try clear hfz10_0 hfz10_1 hfz10_2 hfz10_3 hfz10_4 hfz10_5
          try clear hfz20_0 hfz20_1 hfz20_2 hfz20_3 hfz20_4 hfz20_5
          try clear hfz22_0 hfz22_1 hfz22_2 hfz22_3 hfz22_4 hfz22_5
          try clear hfz26_0 hfz26_1 hfz26_2 hfz26_3 hfz26_4 hfz26_5
          try clear hfz33_0 hfz33_1 hfz33_2 hfz33_3 hfz33_4 hfz33_5
          try clear hx424_0
          try clear hx424_1
          try clear hx424_2
          try clear hx424_3
          try clear hx424_4
          try clear p2
          try clear p4
          try clear p42
          try clear p424
          try clear q4
          try clear q42
          try clear q424
          obtain ⟨x8_3, rfl, HA, HK3, HO_3, HO_5, BK414, HB⟩ := hrel
          cases gk with
          | zero => exact absurd HA.out (by simp [laws_FnEdits.l0])
          | succ k3 =>
           have H := HA.out
           clear HA
           simp only [laws_FnEdits.l0] at H
           by_cases c44 : x8_3 < (t405.length : Int)
           ·rw [if_pos c44] at H
            have c44b0 : decide (x8_3 < (t405.length : Int)) = true := decide_eq_true c44
            clear c44
            by_cases c45 : 0 ≤ x8_3
            ·rw [if_pos c45] at H
             have c45b0 : decide (0 ≤ x8_3) = true := decide_eq_true c45
             clear c45
             replace H := Option.bind_eq_some_iff.mp H
             obtain ⟨t426, A460, H⟩ := H
             replace H : (if ((rd_T34 t405 x8_3).f0) = t409 then (if t426 < 0 then (if t408 = 2 then ((impl_IsUnder.f k3 t405 ((rd_T34 t405 x8_3).f0) t409).bind fun t429 => (laws_FnEdits.j3 k3 l0 t405 t415 x8_3 (!t429) t408 t409 t410 t411 t412 t413)) else (laws_FnEdits.j3 k3 l0 t405 t415 x8_3 true t408 t409 t410 t411 t412 t413)) else (laws_FnEdits.j3 k3 l0 t405 t415 x8_3 false t408 t409 t410 t411 t412 t413)) else (if t426 ≥ 0 then (if 0 ≤ t426 then (if t426 < (t415.length : Int) then (if (!(((rd_T34 t415 t426).f0) == ((rd_T34 t405 x8_3).f0)) || (!(((rd_T34 t415 t426).f1) == ((rd_T34 t405 x8_3).f1)) || (!(((rd_T34 t415 t426).f2) == ((rd_T34 t405 x8_3).f2)) || (!(((rd_T34 t415 t426).f3) == ((rd_T34 t405 x8_3).f3)) || (!(((rd_T34 t415 t426).f4) == ((rd_T34 t405 x8_3).f4))))))) = true then (laws_FnEdits.j3 k3 l0 t405 t415 x8_3 true t408 t409 t410 t411 t412 t413) else (if t426 < 0 then (if t408 = 2 then ((impl_IsUnder.f k3 t405 ((rd_T34 t405 x8_3).f0) t409).bind fun t433 => (laws_FnEdits.j3 k3 l0 t405 t415 x8_3 (!t433) t408 t409 t410 t411 t412 t413)) else (laws_FnEdits.j3 k3 l0 t405 t415 x8_3 true t408 t409 t410 t411 t412 t413)) else (laws_FnEdits.j3 k3 l0 t405 t415 x8_3 false t408 t409 t410 t411 t412 t413))) else (none)) else (none)) else (if t426 < 0 then (if t408 = 2 then ((impl_IsUnder.f k3 t405 ((rd_T34 t405 x8_3).f0) t409).bind fun t435 => (laws_FnEdits.j3 k3 l0 t405 t415 x8_3 (!t435) t408 t409 t410 t411 t412 t413)) else (laws_FnEdits.j3 k3 l0 t405 t415 x8_3 true t408 t409 t410 t411 t412 t413)) else (laws_FnEdits.j3 k3 l0 t405 t415 x8_3 false t408 t409 t410 t411 t412 t413)))) = some r := H
             have A46 := am A460
             clear A460
             have HC47 := am H
             clear H
             have p425 : 0 ≤ (x8_3 : Int) := dU
             have q425 : x8_3 < (t405.length : Int) := dU
             obtain ⟨ad425, e425, hx425_0, hx425_1, hx425_2, hx425_3, hx425_4⟩ := at_T34 (Kd.R_reads' HO_3.out).2.2 x8_3 p425 q425
             cases e425
             replace p425 := eq_true p425
             replace q425 := eq_true q425
             go_upto_region 16 with (first | ((with_reducible refine gate_callee (f := 10) rfl ?_); refine goesL_ (some 79) rfl rfl Tryd.func10 (by kernel_rfl) rfl #[.slice Ao34 t415.length co34, .int .i64 ((rd_T34 t405 x8_3).f0)] rfl mU ?_; (with_reducible refine (impl_NodeOf.calls k3 _ _ t415 ((rd_T34 t405 x8_3).f0) t426 _ ?side1 ?side2 A46.out).mono ?_); (case side1 => exact cU (Kd.R_reads' HO_5.out).2.2); (case side2 => exact (Kd.R_reads' HO_5.out).2.1); rintro e w48 ⟨rfl, hb⟩; refine ⟨_, rfl, ?_⟩; have n0_ := am (Kd.R_below (rU HO_3.out) hb); have n1_ := am (Kd.R_below (rU HO_5.out) hb); have n2_ := am (kB BK414.out hb); have n3_ := am (below_step (bS HB.out GE414.out) hb); clear HO_3; clear HO_5; clear BK414; clear HB; have HO_3 := n0_; have HO_5 := n1_; have BK414 := n2_; have HB := n3_; clear n0_ n1_ n2_ n3_; (try clear hb); (try clear hb2); (try clear hk); (try clear hi)))
             (try simp only [Act.put, List.setIfInBounds_toArray, List.set_cons_zero, List.set_cons_succ])
             go_cut [123] (fun v123 wc => ∃ (kq : Nat) (x123_46 : Bool), v123 = .bool x123_46 ∧ Aside0 (laws_FnEdits.j3 kq l0 t405 t415 x8_3 x123_46 t408 t409 t410 t411 t412 t413 = some r) ∧ Aside0 (kq ≤ k3) ∧ Aside0 (Kd.R k34 34 wc w.heap.size (fun k_ => some k_ ≠ ((.slice Ao34 t415.length co34) : Value).ownBlock) (.slice (some ad425) t405.length co11) t405) ∧ Aside0 (Kd.R k34 34 wc w.heap.size (fun k_ => some k_ ≠ ((.slice (some ad425) t405.length co11) : Value).ownBlock) (.slice Ao34 t415.length co34) t415) ∧ Aside0 (wc.heap[gb414]? = some (.cells #[.int .i64 t408, .int .i64 t409, .int .i64 t410, .int .i64 t411, .int .i64 t412, .int .i64 t413] 40 (0, 0))) ∧ Aside0 (Below w.heap.size w wc))
             case first =>
              have H := HC47.out
              clear HC47
              by_cases c49 : ((rd_T34 t405 x8_3).f0) = t409
              ·rw [if_pos c49] at H
               have c49b0 : (((rd_T34 t405 x8_3).f0) == t409) = true := beq_iff_eq.mpr c49
               have c49b1 : (((rd_T34 t405 x8_3).f0) != t409) = false := bne_eq_false_iff_eq.mpr c49
               clear c49
               (first | rw [c49b0] | (simp only [i64_w, i32_w]; rw [c49b0]) | skip)
               by_cases c50 : t426 < 0
               ·rw [if_pos c50] at H
                have c50b0 : decide (t426 < 0) = true := decide_eq_true c50
                clear c50
                by_cases c51 : t408 = 2
                ·rw [if_pos c51] at H
                 have c51b0 : (t408 == 2) = true := beq_iff_eq.mpr c51
                 have c51b1 : (t408 != 2) = false := bne_eq_false_iff_eq.mpr c51
                 clear c51
                 replace H := Option.bind_eq_some_iff.mp H
                 obtain ⟨t429, A520, H⟩ := H
                 replace H : (laws_FnEdits.j3 k3 l0 t405 t415 x8_3 (!t429) t408 t409 t410 t411 t412 t413) = some r := H
                 have A52 := am A520
                 clear A520
                 have H' := am H
                 clear H
                 try go_wp2
                 have n0_ := am (Kd.R_drew HO_3.out)
                 have n1_ := am (Kd.R_drew HO_5.out)
                 have n2_ := am (blk_drew BK414.out)
                 have n3_ := am (below_drew1 HB.out)
                 clear HO_3
                 clear HO_5
                 clear BK414
                 clear HB
                 have HO_3 := n0_
                 have HO_5 := n1_
                 have BK414 := n2_
                 have HB := n3_
                 clear n0_ n1_ n2_ n3_
                 have p427 : 0 ≤ (x8_3 : Int) := dU
                 have q427 : x8_3 < (t405.length : Int) := dU
                 obtain ⟨ad427, e427, hx427_0, hx427_1, hx427_2, hx427_3, hx427_4⟩ := at_T34 (Kd.R_reads' HO_3.out).2.2 x8_3 p427 q427
                 obtain rfl : ad425 = ad427 := (by injection e427)
                 replace p427 := eq_true p427
                 replace q427 := eq_true q427
                 have p428 : 0 ≤ (x8_3 : Int) := dU
                 have q428 : x8_3 < (t405.length : Int) := dU
                 obtain ⟨ad428, e428, hx428_0, hx428_1, hx428_2, hx428_3, hx428_4⟩ := at_T34 (Kd.R_reads' HO_3.out).2.2 x8_3 p428 q428
                 obtain rfl : ad425 = ad428 := (by injection e428)
                 replace p428 := eq_true p428
                 replace q428 := eq_true q428
                 refine start_ (n := 44) (S := fun w' => w'.cell? ⟨gb414, 0, none⟩ = some (.int .i64 t408) ∧ w'.cell? ⟨gb414, 1, none⟩ = some (.int .i64 t409) ∧ w'.cell? ⟨gb414, 2, none⟩ = some (.int .i64 t410) ∧ w'.cell? ⟨gb414, 3, none⟩ = some (.int .i64 t411) ∧ w'.cell? ⟨gb414, 4, none⟩ = some (.int .i64 t412) ∧ w'.cell? ⟨gb414, 5, none⟩ = some (.int .i64 t413) ∧ w'.cell? (ad425.add ((x8_3).toNat * 5)) = some (.int .i64 ((rd_T34 t405 x8_3).f0)) ∧ w'.cell? ⟨(ad425.add ((x8_3).toNat * 5)).block, (ad425.add ((x8_3).toNat * 5)).off + 1, none⟩ = some (.int .i64 ((rd_T34 t405 x8_3).f1)) ∧ w'.cell? ⟨(ad425.add ((x8_3).toNat * 5)).block, (ad425.add ((x8_3).toNat * 5)).off + 2, none⟩ = some (.int .i64 ((rd_T34 t405 x8_3).f2)) ∧ w'.cell? ⟨(ad425.add ((x8_3).toNat * 5)).block, (ad425.add ((x8_3).toNat * 5)).off + 3, none⟩ = some (.int .i64 ((rd_T34 t405 x8_3).f3)) ∧ w'.cell? ⟨(ad425.add ((x8_3).toNat * 5)).block, (ad425.add ((x8_3).toNat * 5)).off + 4, none⟩ = some (.int .i64 ((rd_T34 t405 x8_3).f4)) ∧ w'.cell? (ad425.add ((x8_3).toNat * 5)) = some (.int .i64 ((rd_T34 t405 x8_3).f0)) ∧ w'.cell? ⟨(ad425.add ((x8_3).toNat * 5)).block, (ad425.add ((x8_3).toNat * 5)).off + 1, none⟩ = some (.int .i64 ((rd_T34 t405 x8_3).f1)) ∧ w'.cell? ⟨(ad425.add ((x8_3).toNat * 5)).block, (ad425.add ((x8_3).toNat * 5)).off + 2, none⟩ = some (.int .i64 ((rd_T34 t405 x8_3).f2)) ∧ w'.cell? ⟨(ad425.add ((x8_3).toNat * 5)).block, (ad425.add ((x8_3).toNat * 5)).off + 3, none⟩ = some (.int .i64 ((rd_T34 t405 x8_3).f3)) ∧ w'.cell? ⟨(ad425.add ((x8_3).toNat * 5)).block, (ad425.add ((x8_3).toNat * 5)).off + 4, none⟩ = some (.int .i64 ((rd_T34 t405 x8_3).f4))) (ds := []) #[false, false, false, false, false, false, false, false, false, false, false, false, false, false, false, false, false, false, false, false, false, false, false, false, false, false, false, false, false, false, false, false, false, false, false, false, false, false, false, false, false, false, false, false] (by kernel_rfl) rfl rfl ⟨(blk_cell BK414.out 0).trans rfl, (blk_cell BK414.out 1).trans rfl, (blk_cell BK414.out 2).trans rfl, (blk_cell BK414.out 3).trans rfl, (blk_cell BK414.out 4).trans rfl, (blk_cell BK414.out 5).trans rfl, hx427_0, hx427_1, hx427_2, hx427_3, hx427_4, hx428_0, hx428_1, hx428_2, hx428_3, hx428_4⟩ (fun hHeld => ?_); refine with_tabW laws_FnEdits.tab16 laws_FnEdits.bits16 (fun HT_ HW_ => ?_)
                 generalize w48.drew = w53 at HO_3 HO_5 BK414 HB hx427_0 hx427_1 hx427_2 hx427_3 hx427_4 hx428_0 hx428_1 hx428_2 hx428_3 hx428_4 hHeld ⊢
                 refine pS 0 80 HT_.out ?_
                 refine pS 1 81 HT_.out ?_
                 refine pS 2 82 HT_.out ?_
                 refine pS 3 83 HT_.out ?_
                 refine pS 5 85 HT_.out ?_
                 refine take_ (i := 4) (N := some 84) (v := ?_) (a' := ?_) #[true, true, true, true, true, true, false, false, false, false, false, false, false, false, false, false, false, false, false, false, false, false, false, false, false, false, false, false, false, false, false, false, false, false, false, false, false, false, false, false, false, false, false, false] rfl rfl (take_ofW HT_.out HW_.out (by kernel_rfl)) (fun _ _ _ h => h) (Or.inl ⟨by rfl, ?_⟩) hHeld ?_ ?_
                 rotate_left
                 ·rintro w' ⟨s0, s1, s2, s3, s4, s5, s6, s7, s8, s9, s10, s11, s12, s13, s14, s15⟩
                  go_simp
                  with_reducible rfl
                 rotate_left
                 ·simp only [Act.put, List.setIfInBounds_toArray, List.set_cons_zero, List.set_cons_succ, i64_w, i32_w]
                  rfl
                 refine take_ (i := 6) (N := some 86) (v := ?_) (a' := ?_) #[true, true, true, true, true, true, true, false, false, false, false, false, false, false, false, false, false, false, false, false, false, false, false, false, false, false, false, false, false, false, false, false, false, false, false, false, false, false, false, false, false, false, false, false] rfl rfl (take_ofW HT_.out HW_.out (by kernel_rfl)) (fun _ _ _ h => h) (Or.inl ⟨by rfl, ?_⟩) hHeld ?_ ?_
                 rotate_left
                 ·rintro w' ⟨s0, s1, s2, s3, s4, s5, s6, s7, s8, s9, s10, s11, s12, s13, s14, s15⟩
                  go_simp
                  with_reducible rfl
                 rotate_left
                 ·simp only [Act.put, List.setIfInBounds_toArray, List.set_cons_zero, List.set_cons_succ, i64_w, i32_w]
                  rfl
                 refine pS 7 87 HT_.out ?_
                 refine pS 8 88 HT_.out ?_
                 refine pW 9 89 HT_.out ?_
                 refine pW 10 90 HT_.out ?_
                 refine pS 11 91 HT_.out ?_
                 refine pS 12 92 HT_.out ?_
                 refine pW 13 93 HT_.out ?_
                 refine pW 14 94 HT_.out ?_
                 refine pW 15 95 HT_.out ?_
                 refine pW 16 96 HT_.out ?_
                 refine pW 17 97 HT_.out ?_
                 refine pW 18 98 HT_.out ?_
                 refine pW 19 99 HT_.out ?_
                 refine pW 20 100 HT_.out ?_
                 refine pW 21 101 HT_.out ?_
                 refine pS 22 102 HT_.out ?_
                 refine pS 23 103 HT_.out ?_
                 refine pS 24 104 HT_.out ?_
                 refine pS 25 105 HT_.out ?_
                 refine pS 26 106 HT_.out ?_
                 refine pS 27 107 HT_.out ?_
                 refine take_ (i := 28) (N := some 108) (v := ?_) (a' := ?_) #[true, true, true, true, true, true, true, true, true, true, true, true, true, true, true, true, true, true, true, true, true, true, true, true, true, true, true, true, true, false, false, false, false, false, false, false, false, false, false, false, false, false, false, false] rfl rfl (take_ofW HT_.out HW_.out (by kernel_rfl)) (fun _ _ _ h => h) (Or.inl ⟨by rfl, ?_⟩) hHeld ?_ ?_
                 rotate_left
                 ·rintro w' ⟨s0, s1, s2, s3, s4, s5, s6, s7, s8, s9, s10, s11, s12, s13, s14, s15⟩
                  go_simp
                  with_reducible rfl
                 rotate_left
                 ·simp only [Act.put, List.setIfInBounds_toArray, List.set_cons_zero, List.set_cons_succ, i64_w, i32_w]
                  rfl
                 refine pS 29 109 HT_.out ?_
                 refine pS 30 110 HT_.out ?_
                 refine pS 31 111 HT_.out ?_
                 refine pS 32 112 HT_.out ?_
                 refine pS 33 113 HT_.out ?_
                 refine pS 34 114 HT_.out ?_
                 refine pS 35 115 HT_.out ?_
                 refine pS 37 117 HT_.out ?_
                 refine take_ (i := 36) (N := some 116) (v := ?_) (a' := ?_) #[true, true, true, true, true, true, true, true, true, true, true, true, true, true, true, true, true, true, true, true, true, true, true, true, true, true, true, true, true, true, true, true, true, true, true, true, true, true, false, false, false, false, false, false] rfl rfl (take_ofW HT_.out HW_.out (by kernel_rfl)) (fun _ _ _ h => h) (Or.inl ⟨by rfl, ?_⟩) hHeld ?_ ?_
                 rotate_left
                 ·rintro w' ⟨s0, s1, s2, s3, s4, s5, s6, s7, s8, s9, s10, s11, s12, s13, s14, s15⟩
                  go_simp
                  with_reducible rfl
                 rotate_left
                 ·simp only [Act.put, List.setIfInBounds_toArray, List.set_cons_zero, List.set_cons_succ, i64_w, i32_w]
                  rfl
                 refine take_ (i := 38) (N := some 118) (v := ?_) (a' := ?_) #[true, true, true, true, true, true, true, true, true, true, true, true, true, true, true, true, true, true, true, true, true, true, true, true, true, true, true, true, true, true, true, true, true, true, true, true, true, true, true, false, false, false, false, false] rfl rfl (take_ofW HT_.out HW_.out (by kernel_rfl)) (fun _ _ _ h => h) (Or.inl ⟨by rfl, ?_⟩) hHeld ?_ ?_
                 rotate_left
                 ·rintro w' ⟨s0, s1, s2, s3, s4, s5, s6, s7, s8, s9, s10, s11, s12, s13, s14, s15⟩
                  go_simp
                  with_reducible rfl
                 rotate_left
                 ·simp only [Act.put, List.setIfInBounds_toArray, List.set_cons_zero, List.set_cons_succ, i64_w, i32_w]
                  rfl
                 refine one_ (i := 39) (N := some 119) #[true, true, true, true, true, true, true, true, true, true, true, true, true, true, true, true, true, true, true, true, true, true, true, true, true, true, true, true, true, true, true, true, true, true, true, true, true, true, true, true, false, false, false, false] rfl rfl (one_of HT_.out (by kernel_rfl)) (by decide) (fun K hK => ?_)
                 refine goes_ Tryd.func7 (by kernel_rfl) rfl #[.slice (some ad425) t405.length co11, .int .i64 ((rd_T34 t405 x8_3).f0), .int .i64 t409] (by rfl) rfl rfl mU ?_
                 with_reducible refine (impl_IsUnder.calls k3 _ _ t405 ((rd_T34 t405 x8_3).f0) t409 t429 _ ?side1 ?side2 A52.out).mono ?_
                 (case side1 => exact cU (Kd.R_reads' HO_3.out).2.2)
                 (case side2 => exact (Kd.R_reads' HO_3.out).2.1)
                 rintro e w54 ⟨rfl, hb⟩
                 have HS6_ := (hb.cell (World.block_lt_of_cell? _ _ (hHeld.2.2.2.2.2.2.1))).trans (hHeld.2.2.2.2.2.2.1)
                 have HS7_ := (hb.cell (World.block_lt_of_cell? _ _ (hHeld.2.2.2.2.2.2.2.1))).trans (hHeld.2.2.2.2.2.2.2.1)
                 have HS8_ := (hb.cell (World.block_lt_of_cell? _ _ (hHeld.2.2.2.2.2.2.2.2.1))).trans (hHeld.2.2.2.2.2.2.2.2.1)
                 have HS9_ := (hb.cell (World.block_lt_of_cell? _ _ (hHeld.2.2.2.2.2.2.2.2.2.1))).trans (hHeld.2.2.2.2.2.2.2.2.2.1)
                 have HS10_ := (hb.cell (World.block_lt_of_cell? _ _ (hHeld.2.2.2.2.2.2.2.2.2.2.1))).trans (hHeld.2.2.2.2.2.2.2.2.2.2.1)
                 have HS11_ := (hb.cell (World.block_lt_of_cell? _ _ (hHeld.2.2.2.2.2.2.2.2.2.2.2.1))).trans (hHeld.2.2.2.2.2.2.2.2.2.2.2.1)
                 have HS12_ := (hb.cell (World.block_lt_of_cell? _ _ (hHeld.2.2.2.2.2.2.2.2.2.2.2.2.1))).trans (hHeld.2.2.2.2.2.2.2.2.2.2.2.2.1)
                 have HS13_ := (hb.cell (World.block_lt_of_cell? _ _ (hHeld.2.2.2.2.2.2.2.2.2.2.2.2.2.1))).trans (hHeld.2.2.2.2.2.2.2.2.2.2.2.2.2.1)
                 have HS14_ := (hb.cell (World.block_lt_of_cell? _ _ (hHeld.2.2.2.2.2.2.2.2.2.2.2.2.2.2.1))).trans (hHeld.2.2.2.2.2.2.2.2.2.2.2.2.2.2.1)
                 have HS15_ := (hb.cell (World.block_lt_of_cell? _ _ (hHeld.2.2.2.2.2.2.2.2.2.2.2.2.2.2.2))).trans (hHeld.2.2.2.2.2.2.2.2.2.2.2.2.2.2.2)
                 refine ⟨_, rfl, ?_⟩
                 have n0_ := am (Kd.R_below (rU HO_3.out) hb)
                 have n1_ := am (Kd.R_below (rU HO_5.out) hb)
                 have n2_ := am (kB BK414.out hb)
                 have n3_ := am (below_step (bS HB.out GE414.out) hb)
                 clear HO_3
                 clear HO_5
                 clear BK414
                 clear HB
                 have HO_3 := n0_
                 have HO_5 := n1_
                 have BK414 := n2_
                 have HB := n3_
                 clear n0_ n1_ n2_ n3_
                 (try clear hb)
                 (try clear hb2)
                 (try clear hk)
                 (try clear hi)
                 refine hK.out _ _ ⟨(blk_cell BK414.out 0).trans rfl, (blk_cell BK414.out 1).trans rfl, (blk_cell BK414.out 2).trans rfl, (blk_cell BK414.out 3).trans rfl, (blk_cell BK414.out 4).trans rfl, (blk_cell BK414.out 5).trans rfl, HS6_, HS7_, HS8_, HS9_, HS10_, HS11_, HS12_, HS13_, HS14_, HS15_⟩ (fun hHeld => ?_)
                 clear hK K
                 refine norm_ (a' := ?_) ?_ ?_
                 rotate_left
                 ·show Act.put _ (some 119) _ = _
                  simp only [Act.put, List.setIfInBounds_toArray, List.set_cons_zero, List.set_cons_succ, i64_w, i32_w]
                  rfl
                 refine pS 40 120 HT_.out ?_
                 refine pS 41 121 HT_.out ?_
                 refine pS 42 122 HT_.out ?_
                 refine pS 43 123 HT_.out ?_
                 refine done_ (done_of HT_.out (by kernel_rfl)) ?_
                 try go_wp2
                 go_meet
                 case rel => exact ⟨_, (!t429), (by first | rfl | (simp; done) | (simp [*]; done)), H', ⟨by have := HJ6.out; have := HJ31.out; have := HK3.out; first | omega | exact Nat.le_refl _⟩, ⟨rU HO_3.out⟩, ⟨rU HO_5.out⟩, ⟨kU BK414.out⟩, ⟨bS HB.out GE414.out⟩⟩
                ·rw [if_neg c51] at H
                 have c51b0 : (t408 == 2) = false := beq_eq_false_iff_ne.mpr c51
                 have c51b1 : (t408 != 2) = true := bne_iff_ne.mpr c51
                 have H' := am H
                 clear H
                 try go_wp2
                 have n0_ := am (Kd.R_drew HO_3.out)
                 have n1_ := am (Kd.R_drew HO_5.out)
                 have n2_ := am (blk_drew BK414.out)
                 have n3_ := am (below_drew1 HB.out)
                 clear HO_3
                 clear HO_5
                 clear BK414
                 clear HB
                 have HO_3 := n0_
                 have HO_5 := n1_
                 have BK414 := n2_
                 have HB := n3_
                 clear n0_ n1_ n2_ n3_
                 have p427 : 0 ≤ (x8_3 : Int) := dU
                 have q427 : x8_3 < (t405.length : Int) := dU
                 obtain ⟨ad427, e427, hx427_0, hx427_1, hx427_2, hx427_3, hx427_4⟩ := at_T34 (Kd.R_reads' HO_3.out).2.2 x8_3 p427 q427
                 obtain rfl : ad425 = ad427 := (by injection e427)
                 replace p427 := eq_true p427
                 replace q427 := eq_true q427
                 refine start_ (n := 44) (S := fun w' => w'.cell? ⟨gb414, 0, none⟩ = some (.int .i64 t408) ∧ w'.cell? ⟨gb414, 1, none⟩ = some (.int .i64 t409) ∧ w'.cell? ⟨gb414, 2, none⟩ = some (.int .i64 t410) ∧ w'.cell? ⟨gb414, 3, none⟩ = some (.int .i64 t411) ∧ w'.cell? ⟨gb414, 4, none⟩ = some (.int .i64 t412) ∧ w'.cell? ⟨gb414, 5, none⟩ = some (.int .i64 t413) ∧ w'.cell? (ad425.add ((x8_3).toNat * 5)) = some (.int .i64 ((rd_T34 t405 x8_3).f0)) ∧ w'.cell? ⟨(ad425.add ((x8_3).toNat * 5)).block, (ad425.add ((x8_3).toNat * 5)).off + 1, none⟩ = some (.int .i64 ((rd_T34 t405 x8_3).f1)) ∧ w'.cell? ⟨(ad425.add ((x8_3).toNat * 5)).block, (ad425.add ((x8_3).toNat * 5)).off + 2, none⟩ = some (.int .i64 ((rd_T34 t405 x8_3).f2)) ∧ w'.cell? ⟨(ad425.add ((x8_3).toNat * 5)).block, (ad425.add ((x8_3).toNat * 5)).off + 3, none⟩ = some (.int .i64 ((rd_T34 t405 x8_3).f3)) ∧ w'.cell? ⟨(ad425.add ((x8_3).toNat * 5)).block, (ad425.add ((x8_3).toNat * 5)).off + 4, none⟩ = some (.int .i64 ((rd_T34 t405 x8_3).f4))) (ds := []) #[false, false, false, false, false, false, false, false, false, false, false, false, false, false, false, false, false, false, false, false, false, false, false, false, false, false, false, false, false, false, false, false, false, false, false, false, false, false, false, false, false, false, false, false] (by kernel_rfl) rfl rfl ⟨(blk_cell BK414.out 0).trans rfl, (blk_cell BK414.out 1).trans rfl, (blk_cell BK414.out 2).trans rfl, (blk_cell BK414.out 3).trans rfl, (blk_cell BK414.out 4).trans rfl, (blk_cell BK414.out 5).trans rfl, hx427_0, hx427_1, hx427_2, hx427_3, hx427_4⟩ (fun hHeld => ?_); refine with_tabW laws_FnEdits.tab16 laws_FnEdits.bits16 (fun HT_ HW_ => ?_)
                 generalize w48.drew = w55 at HO_3 HO_5 BK414 HB hx427_0 hx427_1 hx427_2 hx427_3 hx427_4 hHeld ⊢
                 refine pS 0 80 HT_.out ?_
                 refine pS 1 81 HT_.out ?_
                 refine pS 2 82 HT_.out ?_
                 refine pS 3 83 HT_.out ?_
                 refine pS 5 85 HT_.out ?_
                 refine take_ (i := 4) (N := some 84) (v := ?_) (a' := ?_) #[true, true, true, true, true, true, false, false, false, false, false, false, false, false, false, false, false, false, false, false, false, false, false, false, false, false, false, false, false, false, false, false, false, false, false, false, false, false, false, false, false, false, false, false] rfl rfl (take_ofW HT_.out HW_.out (by kernel_rfl)) (fun _ _ _ h => h) (Or.inl ⟨by rfl, ?_⟩) hHeld ?_ ?_
                 rotate_left
                 ·rintro w' ⟨s0, s1, s2, s3, s4, s5, s6, s7, s8, s9, s10⟩
                  go_simp
                  with_reducible rfl
                 rotate_left
                 ·simp only [Act.put, List.setIfInBounds_toArray, List.set_cons_zero, List.set_cons_succ, i64_w, i32_w]
                  rfl
                 refine take_ (i := 6) (N := some 86) (v := ?_) (a' := ?_) #[true, true, true, true, true, true, true, false, false, false, false, false, false, false, false, false, false, false, false, false, false, false, false, false, false, false, false, false, false, false, false, false, false, false, false, false, false, false, false, false, false, false, false, false] rfl rfl (take_ofW HT_.out HW_.out (by kernel_rfl)) (fun _ _ _ h => h) (Or.inl ⟨by rfl, ?_⟩) hHeld ?_ ?_
                 rotate_left
                 ·rintro w' ⟨s0, s1, s2, s3, s4, s5, s6, s7, s8, s9, s10⟩
                  go_simp
                  with_reducible rfl
                 rotate_left
                 ·simp only [Act.put, List.setIfInBounds_toArray, List.set_cons_zero, List.set_cons_succ, i64_w, i32_w]
                  rfl
                 refine pS 7 87 HT_.out ?_
                 refine pS 8 88 HT_.out ?_
                 refine pW 9 89 HT_.out ?_
                 refine pW 10 90 HT_.out ?_
                 refine pS 11 91 HT_.out ?_
                 refine pS 12 92 HT_.out ?_
                 refine pW 13 93 HT_.out ?_
                 refine pW 14 94 HT_.out ?_
                 refine pW 15 95 HT_.out ?_
                 refine pW 16 96 HT_.out ?_
                 refine pW 17 97 HT_.out ?_
                 refine pW 18 98 HT_.out ?_
                 refine pW 19 99 HT_.out ?_
                 refine pW 20 100 HT_.out ?_
                 refine pW 21 101 HT_.out ?_
                 refine pS 22 102 HT_.out ?_
                 refine pS 23 103 HT_.out ?_
                 refine pS 24 104 HT_.out ?_
                 refine pS 25 105 HT_.out ?_
                 refine pS 26 106 HT_.out ?_
                 refine pS 27 107 HT_.out ?_
                 refine take_ (i := 28) (N := some 108) (v := ?_) (a' := ?_) #[true, true, true, true, true, true, true, true, true, true, true, true, true, true, true, true, true, true, true, true, true, true, true, true, true, true, true, true, true, false, false, false, false, false, false, false, false, false, false, false, false, false, false, false] rfl rfl (take_ofW HT_.out HW_.out (by kernel_rfl)) (fun _ _ _ h => h) (Or.inl ⟨by rfl, ?_⟩) hHeld ?_ ?_
                 rotate_left
                 ·rintro w' ⟨s0, s1, s2, s3, s4, s5, s6, s7, s8, s9, s10⟩
                  go_simp
                  with_reducible rfl
                 rotate_left
                 ·simp only [Act.put, List.setIfInBounds_toArray, List.set_cons_zero, List.set_cons_succ, i64_w, i32_w]
                  rfl
                 refine pS 29 109 HT_.out ?_
                 refine pS 30 110 HT_.out ?_
                 refine pW 31 111 HT_.out ?_
                 refine pW 32 112 HT_.out ?_
                 refine pW 33 113 HT_.out ?_
                 refine pW 34 114 HT_.out ?_
                 refine pW 35 115 HT_.out ?_
                 refine pW 36 116 HT_.out ?_
                 refine pW 37 117 HT_.out ?_
                 refine pW 38 118 HT_.out ?_
                 refine pW 39 119 HT_.out ?_
                 refine pW 40 120 HT_.out ?_
                 refine pS 41 121 HT_.out ?_
                 refine pS 42 122 HT_.out ?_
                 refine pS 43 123 HT_.out ?_
                 refine done_ (done_of HT_.out (by kernel_rfl)) ?_
                 try go_wp2
                 go_meet
                 case rel => exact ⟨_, (true), (by first | rfl | (simp; done) | (simp [*]; done)), H', ⟨by have := HJ6.out; have := HJ31.out; have := HK3.out; first | omega | exact Nat.le_refl _⟩, ⟨rU HO_3.out⟩, ⟨rU HO_5.out⟩, ⟨kU BK414.out⟩, ⟨bS HB.out GE414.out⟩⟩
               ·rw [if_neg c50] at H
                have c50b0 : decide (t426 < 0) = false := decide_eq_false c50
                clear c50
                have H' := am H
                clear H
                try go_wp2
                have n0_ := am (Kd.R_drew HO_3.out)
                have n1_ := am (Kd.R_drew HO_5.out)
                have n2_ := am (blk_drew BK414.out)
                have n3_ := am (below_drew1 HB.out)
                clear HO_3
                clear HO_5
                clear BK414
                clear HB
                have HO_3 := n0_
                have HO_5 := n1_
                have BK414 := n2_
                have HB := n3_
                clear n0_ n1_ n2_ n3_
                have p427 : 0 ≤ (x8_3 : Int) := dU
                have q427 : x8_3 < (t405.length : Int) := dU
                obtain ⟨ad427, e427, hx427_0, hx427_1, hx427_2, hx427_3, hx427_4⟩ := at_T34 (Kd.R_reads' HO_3.out).2.2 x8_3 p427 q427
                obtain rfl : ad425 = ad427 := (by injection e427)
                replace p427 := eq_true p427
                replace q427 := eq_true q427
                refine start_ (n := 44) (S := fun w' => w'.cell? ⟨gb414, 0, none⟩ = some (.int .i64 t408) ∧ w'.cell? ⟨gb414, 1, none⟩ = some (.int .i64 t409) ∧ w'.cell? ⟨gb414, 2, none⟩ = some (.int .i64 t410) ∧ w'.cell? ⟨gb414, 3, none⟩ = some (.int .i64 t411) ∧ w'.cell? ⟨gb414, 4, none⟩ = some (.int .i64 t412) ∧ w'.cell? ⟨gb414, 5, none⟩ = some (.int .i64 t413) ∧ w'.cell? (ad425.add ((x8_3).toNat * 5)) = some (.int .i64 ((rd_T34 t405 x8_3).f0)) ∧ w'.cell? ⟨(ad425.add ((x8_3).toNat * 5)).block, (ad425.add ((x8_3).toNat * 5)).off + 1, none⟩ = some (.int .i64 ((rd_T34 t405 x8_3).f1)) ∧ w'.cell? ⟨(ad425.add ((x8_3).toNat * 5)).block, (ad425.add ((x8_3).toNat * 5)).off + 2, none⟩ = some (.int .i64 ((rd_T34 t405 x8_3).f2)) ∧ w'.cell? ⟨(ad425.add ((x8_3).toNat * 5)).block, (ad425.add ((x8_3).toNat * 5)).off + 3, none⟩ = some (.int .i64 ((rd_T34 t405 x8_3).f3)) ∧ w'.cell? ⟨(ad425.add ((x8_3).toNat * 5)).block, (ad425.add ((x8_3).toNat * 5)).off + 4, none⟩ = some (.int .i64 ((rd_T34 t405 x8_3).f4))) (ds := []) #[false, false, false, false, false, false, false, false, false, false, false, false, false, false, false, false, false, false, false, false, false, false, false, false, false, false, false, false, false, false, false, false, false, false, false, false, false, false, false, false, false, false, false, false] (by kernel_rfl) rfl rfl ⟨(blk_cell BK414.out 0).trans rfl, (blk_cell BK414.out 1).trans rfl, (blk_cell BK414.out 2).trans rfl, (blk_cell BK414.out 3).trans rfl, (blk_cell BK414.out 4).trans rfl, (blk_cell BK414.out 5).trans rfl, hx427_0, hx427_1, hx427_2, hx427_3, hx427_4⟩ (fun hHeld => ?_); refine with_tabW laws_FnEdits.tab16 laws_FnEdits.bits16 (fun HT_ HW_ => ?_)
                generalize w48.drew = w56 at HO_3 HO_5 BK414 HB hx427_0 hx427_1 hx427_2 hx427_3 hx427_4 hHeld ⊢
                refine pS 0 80 HT_.out ?_
                refine pS 1 81 HT_.out ?_
                refine pS 2 82 HT_.out ?_
                refine pS 3 83 HT_.out ?_
                refine pS 5 85 HT_.out ?_
                refine take_ (i := 4) (N := some 84) (v := ?_) (a' := ?_) #[true, true, true, true, true, true, false, false, false, false, false, false, false, false, false, false, false, false, false, false, false, false, false, false, false, false, false, false, false, false, false, false, false, false, false, false, false, false, false, false, false, false, false, false] rfl rfl (take_ofW HT_.out HW_.out (by kernel_rfl)) (fun _ _ _ h => h) (Or.inl ⟨by rfl, ?_⟩) hHeld ?_ ?_
                rotate_left
                ·rintro w' ⟨s0, s1, s2, s3, s4, s5, s6, s7, s8, s9, s10⟩
                 go_simp
                 with_reducible rfl
                rotate_left
                ·simp only [Act.put, List.setIfInBounds_toArray, List.set_cons_zero, List.set_cons_succ, i64_w, i32_w]
                 rfl
                refine take_ (i := 6) (N := some 86) (v := ?_) (a' := ?_) #[true, true, true, true, true, true, true, false, false, false, false, false, false, false, false, false, false, false, false, false, false, false, false, false, false, false, false, false, false, false, false, false, false, false, false, false, false, false, false, false, false, false, false, false] rfl rfl (take_ofW HT_.out HW_.out (by kernel_rfl)) (fun _ _ _ h => h) (Or.inl ⟨by rfl, ?_⟩) hHeld ?_ ?_
                rotate_left
                ·rintro w' ⟨s0, s1, s2, s3, s4, s5, s6, s7, s8, s9, s10⟩
                 go_simp
                 with_reducible rfl
                rotate_left
                ·simp only [Act.put, List.setIfInBounds_toArray, List.set_cons_zero, List.set_cons_succ, i64_w, i32_w]
                 rfl
                refine pS 7 87 HT_.out ?_
                refine pS 8 88 HT_.out ?_
                refine pW 9 89 HT_.out ?_
                refine pW 10 90 HT_.out ?_
                refine pS 11 91 HT_.out ?_
                refine pS 12 92 HT_.out ?_
                refine pW 13 93 HT_.out ?_
                refine pW 14 94 HT_.out ?_
                refine pW 15 95 HT_.out ?_
                refine pW 16 96 HT_.out ?_
                refine pW 17 97 HT_.out ?_
                refine pW 18 98 HT_.out ?_
                refine pW 19 99 HT_.out ?_
                refine pW 20 100 HT_.out ?_
                refine pW 21 101 HT_.out ?_
                refine pS 22 102 HT_.out ?_
                refine pS 23 103 HT_.out ?_
                refine pS 24 104 HT_.out ?_
                refine pS 25 105 HT_.out ?_
                refine pS 26 106 HT_.out ?_
                refine pW 27 107 HT_.out ?_
                refine pW 28 108 HT_.out ?_
                refine pW 29 109 HT_.out ?_
                refine pW 30 110 HT_.out ?_
                refine pW 31 111 HT_.out ?_
                refine pW 32 112 HT_.out ?_
                refine pW 33 113 HT_.out ?_
                refine pW 34 114 HT_.out ?_
                refine pW 35 115 HT_.out ?_
                refine pW 36 116 HT_.out ?_
                refine pW 37 117 HT_.out ?_
                refine pW 38 118 HT_.out ?_
                refine pW 39 119 HT_.out ?_
                refine pW 40 120 HT_.out ?_
                refine pW 41 121 HT_.out ?_
                refine pS 42 122 HT_.out ?_
                refine pS 43 123 HT_.out ?_
                refine done_ (done_of HT_.out (by kernel_rfl)) ?_
                try go_wp2
                go_meet
                case rel => exact ⟨_, (false), (by first | rfl | (simp; done) | (simp [*]; done)), H', ⟨by have := HJ6.out; have := HJ31.out; have := HK3.out; first | omega | exact Nat.le_refl _⟩, ⟨rU HO_3.out⟩, ⟨rU HO_5.out⟩, ⟨kU BK414.out⟩, ⟨bS HB.out GE414.out⟩⟩
              ·rw [if_neg c49] at H
               have c49b0 : (((rd_T34 t405 x8_3).f0) == t409) = false := beq_eq_false_iff_ne.mpr c49
               have c49b1 : (((rd_T34 t405 x8_3).f0) != t409) = true := bne_iff_ne.mpr c49
               (first | rw [c49b0] | (simp only [i64_w, i32_w]; rw [c49b0]) | skip)
               by_cases c57 : t426 ≥ 0
               ·rw [if_pos c57] at H
                have c57b0 : decide (0 ≤ t426) = true := decide_eq_true c57
                clear c57
                by_cases c58 : 0 ≤ t426
                ·rw [if_pos c58] at H
                 have c58b0 : decide (0 ≤ t426) = true := decide_eq_true c58
                 clear c58
                 by_cases c59 : t426 < (t415.length : Int)
                 ·rw [if_pos c59] at H
                  have c59b0 : decide (t426 < (t415.length : Int)) = true := decide_eq_true c59
                  clear c59
                  by_cases c60 : (!(((rd_T34 t415 t426).f0) == ((rd_T34 t405 x8_3).f0)) || (!(((rd_T34 t415 t426).f1) == ((rd_T34 t405 x8_3).f1)) || (!(((rd_T34 t415 t426).f2) == ((rd_T34 t405 x8_3).f2)) || (!(((rd_T34 t415 t426).f3) == ((rd_T34 t405 x8_3).f3)) || (!(((rd_T34 t415 t426).f4) == ((rd_T34 t405 x8_3).f4))))))) = true
                  ·rw [if_pos c60] at H
                   have c60b0 : (!(((rd_T34 t415 t426).f0) == ((rd_T34 t405 x8_3).f0)) || (!(((rd_T34 t415 t426).f1) == ((rd_T34 t405 x8_3).f1)) || (!(((rd_T34 t415 t426).f2) == ((rd_T34 t405 x8_3).f2)) || (!(((rd_T34 t415 t426).f3) == ((rd_T34 t405 x8_3).f3)) || (!(((rd_T34 t415 t426).f4) == ((rd_T34 t405 x8_3).f4))))))) = true := c60
                   clear c60
                   have H' := am H
                   clear H
                   try go_wp2
                   have n0_ := am (Kd.R_drew HO_3.out)
                   have n1_ := am (Kd.R_drew HO_5.out)
                   have n2_ := am (blk_drew BK414.out)
                   have n3_ := am (below_drew1 HB.out)
                   clear HO_3
                   clear HO_5
                   clear BK414
                   clear HB
                   have HO_3 := n0_
                   have HO_5 := n1_
                   have BK414 := n2_
                   have HB := n3_
                   clear n0_ n1_ n2_ n3_
                   have p427 : 0 ≤ (x8_3 : Int) := dU
                   have q427 : x8_3 < (t405.length : Int) := dU
                   obtain ⟨ad427, e427, hx427_0, hx427_1, hx427_2, hx427_3, hx427_4⟩ := at_T34 (Kd.R_reads' HO_3.out).2.2 x8_3 p427 q427
                   obtain rfl : ad425 = ad427 := (by injection e427)
                   replace p427 := eq_true p427
                   replace q427 := eq_true q427
                   have p430 : 0 ≤ (t426 : Int) := dU
                   have q430 : t426 < (t415.length : Int) := dU
                   obtain ⟨ad430, e430, hx430_0, hx430_1, hx430_2, hx430_3, hx430_4⟩ := at_T34 (Kd.R_reads' HO_5.out).2.2 t426 p430 q430
                   cases e430
                   replace p430 := eq_true p430
                   replace q430 := eq_true q430
                   have p431 : 0 ≤ (x8_3 : Int) := dU
                   have q431 : x8_3 < (t405.length : Int) := dU
                   obtain ⟨ad431, e431, hx431_0, hx431_1, hx431_2, hx431_3, hx431_4⟩ := at_T34 (Kd.R_reads' HO_3.out).2.2 x8_3 p431 q431
                   obtain rfl : ad425 = ad431 := (by injection e431)
                   replace p431 := eq_true p431
                   replace q431 := eq_true q431
                   refine start_ (n := 44) (S := fun w' => w'.cell? ⟨gb414, 0, none⟩ = some (.int .i64 t408) ∧ w'.cell? ⟨gb414, 1, none⟩ = some (.int .i64 t409) ∧ w'.cell? ⟨gb414, 2, none⟩ = some (.int .i64 t410) ∧ w'.cell? ⟨gb414, 3, none⟩ = some (.int .i64 t411) ∧ w'.cell? ⟨gb414, 4, none⟩ = some (.int .i64 t412) ∧ w'.cell? ⟨gb414, 5, none⟩ = some (.int .i64 t413) ∧ w'.cell? (ad425.add ((x8_3).toNat * 5)) = some (.int .i64 ((rd_T34 t405 x8_3).f0)) ∧ w'.cell? ⟨(ad425.add ((x8_3).toNat * 5)).block, (ad425.add ((x8_3).toNat * 5)).off + 1, none⟩ = some (.int .i64 ((rd_T34 t405 x8_3).f1)) ∧ w'.cell? ⟨(ad425.add ((x8_3).toNat * 5)).block, (ad425.add ((x8_3).toNat * 5)).off + 2, none⟩ = some (.int .i64 ((rd_T34 t405 x8_3).f2)) ∧ w'.cell? ⟨(ad425.add ((x8_3).toNat * 5)).block, (ad425.add ((x8_3).toNat * 5)).off + 3, none⟩ = some (.int .i64 ((rd_T34 t405 x8_3).f3)) ∧ w'.cell? ⟨(ad425.add ((x8_3).toNat * 5)).block, (ad425.add ((x8_3).toNat * 5)).off + 4, none⟩ = some (.int .i64 ((rd_T34 t405 x8_3).f4)) ∧ w'.cell? (ad430.add ((t426).toNat * 5)) = some (.int .i64 ((rd_T34 t415 t426).f0)) ∧ w'.cell? ⟨(ad430.add ((t426).toNat * 5)).block, (ad430.add ((t426).toNat * 5)).off + 1, none⟩ = some (.int .i64 ((rd_T34 t415 t426).f1)) ∧ w'.cell? ⟨(ad430.add ((t426).toNat * 5)).block, (ad430.add ((t426).toNat * 5)).off + 2, none⟩ = some (.int .i64 ((rd_T34 t415 t426).f2)) ∧ w'.cell? ⟨(ad430.add ((t426).toNat * 5)).block, (ad430.add ((t426).toNat * 5)).off + 3, none⟩ = some (.int .i64 ((rd_T34 t415 t426).f3)) ∧ w'.cell? ⟨(ad430.add ((t426).toNat * 5)).block, (ad430.add ((t426).toNat * 5)).off + 4, none⟩ = some (.int .i64 ((rd_T34 t415 t426).f4)) ∧ w'.cell? (ad425.add ((x8_3).toNat * 5)) = some (.int .i64 ((rd_T34 t405 x8_3).f0)) ∧ w'.cell? ⟨(ad425.add ((x8_3).toNat * 5)).block, (ad425.add ((x8_3).toNat * 5)).off + 1, none⟩ = some (.int .i64 ((rd_T34 t405 x8_3).f1)) ∧ w'.cell? ⟨(ad425.add ((x8_3).toNat * 5)).block, (ad425.add ((x8_3).toNat * 5)).off + 2, none⟩ = some (.int .i64 ((rd_T34 t405 x8_3).f2)) ∧ w'.cell? ⟨(ad425.add ((x8_3).toNat * 5)).block, (ad425.add ((x8_3).toNat * 5)).off + 3, none⟩ = some (.int .i64 ((rd_T34 t405 x8_3).f3)) ∧ w'.cell? ⟨(ad425.add ((x8_3).toNat * 5)).block, (ad425.add ((x8_3).toNat * 5)).off + 4, none⟩ = some (.int .i64 ((rd_T34 t405 x8_3).f4))) (ds := []) #[false, false, false, false, false, false, false, false, false, false, false, false, false, false, false, false, false, false, false, false, false, false, false, false, false, false, false, false, false, false, false, false, false, false, false, false, false, false, false, false, false, false, false, false] (by kernel_rfl) rfl rfl ⟨(blk_cell BK414.out 0).trans rfl, (blk_cell BK414.out 1).trans rfl, (blk_cell BK414.out 2).trans rfl, (blk_cell BK414.out 3).trans rfl, (blk_cell BK414.out 4).trans rfl, (blk_cell BK414.out 5).trans rfl, hx427_0, hx427_1, hx427_2, hx427_3, hx427_4, hx430_0, hx430_1, hx430_2, hx430_3, hx430_4, hx431_0, hx431_1, hx431_2, hx431_3, hx431_4⟩ (fun hHeld => ?_); refine with_tabW laws_FnEdits.tab16 laws_FnEdits.bits16 (fun HT_ HW_ => ?_)
                   generalize w48.drew = w61 at HO_3 HO_5 BK414 HB hx427_0 hx427_1 hx427_2 hx427_3 hx427_4 hx430_0 hx430_1 hx430_2 hx430_3 hx430_4 hx431_0 hx431_1 hx431_2 hx431_3 hx431_4 hHeld ⊢
                   refine pS 0 80 HT_.out ?_
                   refine pS 1 81 HT_.out ?_
                   refine pS 2 82 HT_.out ?_
                   refine pS 3 83 HT_.out ?_
                   refine pS 5 85 HT_.out ?_
                   refine take_ (i := 4) (N := some 84) (v := ?_) (a' := ?_) #[true, true, true, true, true, true, false, false, false, false, false, false, false, false, false, false, false, false, false, false, false, false, false, false, false, false, false, false, false, false, false, false, false, false, false, false, false, false, false, false, false, false, false, false] rfl rfl (take_ofW HT_.out HW_.out (by kernel_rfl)) (fun _ _ _ h => h) (Or.inl ⟨by rfl, ?_⟩) hHeld ?_ ?_
                   rotate_left
                   ·rintro w' ⟨s0, s1, s2, s3, s4, s5, s6, s7, s8, s9, s10, s11, s12, s13, s14, s15, s16, s17, s18, s19, s20⟩
                    go_simp
                    with_reducible rfl
                   rotate_left
                   ·simp only [Act.put, List.setIfInBounds_toArray, List.set_cons_zero, List.set_cons_succ, i64_w, i32_w]
                    rfl
                   refine take_ (i := 6) (N := some 86) (v := ?_) (a' := ?_) #[true, true, true, true, true, true, true, false, false, false, false, false, false, false, false, false, false, false, false, false, false, false, false, false, false, false, false, false, false, false, false, false, false, false, false, false, false, false, false, false, false, false, false, false] rfl rfl (take_ofW HT_.out HW_.out (by kernel_rfl)) (fun _ _ _ h => h) (Or.inl ⟨by rfl, ?_⟩) hHeld ?_ ?_
                   rotate_left
                   ·rintro w' ⟨s0, s1, s2, s3, s4, s5, s6, s7, s8, s9, s10, s11, s12, s13, s14, s15, s16, s17, s18, s19, s20⟩
                    go_simp
                    with_reducible rfl
                   rotate_left
                   ·simp only [Act.put, List.setIfInBounds_toArray, List.set_cons_zero, List.set_cons_succ, i64_w, i32_w]
                    rfl
                   refine pS 7 87 HT_.out ?_
                   refine pS 8 88 HT_.out ?_
                   refine pS 9 89 HT_.out ?_
                   refine pS 10 90 HT_.out ?_
                   refine pS 11 91 HT_.out ?_
                   refine pS 12 92 HT_.out ?_
                   refine pS 13 93 HT_.out ?_
                   refine pS 14 94 HT_.out ?_
                   refine pS 15 95 HT_.out ?_
                   refine pS 17 97 HT_.out ?_
                   refine pS 18 98 HT_.out ?_
                   refine pS 19 99 HT_.out ?_
                   refine take_ (i := 16) (N := some 96) (v := ?_) (a' := ?_) #[true, true, true, true, true, true, true, true, true, true, true, true, true, true, true, true, true, true, true, true, false, false, false, false, false, false, false, false, false, false, false, false, false, false, false, false, false, false, false, false, false, false, false, false] rfl rfl (take_ofW HT_.out HW_.out (by kernel_rfl)) (fun _ _ _ h => h) (Or.inl ⟨by rfl, ?_⟩) hHeld ?_ ?_
                   rotate_left
                   ·rintro w' ⟨s0, s1, s2, s3, s4, s5, s6, s7, s8, s9, s10, s11, s12, s13, s14, s15, s16, s17, s18, s19, s20⟩
                    go_simp
                    with_reducible rfl
                   rotate_left
                   ·simp only [Act.put, List.setIfInBounds_toArray, List.set_cons_zero, List.set_cons_succ, i64_w, i32_w]
                    rfl
                   refine take_ (i := 20) (N := some 100) (v := ?_) (a' := ?_) #[true, true, true, true, true, true, true, true, true, true, true, true, true, true, true, true, true, true, true, true, true, false, false, false, false, false, false, false, false, false, false, false, false, false, false, false, false, false, false, false, false, false, false, false] rfl rfl (take_ofW HT_.out HW_.out (by kernel_rfl)) (fun _ _ _ h => h) (Or.inl ⟨by rfl, ?_⟩) hHeld ?_ ?_
                   rotate_left
                   ·rintro w' ⟨s0, s1, s2, s3, s4, s5, s6, s7, s8, s9, s10, s11, s12, s13, s14, s15, s16, s17, s18, s19, s20⟩
                    go_simp
                    with_reducible rfl
                   rotate_left
                   ·simp only [Act.put, List.setIfInBounds_toArray, List.set_cons_zero, List.set_cons_succ, i64_w, i32_w]
                    rfl
                   refine pS 21 101 HT_.out ?_
                   refine pS 22 102 HT_.out ?_
                   refine pS 23 103 HT_.out ?_
                   refine pW 24 104 HT_.out ?_
                   refine pW 25 105 HT_.out ?_
                   refine pW 26 106 HT_.out ?_
                   refine pW 27 107 HT_.out ?_
                   refine pW 28 108 HT_.out ?_
                   refine pW 29 109 HT_.out ?_
                   refine pW 30 110 HT_.out ?_
                   refine pW 31 111 HT_.out ?_
                   refine pW 32 112 HT_.out ?_
                   refine pW 33 113 HT_.out ?_
                   refine pW 34 114 HT_.out ?_
                   refine pW 35 115 HT_.out ?_
                   refine pW 36 116 HT_.out ?_
                   refine pW 37 117 HT_.out ?_
                   refine pW 38 118 HT_.out ?_
                   refine pW 39 119 HT_.out ?_
                   refine pW 40 120 HT_.out ?_
                   refine pW 41 121 HT_.out ?_
                   refine pW 42 122 HT_.out ?_
                   refine pS 43 123 HT_.out ?_
                   refine done_ (done_of HT_.out (by kernel_rfl)) ?_
                   try go_wp2
                   go_meet
                   case rel => exact ⟨_, (true), (by first | rfl | (simp; done) | (simp [*]; done)), H', ⟨by have := HJ6.out; have := HJ31.out; have := HK3.out; first | omega | exact Nat.le_refl _⟩, ⟨rU HO_3.out⟩, ⟨rU HO_5.out⟩, ⟨kU BK414.out⟩, ⟨bS HB.out GE414.out⟩⟩
                  ·rw [if_neg c60] at H
                   have c60b0 : (!(((rd_T34 t415 t426).f0) == ((rd_T34 t405 x8_3).f0)) || (!(((rd_T34 t415 t426).f1) == ((rd_T34 t405 x8_3).f1)) || (!(((rd_T34 t415 t426).f2) == ((rd_T34 t405 x8_3).f2)) || (!(((rd_T34 t415 t426).f3) == ((rd_T34 t405 x8_3).f3)) || (!(((rd_T34 t415 t426).f4) == ((rd_T34 t405 x8_3).f4))))))) = false := by simpa using c60
                   clear c60
                   by_cases c62 : t426 < 0
                   ·rw [if_pos c62] at H
                    have c62b0 : decide (t426 < 0) = true := decide_eq_true c62
                    clear c62
                    by_cases c63 : t408 = 2
                    ·rw [if_pos c63] at H
                     have c63b0 : (t408 == 2) = true := beq_iff_eq.mpr c63
                     have c63b1 : (t408 != 2) = false := bne_eq_false_iff_eq.mpr c63
                     clear c63
                     replace H := Option.bind_eq_some_iff.mp H
                     obtain ⟨t433, A640, H⟩ := H
                     replace H : (laws_FnEdits.j3 k3 l0 t405 t415 x8_3 (!t433) t408 t409 t410 t411 t412 t413) = some r := H
                     have A64 := am A640
                     clear A640
                     have H' := am H
                     clear H
                     try go_wp2
                     have n0_ := am (Kd.R_drew HO_3.out)
                     have n1_ := am (Kd.R_drew HO_5.out)
                     have n2_ := am (blk_drew BK414.out)
                     have n3_ := am (below_drew1 HB.out)
                     clear HO_3
                     clear HO_5
                     clear BK414
                     clear HB
                     have HO_3 := n0_
                     have HO_5 := n1_
                     have BK414 := n2_
                     have HB := n3_
                     clear n0_ n1_ n2_ n3_
                     have p427 : 0 ≤ (x8_3 : Int) := dU
                     have q427 : x8_3 < (t405.length : Int) := dU
                     obtain ⟨ad427, e427, hx427_0, hx427_1, hx427_2, hx427_3, hx427_4⟩ := at_T34 (Kd.R_reads' HO_3.out).2.2 x8_3 p427 q427
                     obtain rfl : ad425 = ad427 := (by injection e427)
                     replace p427 := eq_true p427
                     replace q427 := eq_true q427
                     have p430 : 0 ≤ (t426 : Int) := dU
                     have q430 : t426 < (t415.length : Int) := dU
                     obtain ⟨ad430, e430, hx430_0, hx430_1, hx430_2, hx430_3, hx430_4⟩ := at_T34 (Kd.R_reads' HO_5.out).2.2 t426 p430 q430
                     cases e430
                     replace p430 := eq_true p430
                     replace q430 := eq_true q430
                     have p431 : 0 ≤ (x8_3 : Int) := dU
                     have q431 : x8_3 < (t405.length : Int) := dU
                     obtain ⟨ad431, e431, hx431_0, hx431_1, hx431_2, hx431_3, hx431_4⟩ := at_T34 (Kd.R_reads' HO_3.out).2.2 x8_3 p431 q431
                     obtain rfl : ad425 = ad431 := (by injection e431)
                     replace p431 := eq_true p431
                     replace q431 := eq_true q431
                     have p432 : 0 ≤ (x8_3 : Int) := dU
                     have q432 : x8_3 < (t405.length : Int) := dU
                     obtain ⟨ad432, e432, hx432_0, hx432_1, hx432_2, hx432_3, hx432_4⟩ := at_T34 (Kd.R_reads' HO_3.out).2.2 x8_3 p432 q432
                     obtain rfl : ad425 = ad432 := (by injection e432)
                     replace p432 := eq_true p432
                     replace q432 := eq_true q432
                     refine start_ (n := 44) (S := fun w' => w'.cell? ⟨gb414, 0, none⟩ = some (.int .i64 t408) ∧ w'.cell? ⟨gb414, 1, none⟩ = some (.int .i64 t409) ∧ w'.cell? ⟨gb414, 2, none⟩ = some (.int .i64 t410) ∧ w'.cell? ⟨gb414, 3, none⟩ = some (.int .i64 t411) ∧ w'.cell? ⟨gb414, 4, none⟩ = some (.int .i64 t412) ∧ w'.cell? ⟨gb414, 5, none⟩ = some (.int .i64 t413) ∧ w'.cell? (ad425.add ((x8_3).toNat * 5)) = some (.int .i64 ((rd_T34 t405 x8_3).f0)) ∧ w'.cell? ⟨(ad425.add ((x8_3).toNat * 5)).block, (ad425.add ((x8_3).toNat * 5)).off + 1, none⟩ = some (.int .i64 ((rd_T34 t405 x8_3).f1)) ∧ w'.cell? ⟨(ad425.add ((x8_3).toNat * 5)).block, (ad425.add ((x8_3).toNat * 5)).off + 2, none⟩ = some (.int .i64 ((rd_T34 t405 x8_3).f2)) ∧ w'.cell? ⟨(ad425.add ((x8_3).toNat * 5)).block, (ad425.add ((x8_3).toNat * 5)).off + 3, none⟩ = some (.int .i64 ((rd_T34 t405 x8_3).f3)) ∧ w'.cell? ⟨(ad425.add ((x8_3).toNat * 5)).block, (ad425.add ((x8_3).toNat * 5)).off + 4, none⟩ = some (.int .i64 ((rd_T34 t405 x8_3).f4)) ∧ w'.cell? (ad430.add ((t426).toNat * 5)) = some (.int .i64 ((rd_T34 t415 t426).f0)) ∧ w'.cell? ⟨(ad430.add ((t426).toNat * 5)).block, (ad430.add ((t426).toNat * 5)).off + 1, none⟩ = some (.int .i64 ((rd_T34 t415 t426).f1)) ∧ w'.cell? ⟨(ad430.add ((t426).toNat * 5)).block, (ad430.add ((t426).toNat * 5)).off + 2, none⟩ = some (.int .i64 ((rd_T34 t415 t426).f2)) ∧ w'.cell? ⟨(ad430.add ((t426).toNat * 5)).block, (ad430.add ((t426).toNat * 5)).off + 3, none⟩ = some (.int .i64 ((rd_T34 t415 t426).f3)) ∧ w'.cell? ⟨(ad430.add ((t426).toNat * 5)).block, (ad430.add ((t426).toNat * 5)).off + 4, none⟩ = some (.int .i64 ((rd_T34 t415 t426).f4)) ∧ w'.cell? (ad425.add ((x8_3).toNat * 5)) = some (.int .i64 ((rd_T34 t405 x8_3).f0)) ∧ w'.cell? ⟨(ad425.add ((x8_3).toNat * 5)).block, (ad425.add ((x8_3).toNat * 5)).off + 1, none⟩ = some (.int .i64 ((rd_T34 t405 x8_3).f1)) ∧ w'.cell? ⟨(ad425.add ((x8_3).toNat * 5)).block, (ad425.add ((x8_3).toNat * 5)).off + 2, none⟩ = some (.int .i64 ((rd_T34 t405 x8_3).f2)) ∧ w'.cell? ⟨(ad425.add ((x8_3).toNat * 5)).block, (ad425.add ((x8_3).toNat * 5)).off + 3, none⟩ = some (.int .i64 ((rd_T34 t405 x8_3).f3)) ∧ w'.cell? ⟨(ad425.add ((x8_3).toNat * 5)).block, (ad425.add ((x8_3).toNat * 5)).off + 4, none⟩ = some (.int .i64 ((rd_T34 t405 x8_3).f4)) ∧ w'.cell? (ad425.add ((x8_3).toNat * 5)) = some (.int .i64 ((rd_T34 t405 x8_3).f0)) ∧ w'.cell? ⟨(ad425.add ((x8_3).toNat * 5)).block, (ad425.add ((x8_3).toNat * 5)).off + 1, none⟩ = some (.int .i64 ((rd_T34 t405 x8_3).f1)) ∧ w'.cell? ⟨(ad425.add ((x8_3).toNat * 5)).block, (ad425.add ((x8_3).toNat * 5)).off + 2, none⟩ = some (.int .i64 ((rd_T34 t405 x8_3).f2)) ∧ w'.cell? ⟨(ad425.add ((x8_3).toNat * 5)).block, (ad425.add ((x8_3).toNat * 5)).off + 3, none⟩ = some (.int .i64 ((rd_T34 t405 x8_3).f3)) ∧ w'.cell? ⟨(ad425.add ((x8_3).toNat * 5)).block, (ad425.add ((x8_3).toNat * 5)).off + 4, none⟩ = some (.int .i64 ((rd_T34 t405 x8_3).f4))) (ds := []) #[false, false, false, false, false, false, false, false, false, false, false, false, false, false, false, false, false, false, false, false, false, false, false, false, false, false, false, false, false, false, false, false, false, false, false, false, false, false, false, false, false, false, false, false] (by kernel_rfl) rfl rfl ⟨(blk_cell BK414.out 0).trans rfl, (blk_cell BK414.out 1).trans rfl, (blk_cell BK414.out 2).trans rfl, (blk_cell BK414.out 3).trans rfl, (blk_cell BK414.out 4).trans rfl, (blk_cell BK414.out 5).trans rfl, hx427_0, hx427_1, hx427_2, hx427_3, hx427_4, hx430_0, hx430_1, hx430_2, hx430_3, hx430_4, hx431_0, hx431_1, hx431_2, hx431_3, hx431_4, hx432_0, hx432_1, hx432_2, hx432_3, hx432_4⟩ (fun hHeld => ?_); refine with_tabW laws_FnEdits.tab16 laws_FnEdits.bits16 (fun HT_ HW_ => ?_)
                     generalize w48.drew = w65 at HO_3 HO_5 BK414 HB hx427_0 hx427_1 hx427_2 hx427_3 hx427_4 hx430_0 hx430_1 hx430_2 hx430_3 hx430_4 hx431_0 hx431_1 hx431_2 hx431_3 hx431_4 hx432_0 hx432_1 hx432_2 hx432_3 hx432_4 hHeld ⊢
                     refine pS 0 80 HT_.out ?_
                     refine pS 1 81 HT_.out ?_
                     refine pS 2 82 HT_.out ?_
                     refine pS 3 83 HT_.out ?_
                     refine pS 5 85 HT_.out ?_
                     refine take_ (i := 4) (N := some 84) (v := ?_) (a' := ?_) #[true, true, true, true, true, true, false, false, false, false, false, false, false, false, false, false, false, false, false, false, false, false, false, false, false, false, false, false, false, false, false, false, false, false, false, false, false, false, false, false, false, false, false, false] rfl rfl (take_ofW HT_.out HW_.out (by kernel_rfl)) (fun _ _ _ h => h) (Or.inl ⟨by rfl, ?_⟩) hHeld ?_ ?_
                     rotate_left
                     ·rintro w' ⟨s0, s1, s2, s3, s4, s5, s6, s7, s8, s9, s10, s11, s12, s13, s14, s15, s16, s17, s18, s19, s20, s21, s22, s23, s24, s25⟩
                      go_simp
                      with_reducible rfl
                     rotate_left
                     ·simp only [Act.put, List.setIfInBounds_toArray, List.set_cons_zero, List.set_cons_succ, i64_w, i32_w]
                      rfl
                     refine take_ (i := 6) (N := some 86) (v := ?_) (a' := ?_) #[true, true, true, true, true, true, true, false, false, false, false, false, false, false, false, false, false, false, false, false, false, false, false, false, false, false, false, false, false, false, false, false, false, false, false, false, false, false, false, false, false, false, false, false] rfl rfl (take_ofW HT_.out HW_.out (by kernel_rfl)) (fun _ _ _ h => h) (Or.inl ⟨by rfl, ?_⟩) hHeld ?_ ?_
                     rotate_left
                     ·rintro w' ⟨s0, s1, s2, s3, s4, s5, s6, s7, s8, s9, s10, s11, s12, s13, s14, s15, s16, s17, s18, s19, s20, s21, s22, s23, s24, s25⟩
                      go_simp
                      with_reducible rfl
                     rotate_left
                     ·simp only [Act.put, List.setIfInBounds_toArray, List.set_cons_zero, List.set_cons_succ, i64_w, i32_w]
                      rfl
                     refine pS 7 87 HT_.out ?_
                     refine pS 8 88 HT_.out ?_
                     refine pS 9 89 HT_.out ?_
                     refine pS 10 90 HT_.out ?_
                     refine pS 11 91 HT_.out ?_
                     refine pS 12 92 HT_.out ?_
                     refine pS 13 93 HT_.out ?_
                     refine pS 14 94 HT_.out ?_
                     refine pS 15 95 HT_.out ?_
                     refine pS 17 97 HT_.out ?_
                     refine pS 18 98 HT_.out ?_
                     refine pS 19 99 HT_.out ?_
                     refine take_ (i := 16) (N := some 96) (v := ?_) (a' := ?_) #[true, true, true, true, true, true, true, true, true, true, true, true, true, true, true, true, true, true, true, true, false, false, false, false, false, false, false, false, false, false, false, false, false, false, false, false, false, false, false, false, false, false, false, false] rfl rfl (take_ofW HT_.out HW_.out (by kernel_rfl)) (fun _ _ _ h => h) (Or.inl ⟨by rfl, ?_⟩) hHeld ?_ ?_
                     rotate_left
                     ·rintro w' ⟨s0, s1, s2, s3, s4, s5, s6, s7, s8, s9, s10, s11, s12, s13, s14, s15, s16, s17, s18, s19, s20, s21, s22, s23, s24, s25⟩
                      go_simp
                      with_reducible rfl
                     rotate_left
                     ·simp only [Act.put, List.setIfInBounds_toArray, List.set_cons_zero, List.set_cons_succ, i64_w, i32_w]
                      rfl
                     refine take_ (i := 20) (N := some 100) (v := ?_) (a' := ?_) #[true, true, true, true, true, true, true, true, true, true, true, true, true, true, true, true, true, true, true, true, true, false, false, false, false, false, false, false, false, false, false, false, false, false, false, false, false, false, false, false, false, false, false, false] rfl rfl (take_ofW HT_.out HW_.out (by kernel_rfl)) (fun _ _ _ h => h) (Or.inl ⟨by rfl, ?_⟩) hHeld ?_ ?_
                     rotate_left
                     ·rintro w' ⟨s0, s1, s2, s3, s4, s5, s6, s7, s8, s9, s10, s11, s12, s13, s14, s15, s16, s17, s18, s19, s20, s21, s22, s23, s24, s25⟩
                      go_simp
                      with_reducible rfl
                     rotate_left
                     ·simp only [Act.put, List.setIfInBounds_toArray, List.set_cons_zero, List.set_cons_succ, i64_w, i32_w]
                      rfl
                     refine pS 21 101 HT_.out ?_
                     refine pS 22 102 HT_.out ?_
                     refine pS 23 103 HT_.out ?_
                     refine pS 24 104 HT_.out ?_
                     refine pS 25 105 HT_.out ?_
                     refine pS 26 106 HT_.out ?_
                     refine pS 27 107 HT_.out ?_
                     refine take_ (i := 28) (N := some 108) (v := ?_) (a' := ?_) #[true, true, true, true, true, true, true, true, true, true, true, true, true, true, true, true, true, true, true, true, true, true, true, true, true, true, true, true, true, false, false, false, false, false, false, false, false, false, false, false, false, false, false, false] rfl rfl (take_ofW HT_.out HW_.out (by kernel_rfl)) (fun _ _ _ h => h) (Or.inl ⟨by rfl, ?_⟩) hHeld ?_ ?_
                     rotate_left
                     ·rintro w' ⟨s0, s1, s2, s3, s4, s5, s6, s7, s8, s9, s10, s11, s12, s13, s14, s15, s16, s17, s18, s19, s20, s21, s22, s23, s24, s25⟩
                      go_simp
                      with_reducible rfl
                     rotate_left
                     ·simp only [Act.put, List.setIfInBounds_toArray, List.set_cons_zero, List.set_cons_succ, i64_w, i32_w]
                      rfl
                     refine pS 29 109 HT_.out ?_
                     refine pS 30 110 HT_.out ?_
                     refine pS 31 111 HT_.out ?_
                     refine pS 32 112 HT_.out ?_
                     refine pS 33 113 HT_.out ?_
                     refine pS 34 114 HT_.out ?_
                     refine pS 35 115 HT_.out ?_
                     refine pS 37 117 HT_.out ?_
                     refine take_ (i := 36) (N := some 116) (v := ?_) (a' := ?_) #[true, true, true, true, true, true, true, true, true, true, true, true, true, true, true, true, true, true, true, true, true, true, true, true, true, true, true, true, true, true, true, true, true, true, true, true, true, true, false, false, false, false, false, false] rfl rfl (take_ofW HT_.out HW_.out (by kernel_rfl)) (fun _ _ _ h => h) (Or.inl ⟨by rfl, ?_⟩) hHeld ?_ ?_
                     rotate_left
                     ·rintro w' ⟨s0, s1, s2, s3, s4, s5, s6, s7, s8, s9, s10, s11, s12, s13, s14, s15, s16, s17, s18, s19, s20, s21, s22, s23, s24, s25⟩
                      go_simp
                      with_reducible rfl
                     rotate_left
                     ·simp only [Act.put, List.setIfInBounds_toArray, List.set_cons_zero, List.set_cons_succ, i64_w, i32_w]
                      rfl
                     refine take_ (i := 38) (N := some 118) (v := ?_) (a' := ?_) #[true, true, true, true, true, true, true, true, true, true, true, true, true, true, true, true, true, true, true, true, true, true, true, true, true, true, true, true, true, true, true, true, true, true, true, true, true, true, true, false, false, false, false, false] rfl rfl (take_ofW HT_.out HW_.out (by kernel_rfl)) (fun _ _ _ h => h) (Or.inl ⟨by rfl, ?_⟩) hHeld ?_ ?_
                     rotate_left
                     ·rintro w' ⟨s0, s1, s2, s3, s4, s5, s6, s7, s8, s9, s10, s11, s12, s13, s14, s15, s16, s17, s18, s19, s20, s21, s22, s23, s24, s25⟩
                      go_simp
                      with_reducible rfl
                     rotate_left
                     ·simp only [Act.put, List.setIfInBounds_toArray, List.set_cons_zero, List.set_cons_succ, i64_w, i32_w]
                      rfl
                     refine one_ (i := 39) (N := some 119) #[true, true, true, true, true, true, true, true, true, true, true, true, true, true, true, true, true, true, true, true, true, true, true, true, true, true, true, true, true, true, true, true, true, true, true, true, true, true, true, true, false, false, false, false] rfl rfl (one_of HT_.out (by kernel_rfl)) (by decide) (fun K hK => ?_)
                     refine goes_ Tryd.func7 (by kernel_rfl) rfl #[.slice (some ad425) t405.length co11, .int .i64 ((rd_T34 t405 x8_3).f0), .int .i64 t409] (by rfl) rfl rfl mU ?_
                     with_reducible refine (impl_IsUnder.calls k3 _ _ t405 ((rd_T34 t405 x8_3).f0) t409 t433 _ ?side1 ?side2 A64.out).mono ?_
                     (case side1 => exact cU (Kd.R_reads' HO_3.out).2.2)
                     (case side2 => exact (Kd.R_reads' HO_3.out).2.1)
                     rintro e w66 ⟨rfl, hb⟩
                     have HS6_ := (hb.cell (World.block_lt_of_cell? _ _ (hHeld.2.2.2.2.2.2.1))).trans (hHeld.2.2.2.2.2.2.1)
                     have HS7_ := (hb.cell (World.block_lt_of_cell? _ _ (hHeld.2.2.2.2.2.2.2.1))).trans (hHeld.2.2.2.2.2.2.2.1)
                     have HS8_ := (hb.cell (World.block_lt_of_cell? _ _ (hHeld.2.2.2.2.2.2.2.2.1))).trans (hHeld.2.2.2.2.2.2.2.2.1)
                     have HS9_ := (hb.cell (World.block_lt_of_cell? _ _ (hHeld.2.2.2.2.2.2.2.2.2.1))).trans (hHeld.2.2.2.2.2.2.2.2.2.1)
                     have HS10_ := (hb.cell (World.block_lt_of_cell? _ _ (hHeld.2.2.2.2.2.2.2.2.2.2.1))).trans (hHeld.2.2.2.2.2.2.2.2.2.2.1)
                     have HS11_ := (hb.cell (World.block_lt_of_cell? _ _ (hHeld.2.2.2.2.2.2.2.2.2.2.2.1))).trans (hHeld.2.2.2.2.2.2.2.2.2.2.2.1)
                     have HS12_ := (hb.cell (World.block_lt_of_cell? _ _ (hHeld.2.2.2.2.2.2.2.2.2.2.2.2.1))).trans (hHeld.2.2.2.2.2.2.2.2.2.2.2.2.1)
                     have HS13_ := (hb.cell (World.block_lt_of_cell? _ _ (hHeld.2.2.2.2.2.2.2.2.2.2.2.2.2.1))).trans (hHeld.2.2.2.2.2.2.2.2.2.2.2.2.2.1)
                     have HS14_ := (hb.cell (World.block_lt_of_cell? _ _ (hHeld.2.2.2.2.2.2.2.2.2.2.2.2.2.2.1))).trans (hHeld.2.2.2.2.2.2.2.2.2.2.2.2.2.2.1)
                     have HS15_ := (hb.cell (World.block_lt_of_cell? _ _ (hHeld.2.2.2.2.2.2.2.2.2.2.2.2.2.2.2.1))).trans (hHeld.2.2.2.2.2.2.2.2.2.2.2.2.2.2.2.1)
                     have HS16_ := (hb.cell (World.block_lt_of_cell? _ _ (hHeld.2.2.2.2.2.2.2.2.2.2.2.2.2.2.2.2.1))).trans (hHeld.2.2.2.2.2.2.2.2.2.2.2.2.2.2.2.2.1)
                     have HS17_ := (hb.cell (World.block_lt_of_cell? _ _ (hHeld.2.2.2.2.2.2.2.2.2.2.2.2.2.2.2.2.2.1))).trans (hHeld.2.2.2.2.2.2.2.2.2.2.2.2.2.2.2.2.2.1)
                     have HS18_ := (hb.cell (World.block_lt_of_cell? _ _ (hHeld.2.2.2.2.2.2.2.2.2.2.2.2.2.2.2.2.2.2.1))).trans (hHeld.2.2.2.2.2.2.2.2.2.2.2.2.2.2.2.2.2.2.1)
                     have HS19_ := (hb.cell (World.block_lt_of_cell? _ _ (hHeld.2.2.2.2.2.2.2.2.2.2.2.2.2.2.2.2.2.2.2.1))).trans (hHeld.2.2.2.2.2.2.2.2.2.2.2.2.2.2.2.2.2.2.2.1)
                     have HS20_ := (hb.cell (World.block_lt_of_cell? _ _ (hHeld.2.2.2.2.2.2.2.2.2.2.2.2.2.2.2.2.2.2.2.2.1))).trans (hHeld.2.2.2.2.2.2.2.2.2.2.2.2.2.2.2.2.2.2.2.2.1)
                     have HS21_ := (hb.cell (World.block_lt_of_cell? _ _ (hHeld.2.2.2.2.2.2.2.2.2.2.2.2.2.2.2.2.2.2.2.2.2.1))).trans (hHeld.2.2.2.2.2.2.2.2.2.2.2.2.2.2.2.2.2.2.2.2.2.1)
                     have HS22_ := (hb.cell (World.block_lt_of_cell? _ _ (hHeld.2.2.2.2.2.2.2.2.2.2.2.2.2.2.2.2.2.2.2.2.2.2.1))).trans (hHeld.2.2.2.2.2.2.2.2.2.2.2.2.2.2.2.2.2.2.2.2.2.2.1)
                     have HS23_ := (hb.cell (World.block_lt_of_cell? _ _ (hHeld.2.2.2.2.2.2.2.2.2.2.2.2.2.2.2.2.2.2.2.2.2.2.2.1))).trans (hHeld.2.2.2.2.2.2.2.2.2.2.2.2.2.2.2.2.2.2.2.2.2.2.2.1)
                     have HS24_ := (hb.cell (World.block_lt_of_cell? _ _ (hHeld.2.2.2.2.2.2.2.2.2.2.2.2.2.2.2.2.2.2.2.2.2.2.2.2.1))).trans (hHeld.2.2.2.2.2.2.2.2.2.2.2.2.2.2.2.2.2.2.2.2.2.2.2.2.1)
                     have HS25_ := (hb.cell (World.block_lt_of_cell? _ _ (hHeld.2.2.2.2.2.2.2.2.2.2.2.2.2.2.2.2.2.2.2.2.2.2.2.2.2))).trans (hHeld.2.2.2.2.2.2.2.2.2.2.2.2.2.2.2.2.2.2.2.2.2.2.2.2.2)
                     refine ⟨_, rfl, ?_⟩
                     have n0_ := am (Kd.R_below (rU HO_3.out) hb)
                     have n1_ := am (Kd.R_below (rU HO_5.out) hb)
                     have n2_ := am (kB BK414.out hb)
                     have n3_ := am (below_step (bS HB.out GE414.out) hb)
                     clear HO_3
                     clear HO_5
                     clear BK414
                     clear HB
                     have HO_3 := n0_
                     have HO_5 := n1_
                     have BK414 := n2_
                     have HB := n3_
                     clear n0_ n1_ n2_ n3_
                     (try clear hb)
                     (try clear hb2)
                     (try clear hk)
                     (try clear hi)
                     refine hK.out _ _ ⟨(blk_cell BK414.out 0).trans rfl, (blk_cell BK414.out 1).trans rfl, (blk_cell BK414.out 2).trans rfl, (blk_cell BK414.out 3).trans rfl, (blk_cell BK414.out 4).trans rfl, (blk_cell BK414.out 5).trans rfl, HS6_, HS7_, HS8_, HS9_, HS10_, HS11_, HS12_, HS13_, HS14_, HS15_, HS16_, HS17_, HS18_, HS19_, HS20_, HS21_, HS22_, HS23_, HS24_, HS25_⟩ (fun hHeld => ?_)
                     clear hK K
                     refine norm_ (a' := ?_) ?_ ?_
                     rotate_left
                     ·show Act.put _ (some 119) _ = _
                      simp only [Act.put, List.setIfInBounds_toArray, List.set_cons_zero, List.set_cons_succ, i64_w, i32_w]
                      rfl
                     refine pS 40 120 HT_.out ?_
                     refine pS 41 121 HT_.out ?_
                     refine pS 42 122 HT_.out ?_
                     refine pS 43 123 HT_.out ?_
                     refine done_ (done_of HT_.out (by kernel_rfl)) ?_
                     try go_wp2
                     go_meet
                     case rel => exact ⟨_, (!t433), (by first | rfl | (simp; done) | (simp [*]; done)), H', ⟨by have := HJ6.out; have := HJ31.out; have := HK3.out; first | omega | exact Nat.le_refl _⟩, ⟨rU HO_3.out⟩, ⟨rU HO_5.out⟩, ⟨kU BK414.out⟩, ⟨bS HB.out GE414.out⟩⟩
                    ·rw [if_neg c63] at H
                     have c63b0 : (t408 == 2) = false := beq_eq_false_iff_ne.mpr c63
                     have c63b1 : (t408 != 2) = true := bne_iff_ne.mpr c63
                     have H' := am H
                     clear H
                     try go_wp2
                     have n0_ := am (Kd.R_drew HO_3.out)
                     have n1_ := am (Kd.R_drew HO_5.out)
                     have n2_ := am (blk_drew BK414.out)
                     have n3_ := am (below_drew1 HB.out)
                     clear HO_3
                     clear HO_5
                     clear BK414
                     clear HB
                     have HO_3 := n0_
                     have HO_5 := n1_
                     have BK414 := n2_
                     have HB := n3_
                     clear n0_ n1_ n2_ n3_
                     have p427 : 0 ≤ (x8_3 : Int) := dU
                     have q427 : x8_3 < (t405.length : Int) := dU
                     obtain ⟨ad427, e427, hx427_0, hx427_1, hx427_2, hx427_3, hx427_4⟩ := at_T34 (Kd.R_reads' HO_3.out).2.2 x8_3 p427 q427
                     obtain rfl : ad425 = ad427 := (by injection e427)
                     replace p427 := eq_true p427
                     replace q427 := eq_true q427
                     have p430 : 0 ≤ (t426 : Int) := dU
                     have q430 : t426 < (t415.length : Int) := dU
                     obtain ⟨ad430, e430, hx430_0, hx430_1, hx430_2, hx430_3, hx430_4⟩ := at_T34 (Kd.R_reads' HO_5.out).2.2 t426 p430 q430
                     cases e430
                     replace p430 := eq_true p430
                     replace q430 := eq_true q430
                     have p431 : 0 ≤ (x8_3 : Int) := dU
                     have q431 : x8_3 < (t405.length : Int) := dU
                     obtain ⟨ad431, e431, hx431_0, hx431_1, hx431_2, hx431_3, hx431_4⟩ := at_T34 (Kd.R_reads' HO_3.out).2.2 x8_3 p431 q431
                     obtain rfl : ad425 = ad431 := (by injection e431)
                     replace p431 := eq_true p431
                     replace q431 := eq_true q431
                     refine start_ (n := 44) (S := fun w' => w'.cell? ⟨gb414, 0, none⟩ = some (.int .i64 t408) ∧ w'.cell? ⟨gb414, 1, none⟩ = some (.int .i64 t409) ∧ w'.cell? ⟨gb414, 2, none⟩ = some (.int .i64 t410) ∧ w'.cell? ⟨gb414, 3, none⟩ = some (.int .i64 t411) ∧ w'.cell? ⟨gb414, 4, none⟩ = some (.int .i64 t412) ∧ w'.cell? ⟨gb414, 5, none⟩ = some (.int .i64 t413) ∧ w'.cell? (ad425.add ((x8_3).toNat * 5)) = some (.int .i64 ((rd_T34 t405 x8_3).f0)) ∧ w'.cell? ⟨(ad425.add ((x8_3).toNat * 5)).block, (ad425.add ((x8_3).toNat * 5)).off + 1, none⟩ = some (.int .i64 ((rd_T34 t405 x8_3).f1)) ∧ w'.cell? ⟨(ad425.add ((x8_3).toNat * 5)).block, (ad425.add ((x8_3).toNat * 5)).off + 2, none⟩ = some (.int .i64 ((rd_T34 t405 x8_3).f2)) ∧ w'.cell? ⟨(ad425.add ((x8_3).toNat * 5)).block, (ad425.add ((x8_3).toNat * 5)).off + 3, none⟩ = some (.int .i64 ((rd_T34 t405 x8_3).f3)) ∧ w'.cell? ⟨(ad425.add ((x8_3).toNat * 5)).block, (ad425.add ((x8_3).toNat * 5)).off + 4, none⟩ = some (.int .i64 ((rd_T34 t405 x8_3).f4)) ∧ w'.cell? (ad430.add ((t426).toNat * 5)) = some (.int .i64 ((rd_T34 t415 t426).f0)) ∧ w'.cell? ⟨(ad430.add ((t426).toNat * 5)).block, (ad430.add ((t426).toNat * 5)).off + 1, none⟩ = some (.int .i64 ((rd_T34 t415 t426).f1)) ∧ w'.cell? ⟨(ad430.add ((t426).toNat * 5)).block, (ad430.add ((t426).toNat * 5)).off + 2, none⟩ = some (.int .i64 ((rd_T34 t415 t426).f2)) ∧ w'.cell? ⟨(ad430.add ((t426).toNat * 5)).block, (ad430.add ((t426).toNat * 5)).off + 3, none⟩ = some (.int .i64 ((rd_T34 t415 t426).f3)) ∧ w'.cell? ⟨(ad430.add ((t426).toNat * 5)).block, (ad430.add ((t426).toNat * 5)).off + 4, none⟩ = some (.int .i64 ((rd_T34 t415 t426).f4)) ∧ w'.cell? (ad425.add ((x8_3).toNat * 5)) = some (.int .i64 ((rd_T34 t405 x8_3).f0)) ∧ w'.cell? ⟨(ad425.add ((x8_3).toNat * 5)).block, (ad425.add ((x8_3).toNat * 5)).off + 1, none⟩ = some (.int .i64 ((rd_T34 t405 x8_3).f1)) ∧ w'.cell? ⟨(ad425.add ((x8_3).toNat * 5)).block, (ad425.add ((x8_3).toNat * 5)).off + 2, none⟩ = some (.int .i64 ((rd_T34 t405 x8_3).f2)) ∧ w'.cell? ⟨(ad425.add ((x8_3).toNat * 5)).block, (ad425.add ((x8_3).toNat * 5)).off + 3, none⟩ = some (.int .i64 ((rd_T34 t405 x8_3).f3)) ∧ w'.cell? ⟨(ad425.add ((x8_3).toNat * 5)).block, (ad425.add ((x8_3).toNat * 5)).off + 4, none⟩ = some (.int .i64 ((rd_T34 t405 x8_3).f4))) (ds := []) #[false, false, false, false, false, false, false, false, false, false, false, false, false, false, false, false, false, false, false, false, false, false, false, false, false, false, false, false, false, false, false, false, false, false, false, false, false, false, false, false, false, false, false, false] (by kernel_rfl) rfl rfl ⟨(blk_cell BK414.out 0).trans rfl, (blk_cell BK414.out 1).trans rfl, (blk_cell BK414.out 2).trans rfl, (blk_cell BK414.out 3).trans rfl, (blk_cell BK414.out 4).trans rfl, (blk_cell BK414.out 5).trans rfl, hx427_0, hx427_1, hx427_2, hx427_3, hx427_4, hx430_0, hx430_1, hx430_2, hx430_3, hx430_4, hx431_0, hx431_1, hx431_2, hx431_3, hx431_4⟩ (fun hHeld => ?_); refine with_tabW laws_FnEdits.tab16 laws_FnEdits.bits16 (fun HT_ HW_ => ?_)
                     generalize w48.drew = w67 at HO_3 HO_5 BK414 HB hx427_0 hx427_1 hx427_2 hx427_3 hx427_4 hx430_0 hx430_1 hx430_2 hx430_3 hx430_4 hx431_0 hx431_1 hx431_2 hx431_3 hx431_4 hHeld ⊢
                     refine pS 0 80 HT_.out ?_
                     refine pS 1 81 HT_.out ?_
                     refine pS 2 82 HT_.out ?_
                     refine pS 3 83 HT_.out ?_
                     refine pS 5 85 HT_.out ?_
                     refine take_ (i := 4) (N := some 84) (v := ?_) (a' := ?_) #[true, true, true, true, true, true, false, false, false, false, false, false, false, false, false, false, false, false, false, false, false, false, false, false, false, false, false, false, false, false, false, false, false, false, false, false, false, false, false, false, false, false, false, false] rfl rfl (take_ofW HT_.out HW_.out (by kernel_rfl)) (fun _ _ _ h => h) (Or.inl ⟨by rfl, ?_⟩) hHeld ?_ ?_
                     rotate_left
                     ·rintro w' ⟨s0, s1, s2, s3, s4, s5, s6, s7, s8, s9, s10, s11, s12, s13, s14, s15, s16, s17, s18, s19, s20⟩
                      go_simp
                      with_reducible rfl
                     rotate_left
                     ·simp only [Act.put, List.setIfInBounds_toArray, List.set_cons_zero, List.set_cons_succ, i64_w, i32_w]
                      rfl
                     refine take_ (i := 6) (N := some 86) (v := ?_) (a' := ?_) #[true, true, true, true, true, true, true, false, false, false, false, false, false, false, false, false, false, false, false, false, false, false, false, false, false, false, false, false, false, false, false, false, false, false, false, false, false, false, false, false, false, false, false, false] rfl rfl (take_ofW HT_.out HW_.out (by kernel_rfl)) (fun _ _ _ h => h) (Or.inl ⟨by rfl, ?_⟩) hHeld ?_ ?_
                     rotate_left
                     ·rintro w' ⟨s0, s1, s2, s3, s4, s5, s6, s7, s8, s9, s10, s11, s12, s13, s14, s15, s16, s17, s18, s19, s20⟩
                      go_simp
                      with_reducible rfl
                     rotate_left
                     ·simp only [Act.put, List.setIfInBounds_toArray, List.set_cons_zero, List.set_cons_succ, i64_w, i32_w]
                      rfl
                     refine pS 7 87 HT_.out ?_
                     refine pS 8 88 HT_.out ?_
                     refine pS 9 89 HT_.out ?_
                     refine pS 10 90 HT_.out ?_
                     refine pS 11 91 HT_.out ?_
                     refine pS 12 92 HT_.out ?_
                     refine pS 13 93 HT_.out ?_
                     refine pS 14 94 HT_.out ?_
                     refine pS 15 95 HT_.out ?_
                     refine pS 17 97 HT_.out ?_
                     refine pS 18 98 HT_.out ?_
                     refine pS 19 99 HT_.out ?_
                     refine take_ (i := 16) (N := some 96) (v := ?_) (a' := ?_) #[true, true, true, true, true, true, true, true, true, true, true, true, true, true, true, true, true, true, true, true, false, false, false, false, false, false, false, false, false, false, false, false, false, false, false, false, false, false, false, false, false, false, false, false] rfl rfl (take_ofW HT_.out HW_.out (by kernel_rfl)) (fun _ _ _ h => h) (Or.inl ⟨by rfl, ?_⟩) hHeld ?_ ?_
                     rotate_left
                     ·rintro w' ⟨s0, s1, s2, s3, s4, s5, s6, s7, s8, s9, s10, s11, s12, s13, s14, s15, s16, s17, s18, s19, s20⟩
                      go_simp
                      with_reducible rfl
                     rotate_left
                     ·simp only [Act.put, List.setIfInBounds_toArray, List.set_cons_zero, List.set_cons_succ, i64_w, i32_w]
                      rfl
                     refine take_ (i := 20) (N := some 100) (v := ?_) (a' := ?_) #[true, true, true, true, true, true, true, true, true, true, true, true, true, true, true, true, true, true, true, true, true, false, false, false, false, false, false, false, false, false, false, false, false, false, false, false, false, false, false, false, false, false, false, false] rfl rfl (take_ofW HT_.out HW_.out (by kernel_rfl)) (fun _ _ _ h => h) (Or.inl ⟨by rfl, ?_⟩) hHeld ?_ ?_
                     rotate_left
                     ·rintro w' ⟨s0, s1, s2, s3, s4, s5, s6, s7, s8, s9, s10, s11, s12, s13, s14, s15, s16, s17, s18, s19, s20⟩
                      go_simp
                      with_reducible rfl
                     rotate_left
                     ·simp only [Act.put, List.setIfInBounds_toArray, List.set_cons_zero, List.set_cons_succ, i64_w, i32_w]
                      rfl
                     refine pS 21 101 HT_.out ?_
                     refine pS 22 102 HT_.out ?_
                     refine pS 23 103 HT_.out ?_
                     refine pS 24 104 HT_.out ?_
                     refine pS 25 105 HT_.out ?_
                     refine pS 26 106 HT_.out ?_
                     refine pS 27 107 HT_.out ?_
                     refine take_ (i := 28) (N := some 108) (v := ?_) (a' := ?_) #[true, true, true, true, true, true, true, true, true, true, true, true, true, true, true, true, true, true, true, true, true, true, true, true, true, true, true, true, true, false, false, false, false, false, false, false, false, false, false, false, false, false, false, false] rfl rfl (take_ofW HT_.out HW_.out (by kernel_rfl)) (fun _ _ _ h => h) (Or.inl ⟨by rfl, ?_⟩) hHeld ?_ ?_
                     rotate_left
                     ·rintro w' ⟨s0, s1, s2, s3, s4, s5, s6, s7, s8, s9, s10, s11, s12, s13, s14, s15, s16, s17, s18, s19, s20⟩
                      go_simp
                      with_reducible rfl
                     rotate_left
                     ·simp only [Act.put, List.setIfInBounds_toArray, List.set_cons_zero, List.set_cons_succ, i64_w, i32_w]
                      rfl
                     refine pS 29 109 HT_.out ?_
                     refine pS 30 110 HT_.out ?_
                     refine pW 31 111 HT_.out ?_
                     refine pW 32 112 HT_.out ?_
                     refine pW 33 113 HT_.out ?_
                     refine pW 34 114 HT_.out ?_
                     refine pW 35 115 HT_.out ?_
                     refine pW 36 116 HT_.out ?_
                     refine pW 37 117 HT_.out ?_
                     refine pW 38 118 HT_.out ?_
                     refine pW 39 119 HT_.out ?_
                     refine pW 40 120 HT_.out ?_
                     refine pS 41 121 HT_.out ?_
                     refine pS 42 122 HT_.out ?_
                     refine pS 43 123 HT_.out ?_
                     refine done_ (done_of HT_.out (by kernel_rfl)) ?_
                     try go_wp2
                     go_meet
                     case rel => exact ⟨_, (true), (by first | rfl | (simp; done) | (simp [*]; done)), H', ⟨by have := HJ6.out; have := HJ31.out; have := HK3.out; first | omega | exact Nat.le_refl _⟩, ⟨rU HO_3.out⟩, ⟨rU HO_5.out⟩, ⟨kU BK414.out⟩, ⟨bS HB.out GE414.out⟩⟩
                   ·rw [if_neg c62] at H
                    have c62b0 : decide (t426 < 0) = false := decide_eq_false c62
                    clear c62
                    have H' := am H
                    clear H
                    try go_wp2
                    have n0_ := am (Kd.R_drew HO_3.out)
                    have n1_ := am (Kd.R_drew HO_5.out)
                    have n2_ := am (blk_drew BK414.out)
                    have n3_ := am (below_drew1 HB.out)
                    clear HO_3
                    clear HO_5
                    clear BK414
                    clear HB
                    have HO_3 := n0_
                    have HO_5 := n1_
                    have BK414 := n2_
                    have HB := n3_
                    clear n0_ n1_ n2_ n3_
                    have p427 : 0 ≤ (x8_3 : Int) := dU
                    have q427 : x8_3 < (t405.length : Int) := dU
                    obtain ⟨ad427, e427, hx427_0, hx427_1, hx427_2, hx427_3, hx427_4⟩ := at_T34 (Kd.R_reads' HO_3.out).2.2 x8_3 p427 q427
                    obtain rfl : ad425 = ad427 := (by injection e427)
                    replace p427 := eq_true p427
                    replace q427 := eq_true q427
                    have p430 : 0 ≤ (t426 : Int) := dU
                    have q430 : t426 < (t415.length : Int) := dU
                    obtain ⟨ad430, e430, hx430_0, hx430_1, hx430_2, hx430_3, hx430_4⟩ := at_T34 (Kd.R_reads' HO_5.out).2.2 t426 p430 q430
                    cases e430
                    replace p430 := eq_true p430
                    replace q430 := eq_true q430
                    have p431 : 0 ≤ (x8_3 : Int) := dU
                    have q431 : x8_3 < (t405.length : Int) := dU
                    obtain ⟨ad431, e431, hx431_0, hx431_1, hx431_2, hx431_3, hx431_4⟩ := at_T34 (Kd.R_reads' HO_3.out).2.2 x8_3 p431 q431
                    obtain rfl : ad425 = ad431 := (by injection e431)
                    replace p431 := eq_true p431
                    replace q431 := eq_true q431
                    refine start_ (n := 44) (S := fun w' => w'.cell? ⟨gb414, 0, none⟩ = some (.int .i64 t408) ∧ w'.cell? ⟨gb414, 1, none⟩ = some (.int .i64 t409) ∧ w'.cell? ⟨gb414, 2, none⟩ = some (.int .i64 t410) ∧ w'.cell? ⟨gb414, 3, none⟩ = some (.int .i64 t411) ∧ w'.cell? ⟨gb414, 4, none⟩ = some (.int .i64 t412) ∧ w'.cell? ⟨gb414, 5, none⟩ = some (.int .i64 t413) ∧ w'.cell? (ad425.add ((x8_3).toNat * 5)) = some (.int .i64 ((rd_T34 t405 x8_3).f0)) ∧ w'.cell? ⟨(ad425.add ((x8_3).toNat * 5)).block, (ad425.add ((x8_3).toNat * 5)).off + 1, none⟩ = some (.int .i64 ((rd_T34 t405 x8_3).f1)) ∧ w'.cell? ⟨(ad425.add ((x8_3).toNat * 5)).block, (ad425.add ((x8_3).toNat * 5)).off + 2, none⟩ = some (.int .i64 ((rd_T34 t405 x8_3).f2)) ∧ w'.cell? ⟨(ad425.add ((x8_3).toNat * 5)).block, (ad425.add ((x8_3).toNat * 5)).off + 3, none⟩ = some (.int .i64 ((rd_T34 t405 x8_3).f3)) ∧ w'.cell? ⟨(ad425.add ((x8_3).toNat * 5)).block, (ad425.add ((x8_3).toNat * 5)).off + 4, none⟩ = some (.int .i64 ((rd_T34 t405 x8_3).f4)) ∧ w'.cell? (ad430.add ((t426).toNat * 5)) = some (.int .i64 ((rd_T34 t415 t426).f0)) ∧ w'.cell? ⟨(ad430.add ((t426).toNat * 5)).block, (ad430.add ((t426).toNat * 5)).off + 1, none⟩ = some (.int .i64 ((rd_T34 t415 t426).f1)) ∧ w'.cell? ⟨(ad430.add ((t426).toNat * 5)).block, (ad430.add ((t426).toNat * 5)).off + 2, none⟩ = some (.int .i64 ((rd_T34 t415 t426).f2)) ∧ w'.cell? ⟨(ad430.add ((t426).toNat * 5)).block, (ad430.add ((t426).toNat * 5)).off + 3, none⟩ = some (.int .i64 ((rd_T34 t415 t426).f3)) ∧ w'.cell? ⟨(ad430.add ((t426).toNat * 5)).block, (ad430.add ((t426).toNat * 5)).off + 4, none⟩ = some (.int .i64 ((rd_T34 t415 t426).f4)) ∧ w'.cell? (ad425.add ((x8_3).toNat * 5)) = some (.int .i64 ((rd_T34 t405 x8_3).f0)) ∧ w'.cell? ⟨(ad425.add ((x8_3).toNat * 5)).block, (ad425.add ((x8_3).toNat * 5)).off + 1, none⟩ = some (.int .i64 ((rd_T34 t405 x8_3).f1)) ∧ w'.cell? ⟨(ad425.add ((x8_3).toNat * 5)).block, (ad425.add ((x8_3).toNat * 5)).off + 2, none⟩ = some (.int .i64 ((rd_T34 t405 x8_3).f2)) ∧ w'.cell? ⟨(ad425.add ((x8_3).toNat * 5)).block, (ad425.add ((x8_3).toNat * 5)).off + 3, none⟩ = some (.int .i64 ((rd_T34 t405 x8_3).f3)) ∧ w'.cell? ⟨(ad425.add ((x8_3).toNat * 5)).block, (ad425.add ((x8_3).toNat * 5)).off + 4, none⟩ = some (.int .i64 ((rd_T34 t405 x8_3).f4))) (ds := []) #[false, false, false, false, false, false, false, false, false, false, false, false, false, false, false, false, false, false, false, false, false, false, false, false, false, false, false, false, false, false, false, false, false, false, false, false, false, false, false, false, false, false, false, false] (by kernel_rfl) rfl rfl ⟨(blk_cell BK414.out 0).trans rfl, (blk_cell BK414.out 1).trans rfl, (blk_cell BK414.out 2).trans rfl, (blk_cell BK414.out 3).trans rfl, (blk_cell BK414.out 4).trans rfl, (blk_cell BK414.out 5).trans rfl, hx427_0, hx427_1, hx427_2, hx427_3, hx427_4, hx430_0, hx430_1, hx430_2, hx430_3, hx430_4, hx431_0, hx431_1, hx431_2, hx431_3, hx431_4⟩ (fun hHeld => ?_); refine with_tabW laws_FnEdits.tab16 laws_FnEdits.bits16 (fun HT_ HW_ => ?_)
                    generalize w48.drew = w68 at HO_3 HO_5 BK414 HB hx427_0 hx427_1 hx427_2 hx427_3 hx427_4 hx430_0 hx430_1 hx430_2 hx430_3 hx430_4 hx431_0 hx431_1 hx431_2 hx431_3 hx431_4 hHeld ⊢
                    refine pS 0 80 HT_.out ?_
                    refine pS 1 81 HT_.out ?_
                    refine pS 2 82 HT_.out ?_
                    refine pS 3 83 HT_.out ?_
                    refine pS 5 85 HT_.out ?_
                    refine take_ (i := 4) (N := some 84) (v := ?_) (a' := ?_) #[true, true, true, true, true, true, false, false, false, false, false, false, false, false, false, false, false, false, false, false, false, false, false, false, false, false, false, false, false, false, false, false, false, false, false, false, false, false, false, false, false, false, false, false] rfl rfl (take_ofW HT_.out HW_.out (by kernel_rfl)) (fun _ _ _ h => h) (Or.inl ⟨by rfl, ?_⟩) hHeld ?_ ?_
                    rotate_left
                    ·rintro w' ⟨s0, s1, s2, s3, s4, s5, s6, s7, s8, s9, s10, s11, s12, s13, s14, s15, s16, s17, s18, s19, s20⟩
                     go_simp
                     with_reducible rfl
                    rotate_left
                    ·simp only [Act.put, List.setIfInBounds_toArray, List.set_cons_zero, List.set_cons_succ, i64_w, i32_w]
                     rfl
                    refine take_ (i := 6) (N := some 86) (v := ?_) (a' := ?_) #[true, true, true, true, true, true, true, false, false, false, false, false, false, false, false, false, false, false, false, false, false, false, false, false, false, false, false, false, false, false, false, false, false, false, false, false, false, false, false, false, false, false, false, false] rfl rfl (take_ofW HT_.out HW_.out (by kernel_rfl)) (fun _ _ _ h => h) (Or.inl ⟨by rfl, ?_⟩) hHeld ?_ ?_
                    rotate_left
                    ·rintro w' ⟨s0, s1, s2, s3, s4, s5, s6, s7, s8, s9, s10, s11, s12, s13, s14, s15, s16, s17, s18, s19, s20⟩
                     go_simp
                     with_reducible rfl
                    rotate_left
                    ·simp only [Act.put, List.setIfInBounds_toArray, List.set_cons_zero, List.set_cons_succ, i64_w, i32_w]
                     rfl
                    refine pS 7 87 HT_.out ?_
                    refine pS 8 88 HT_.out ?_
                    refine pS 9 89 HT_.out ?_
                    refine pS 10 90 HT_.out ?_
                    refine pS 11 91 HT_.out ?_
                    refine pS 12 92 HT_.out ?_
                    refine pS 13 93 HT_.out ?_
                    refine pS 14 94 HT_.out ?_
                    refine pS 15 95 HT_.out ?_
                    refine pS 17 97 HT_.out ?_
                    refine pS 18 98 HT_.out ?_
                    refine pS 19 99 HT_.out ?_
                    refine take_ (i := 16) (N := some 96) (v := ?_) (a' := ?_) #[true, true, true, true, true, true, true, true, true, true, true, true, true, true, true, true, true, true, true, true, false, false, false, false, false, false, false, false, false, false, false, false, false, false, false, false, false, false, false, false, false, false, false, false] rfl rfl (take_ofW HT_.out HW_.out (by kernel_rfl)) (fun _ _ _ h => h) (Or.inl ⟨by rfl, ?_⟩) hHeld ?_ ?_
                    rotate_left
                    ·rintro w' ⟨s0, s1, s2, s3, s4, s5, s6, s7, s8, s9, s10, s11, s12, s13, s14, s15, s16, s17, s18, s19, s20⟩
                     go_simp
                     with_reducible rfl
                    rotate_left
                    ·simp only [Act.put, List.setIfInBounds_toArray, List.set_cons_zero, List.set_cons_succ, i64_w, i32_w]
                     rfl
                    refine take_ (i := 20) (N := some 100) (v := ?_) (a' := ?_) #[true, true, true, true, true, true, true, true, true, true, true, true, true, true, true, true, true, true, true, true, true, false, false, false, false, false, false, false, false, false, false, false, false, false, false, false, false, false, false, false, false, false, false, false] rfl rfl (take_ofW HT_.out HW_.out (by kernel_rfl)) (fun _ _ _ h => h) (Or.inl ⟨by rfl, ?_⟩) hHeld ?_ ?_
                    rotate_left
                    ·rintro w' ⟨s0, s1, s2, s3, s4, s5, s6, s7, s8, s9, s10, s11, s12, s13, s14, s15, s16, s17, s18, s19, s20⟩
                     go_simp
                     with_reducible rfl
                    rotate_left
                    ·simp only [Act.put, List.setIfInBounds_toArray, List.set_cons_zero, List.set_cons_succ, i64_w, i32_w]
                     rfl
                    refine pS 21 101 HT_.out ?_
                    refine pS 22 102 HT_.out ?_
                    refine pS 23 103 HT_.out ?_
                    refine pS 24 104 HT_.out ?_
                    refine pS 25 105 HT_.out ?_
                    refine pS 26 106 HT_.out ?_
                    refine pW 27 107 HT_.out ?_
                    refine pW 28 108 HT_.out ?_
                    refine pW 29 109 HT_.out ?_
                    refine pW 30 110 HT_.out ?_
                    refine pW 31 111 HT_.out ?_
                    refine pW 32 112 HT_.out ?_
                    refine pW 33 113 HT_.out ?_
                    refine pW 34 114 HT_.out ?_
                    refine pW 35 115 HT_.out ?_
                    refine pW 36 116 HT_.out ?_
                    refine pW 37 117 HT_.out ?_
                    refine pW 38 118 HT_.out ?_
                    refine pW 39 119 HT_.out ?_
                    refine pW 40 120 HT_.out ?_
                    refine pW 41 121 HT_.out ?_
                    refine pS 42 122 HT_.out ?_
                    refine pS 43 123 HT_.out ?_
                    refine done_ (done_of HT_.out (by kernel_rfl)) ?_
                    try go_wp2
                    go_meet
                    case rel => exact ⟨_, (false), (by first | rfl | (simp; done) | (simp [*]; done)), H', ⟨by have := HJ6.out; have := HJ31.out; have := HK3.out; first | omega | exact Nat.le_refl _⟩, ⟨rU HO_3.out⟩, ⟨rU HO_5.out⟩, ⟨kU BK414.out⟩, ⟨bS HB.out GE414.out⟩⟩
                 ·rw [if_neg c59] at H
                  exact absurd H (by simp)
                ·rw [if_neg c58] at H
                 exact absurd H (by simp)
               ·rw [if_neg c57] at H
                have c57b0 : decide (0 ≤ t426) = false := decide_eq_false c57
                clear c57
                by_cases c69 : t426 < 0
                ·rw [if_pos c69] at H
                 have c69b0 : decide (t426 < 0) = true := decide_eq_true c69
                 clear c69
                 by_cases c70 : t408 = 2
                 ·rw [if_pos c70] at H
                  have c70b0 : (t408 == 2) = true := beq_iff_eq.mpr c70
                  have c70b1 : (t408 != 2) = false := bne_eq_false_iff_eq.mpr c70
                  clear c70
                  replace H := Option.bind_eq_some_iff.mp H
                  obtain ⟨t435, A710, H⟩ := H
                  replace H : (laws_FnEdits.j3 k3 l0 t405 t415 x8_3 (!t435) t408 t409 t410 t411 t412 t413) = some r := H
                  have A71 := am A710
                  clear A710
                  have H' := am H
                  clear H
                  try go_wp2
                  have n0_ := am (Kd.R_drew HO_3.out)
                  have n1_ := am (Kd.R_drew HO_5.out)
                  have n2_ := am (blk_drew BK414.out)
                  have n3_ := am (below_drew1 HB.out)
                  clear HO_3
                  clear HO_5
                  clear BK414
                  clear HB
                  have HO_3 := n0_
                  have HO_5 := n1_
                  have BK414 := n2_
                  have HB := n3_
                  clear n0_ n1_ n2_ n3_
                  have p427 : 0 ≤ (x8_3 : Int) := dU
                  have q427 : x8_3 < (t405.length : Int) := dU
                  obtain ⟨ad427, e427, hx427_0, hx427_1, hx427_2, hx427_3, hx427_4⟩ := at_T34 (Kd.R_reads' HO_3.out).2.2 x8_3 p427 q427
                  obtain rfl : ad425 = ad427 := (by injection e427)
                  replace p427 := eq_true p427
                  replace q427 := eq_true q427
                  have p434 : 0 ≤ (x8_3 : Int) := dU
                  have q434 : x8_3 < (t405.length : Int) := dU
                  obtain ⟨ad434, e434, hx434_0, hx434_1, hx434_2, hx434_3, hx434_4⟩ := at_T34 (Kd.R_reads' HO_3.out).2.2 x8_3 p434 q434
                  obtain rfl : ad425 = ad434 := (by injection e434)
                  replace p434 := eq_true p434
                  replace q434 := eq_true q434
                  refine start_ (n := 44) (S := fun w' => w'.cell? ⟨gb414, 0, none⟩ = some (.int .i64 t408) ∧ w'.cell? ⟨gb414, 1, none⟩ = some (.int .i64 t409) ∧ w'.cell? ⟨gb414, 2, none⟩ = some (.int .i64 t410) ∧ w'.cell? ⟨gb414, 3, none⟩ = some (.int .i64 t411) ∧ w'.cell? ⟨gb414, 4, none⟩ = some (.int .i64 t412) ∧ w'.cell? ⟨gb414, 5, none⟩ = some (.int .i64 t413) ∧ w'.cell? (ad425.add ((x8_3).toNat * 5)) = some (.int .i64 ((rd_T34 t405 x8_3).f0)) ∧ w'.cell? ⟨(ad425.add ((x8_3).toNat * 5)).block, (ad425.add ((x8_3).toNat * 5)).off + 1, none⟩ = some (.int .i64 ((rd_T34 t405 x8_3).f1)) ∧ w'.cell? ⟨(ad425.add ((x8_3).toNat * 5)).block, (ad425.add ((x8_3).toNat * 5)).off + 2, none⟩ = some (.int .i64 ((rd_T34 t405 x8_3).f2)) ∧ w'.cell? ⟨(ad425.add ((x8_3).toNat * 5)).block, (ad425.add ((x8_3).toNat * 5)).off + 3, none⟩ = some (.int .i64 ((rd_T34 t405 x8_3).f3)) ∧ w'.cell? ⟨(ad425.add ((x8_3).toNat * 5)).block, (ad425.add ((x8_3).toNat * 5)).off + 4, none⟩ = some (.int .i64 ((rd_T34 t405 x8_3).f4)) ∧ w'.cell? (ad425.add ((x8_3).toNat * 5)) = some (.int .i64 ((rd_T34 t405 x8_3).f0)) ∧ w'.cell? ⟨(ad425.add ((x8_3).toNat * 5)).block, (ad425.add ((x8_3).toNat * 5)).off + 1, none⟩ = some (.int .i64 ((rd_T34 t405 x8_3).f1)) ∧ w'.cell? ⟨(ad425.add ((x8_3).toNat * 5)).block, (ad425.add ((x8_3).toNat * 5)).off + 2, none⟩ = some (.int .i64 ((rd_T34 t405 x8_3).f2)) ∧ w'.cell? ⟨(ad425.add ((x8_3).toNat * 5)).block, (ad425.add ((x8_3).toNat * 5)).off + 3, none⟩ = some (.int .i64 ((rd_T34 t405 x8_3).f3)) ∧ w'.cell? ⟨(ad425.add ((x8_3).toNat * 5)).block, (ad425.add ((x8_3).toNat * 5)).off + 4, none⟩ = some (.int .i64 ((rd_T34 t405 x8_3).f4))) (ds := []) #[false, false, false, false, false, false, false, false, false, false, false, false, false, false, false, false, false, false, false, false, false, false, false, false, false, false, false, false, false, false, false, false, false, false, false, false, false, false, false, false, false, false, false, false] (by kernel_rfl) rfl rfl ⟨(blk_cell BK414.out 0).trans rfl, (blk_cell BK414.out 1).trans rfl, (blk_cell BK414.out 2).trans rfl, (blk_cell BK414.out 3).trans rfl, (blk_cell BK414.out 4).trans rfl, (blk_cell BK414.out 5).trans rfl, hx427_0, hx427_1, hx427_2, hx427_3, hx427_4, hx434_0, hx434_1, hx434_2, hx434_3, hx434_4⟩ (fun hHeld => ?_); refine with_tabW laws_FnEdits.tab16 laws_FnEdits.bits16 (fun HT_ HW_ => ?_)
                  generalize w48.drew = w72 at HO_3 HO_5 BK414 HB hx427_0 hx427_1 hx427_2 hx427_3 hx427_4 hx434_0 hx434_1 hx434_2 hx434_3 hx434_4 hHeld ⊢
                  refine pS 0 80 HT_.out ?_
                  refine pS 1 81 HT_.out ?_
                  refine pS 2 82 HT_.out ?_
                  refine pS 3 83 HT_.out ?_
                  refine pS 5 85 HT_.out ?_
                  refine take_ (i := 4) (N := some 84) (v := ?_) (a' := ?_) #[true, true, true, true, true, true, false, false, false, false, false, false, false, false, false, false, false, false, false, false, false, false, false, false, false, false, false, false, false, false, false, false, false, false, false, false, false, false, false, false, false, false, false, false] rfl rfl (take_ofW HT_.out HW_.out (by kernel_rfl)) (fun _ _ _ h => h) (Or.inl ⟨by rfl, ?_⟩) hHeld ?_ ?_
                  rotate_left
                  ·rintro w' ⟨s0, s1, s2, s3, s4, s5, s6, s7, s8, s9, s10, s11, s12, s13, s14, s15⟩
                   go_simp
                   with_reducible rfl
                  rotate_left
                  ·simp only [Act.put, List.setIfInBounds_toArray, List.set_cons_zero, List.set_cons_succ, i64_w, i32_w]
                   rfl
                  refine take_ (i := 6) (N := some 86) (v := ?_) (a' := ?_) #[true, true, true, true, true, true, true, false, false, false, false, false, false, false, false, false, false, false, false, false, false, false, false, false, false, false, false, false, false, false, false, false, false, false, false, false, false, false, false, false, false, false, false, false] rfl rfl (take_ofW HT_.out HW_.out (by kernel_rfl)) (fun _ _ _ h => h) (Or.inl ⟨by rfl, ?_⟩) hHeld ?_ ?_
                  rotate_left
                  ·rintro w' ⟨s0, s1, s2, s3, s4, s5, s6, s7, s8, s9, s10, s11, s12, s13, s14, s15⟩
                   go_simp
                   with_reducible rfl
                  rotate_left
                  ·simp only [Act.put, List.setIfInBounds_toArray, List.set_cons_zero, List.set_cons_succ, i64_w, i32_w]
                   rfl
                  refine pS 7 87 HT_.out ?_
                  refine pS 8 88 HT_.out ?_
                  refine pS 9 89 HT_.out ?_
                  refine pS 10 90 HT_.out ?_
                  refine pS 11 91 HT_.out ?_
                  refine pS 12 92 HT_.out ?_
                  refine pW 13 93 HT_.out ?_
                  refine pW 14 94 HT_.out ?_
                  refine pW 15 95 HT_.out ?_
                  refine pW 16 96 HT_.out ?_
                  refine pW 17 97 HT_.out ?_
                  refine pW 18 98 HT_.out ?_
                  refine pW 19 99 HT_.out ?_
                  refine pW 20 100 HT_.out ?_
                  refine pW 21 101 HT_.out ?_
                  refine pS 22 102 HT_.out ?_
                  refine pS 23 103 HT_.out ?_
                  refine pS 24 104 HT_.out ?_
                  refine pS 25 105 HT_.out ?_
                  refine pS 26 106 HT_.out ?_
                  refine pS 27 107 HT_.out ?_
                  refine take_ (i := 28) (N := some 108) (v := ?_) (a' := ?_) #[true, true, true, true, true, true, true, true, true, true, true, true, true, true, true, true, true, true, true, true, true, true, true, true, true, true, true, true, true, false, false, false, false, false, false, false, false, false, false, false, false, false, false, false] rfl rfl (take_ofW HT_.out HW_.out (by kernel_rfl)) (fun _ _ _ h => h) (Or.inl ⟨by rfl, ?_⟩) hHeld ?_ ?_
                  rotate_left
                  ·rintro w' ⟨s0, s1, s2, s3, s4, s5, s6, s7, s8, s9, s10, s11, s12, s13, s14, s15⟩
                   go_simp
                   with_reducible rfl
                  rotate_left
                  ·simp only [Act.put, List.setIfInBounds_toArray, List.set_cons_zero, List.set_cons_succ, i64_w, i32_w]
                   rfl
                  refine pS 29 109 HT_.out ?_
                  refine pS 30 110 HT_.out ?_
                  refine pS 31 111 HT_.out ?_
                  refine pS 32 112 HT_.out ?_
                  refine pS 33 113 HT_.out ?_
                  refine pS 34 114 HT_.out ?_
                  refine pS 35 115 HT_.out ?_
                  refine pS 37 117 HT_.out ?_
                  refine take_ (i := 36) (N := some 116) (v := ?_) (a' := ?_) #[true, true, true, true, true, true, true, true, true, true, true, true, true, true, true, true, true, true, true, true, true, true, true, true, true, true, true, true, true, true, true, true, true, true, true, true, true, true, false, false, false, false, false, false] rfl rfl (take_ofW HT_.out HW_.out (by kernel_rfl)) (fun _ _ _ h => h) (Or.inl ⟨by rfl, ?_⟩) hHeld ?_ ?_
                  rotate_left
                  ·rintro w' ⟨s0, s1, s2, s3, s4, s5, s6, s7, s8, s9, s10, s11, s12, s13, s14, s15⟩
                   go_simp
                   with_reducible rfl
                  rotate_left
                  ·simp only [Act.put, List.setIfInBounds_toArray, List.set_cons_zero, List.set_cons_succ, i64_w, i32_w]
                   rfl
                  refine take_ (i := 38) (N := some 118) (v := ?_) (a' := ?_) #[true, true, true, true, true, true, true, true, true, true, true, true, true, true, true, true, true, true, true, true, true, true, true, true, true, true, true, true, true, true, true, true, true, true, true, true, true, true, true, false, false, false, false, false] rfl rfl (take_ofW HT_.out HW_.out (by kernel_rfl)) (fun _ _ _ h => h) (Or.inl ⟨by rfl, ?_⟩) hHeld ?_ ?_
                  rotate_left
                  ·rintro w' ⟨s0, s1, s2, s3, s4, s5, s6, s7, s8, s9, s10, s11, s12, s13, s14, s15⟩
                   go_simp
                   with_reducible rfl
                  rotate_left
                  ·simp only [Act.put, List.setIfInBounds_toArray, List.set_cons_zero, List.set_cons_succ, i64_w, i32_w]
                   rfl
                  refine one_ (i := 39) (N := some 119) #[true, true, true, true, true, true, true, true, true, true, true, true, true, true, true, true, true, true, true, true, true, true, true, true, true, true, true, true, true, true, true, true, true, true, true, true, true, true, true, true, false, false, false, false] rfl rfl (one_of HT_.out (by kernel_rfl)) (by decide) (fun K hK => ?_)
                  refine goes_ Tryd.func7 (by kernel_rfl) rfl #[.slice (some ad425) t405.length co11, .int .i64 ((rd_T34 t405 x8_3).f0), .int .i64 t409] (by rfl) rfl rfl mU ?_
                  with_reducible refine (impl_IsUnder.calls k3 _ _ t405 ((rd_T34 t405 x8_3).f0) t409 t435 _ ?side1 ?side2 A71.out).mono ?_
                  (case side1 => exact cU (Kd.R_reads' HO_3.out).2.2)
                  (case side2 => exact (Kd.R_reads' HO_3.out).2.1)
                  rintro e w73 ⟨rfl, hb⟩
                  have HS6_ := (hb.cell (World.block_lt_of_cell? _ _ (hHeld.2.2.2.2.2.2.1))).trans (hHeld.2.2.2.2.2.2.1)
                  have HS7_ := (hb.cell (World.block_lt_of_cell? _ _ (hHeld.2.2.2.2.2.2.2.1))).trans (hHeld.2.2.2.2.2.2.2.1)
                  have HS8_ := (hb.cell (World.block_lt_of_cell? _ _ (hHeld.2.2.2.2.2.2.2.2.1))).trans (hHeld.2.2.2.2.2.2.2.2.1)
                  have HS9_ := (hb.cell (World.block_lt_of_cell? _ _ (hHeld.2.2.2.2.2.2.2.2.2.1))).trans (hHeld.2.2.2.2.2.2.2.2.2.1)
                  have HS10_ := (hb.cell (World.block_lt_of_cell? _ _ (hHeld.2.2.2.2.2.2.2.2.2.2.1))).trans (hHeld.2.2.2.2.2.2.2.2.2.2.1)
                  have HS11_ := (hb.cell (World.block_lt_of_cell? _ _ (hHeld.2.2.2.2.2.2.2.2.2.2.2.1))).trans (hHeld.2.2.2.2.2.2.2.2.2.2.2.1)
                  have HS12_ := (hb.cell (World.block_lt_of_cell? _ _ (hHeld.2.2.2.2.2.2.2.2.2.2.2.2.1))).trans (hHeld.2.2.2.2.2.2.2.2.2.2.2.2.1)
                  have HS13_ := (hb.cell (World.block_lt_of_cell? _ _ (hHeld.2.2.2.2.2.2.2.2.2.2.2.2.2.1))).trans (hHeld.2.2.2.2.2.2.2.2.2.2.2.2.2.1)
                  have HS14_ := (hb.cell (World.block_lt_of_cell? _ _ (hHeld.2.2.2.2.2.2.2.2.2.2.2.2.2.2.1))).trans (hHeld.2.2.2.2.2.2.2.2.2.2.2.2.2.2.1)
                  have HS15_ := (hb.cell (World.block_lt_of_cell? _ _ (hHeld.2.2.2.2.2.2.2.2.2.2.2.2.2.2.2))).trans (hHeld.2.2.2.2.2.2.2.2.2.2.2.2.2.2.2)
                  refine ⟨_, rfl, ?_⟩
                  have n0_ := am (Kd.R_below (rU HO_3.out) hb)
                  have n1_ := am (Kd.R_below (rU HO_5.out) hb)
                  have n2_ := am (kB BK414.out hb)
                  have n3_ := am (below_step (bS HB.out GE414.out) hb)
                  clear HO_3
                  clear HO_5
                  clear BK414
                  clear HB
                  have HO_3 := n0_
                  have HO_5 := n1_
                  have BK414 := n2_
                  have HB := n3_
                  clear n0_ n1_ n2_ n3_
                  (try clear hb)
                  (try clear hb2)
                  (try clear hk)
                  (try clear hi)
                  refine hK.out _ _ ⟨(blk_cell BK414.out 0).trans rfl, (blk_cell BK414.out 1).trans rfl, (blk_cell BK414.out 2).trans rfl, (blk_cell BK414.out 3).trans rfl, (blk_cell BK414.out 4).trans rfl, (blk_cell BK414.out 5).trans rfl, HS6_, HS7_, HS8_, HS9_, HS10_, HS11_, HS12_, HS13_, HS14_, HS15_⟩ (fun hHeld => ?_)
                  clear hK K
                  refine norm_ (a' := ?_) ?_ ?_
                  rotate_left
                  ·show Act.put _ (some 119) _ = _
                   simp only [Act.put, List.setIfInBounds_toArray, List.set_cons_zero, List.set_cons_succ, i64_w, i32_w]
                   rfl
                  refine pS 40 120 HT_.out ?_
                  refine pS 41 121 HT_.out ?_
                  refine pS 42 122 HT_.out ?_
                  refine pS 43 123 HT_.out ?_
                  refine done_ (done_of HT_.out (by kernel_rfl)) ?_
                  try go_wp2
                  go_meet
                  case rel => exact ⟨_, (!t435), (by first | rfl | (simp; done) | (simp [*]; done)), H', ⟨by have := HJ6.out; have := HJ31.out; have := HK3.out; first | omega | exact Nat.le_refl _⟩, ⟨rU HO_3.out⟩, ⟨rU HO_5.out⟩, ⟨kU BK414.out⟩, ⟨bS HB.out GE414.out⟩⟩
                 ·rw [if_neg c70] at H
                  have c70b0 : (t408 == 2) = false := beq_eq_false_iff_ne.mpr c70
                  have c70b1 : (t408 != 2) = true := bne_iff_ne.mpr c70
                  have H' := am H
                  clear H
                  try go_wp2
                  have n0_ := am (Kd.R_drew HO_3.out)
                  have n1_ := am (Kd.R_drew HO_5.out)
                  have n2_ := am (blk_drew BK414.out)
                  have n3_ := am (below_drew1 HB.out)
                  clear HO_3
                  clear HO_5
                  clear BK414
                  clear HB
                  have HO_3 := n0_
                  have HO_5 := n1_
                  have BK414 := n2_
                  have HB := n3_
                  clear n0_ n1_ n2_ n3_
                  have p427 : 0 ≤ (x8_3 : Int) := dU
                  have q427 : x8_3 < (t405.length : Int) := dU
                  obtain ⟨ad427, e427, hx427_0, hx427_1, hx427_2, hx427_3, hx427_4⟩ := at_T34 (Kd.R_reads' HO_3.out).2.2 x8_3 p427 q427
                  obtain rfl : ad425 = ad427 := (by injection e427)
                  replace p427 := eq_true p427
                  replace q427 := eq_true q427
                  refine start_ (n := 44) (S := fun w' => w'.cell? ⟨gb414, 0, none⟩ = some (.int .i64 t408) ∧ w'.cell? ⟨gb414, 1, none⟩ = some (.int .i64 t409) ∧ w'.cell? ⟨gb414, 2, none⟩ = some (.int .i64 t410) ∧ w'.cell? ⟨gb414, 3, none⟩ = some (.int .i64 t411) ∧ w'.cell? ⟨gb414, 4, none⟩ = some (.int .i64 t412) ∧ w'.cell? ⟨gb414, 5, none⟩ = some (.int .i64 t413) ∧ w'.cell? (ad425.add ((x8_3).toNat * 5)) = some (.int .i64 ((rd_T34 t405 x8_3).f0)) ∧ w'.cell? ⟨(ad425.add ((x8_3).toNat * 5)).block, (ad425.add ((x8_3).toNat * 5)).off + 1, none⟩ = some (.int .i64 ((rd_T34 t405 x8_3).f1)) ∧ w'.cell? ⟨(ad425.add ((x8_3).toNat * 5)).block, (ad425.add ((x8_3).toNat * 5)).off + 2, none⟩ = some (.int .i64 ((rd_T34 t405 x8_3).f2)) ∧ w'.cell? ⟨(ad425.add ((x8_3).toNat * 5)).block, (ad425.add ((x8_3).toNat * 5)).off + 3, none⟩ = some (.int .i64 ((rd_T34 t405 x8_3).f3)) ∧ w'.cell? ⟨(ad425.add ((x8_3).toNat * 5)).block, (ad425.add ((x8_3).toNat * 5)).off + 4, none⟩ = some (.int .i64 ((rd_T34 t405 x8_3).f4))) (ds := []) #[false, false, false, false, false, false, false, false, false, false, false, false, false, false, false, false, false, false, false, false, false, false, false, false, false, false, false, false, false, false, false, false, false, false, false, false, false, false, false, false, false, false, false, false] (by kernel_rfl) rfl rfl ⟨(blk_cell BK414.out 0).trans rfl, (blk_cell BK414.out 1).trans rfl, (blk_cell BK414.out 2).trans rfl, (blk_cell BK414.out 3).trans rfl, (blk_cell BK414.out 4).trans rfl, (blk_cell BK414.out 5).trans rfl, hx427_0, hx427_1, hx427_2, hx427_3, hx427_4⟩ (fun hHeld => ?_); refine with_tabW laws_FnEdits.tab16 laws_FnEdits.bits16 (fun HT_ HW_ => ?_)
                  generalize w48.drew = w74 at HO_3 HO_5 BK414 HB hx427_0 hx427_1 hx427_2 hx427_3 hx427_4 hHeld ⊢
                  refine pS 0 80 HT_.out ?_
                  refine pS 1 81 HT_.out ?_
                  refine pS 2 82 HT_.out ?_
                  refine pS 3 83 HT_.out ?_
                  refine pS 5 85 HT_.out ?_
                  refine take_ (i := 4) (N := some 84) (v := ?_) (a' := ?_) #[true, true, true, true, true, true, false, false, false, false, false, false, false, false, false, false, false, false, false, false, false, false, false, false, false, false, false, false, false, false, false, false, false, false, false, false, false, false, false, false, false, false, false, false] rfl rfl (take_ofW HT_.out HW_.out (by kernel_rfl)) (fun _ _ _ h => h) (Or.inl ⟨by rfl, ?_⟩) hHeld ?_ ?_
                  rotate_left
                  ·rintro w' ⟨s0, s1, s2, s3, s4, s5, s6, s7, s8, s9, s10⟩
                   go_simp
                   with_reducible rfl
                  rotate_left
                  ·simp only [Act.put, List.setIfInBounds_toArray, List.set_cons_zero, List.set_cons_succ, i64_w, i32_w]
                   rfl
                  refine take_ (i := 6) (N := some 86) (v := ?_) (a' := ?_) #[true, true, true, true, true, true, true, false, false, false, false, false, false, false, false, false, false, false, false, false, false, false, false, false, false, false, false, false, false, false, false, false, false, false, false, false, false, false, false, false, false, false, false, false] rfl rfl (take_ofW HT_.out HW_.out (by kernel_rfl)) (fun _ _ _ h => h) (Or.inl ⟨by rfl, ?_⟩) hHeld ?_ ?_
                  rotate_left
                  ·rintro w' ⟨s0, s1, s2, s3, s4, s5, s6, s7, s8, s9, s10⟩
                   go_simp
                   with_reducible rfl
                  rotate_left
                  ·simp only [Act.put, List.setIfInBounds_toArray, List.set_cons_zero, List.set_cons_succ, i64_w, i32_w]
                   rfl
                  refine pS 7 87 HT_.out ?_
                  refine pS 8 88 HT_.out ?_
                  refine pS 9 89 HT_.out ?_
                  refine pS 10 90 HT_.out ?_
                  refine pS 11 91 HT_.out ?_
                  refine pS 12 92 HT_.out ?_
                  refine pW 13 93 HT_.out ?_
                  refine pW 14 94 HT_.out ?_
                  refine pW 15 95 HT_.out ?_
                  refine pW 16 96 HT_.out ?_
                  refine pW 17 97 HT_.out ?_
                  refine pW 18 98 HT_.out ?_
                  refine pW 19 99 HT_.out ?_
                  refine pW 20 100 HT_.out ?_
                  refine pW 21 101 HT_.out ?_
                  refine pS 22 102 HT_.out ?_
                  refine pS 23 103 HT_.out ?_
                  refine pS 24 104 HT_.out ?_
                  refine pS 25 105 HT_.out ?_
                  refine pS 26 106 HT_.out ?_
                  refine pS 27 107 HT_.out ?_
                  refine take_ (i := 28) (N := some 108) (v := ?_) (a' := ?_) #[true, true, true, true, true, true, true, true, true, true, true, true, true, true, true, true, true, true, true, true, true, true, true, true, true, true, true, true, true, false, false, false, false, false, false, false, false, false, false, false, false, false, false, false] rfl rfl (take_ofW HT_.out HW_.out (by kernel_rfl)) (fun _ _ _ h => h) (Or.inl ⟨by rfl, ?_⟩) hHeld ?_ ?_
                  rotate_left
                  ·rintro w' ⟨s0, s1, s2, s3, s4, s5, s6, s7, s8, s9, s10⟩
                   go_simp
                   with_reducible rfl
                  rotate_left
                  ·simp only [Act.put, List.setIfInBounds_toArray, List.set_cons_zero, List.set_cons_succ, i64_w, i32_w]
                   rfl
                  refine pS 29 109 HT_.out ?_
                  refine pS 30 110 HT_.out ?_
                  refine pW 31 111 HT_.out ?_
                  refine pW 32 112 HT_.out ?_
                  refine pW 33 113 HT_.out ?_
                  refine pW 34 114 HT_.out ?_
                  refine pW 35 115 HT_.out ?_
                  refine pW 36 116 HT_.out ?_
                  refine pW 37 117 HT_.out ?_
                  refine pW 38 118 HT_.out ?_
                  refine pW 39 119 HT_.out ?_
                  refine pW 40 120 HT_.out ?_
                  refine pS 41 121 HT_.out ?_
                  refine pS 42 122 HT_.out ?_
                  refine pS 43 123 HT_.out ?_
                  refine done_ (done_of HT_.out (by kernel_rfl)) ?_
                  try go_wp2
                  go_meet
                  case rel => exact ⟨_, (true), (by first | rfl | (simp; done) | (simp [*]; done)), H', ⟨by have := HJ6.out; have := HJ31.out; have := HK3.out; first | omega | exact Nat.le_refl _⟩, ⟨rU HO_3.out⟩, ⟨rU HO_5.out⟩, ⟨kU BK414.out⟩, ⟨bS HB.out GE414.out⟩⟩
                ·rw [if_neg c69] at H
                 have c69b0 : decide (t426 < 0) = false := decide_eq_false c69
                 clear c69
                 have H' := am H
                 clear H
                 try go_wp2
                 have n0_ := am (Kd.R_drew HO_3.out)
                 have n1_ := am (Kd.R_drew HO_5.out)
                 have n2_ := am (blk_drew BK414.out)
                 have n3_ := am (below_drew1 HB.out)
                 clear HO_3
                 clear HO_5
                 clear BK414
                 clear HB
                 have HO_3 := n0_
                 have HO_5 := n1_
                 have BK414 := n2_
                 have HB := n3_
                 clear n0_ n1_ n2_ n3_
                 have p427 : 0 ≤ (x8_3 : Int) := dU
                 have q427 : x8_3 < (t405.length : Int) := dU
                 obtain ⟨ad427, e427, hx427_0, hx427_1, hx427_2, hx427_3, hx427_4⟩ := at_T34 (Kd.R_reads' HO_3.out).2.2 x8_3 p427 q427
                 obtain rfl : ad425 = ad427 := (by injection e427)
                 replace p427 := eq_true p427
                 replace q427 := eq_true q427
                 refine start_ (n := 44) (S := fun w' => w'.cell? ⟨gb414, 0, none⟩ = some (.int .i64 t408) ∧ w'.cell? ⟨gb414, 1, none⟩ = some (.int .i64 t409) ∧ w'.cell? ⟨gb414, 2, none⟩ = some (.int .i64 t410) ∧ w'.cell? ⟨gb414, 3, none⟩ = some (.int .i64 t411) ∧ w'.cell? ⟨gb414, 4, none⟩ = some (.int .i64 t412) ∧ w'.cell? ⟨gb414, 5, none⟩ = some (.int .i64 t413) ∧ w'.cell? (ad425.add ((x8_3).toNat * 5)) = some (.int .i64 ((rd_T34 t405 x8_3).f0)) ∧ w'.cell? ⟨(ad425.add ((x8_3).toNat * 5)).block, (ad425.add ((x8_3).toNat * 5)).off + 1, none⟩ = some (.int .i64 ((rd_T34 t405 x8_3).f1)) ∧ w'.cell? ⟨(ad425.add ((x8_3).toNat * 5)).block, (ad425.add ((x8_3).toNat * 5)).off + 2, none⟩ = some (.int .i64 ((rd_T34 t405 x8_3).f2)) ∧ w'.cell? ⟨(ad425.add ((x8_3).toNat * 5)).block, (ad425.add ((x8_3).toNat * 5)).off + 3, none⟩ = some (.int .i64 ((rd_T34 t405 x8_3).f3)) ∧ w'.cell? ⟨(ad425.add ((x8_3).toNat * 5)).block, (ad425.add ((x8_3).toNat * 5)).off + 4, none⟩ = some (.int .i64 ((rd_T34 t405 x8_3).f4))) (ds := []) #[false, false, false, false, false, false, false, false, false, false, false, false, false, false, false, false, false, false, false, false, false, false, false, false, false, false, false, false, false, false, false, false, false, false, false, false, false, false, false, false, false, false, false, false] (by kernel_rfl) rfl rfl ⟨(blk_cell BK414.out 0).trans rfl, (blk_cell BK414.out 1).trans rfl, (blk_cell BK414.out 2).trans rfl, (blk_cell BK414.out 3).trans rfl, (blk_cell BK414.out 4).trans rfl, (blk_cell BK414.out 5).trans rfl, hx427_0, hx427_1, hx427_2, hx427_3, hx427_4⟩ (fun hHeld => ?_); refine with_tabW laws_FnEdits.tab16 laws_FnEdits.bits16 (fun HT_ HW_ => ?_)
                 generalize w48.drew = w75 at HO_3 HO_5 BK414 HB hx427_0 hx427_1 hx427_2 hx427_3 hx427_4 hHeld ⊢
                 refine pS 0 80 HT_.out ?_
                 refine pS 1 81 HT_.out ?_
                 refine pS 2 82 HT_.out ?_
                 refine pS 3 83 HT_.out ?_
                 refine pS 5 85 HT_.out ?_
                 refine take_ (i := 4) (N := some 84) (v := ?_) (a' := ?_) #[true, true, true, true, true, true, false, false, false, false, false, false, false, false, false, false, false, false, false, false, false, false, false, false, false, false, false, false, false, false, false, false, false, false, false, false, false, false, false, false, false, false, false, false] rfl rfl (take_ofW HT_.out HW_.out (by kernel_rfl)) (fun _ _ _ h => h) (Or.inl ⟨by rfl, ?_⟩) hHeld ?_ ?_
                 rotate_left
                 ·rintro w' ⟨s0, s1, s2, s3, s4, s5, s6, s7, s8, s9, s10⟩
                  go_simp
                  with_reducible rfl
                 rotate_left
                 ·simp only [Act.put, List.setIfInBounds_toArray, List.set_cons_zero, List.set_cons_succ, i64_w, i32_w]
                  rfl
                 refine take_ (i := 6) (N := some 86) (v := ?_) (a' := ?_) #[true, true, true, true, true, true, true, false, false, false, false, false, false, false, false, false, false, false, false, false, false, false, false, false, false, false, false, false, false, false, false, false, false, false, false, false, false, false, false, false, false, false, false, false] rfl rfl (take_ofW HT_.out HW_.out (by kernel_rfl)) (fun _ _ _ h => h) (Or.inl ⟨by rfl, ?_⟩) hHeld ?_ ?_
                 rotate_left
                 ·rintro w' ⟨s0, s1, s2, s3, s4, s5, s6, s7, s8, s9, s10⟩
                  go_simp
                  with_reducible rfl
                 rotate_left
                 ·simp only [Act.put, List.setIfInBounds_toArray, List.set_cons_zero, List.set_cons_succ, i64_w, i32_w]
                  rfl
                 refine pS 7 87 HT_.out ?_
                 refine pS 8 88 HT_.out ?_
                 refine pS 9 89 HT_.out ?_
                 refine pS 10 90 HT_.out ?_
                 refine pS 11 91 HT_.out ?_
                 refine pS 12 92 HT_.out ?_
                 refine pW 13 93 HT_.out ?_
                 refine pW 14 94 HT_.out ?_
                 refine pW 15 95 HT_.out ?_
                 refine pW 16 96 HT_.out ?_
                 refine pW 17 97 HT_.out ?_
                 refine pW 18 98 HT_.out ?_
                 refine pW 19 99 HT_.out ?_
                 refine pW 20 100 HT_.out ?_
                 refine pW 21 101 HT_.out ?_
                 refine pS 22 102 HT_.out ?_
                 refine pS 23 103 HT_.out ?_
                 refine pS 24 104 HT_.out ?_
                 refine pS 25 105 HT_.out ?_
                 refine pS 26 106 HT_.out ?_
                 refine pW 27 107 HT_.out ?_
                 refine pW 28 108 HT_.out ?_
                 refine pW 29 109 HT_.out ?_
                 refine pW 30 110 HT_.out ?_
                 refine pW 31 111 HT_.out ?_
                 refine pW 32 112 HT_.out ?_
                 refine pW 33 113 HT_.out ?_
                 refine pW 34 114 HT_.out ?_
                 refine pW 35 115 HT_.out ?_
                 refine pW 36 116 HT_.out ?_
                 refine pW 37 117 HT_.out ?_
                 refine pW 38 118 HT_.out ?_
                 refine pW 39 119 HT_.out ?_
                 refine pW 40 120 HT_.out ?_
                 refine pW 41 121 HT_.out ?_
                 refine pS 42 122 HT_.out ?_
                 refine pS 43 123 HT_.out ?_
                 refine done_ (done_of HT_.out (by kernel_rfl)) ?_
                 try go_wp2
                 go_meet
                 case rel => exact ⟨_, (false), (by first | rfl | (simp; done) | (simp [*]; done)), H', ⟨by have := HJ6.out; have := HJ31.out; have := HK3.out; first | omega | exact Nat.le_refl _⟩, ⟨rU HO_3.out⟩, ⟨rU HO_5.out⟩, ⟨kU BK414.out⟩, ⟨bS HB.out GE414.out⟩⟩
             case rest =>
              clear HC47
              try clear p2
              try clear p4
              try clear q4
              try clear hx4
              try clear c6
              try clear c7
              try clear p42
              try clear q42
              try clear hx42
              try clear c69
              try clear c69b0
              try clear c70
              try clear c70b0
              try clear c70b1
              try clear hx427_0
              try clear hx427_1
              try clear hx427_2
              try clear hx427_3
              try clear hx427_4
              try clear p427
              try clear q427
              obtain ⟨kq, x123_46, rfl, HA, HJ46, HO_3, HO_5, BK414, HB⟩ := hcut
              cases kq with
              | zero => exact absurd HA.out (by simp [laws_FnEdits.j3])
              | succ kj46 =>
               have H := HA.out
               clear HA
               simp only [laws_FnEdits.j3] at H
               by_cases c76 : x123_46 = true
               ·subst c76
                have H1 : (some false) = some r := by rw [if_pos rfl] at H; exact H
                clear H
                have H := H1
                clear H1
                obtain rfl := Option.some.inj H
                go_wp2
                go_ret
                exact ⟨eU, bS HB.out GE414.out⟩
               ·replace c76 := Bool.eq_false_iff.mpr c76
                subst c76
                have H1 : (laws_FnEdits.l0 kj46 l0 t405 t415 (wrap64 (x8_3 + 1)) t408 t409 t410 t411 t412 t413) = some r := by rw [if_neg (show ¬ (false = true) by decide)] at H; exact H
                clear H
                have H := H1
                clear H1
                have H' := am H
                clear H
                go_wp2
                go_roundg kj46
                case measure => have := HJ6.out; have := HJ31.out; have := HK3.out; have := HJ46.out; omega
                case rel => exact ⟨(wrap64 (x8_3 + 1)), (by first | rfl | (simp; done) | (simp [*]; done)), H', ⟨by have := HJ6.out; have := HJ31.out; have := HK3.out; have := HJ46.out; omega⟩, ⟨rU HO_3.out⟩, ⟨rU HO_5.out⟩, ⟨kU BK414.out⟩, ⟨bS HB.out GE414.out⟩⟩
            ·rw [if_neg c45] at H
             exact absurd H (by simp)
           ·rw [if_neg c44] at H
            have c44b0 : decide (x8_3 < (t405.length : Int)) = false := decide_eq_false c44
            clear c44
            replace H := Option.bind_eq_some_iff.mp H
            obtain ⟨⟨t436, t437⟩, A770, H⟩ := H
            replace H : ((impl_RunEdits.f k3 t436 t437).bind fun t442 => ((impl_IsDocument.f k3 t442).bind fun t445 => ((impl_IsDocument.f k3 t436).bind fun t446 => (some (t445 == t446))))) = some r := H
            have A77 := am A770
            clear A770
            replace H := Option.bind_eq_some_iff.mp H
            obtain ⟨t442, A780, H⟩ := H
            replace H : ((impl_IsDocument.f k3 t442).bind fun t445 => ((impl_IsDocument.f k3 t436).bind fun t446 => (some (t445 == t446)))) = some r := H
            have A78 := am A780
            clear A780
            replace H := Option.bind_eq_some_iff.mp H
            obtain ⟨t445, A790, H⟩ := H
            replace H : ((impl_IsDocument.f k3 t436).bind fun t446 => (some (t445 == t446))) = some r := H
            have A79 := am A790
            clear A790
            replace H := Option.bind_eq_some_iff.mp H
            obtain ⟨t446, A800, H⟩ := H
            replace H : (some (t445 == t446)) = some r := H
            have A80 := am A800
            clear A800
            obtain rfl := Option.some.inj H
            go_wp2_with (first | ((with_reducible refine gate_callee (f := 20) rfl ?_); refine goesL_ (some 126) rfl rfl Tryd.func20 (by kernel_rfl) rfl #[.slice A0 l0.length c0] rfl mU ?_; (with_reducible refine (spec_DrawRunEdits.calls k3 _ _ l0 t436 t437 _ ?side1 ?side2 A77.out).mono ?_); (case side1 => exact cU (Kd.C_below HR0.out HB.out)); (case side2 => exact HC0.out); rintro e w81 ⟨v438, v440, rfl, ho0, ho1, hb⟩; refine ⟨_, rfl, ?_⟩; have n0_ := am (Kd.R_elder' (rU HO_3.out) (Kd.R_base ho0) hb); have n1_ := am (Kd.R_elder' (rU HO_5.out) (Kd.R_base ho0) hb); have n2_ := am (Kd.R_lower (Kd.R_new' (Kd.R_new' ho0 (Kd.R_lt (rU HO_3.out))) (Kd.R_lt (rU HO_5.out))) (below_size (bS HB.out GE414.out))); have n3_ := am (Kd.R_lower (Kd.R_newB ho1 (g := gb414) (o := .cells #[.int .i64 t408, .int .i64 t409, .int .i64 t410, .int .i64 t411, .int .i64 t412, .int .i64 t413] 40 (0, 0)) (kU BK414.out)) (below_size (bS HB.out GE414.out))); have n4_ := am (kB BK414.out hb); have n5_ := am (below_step (bS HB.out GE414.out) hb); clear HO_3; clear HO_5; clear BK414; clear HB; have HO_3 := n0_; have HO_5 := n1_; have HO439 := n2_; have HO441 := n3_; have BK414 := n4_; have HB := n5_; clear n0_ n1_ n2_ n3_ n4_ n5_; (try clear hb); (try clear hb2); (try clear hk); (try clear hi); (try clear ho0); (try clear ho1); obtain ⟨Ao82, co82, eo82⟩ := Kd.R_slice HO439.out; subst eo82; obtain ⟨Ao83, co83, eo83⟩ := Kd.R_slice HO441.out; subst eo83) | ((with_reducible refine gate_callee (f := 21) rfl ?_); refine goesL_ (some 131) rfl rfl Tryd.func21 (by kernel_rfl) rfl #[.slice Ao82 t436.length co82, .slice Ao83 t437.length co83] rfl mU ?_; (with_reducible refine (impl_RunEdits.calls k3 _ _ t436 _ _ t437 t442 _ ?side1 ?side2 ?side3 ?side4 A78.out).mono ?_); (case side1 => exact cU (Kd.R_reads' HO439.out).2.2); (case side2 => exact (Kd.R_reads' HO439.out).2.1); (case side3 => exact cU (Kd.R_reads' HO441.out).2.2); (case side4 => exact (Kd.R_reads' HO441.out).2.1); rintro e w84 ⟨v443, rfl, ho0, hb⟩; refine ⟨_, rfl, ?_⟩; have n0_ := am (Kd.R_elder' (rU HO_3.out) (Kd.R_base ho0) hb); have n1_ := am (Kd.R_elder' (rU HO_5.out) (Kd.R_base ho0) hb); have n2_ := am (Kd.R_elder' (rU HO439.out) (Kd.R_base ho0) hb); have n3_ := am (Kd.R_below (rU HO441.out) hb); have n4_ := am (Kd.R_lower (Kd.R_new' (Kd.R_new' (Kd.R_new' ho0 (Kd.R_lt (rU HO_3.out))) (Kd.R_lt (rU HO_5.out))) (Kd.R_lt (rU HO439.out))) (below_size (bS HB.out GE414.out))); have n5_ := am (kB BK414.out hb); have n6_ := am (below_step (bS HB.out GE414.out) hb); clear HO_3; clear HO_5; clear HO439; clear HO441; clear BK414; clear HB; have HO_3 := n0_; have HO_5 := n1_; have HO439 := n2_; have HO441 := n3_; have HO444 := n4_; have BK414 := n5_; have HB := n6_; clear n0_ n1_ n2_ n3_ n4_ n5_ n6_; (try clear hb); (try clear hb2); (try clear hk); (try clear hi); (try clear ho0); obtain ⟨Ao85, co85, eo85⟩ := Kd.R_slice HO444.out; subst eo85) | ((with_reducible refine gate_callee (f := 8) rfl ?_); refine goesL_ (some 132) rfl rfl Tryd.func8 (by kernel_rfl) rfl #[.slice Ao85 t442.length co85] rfl mU ?_; (with_reducible refine (impl_IsDocument.calls k3 _ _ t442 t445 _ ?side1 ?side2 A79.out).mono ?_); (case side1 => exact cU (Kd.R_reads' HO444.out).2.2); (case side2 => exact (Kd.R_reads' HO444.out).2.1); rintro e w86 ⟨rfl, hb⟩; refine ⟨_, rfl, ?_⟩; have n0_ := am (Kd.R_below (rU HO_3.out) hb); have n1_ := am (Kd.R_below (rU HO_5.out) hb); have n2_ := am (Kd.R_below (rU HO439.out) hb); have n3_ := am (Kd.R_below (rU HO441.out) hb); have n4_ := am (Kd.R_below (rU HO444.out) hb); have n5_ := am (kB BK414.out hb); have n6_ := am (below_step (bS HB.out GE414.out) hb); clear HO_3; clear HO_5; clear HO439; clear HO441; clear HO444; clear BK414; clear HB; have HO_3 := n0_; have HO_5 := n1_; have HO439 := n2_; have HO441 := n3_; have HO444 := n4_; have BK414 := n5_; have HB := n6_; clear n0_ n1_ n2_ n3_ n4_ n5_ n6_; (try clear hb); (try clear hb2); (try clear hk); (try clear hi)) | ((with_reducible refine gate_callee (f := 8) rfl ?_); refine goesL_ (some 134) rfl rfl Tryd.func8 (by kernel_rfl) rfl #[.slice Ao82 t436.length co82] rfl mU ?_; (with_reducible refine (impl_IsDocument.calls k3 _ _ t436 t446 _ ?side1 ?side2 A80.out).mono ?_); (case side1 => exact cU (Kd.R_reads' HO439.out).2.2); (case side2 => exact (Kd.R_reads' HO439.out).2.1); rintro e w87 ⟨rfl, hb⟩; refine ⟨_, rfl, ?_⟩; have n0_ := am (Kd.R_below (rU HO_3.out) hb); have n1_ := am (Kd.R_below (rU HO_5.out) hb); have n2_ := am (Kd.R_below (rU HO439.out) hb); have n3_ := am (Kd.R_below (rU HO441.out) hb); have n4_ := am (Kd.R_below (rU HO444.out) hb); have n5_ := am (kB BK414.out hb); have n6_ := am (below_step (bS HB.out GE414.out) hb); clear HO_3; clear HO_5; clear HO439; clear HO441; clear HO444; clear BK414; clear HB; have HO_3 := n0_; have HO_5 := n1_; have HO439 := n2_; have HO441 := n3_; have HO444 := n4_; have BK414 := n5_; have HB := n6_; clear n0_ n1_ n2_ n3_ n4_ n5_ n6_; (try clear hb); (try clear hb2); (try clear hk); (try clear hi)))
            go_ret
            exact ⟨eU, bS HB.out GE414.out⟩
  ·replace c6 := Bool.eq_false_iff.mpr c6
   subst c6
   have H1 : ((impl_EqualDocuments.f k t415 t405).bind fun t419 => (some t419)) = some r := by rw [if_neg (show ¬ (false = true) by decide)] at H; exact H
   clear H
   have H := H1
   clear H1
   replace H := Option.bind_eq_some_iff.mp H
   obtain ⟨t419, A880, H⟩ := H
   replace H : (some t419) = some r := H
   have A88 := am A880
   clear A880
   obtain rfl := Option.some.inj H
   go_enter Tryd.func4, Tryd.ntmps4
   go_wp2_with (first | ((with_reducible refine gate_callee (f := 5) rfl ?_); refine goesL_ (some 13) rfl rfl Tryd.func5 (by kernel_rfl) rfl #[.slice A0 l0.length c0] rfl mU ?_; (with_reducible refine (laws_big.calls _ _ l0 false _ ?side1 ?side2 A2.out).mono ?_); (case side1 => exact cU HR0.out); (case side2 => exact HC0.out); rintro e w' ⟨rfl, ⟨nd, rfl⟩⟩; refine ⟨_, rfl, ?_⟩) | ((with_reducible refine gate_callee (f := 16) rfl ?_); refine goesL_ (some 16) rfl rfl Tryd.func16 (by kernel_rfl) rfl #[.slice A0 l0.length c0] rfl mU ?_; (with_reducible refine (spec_DrawApplyEdit.calls k _ _ l0 t405 t408 t409 t410 t411 t412 t413 _ ?side1 ?side2 A4.out).mono ?_); (case side1 => exact cU HR0.out); (case side2 => exact HC0.out); rintro e w89 ⟨v406, rfl, ho0, hb⟩; refine ⟨_, rfl, ?_⟩; have n0_ := am (Kd.R_lower ho0 (below_size (bU HB.out))); have n1_ := am (below_step (bU HB.out) hb); clear HB; have HO407 := n0_; have HB := n1_; clear n0_ n1_; (try clear hb); (try clear hb2); (try clear hk); (try clear hi); (try clear ho0)) | ((with_reducible refine gate_dst (N := 4) rfl ?_); refine box_event ?hg (N := 4) ?hd (cs := #[.int .i64 0, .int .i64 0, .int .i64 0, .int .i64 0, .int .i64 0, .int .i64 0]) (t := 40) ?hr ?_; (case hd => rfl); (case hg => rfl); (case hr => first | (go_simp; done) | (go_simp; rfl)); intro gb414 hg w90 hbox hb; have n0_ := am (Kd.R_below (rU HO407.out) hb); have n1_ := am (below_step (bU HB.out) hb); have n2_ := am (hbox); have n3_ := am ((by rw [hg]; exact (below_size (bU HB.out)) : w.heap.size ≤ gb414)); have n4_ := am ((by rw [hg]; exact (below_size (bU HB.out)) : w.heap.size ≤ gb414)); clear HO407; clear HB; have HO407 := n0_; have HB := n1_; have BK414 := n2_; have GW414 := n3_; have GE414 := n4_; clear n0_ n1_ n2_ n3_ n4_; clear hb hbox hg; obtain ⟨hcz91_0, hcz91_1, hcz91_2, hcz91_3, hcz91_4, hcz91_5⟩ := bc6 BK414.out; obtain ⟨hfz91_0, hfz91_1, hfz91_2, hfz91_3, hfz91_4, hfz91_5⟩ := bf6 BK414.out; obtain ⟨Ao92, co92, eo92⟩ := Kd.R_slice HO407.out; subst eo92) | ((with_reducible refine gate_callee (f := 17) rfl ?_); refine goesL_ (some 22) rfl rfl Tryd.func17 (by kernel_rfl) rfl #[.slice Ao92 t405.length co92, .agg #[.int .i64 t408, .int .i64 t409, .int .i64 t410, .int .i64 t411, .int .i64 t412, .int .i64 t413]] rfl mU ?_; (with_reducible refine (impl_ApplyEdit.calls k _ _ t405 t408 t409 t410 t411 t412 t413 t415 false _ ?side1 ?side2 A5.out).mono ?_); (case side1 => refine (Kd.R_reads' (e := 34) (base := w.heap.size) (ok := fun k_ => True) (n := t405.length) (c := co92) ?_).2.2; exact (by (with_reducible repeat (first | apply Kd.R_alloc | apply Kd.R_drewN | apply Kd.R_drew)); exact (Kd.R_mono (Kd.R_far (p := ⟨gb414, 5, none⟩) (Kd.R_far (p := ⟨gb414, 4, none⟩) (Kd.R_far (p := ⟨gb414, 3, none⟩) (Kd.R_far (p := ⟨gb414, 2, none⟩) (Kd.R_far (p := ⟨gb414, 1, none⟩) (Kd.R_far (p := ⟨gb414, 0, none⟩) (Kd.R_types HO407.out BK414.out (by decide)) (fun _ hk => hk.2) (.int .i64 t408)) (fun _ hk => hk.2) (.int .i64 t409)) (fun _ hk => hk.2) (.int .i64 t410)) (fun _ hk => hk.2) (.int .i64 t411)) (fun _ hk => hk.2) (.int .i64 t412)) (fun _ hk => hk.2) (.int .i64 t413)) (fun _ h_ => h_.1)))); (case side2 => exact (Kd.R_reads' HO407.out).2.1); rintro e w93 ⟨v416, rfl, ho0, hb⟩; refine ⟨_, rfl, ?_⟩; have n0_ := am (Kd.R_elder' (by (with_reducible repeat (first | apply Kd.R_alloc | apply Kd.R_drewN | apply Kd.R_drew)); exact (Kd.R_mono (Kd.R_far (p := ⟨gb414, 5, none⟩) (Kd.R_far (p := ⟨gb414, 4, none⟩) (Kd.R_far (p := ⟨gb414, 3, none⟩) (Kd.R_far (p := ⟨gb414, 2, none⟩) (Kd.R_far (p := ⟨gb414, 1, none⟩) (Kd.R_far (p := ⟨gb414, 0, none⟩) (Kd.R_types HO407.out BK414.out (by decide)) (fun _ hk => hk.2) (.int .i64 t408)) (fun _ hk => hk.2) (.int .i64 t409)) (fun _ hk => hk.2) (.int .i64 t410)) (fun _ hk => hk.2) (.int .i64 t411)) (fun _ hk => hk.2) (.int .i64 t412)) (fun _ hk => hk.2) (.int .i64 t413)) (fun _ h_ => h_.1))) (Kd.R_base ho0) hb); have n1_ := am (Kd.R_lower (Kd.R_new' ho0 (Kd.R_lt (by (with_reducible repeat (first | apply Kd.R_alloc | apply Kd.R_drewN | apply Kd.R_drew)); exact (Kd.R_mono (Kd.R_far (p := ⟨gb414, 5, none⟩) (Kd.R_far (p := ⟨gb414, 4, none⟩) (Kd.R_far (p := ⟨gb414, 3, none⟩) (Kd.R_far (p := ⟨gb414, 2, none⟩) (Kd.R_far (p := ⟨gb414, 1, none⟩) (Kd.R_far (p := ⟨gb414, 0, none⟩) (Kd.R_types HO407.out BK414.out (by decide)) (fun _ hk => hk.2) (.int .i64 t408)) (fun _ hk => hk.2) (.int .i64 t409)) (fun _ hk => hk.2) (.int .i64 t410)) (fun _ hk => hk.2) (.int .i64 t411)) (fun _ hk => hk.2) (.int .i64 t412)) (fun _ hk => hk.2) (.int .i64 t413)) (fun _ h_ => h_.1))))) (below_size (bS HB.out GE414.out))); have n2_ := am (blk_below (g := gb414) (o := .cells #[.int .i64 t408, .int .i64 t409, .int .i64 t410, .int .i64 t411, .int .i64 t412, .int .i64 t413] 40 (0, 0)) (by (with_reducible repeat (first | refine blk_drewN ?_ _ | refine blk_drew ?_ | refine blk_alloc ?_ _)); refine blk_put (cs := #[.int .i64 t408, .int .i64 t409, .int .i64 t410, .int .i64 t411, .int .i64 t412, .int .i64 0]) ?_ 5 _ rfl; (with_reducible repeat (first | refine blk_drewN ?_ _ | refine blk_drew ?_ | refine blk_alloc ?_ _)); refine blk_put (cs := #[.int .i64 t408, .int .i64 t409, .int .i64 t410, .int .i64 t411, .int .i64 0, .int .i64 0]) ?_ 4 _ rfl; (with_reducible repeat (first | refine blk_drewN ?_ _ | refine blk_drew ?_ | refine blk_alloc ?_ _)); refine blk_put (cs := #[.int .i64 t408, .int .i64 t409, .int .i64 t410, .int .i64 0, .int .i64 0, .int .i64 0]) ?_ 3 _ rfl; (with_reducible repeat (first | refine blk_drewN ?_ _ | refine blk_drew ?_ | refine blk_alloc ?_ _)); refine blk_put (cs := #[.int .i64 t408, .int .i64 t409, .int .i64 0, .int .i64 0, .int .i64 0, .int .i64 0]) ?_ 2 _ rfl; (with_reducible repeat (first | refine blk_drewN ?_ _ | refine blk_drew ?_ | refine blk_alloc ?_ _)); refine blk_put (cs := #[.int .i64 t408, .int .i64 0, .int .i64 0, .int .i64 0, .int .i64 0, .int .i64 0]) ?_ 1 _ rfl; (with_reducible repeat (first | refine blk_drewN ?_ _ | refine blk_drew ?_ | refine blk_alloc ?_ _)); refine blk_put (cs := #[.int .i64 0, .int .i64 0, .int .i64 0, .int .i64 0, .int .i64 0, .int .i64 0]) ?_ 0 _ rfl; exact kU BK414.out) hb); have n3_ := am (below_step (bS HB.out GE414.out) hb); clear HO407; clear BK414; clear HB; have HO407 := n0_; have HO417 := n1_; have BK414 := n2_; have HB := n3_; clear n0_ n1_ n2_ n3_; (try clear hb); (try clear hb2); (try clear hk); (try clear hi); (try clear ho0); obtain ⟨Ao94, co94, eo94⟩ := Kd.R_slice HO417.out; subst eo94) | ((with_reducible refine gate_callee (f := 14) rfl ?_); refine goesL_ (some 29) rfl rfl Tryd.func14 (by kernel_rfl) rfl #[.slice Ao94 t415.length co94, .slice Ao92 t405.length co92] rfl mU ?_; (with_reducible refine (impl_EqualDocuments.calls k _ _ t415 _ _ t405 t419 _ ?side1 ?side2 ?side3 ?side4 A88.out).mono ?_); (case side1 => exact cU (Kd.R_reads' HO417.out).2.2); (case side2 => exact (Kd.R_reads' HO417.out).2.1); (case side3 => exact cU (Kd.R_reads' HO407.out).2.2); (case side4 => exact (Kd.R_reads' HO407.out).2.1); rintro e w' ⟨rfl, ⟨nd, rfl⟩⟩; refine ⟨_, rfl, ?_⟩))
   go_ret
   exact ⟨eU, bS HB.out GE414.out⟩
def laws_FnEdits.Pure : Prop := ∀ (l0 : List Int), l0.length ≤ maxLen → l0.length * 1 ≤ 140737488351232 → (∀ x ∈ l0, (Lit.int .u8 x).wf = true) → ∃ k, laws_FnEdits.f k l0 = some true
theorem laws_FnEdits.walk (P : laws_FnEdits.Pure) (a0 : Option Addr) (len0 cap0 : Nat) (z0 : List Int) (w : World) (HTAB : TabHolds w) (w0 : (a0 = none ∧ len0 = 0 ∧ cap0 = 0 ∧ z0 = []) ∨ ∃ x, a0 = some x ∧ len0 ≤ cap0 ∧ cap0 ≤ maxLen ∧ z0.length = cap0 ∧ (∀ i, i < z0.length → w.cell? (x.add i) = some (.int .u8 (z0.getD i 0))) ∧ ∀ n ∈ z0, (Lit.int .u8 n).wf = true) (y0 : len0 * 1 ≤ 140737488351232) :
  Calls Tryd.prog 4 #[.slice a0 len0 cap0] w fun e w' => e = .returned (.bool true) ∧ Below w.heap.size w w' := by
 obtain ⟨l0, rfl, hr0, hm0, hw0, hc0⟩ := ReadsInt.ofRowC w0
 obtain ⟨k, h⟩ := P l0 hm0 y0 hw0
 refine (laws_FnEdits.calls k _ _ l0 true w (Kd.C_of_reads (d := (0 : Int)) (h1 := fun _ => rfl) hr0) hc0 HTAB h).mono ?_
 rintro e w' ⟨rfl, hd⟩
 exact ⟨rfl, hd⟩
end Go.Proofs.YtefppmgcenfemaaDoor.QFnEdits
