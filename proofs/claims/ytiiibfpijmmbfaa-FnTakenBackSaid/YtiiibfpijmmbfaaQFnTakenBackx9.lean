import Derived.Test.YtiiibfpijmmbfaaUp
import Derived.Test.YtiiibfpijmmbfaaQFnTakenBackx0
import Derived.Test.YtiiibfpijmmbfaaQFnTakenBackx2
import Derived.Test.YtiiibfpijmmbfaaQFnTakenBackx6
import Derived.Test.YtiiibfpijmmbfaaQFnTakenBackx7
import Derived.Test.YtiiibfpijmmbfaaQFnTakenBackx8
namespace Go.Proofs.Ytiiibfpijmmbfaa.QFnTakenBack
open Go.RowKit Go.Proofs.YtiiibfpijmmbfaaW.PrintWords Go.Proofs.YtiiibfpijmmbfaaW.PrintLast Go.Proofs.YtiiibfpijmmbfaaW.PrintMore
attribute [local go_sem] max2_int min2_int max_two min_two max_three min_three max_four min_four
set_option linter.unusedVariables false
set_option linter.unusedSimpArgs false
mutual
def laws_FnTakenBack.j0 : Nat → List (S59) → List (S30) → Int → List (S59) → List (S30) → List (S30) → Bool → Option (Bool)
 | 0, _, _, _, _, _, _, _ => none
 | k + 1, x3, x4, x5, x6, x7, x8, x51 => if x51 = true then (some false) else ((impl_Worlds.f k x3).bind fun t346 => ((laws_contains.f k t346 x5).bind fun t349 => (if t349 = true then (laws_FnTakenBack.j1 k x3 x4 x5 x6 x7 x8 false) else ((impl_Worlds.f k x6).bind fun t350 => ((laws_contains.f k t350 x5).bind fun t353 => (laws_FnTakenBack.j1 k x3 x4 x5 x6 x7 x8 t353))))))
def laws_FnTakenBack.j1 : Nat → List (S59) → List (S30) → Int → List (S59) → List (S30) → List (S30) → Bool → Option (Bool)
 | 0, _, _, _, _, _, _, _ => none
 | k + 1, x3, x4, x5, x6, x7, x8, x62 => if x62 = true then (some false) else (if (x7.length : Int) = 0 then ((impl_RunEdits.f k x3 x4).bind fun t354 => ((impl_EqualDocuments.f k x6 t354).bind fun t357 => (if t357 = true then ((impl_LostWith.f k x3 x4 x5).bind fun t358 => (laws_FnTakenBack.j2 k x3 x4 x5 x6 x7 x8 (decide ((t358.length : Int) > 0)))) else (laws_FnTakenBack.j2 k x3 x4 x5 x6 x7 x8 true)))) else (laws_FnTakenBack.j2 k x3 x4 x5 x6 x7 x8 false))
def laws_FnTakenBack.j2 : Nat → List (S59) → List (S30) → Int → List (S59) → List (S30) → List (S30) → Bool → Option (Bool)
 | 0, _, _, _, _, _, _, _ => none
 | k + 1, x3, x4, x5, x6, x7, x8, x81 => if x81 = true then (some false) else ((impl_LostWith.f k x3 x4 x5).bind fun t361 => (laws_FnTakenBack.l0 k x3 x4 x5 x6 x7 x8 t361 0))
def laws_FnTakenBack.l0 : Nat → List (S59) → List (S30) → Int → List (S59) → List (S30) → List (S30) → List Int → Int → Option (Bool)
 | 0, _, _, _, _, _, _, _, _ => none
 | k + 1, x3, x4, x5, x6, x7, x8, x9, x10 => if x10 < (x9.length : Int) then (if 0 ≤ x10 then ((impl_NodeOf.f k x6 (rd x9 x10)).bind fun t372 => (if t372 ≥ 0 then (some false) else ((impl_RunEdits.f k x3 x4).bind fun t373 => ((impl_NodeOf.f k t373 (rd x9 x10)).bind fun t377 => (if t377 < 0 then (some false) else (laws_FnTakenBack.l0 k x3 x4 x5 x6 x7 x8 x9 (wrap64 (x10 + 1)))))))) else (none)) else ((impl_Touched.f k x4 x5).bind fun t364 => (if (t364.length : Int) ≤ (x7.length : Int) then ((impl_TakeBack.f k x3 x8 x5).bind fun t367 => ((impl_EqualDocuments.f k t367 x6).bind fun t370 => (some t370))) else (some false)))
end
def laws_FnTakenBack.f (k : Nat) (l0 : List Int) : Option (Bool) := (laws_big.f l0).bind fun t322 => (if t322 = true then (some true) else ((spec_DrawTakeBack.f k l0).bind fun bt323 => ((impl_TakeBack.f k bt323.1 bt323.2.1 bt323.2.2).bind fun t330 => ((impl_EditsBy.f k bt323.2.1 bt323.2.2).bind fun t333 => ((impl_WithoutBy.f k bt323.2.1 bt323.2.2).bind fun t336 => (if (wrap64 ((t333.length : Int) + (t336.length : Int))) = (bt323.2.1.length : Int) then ((impl_EditsBy.f k t336 bt323.2.2).bind fun t339 => (if (t339.length : Int) > 0 then (laws_FnTakenBack.j0 k bt323.1 bt323.2.1 bt323.2.2 t330 t333 t336 true) else ((impl_RunEdits.f k bt323.1 t336).bind fun t342 => ((impl_EqualDocuments.f k t330 t342).bind fun t345 => (laws_FnTakenBack.j0 k bt323.1 bt323.2.1 bt323.2.2 t330 t333 t336 (!t345)))))) else (laws_FnTakenBack.j0 k bt323.1 bt323.2.1 bt323.2.2 t330 t333 t336 true)))))))
theorem laws_FnTakenBack.mono_l : ∀ k, (∀ y0 y1 y2 y3 y4 y5 y6, LeO (laws_FnTakenBack.j0 k y0 y1 y2 y3 y4 y5 y6) (laws_FnTakenBack.j0 (k + 1) y0 y1 y2 y3 y4 y5 y6)) ∧ (∀ y0 y1 y2 y3 y4 y5 y6, LeO (laws_FnTakenBack.j1 k y0 y1 y2 y3 y4 y5 y6) (laws_FnTakenBack.j1 (k + 1) y0 y1 y2 y3 y4 y5 y6)) ∧ (∀ y0 y1 y2 y3 y4 y5 y6, LeO (laws_FnTakenBack.j2 k y0 y1 y2 y3 y4 y5 y6) (laws_FnTakenBack.j2 (k + 1) y0 y1 y2 y3 y4 y5 y6)) ∧ (∀ y0 y1 y2 y3 y4 y5 y6 y7, LeO (laws_FnTakenBack.l0 k y0 y1 y2 y3 y4 y5 y6 y7) (laws_FnTakenBack.l0 (k + 1) y0 y1 y2 y3 y4 y5 y6 y7))
 | 0 => ⟨fun _ _ _ _ _ _ _ r h => by simp [laws_FnTakenBack.j0] at h, fun _ _ _ _ _ _ _ r h => by simp [laws_FnTakenBack.j1] at h, fun _ _ _ _ _ _ _ r h => by simp [laws_FnTakenBack.j2] at h, fun _ _ _ _ _ _ _ _ r h => by simp [laws_FnTakenBack.l0] at h⟩
 | k + 1 => by
  obtain ⟨ih0, ih1, ih2, ih3⟩ := laws_FnTakenBack.mono_l k
  refine ⟨?_, ?_, ?_, ?_⟩
  ·intro y0 y1 y2 y3 y4 y5 y6
   unfold laws_FnTakenBack.j0
   repeat' first
   | (with_reducible exact ih0 _ _ _ _ _ _ _)
   | (with_reducible exact ih1 _ _ _ _ _ _ _)
   | (with_reducible exact ih2 _ _ _ _ _ _ _)
   | (with_reducible exact ih3 _ _ _ _ _ _ _ _)
   | (with_reducible exact impl_EditsBy.mono _ _ _)
   | (with_reducible exact impl_EqualDocuments.mono _ _ _)
   | (with_reducible exact impl_LostWith.mono _ _ _ _)
   | (with_reducible exact impl_NodeOf.mono _ _ _)
   | (with_reducible exact impl_RunEdits.mono _ _ _)
   | (with_reducible exact impl_TakeBack.mono _ _ _ _)
   | (with_reducible exact impl_Touched.mono _ _ _)
   | (with_reducible exact impl_WithoutBy.mono _ _ _)
   | (with_reducible exact impl_Worlds.mono _ _)
   | (with_reducible exact laws_contains.mono _ _ _)
   | (with_reducible exact spec_DrawTakeBack.mono _ _)
   | (with_reducible exact LeO.refl _)
   | (with_reducible exact LeO.none _)
   | (with_reducible refine LeO.ite ?_ ?_)
   | (with_reducible refine LeO.bind ?_ (fun _ => ?_))
   | exact ih0 _ _ _ _ _ _ _
   | exact ih1 _ _ _ _ _ _ _
   | exact ih2 _ _ _ _ _ _ _
   | exact ih3 _ _ _ _ _ _ _ _
   | exact impl_EditsBy.mono _ _ _
   | exact impl_EqualDocuments.mono _ _ _
   | exact impl_LostWith.mono _ _ _ _
   | exact impl_NodeOf.mono _ _ _
   | exact impl_RunEdits.mono _ _ _
   | exact impl_TakeBack.mono _ _ _ _
   | exact impl_Touched.mono _ _ _
   | exact impl_WithoutBy.mono _ _ _
   | exact impl_Worlds.mono _ _
   | exact laws_contains.mono _ _ _
   | exact spec_DrawTakeBack.mono _ _
   | exact LeO.none _
   | refine LeO.ite ?_ ?_
   | refine LeO.bind ?_ (fun _ => ?_)
  ·intro y0 y1 y2 y3 y4 y5 y6
   unfold laws_FnTakenBack.j1
   repeat' first
   | (with_reducible exact ih0 _ _ _ _ _ _ _)
   | (with_reducible exact ih1 _ _ _ _ _ _ _)
   | (with_reducible exact ih2 _ _ _ _ _ _ _)
   | (with_reducible exact ih3 _ _ _ _ _ _ _ _)
   | (with_reducible exact impl_EditsBy.mono _ _ _)
   | (with_reducible exact impl_EqualDocuments.mono _ _ _)
   | (with_reducible exact impl_LostWith.mono _ _ _ _)
   | (with_reducible exact impl_NodeOf.mono _ _ _)
   | (with_reducible exact impl_RunEdits.mono _ _ _)
   | (with_reducible exact impl_TakeBack.mono _ _ _ _)
   | (with_reducible exact impl_Touched.mono _ _ _)
   | (with_reducible exact impl_WithoutBy.mono _ _ _)
   | (with_reducible exact impl_Worlds.mono _ _)
   | (with_reducible exact laws_contains.mono _ _ _)
   | (with_reducible exact spec_DrawTakeBack.mono _ _)
   | (with_reducible exact LeO.refl _)
   | (with_reducible exact LeO.none _)
   | (with_reducible refine LeO.ite ?_ ?_)
   | (with_reducible refine LeO.bind ?_ (fun _ => ?_))
   | exact ih0 _ _ _ _ _ _ _
   | exact ih1 _ _ _ _ _ _ _
   | exact ih2 _ _ _ _ _ _ _
   | exact ih3 _ _ _ _ _ _ _ _
   | exact impl_EditsBy.mono _ _ _
   | exact impl_EqualDocuments.mono _ _ _
   | exact impl_LostWith.mono _ _ _ _
   | exact impl_NodeOf.mono _ _ _
   | exact impl_RunEdits.mono _ _ _
   | exact impl_TakeBack.mono _ _ _ _
   | exact impl_Touched.mono _ _ _
   | exact impl_WithoutBy.mono _ _ _
   | exact impl_Worlds.mono _ _
   | exact laws_contains.mono _ _ _
   | exact spec_DrawTakeBack.mono _ _
   | exact LeO.none _
   | refine LeO.ite ?_ ?_
   | refine LeO.bind ?_ (fun _ => ?_)
  ·intro y0 y1 y2 y3 y4 y5 y6
   unfold laws_FnTakenBack.j2
   repeat' first
   | (with_reducible exact ih0 _ _ _ _ _ _ _)
   | (with_reducible exact ih1 _ _ _ _ _ _ _)
   | (with_reducible exact ih2 _ _ _ _ _ _ _)
   | (with_reducible exact ih3 _ _ _ _ _ _ _ _)
   | (with_reducible exact impl_EditsBy.mono _ _ _)
   | (with_reducible exact impl_EqualDocuments.mono _ _ _)
   | (with_reducible exact impl_LostWith.mono _ _ _ _)
   | (with_reducible exact impl_NodeOf.mono _ _ _)
   | (with_reducible exact impl_RunEdits.mono _ _ _)
   | (with_reducible exact impl_TakeBack.mono _ _ _ _)
   | (with_reducible exact impl_Touched.mono _ _ _)
   | (with_reducible exact impl_WithoutBy.mono _ _ _)
   | (with_reducible exact impl_Worlds.mono _ _)
   | (with_reducible exact laws_contains.mono _ _ _)
   | (with_reducible exact spec_DrawTakeBack.mono _ _)
   | (with_reducible exact LeO.refl _)
   | (with_reducible exact LeO.none _)
   | (with_reducible refine LeO.ite ?_ ?_)
   | (with_reducible refine LeO.bind ?_ (fun _ => ?_))
   | exact ih0 _ _ _ _ _ _ _
   | exact ih1 _ _ _ _ _ _ _
   | exact ih2 _ _ _ _ _ _ _
   | exact ih3 _ _ _ _ _ _ _ _
   | exact impl_EditsBy.mono _ _ _
   | exact impl_EqualDocuments.mono _ _ _
   | exact impl_LostWith.mono _ _ _ _
   | exact impl_NodeOf.mono _ _ _
   | exact impl_RunEdits.mono _ _ _
   | exact impl_TakeBack.mono _ _ _ _
   | exact impl_Touched.mono _ _ _
   | exact impl_WithoutBy.mono _ _ _
   | exact impl_Worlds.mono _ _
   | exact laws_contains.mono _ _ _
   | exact spec_DrawTakeBack.mono _ _
   | exact LeO.none _
   | refine LeO.ite ?_ ?_
   | refine LeO.bind ?_ (fun _ => ?_)
  ·intro y0 y1 y2 y3 y4 y5 y6 y7
   unfold laws_FnTakenBack.l0
   repeat' first
   | (with_reducible exact ih0 _ _ _ _ _ _ _)
   | (with_reducible exact ih1 _ _ _ _ _ _ _)
   | (with_reducible exact ih2 _ _ _ _ _ _ _)
   | (with_reducible exact ih3 _ _ _ _ _ _ _ _)
   | (with_reducible exact impl_EditsBy.mono _ _ _)
   | (with_reducible exact impl_EqualDocuments.mono _ _ _)
   | (with_reducible exact impl_LostWith.mono _ _ _ _)
   | (with_reducible exact impl_NodeOf.mono _ _ _)
   | (with_reducible exact impl_RunEdits.mono _ _ _)
   | (with_reducible exact impl_TakeBack.mono _ _ _ _)
   | (with_reducible exact impl_Touched.mono _ _ _)
   | (with_reducible exact impl_WithoutBy.mono _ _ _)
   | (with_reducible exact impl_Worlds.mono _ _)
   | (with_reducible exact laws_contains.mono _ _ _)
   | (with_reducible exact spec_DrawTakeBack.mono _ _)
   | (with_reducible exact LeO.refl _)
   | (with_reducible exact LeO.none _)
   | (with_reducible refine LeO.ite ?_ ?_)
   | (with_reducible refine LeO.bind ?_ (fun _ => ?_))
   | exact ih0 _ _ _ _ _ _ _
   | exact ih1 _ _ _ _ _ _ _
   | exact ih2 _ _ _ _ _ _ _
   | exact ih3 _ _ _ _ _ _ _ _
   | exact impl_EditsBy.mono _ _ _
   | exact impl_EqualDocuments.mono _ _ _
   | exact impl_LostWith.mono _ _ _ _
   | exact impl_NodeOf.mono _ _ _
   | exact impl_RunEdits.mono _ _ _
   | exact impl_TakeBack.mono _ _ _ _
   | exact impl_Touched.mono _ _ _
   | exact impl_WithoutBy.mono _ _ _
   | exact impl_Worlds.mono _ _
   | exact laws_contains.mono _ _ _
   | exact spec_DrawTakeBack.mono _ _
   | exact LeO.none _
   | refine LeO.ite ?_ ?_
   | refine LeO.bind ?_ (fun _ => ?_)
theorem laws_FnTakenBack.mono : ∀ a0 k, LeO (laws_FnTakenBack.f k a0) (laws_FnTakenBack.f (k + 1) a0) := by
 intro a0 k
 obtain ⟨ih0, ih1, ih2, ih3⟩ := laws_FnTakenBack.mono_l k
 unfold laws_FnTakenBack.f
 repeat' first
   | (with_reducible exact ih0 _ _ _ _ _ _ _)
   | (with_reducible exact ih1 _ _ _ _ _ _ _)
   | (with_reducible exact ih2 _ _ _ _ _ _ _)
   | (with_reducible exact ih3 _ _ _ _ _ _ _ _)
   | (with_reducible exact impl_EditsBy.mono _ _ _)
   | (with_reducible exact impl_EqualDocuments.mono _ _ _)
   | (with_reducible exact impl_LostWith.mono _ _ _ _)
   | (with_reducible exact impl_NodeOf.mono _ _ _)
   | (with_reducible exact impl_RunEdits.mono _ _ _)
   | (with_reducible exact impl_TakeBack.mono _ _ _ _)
   | (with_reducible exact impl_Touched.mono _ _ _)
   | (with_reducible exact impl_WithoutBy.mono _ _ _)
   | (with_reducible exact impl_Worlds.mono _ _)
   | (with_reducible exact laws_contains.mono _ _ _)
   | (with_reducible exact spec_DrawTakeBack.mono _ _)
   | (with_reducible exact LeO.refl _)
   | (with_reducible exact LeO.none _)
   | (with_reducible refine LeO.ite ?_ ?_)
   | (with_reducible refine LeO.bind ?_ (fun _ => ?_))
   | exact ih0 _ _ _ _ _ _ _
   | exact ih1 _ _ _ _ _ _ _
   | exact ih2 _ _ _ _ _ _ _
   | exact ih3 _ _ _ _ _ _ _ _
   | exact impl_EditsBy.mono _ _ _
   | exact impl_EqualDocuments.mono _ _ _
   | exact impl_LostWith.mono _ _ _ _
   | exact impl_NodeOf.mono _ _ _
   | exact impl_RunEdits.mono _ _ _
   | exact impl_TakeBack.mono _ _ _ _
   | exact impl_Touched.mono _ _ _
   | exact impl_WithoutBy.mono _ _ _
   | exact impl_Worlds.mono _ _
   | exact laws_contains.mono _ _ _
   | exact spec_DrawTakeBack.mono _ _
   | exact LeO.none _
   | refine LeO.ite ?_ ?_
   | refine LeO.bind ?_ (fun _ => ?_)
def laws_FnTakenBack.T17 : Bool × List (List Nat × List Nat) := (true, [([], []), ([], []), ([], []), ([1, 2], [1, 2]), ([3], [3]), ([0, 4], [0, 4]), ([5], [5]), ([6, 5], [6]), ([7], [7]), ([7], [7]), ([8, 9, 7, 7], [7, 8, 9]), ([7], [7]), ([7], [7]), ([11, 12, 7], [7, 11, 12]), ([13, 7], [7, 13]), ([10, 14, 10, 7], [7, 10, 14]), ([15, 7], [7, 15]), ([7, 16], [7, 16])])
def laws_FnTakenBack.B17 : List Nat := [0, 0, 0, 6, 14, 31, 63, 127, 255, 255, 1023, 255, 255, 6399, 14591, 32767, 65535, 131071]
theorem laws_FnTakenBack.tab17 : rtab .any (opsOf Try.f13 17) = laws_FnTakenBack.T17 := by kernel_rfl
theorem laws_FnTakenBack.bits17 : waitsOk laws_FnTakenBack.T17.2 laws_FnTakenBack.B17 = true := by kernel_rfl
set_option maxHeartbeats 8000000 in
set_option maxRecDepth 100000 in
theorem laws_FnTakenBack.calls (k : Nat) (A0 : Option Addr) (c0 : Nat) (l0 : List Int) (r : Bool) (w : World) (hr0 : Kd.C (Kd.int .u8) w A0 l0.length l0) (hc0 : l0.length ≤ c0) (h : laws_FnTakenBack.f k l0 = some r) :
  Calls Try.prog 13 #[.slice A0 l0.length c0] w fun e w' => e = .returned (.bool r) ∧ Below w.heap.size w w' := by
 have HR0 := am hr0
 have HC0 := am hc0
 clear hr0 hc0
 have HB := am (Below.refl w.heap.size w)
 have H : ((laws_big.f l0).bind fun t322 => (if t322 = true then (some true) else ((spec_DrawTakeBack.f k l0).bind fun bt323 => ((impl_TakeBack.f k bt323.1 bt323.2.1 bt323.2.2).bind fun t330 => ((impl_EditsBy.f k bt323.2.1 bt323.2.2).bind fun t333 => ((impl_WithoutBy.f k bt323.2.1 bt323.2.2).bind fun t336 => (if (wrap64 ((t333.length : Int) + (t336.length : Int))) = (bt323.2.1.length : Int) then ((impl_EditsBy.f k t336 bt323.2.2).bind fun t339 => (if (t339.length : Int) > 0 then (laws_FnTakenBack.j0 k bt323.1 bt323.2.1 bt323.2.2 t330 t333 t336 true) else ((impl_RunEdits.f k bt323.1 t336).bind fun t342 => ((impl_EqualDocuments.f k t330 t342).bind fun t345 => (laws_FnTakenBack.j0 k bt323.1 bt323.2.1 bt323.2.2 t330 t333 t336 (!t345)))))) else (laws_FnTakenBack.j0 k bt323.1 bt323.2.1 bt323.2.2 t330 t333 t336 true)))))))) = some r := h
 clear h
 replace H := Option.bind_eq_some_iff.mp H
 obtain ⟨t322, A20, H⟩ := H
 replace H : (if t322 = true then (some true) else ((spec_DrawTakeBack.f k l0).bind fun bt323 => ((impl_TakeBack.f k bt323.1 bt323.2.1 bt323.2.2).bind fun t330 => ((impl_EditsBy.f k bt323.2.1 bt323.2.2).bind fun t333 => ((impl_WithoutBy.f k bt323.2.1 bt323.2.2).bind fun t336 => (if (wrap64 ((t333.length : Int) + (t336.length : Int))) = (bt323.2.1.length : Int) then ((impl_EditsBy.f k t336 bt323.2.2).bind fun t339 => (if (t339.length : Int) > 0 then (laws_FnTakenBack.j0 k bt323.1 bt323.2.1 bt323.2.2 t330 t333 t336 true) else ((impl_RunEdits.f k bt323.1 t336).bind fun t342 => ((impl_EqualDocuments.f k t330 t342).bind fun t345 => (laws_FnTakenBack.j0 k bt323.1 bt323.2.1 bt323.2.2 t330 t333 t336 (!t345)))))) else (laws_FnTakenBack.j0 k bt323.1 bt323.2.1 bt323.2.2 t330 t333 t336 true))))))) = some r := H
 have A2 := am A20
 clear A20
 by_cases c3 : t322 = true
 ·subst c3
  have H1 : (some true) = some r := by rw [if_pos rfl] at H; exact H
  clear H
  have H := H1
  clear H1
  obtain rfl := Option.some.inj H
  go_enter Try.func13, Try.ntmps13
  go_wp2_with (first | ((with_reducible refine gate_callee (f := 37) rfl ?_); refine goesL_ (some 12) rfl rfl Try.func37 (by kernel_rfl) rfl #[.slice A0 l0.length c0] rfl mU ?_; (with_reducible refine (laws_big.calls _ _ l0 true _ ?side1 ?side2 A2.out).mono ?_); (case side1 => exact cU HR0.out); (case side2 => exact HC0.out); rintro e w' ⟨rfl, ⟨nd, rfl⟩⟩; refine ⟨_, rfl, ?_⟩))
  go_ret
  exact ⟨eU, bU HB.out⟩
 ·replace c3 := Bool.eq_false_iff.mpr c3
  subst c3
  have H1 : ((spec_DrawTakeBack.f k l0).bind fun bt323 => ((impl_TakeBack.f k bt323.1 bt323.2.1 bt323.2.2).bind fun t330 => ((impl_EditsBy.f k bt323.2.1 bt323.2.2).bind fun t333 => ((impl_WithoutBy.f k bt323.2.1 bt323.2.2).bind fun t336 => (if (wrap64 ((t333.length : Int) + (t336.length : Int))) = (bt323.2.1.length : Int) then ((impl_EditsBy.f k t336 bt323.2.2).bind fun t339 => (if (t339.length : Int) > 0 then (laws_FnTakenBack.j0 k bt323.1 bt323.2.1 bt323.2.2 t330 t333 t336 true) else ((impl_RunEdits.f k bt323.1 t336).bind fun t342 => ((impl_EqualDocuments.f k t330 t342).bind fun t345 => (laws_FnTakenBack.j0 k bt323.1 bt323.2.1 bt323.2.2 t330 t333 t336 (!t345)))))) else (laws_FnTakenBack.j0 k bt323.1 bt323.2.1 bt323.2.2 t330 t333 t336 true)))))) = some r := by rw [if_neg (show ¬ (false = true) by decide)] at H; exact H
  clear H
  have H := H1
  clear H1
  replace H := Option.bind_eq_some_iff.mp H
  obtain ⟨⟨t323, t324, t325⟩, A40, H⟩ := H
  replace H : ((impl_TakeBack.f k t323 t324 t325).bind fun t330 => ((impl_EditsBy.f k t324 t325).bind fun t333 => ((impl_WithoutBy.f k t324 t325).bind fun t336 => (if (wrap64 ((t333.length : Int) + (t336.length : Int))) = (t324.length : Int) then ((impl_EditsBy.f k t336 t325).bind fun t339 => (if (t339.length : Int) > 0 then (laws_FnTakenBack.j0 k t323 t324 t325 t330 t333 t336 true) else ((impl_RunEdits.f k t323 t336).bind fun t342 => ((impl_EqualDocuments.f k t330 t342).bind fun t345 => (laws_FnTakenBack.j0 k t323 t324 t325 t330 t333 t336 (!t345)))))) else (laws_FnTakenBack.j0 k t323 t324 t325 t330 t333 t336 true))))) = some r := H
  have A4 := am A40
  clear A40
  replace H := Option.bind_eq_some_iff.mp H
  obtain ⟨t330, A50, H⟩ := H
  replace H : ((impl_EditsBy.f k t324 t325).bind fun t333 => ((impl_WithoutBy.f k t324 t325).bind fun t336 => (if (wrap64 ((t333.length : Int) + (t336.length : Int))) = (t324.length : Int) then ((impl_EditsBy.f k t336 t325).bind fun t339 => (if (t339.length : Int) > 0 then (laws_FnTakenBack.j0 k t323 t324 t325 t330 t333 t336 true) else ((impl_RunEdits.f k t323 t336).bind fun t342 => ((impl_EqualDocuments.f k t330 t342).bind fun t345 => (laws_FnTakenBack.j0 k t323 t324 t325 t330 t333 t336 (!t345)))))) else (laws_FnTakenBack.j0 k t323 t324 t325 t330 t333 t336 true)))) = some r := H
  have A5 := am A50
  clear A50
  replace H := Option.bind_eq_some_iff.mp H
  obtain ⟨t333, A60, H⟩ := H
  replace H : ((impl_WithoutBy.f k t324 t325).bind fun t336 => (if (wrap64 ((t333.length : Int) + (t336.length : Int))) = (t324.length : Int) then ((impl_EditsBy.f k t336 t325).bind fun t339 => (if (t339.length : Int) > 0 then (laws_FnTakenBack.j0 k t323 t324 t325 t330 t333 t336 true) else ((impl_RunEdits.f k t323 t336).bind fun t342 => ((impl_EqualDocuments.f k t330 t342).bind fun t345 => (laws_FnTakenBack.j0 k t323 t324 t325 t330 t333 t336 (!t345)))))) else (laws_FnTakenBack.j0 k t323 t324 t325 t330 t333 t336 true))) = some r := H
  have A6 := am A60
  clear A60
  replace H := Option.bind_eq_some_iff.mp H
  obtain ⟨t336, A70, H⟩ := H
  replace H : (if (wrap64 ((t333.length : Int) + (t336.length : Int))) = (t324.length : Int) then ((impl_EditsBy.f k t336 t325).bind fun t339 => (if (t339.length : Int) > 0 then (laws_FnTakenBack.j0 k t323 t324 t325 t330 t333 t336 true) else ((impl_RunEdits.f k t323 t336).bind fun t342 => ((impl_EqualDocuments.f k t330 t342).bind fun t345 => (laws_FnTakenBack.j0 k t323 t324 t325 t330 t333 t336 (!t345)))))) else (laws_FnTakenBack.j0 k t323 t324 t325 t330 t333 t336 true)) = some r := H
  have A7 := am A70
  clear A70
  have HC8 := am H
  clear H
  go_enter Try.func13, Try.ntmps13
  go_upto_region 7 with (first | ((with_reducible refine gate_callee (f := 37) rfl ?_); refine goesL_ (some 12) rfl rfl Try.func37 (by kernel_rfl) rfl #[.slice A0 l0.length c0] rfl mU ?_; (with_reducible refine (laws_big.calls _ _ l0 false _ ?side1 ?side2 A2.out).mono ?_); (case side1 => exact cU HR0.out); (case side2 => exact HC0.out); rintro e w' ⟨rfl, ⟨nd, rfl⟩⟩; refine ⟨_, rfl, ?_⟩) | ((with_reducible refine gate_callee (f := 61) rfl ?_); refine goesL_ (some 15) rfl rfl Try.func61 (by kernel_rfl) rfl #[.slice A0 l0.length c0] rfl mU ?_; (with_reducible refine (spec_DrawTakeBack.calls k _ _ l0 t323 t324 t325 _ ?side1 ?side2 A4.out).mono ?_); (case side1 => exact cU HR0.out); (case side2 => exact HC0.out); rintro e w9 ⟨v326, v328, rfl, ho0, ho1, hb⟩; refine ⟨_, rfl, ?_⟩; have n0_ := am (Kd.R_lower ho0 (below_size (bU HB.out))); have n1_ := am (Kd.R_lower ho1 (below_size (bU HB.out))); have n2_ := am (below_step (bU HB.out) hb); clear HB; have HO327 := n0_; have HO329 := n1_; have HB := n2_; clear n0_ n1_ n2_; (try clear hb); (try clear hb2); (try clear hk); (try clear hi); (try clear ho0); (try clear ho1); obtain ⟨Ao10, co10, eo10⟩ := Kd.R_slice HO327.out; subst eo10; obtain ⟨Ao11, co11, eo11⟩ := Kd.R_slice HO329.out; subst eo11) | ((with_reducible refine gate_callee (f := 29) rfl ?_); refine goesL_ (some 22) rfl rfl Try.func29 (by kernel_rfl) rfl #[.slice Ao10 t323.length co10, .slice Ao11 t324.length co11, .int .i64 t325] rfl mU ?_; (with_reducible refine (impl_TakeBack.calls k _ _ t323 _ _ t324 t325 t330 _ ?side1 ?side2 ?side3 ?side4 A5.out).mono ?_); (case side1 => exact cU (Kd.R_reads' HO327.out).2.2); (case side2 => exact (Kd.R_reads' HO327.out).2.1); (case side3 => exact cU (Kd.R_reads' HO329.out).2.2); (case side4 => exact (Kd.R_reads' HO329.out).2.1); rintro e w12 ⟨v331, rfl, ho0, hb⟩; refine ⟨_, rfl, ?_⟩; have n0_ := am (Kd.R_elder' (rU HO327.out) (Kd.R_base ho0) hb); have n1_ := am (Kd.R_below (rU HO329.out) hb); have n2_ := am (Kd.R_lower (Kd.R_new' ho0 (Kd.R_lt (rU HO327.out))) (below_size (bU HB.out))); have n3_ := am (below_step (bU HB.out) hb); clear HO327; clear HO329; clear HB; have HO327 := n0_; have HO329 := n1_; have HO332 := n2_; have HB := n3_; clear n0_ n1_ n2_ n3_; (try clear hb); (try clear hb2); (try clear hk); (try clear hi); (try clear ho0)) | ((with_reducible refine gate_callee (f := 62) rfl ?_); refine goesL_ (some 25) rfl rfl Try.func62 (by kernel_rfl) rfl #[.slice Ao11 t324.length co11, .int .i64 t325] rfl mU ?_; (with_reducible refine (impl_EditsBy.calls k _ _ t324 t325 t333 _ ?side1 ?side2 A6.out).mono ?_); (case side1 => exact cU (Kd.R_reads' HO329.out).2.2); (case side2 => exact (Kd.R_reads' HO329.out).2.1); rintro e w13 ⟨v334, rfl, ho0, hb⟩; refine ⟨_, rfl, ?_⟩; have n0_ := am (Kd.R_below (rU HO327.out) hb); have n1_ := am (Kd.R_elder' (rU HO329.out) (Kd.R_base ho0) hb); have n2_ := am (Kd.R_below (rU HO332.out) hb); have n3_ := am (Kd.R_lower (Kd.R_new' ho0 (Kd.R_lt (rU HO329.out))) (below_size (bU HB.out))); have n4_ := am (below_step (bU HB.out) hb); clear HO327; clear HO329; clear HO332; clear HB; have HO327 := n0_; have HO329 := n1_; have HO332 := n2_; have HO335 := n3_; have HB := n4_; clear n0_ n1_ n2_ n3_ n4_; (try clear hb); (try clear hb2); (try clear hk); (try clear hi); (try clear ho0)) | ((with_reducible refine gate_callee (f := 63) rfl ?_); refine goesL_ (some 28) rfl rfl Try.func63 (by kernel_rfl) rfl #[.slice Ao11 t324.length co11, .int .i64 t325] rfl mU ?_; (with_reducible refine (impl_WithoutBy.calls k _ _ t324 t325 t336 _ ?side1 ?side2 A7.out).mono ?_); (case side1 => exact cU (Kd.R_reads' HO329.out).2.2); (case side2 => exact (Kd.R_reads' HO329.out).2.1); rintro e w14 ⟨v337, rfl, ho0, hb⟩; refine ⟨_, rfl, ?_⟩; have n0_ := am (Kd.R_below (rU HO327.out) hb); have n1_ := am (Kd.R_elder' (rU HO329.out) (Kd.R_base ho0) hb); have n2_ := am (Kd.R_below (rU HO332.out) hb); have n3_ := am (Kd.R_elder' (rU HO335.out) (Kd.R_base ho0) hb); have n4_ := am (Kd.R_lower (Kd.R_new' (Kd.R_new' ho0 (Kd.R_lt (rU HO329.out))) (Kd.R_lt (rU HO335.out))) (below_size (bU HB.out))); have n5_ := am (below_step (bU HB.out) hb); clear HO327; clear HO329; clear HO332; clear HO335; clear HB; have HO327 := n0_; have HO329 := n1_; have HO332 := n2_; have HO335 := n3_; have HO338 := n4_; have HB := n5_; clear n0_ n1_ n2_ n3_ n4_ n5_; (try clear hb); (try clear hb2); (try clear hk); (try clear hi); (try clear ho0)))
  (try simp only [Act.put, List.setIfInBounds_toArray, List.set_cons_zero, List.set_cons_succ])
  go_cut [51] (fun v51 wc => ∃ (kq : Nat) (x51_7 : Bool), v51 = .bool x51_7 ∧ Aside0 (laws_FnTakenBack.j0 kq t323 t324 t325 t330 t333 t336 x51_7 = some r) ∧ Aside0 (kq ≤ k) ∧ Aside0 (Kd.R k59 59 wc w.heap.size (fun k_ => some k_ ≠ (v331 : Value).ownBlock) (.slice Ao10 t323.length co10) t323) ∧ Aside0 (Kd.R k30 30 wc w.heap.size (fun k_ => some k_ ≠ (v334 : Value).ownBlock ∧ some k_ ≠ (v337 : Value).ownBlock) (.slice Ao11 t324.length co11) t324) ∧ Aside0 (Kd.R k59 59 wc w.heap.size (fun k_ => some k_ ≠ ((.slice Ao10 t323.length co10) : Value).ownBlock) v331 t330) ∧ Aside0 (Kd.R k30 30 wc w.heap.size (fun k_ => some k_ ≠ ((.slice Ao11 t324.length co11) : Value).ownBlock ∧ some k_ ≠ (v337 : Value).ownBlock) v334 t333) ∧ Aside0 (Kd.R k30 30 wc w.heap.size (fun k_ => some k_ ≠ ((.slice Ao11 t324.length co11) : Value).ownBlock ∧ some k_ ≠ (v334 : Value).ownBlock) v337 t336) ∧ Aside0 (Below w.heap.size w wc))
  case first =>
   have H := HC8.out
   clear HC8
   by_cases c15 : (wrap64 ((t333.length : Int) + (t336.length : Int))) = (t324.length : Int)
   ·rw [if_pos c15] at H
    have c15b0 : ((wrap64 ((t333.length : Int) + (t336.length : Int))) == (t324.length : Int)) = true := beq_iff_eq.mpr c15
    have c15b1 : ((wrap64 ((t333.length : Int) + (t336.length : Int))) != (t324.length : Int)) = false := bne_eq_false_iff_eq.mpr c15
    clear c15
    (first | rw [c15b0] | (simp only [i64_w, i32_w]; rw [c15b0]) | skip)
    replace H := Option.bind_eq_some_iff.mp H
    obtain ⟨t339, A160, H⟩ := H
    replace H : (if (t339.length : Int) > 0 then (laws_FnTakenBack.j0 k t323 t324 t325 t330 t333 t336 true) else ((impl_RunEdits.f k t323 t336).bind fun t342 => ((impl_EqualDocuments.f k t330 t342).bind fun t345 => (laws_FnTakenBack.j0 k t323 t324 t325 t330 t333 t336 (!t345))))) = some r := H
    have A16 := am A160
    clear A160
    by_cases c17 : (t339.length : Int) > 0
    ·rw [if_pos c17] at H
     have c17b0 : decide (0 < (t339.length : Int)) = true := decide_eq_true c17
     have c17b1 : decide (0 < t339.length) = true := decide_eq_true (by omega)
     clear c17
     have H' := am H
     clear H
     obtain ⟨Ao18, co18, eo18⟩ := Kd.R_slice HO335.out
     subst eo18
     obtain ⟨Ao19, co19, eo19⟩ := Kd.R_slice HO338.out
     subst eo19
     go_wp2_with (first | (go_at_call 62; (with_reducible refine (impl_EditsBy.calls k _ _ t336 t325 t339 _ ?side1 ?side2 A16.out).mono ?_); (case side1 => exact cU (Kd.R_reads' HO338.out).2.2); (case side2 => exact (Kd.R_reads' HO338.out).2.1); rintro e w20 ⟨v340, rfl, ho0, hb⟩; have n0_ := am (Kd.R_below (rU HO327.out) hb); have n1_ := am (Kd.R_elder' (rU HO329.out) (Kd.R_base ho0) hb); have n2_ := am (Kd.R_below (rU HO332.out) hb); have n3_ := am (Kd.R_elder' (rU HO335.out) (Kd.R_base ho0) hb); have n4_ := am (Kd.R_elder' (rU HO338.out) (Kd.R_base ho0) hb); have n5_ := am (Kd.R_lower (Kd.R_new' (Kd.R_new' (Kd.R_new' ho0 (Kd.R_lt (rU HO329.out))) (Kd.R_lt (rU HO335.out))) (Kd.R_lt (rU HO338.out))) (below_size (bU HB.out))); have n6_ := am (below_step (bU HB.out) hb); clear HO327; clear HO329; clear HO332; clear HO335; clear HO338; clear HB; have HO327 := n0_; have HO329 := n1_; have HO332 := n2_; have HO335 := n3_; have HO338 := n4_; have HO341 := n5_; have HB := n6_; clear n0_ n1_ n2_ n3_ n4_ n5_ n6_; (try clear hb); (try clear hb2); (try clear hk); (try clear hi); (try clear ho0); obtain ⟨Ao21, co21, eo21⟩ := Kd.R_slice HO341.out; subst eo21))
     go_meet
     case rel => exact ⟨_, (true), (by first | rfl | (simp; done) | (simp [*]; done)), H', ⟨by first | omega | exact Nat.le_refl _⟩, ⟨by (with_reducible repeat (first | apply Kd.R_alloc | apply Kd.R_drewN | apply Kd.R_drew)); exact Kd.R_mono HO327.out (fun _ hk => hk.2)⟩, ⟨by (with_reducible repeat (first | apply Kd.R_alloc | apply Kd.R_drewN | apply Kd.R_drew)); exact Kd.R_mono HO329.out (fun _ hk => ⟨hk.1.1.2, hk.1.2⟩)⟩, ⟨by (with_reducible repeat (first | apply Kd.R_alloc | apply Kd.R_drewN | apply Kd.R_drew)); exact Kd.R_mono HO332.out (fun _ hk => hk.2)⟩, ⟨by (with_reducible repeat (first | apply Kd.R_alloc | apply Kd.R_drewN | apply Kd.R_drew)); exact Kd.R_mono HO335.out (fun _ hk => ⟨hk.1.1.2, hk.1.2⟩)⟩, ⟨by (with_reducible repeat (first | apply Kd.R_alloc | apply Kd.R_drewN | apply Kd.R_drew)); exact Kd.R_mono HO338.out (fun _ hk => ⟨hk.1.1.2, hk.1.2⟩)⟩, ⟨bU HB.out⟩⟩
    ·rw [if_neg c17] at H
     have c17b0 : decide (0 < (t339.length : Int)) = false := decide_eq_false c17
     have c17b1 : decide (0 < t339.length) = false := decide_eq_false (by omega)
     clear c17
     replace H := Option.bind_eq_some_iff.mp H
     obtain ⟨t342, A220, H⟩ := H
     replace H : ((impl_EqualDocuments.f k t330 t342).bind fun t345 => (laws_FnTakenBack.j0 k t323 t324 t325 t330 t333 t336 (!t345))) = some r := H
     have A22 := am A220
     clear A220
     replace H := Option.bind_eq_some_iff.mp H
     obtain ⟨t345, A230, H⟩ := H
     replace H : (laws_FnTakenBack.j0 k t323 t324 t325 t330 t333 t336 (!t345)) = some r := H
     have A23 := am A230
     clear A230
     have H' := am H
     clear H
     obtain ⟨Ao24, co24, eo24⟩ := Kd.R_slice HO335.out
     subst eo24
     obtain ⟨Ao25, co25, eo25⟩ := Kd.R_slice HO338.out
     subst eo25
     go_wp2_with (first | (go_at_call 62; (with_reducible refine (impl_EditsBy.calls k _ _ t336 t325 t339 _ ?side1 ?side2 A16.out).mono ?_); (case side1 => exact cU (Kd.R_reads' HO338.out).2.2); (case side2 => exact (Kd.R_reads' HO338.out).2.1); rintro e w26 ⟨v340, rfl, ho0, hb⟩; have n0_ := am (Kd.R_below (rU HO327.out) hb); have n1_ := am (Kd.R_elder' (rU HO329.out) (Kd.R_base ho0) hb); have n2_ := am (Kd.R_below (rU HO332.out) hb); have n3_ := am (Kd.R_elder' (rU HO335.out) (Kd.R_base ho0) hb); have n4_ := am (Kd.R_elder' (rU HO338.out) (Kd.R_base ho0) hb); have n5_ := am (Kd.R_lower (Kd.R_new' (Kd.R_new' (Kd.R_new' ho0 (Kd.R_lt (rU HO329.out))) (Kd.R_lt (rU HO335.out))) (Kd.R_lt (rU HO338.out))) (below_size (bU HB.out))); have n6_ := am (below_step (bU HB.out) hb); clear HO327; clear HO329; clear HO332; clear HO335; clear HO338; clear HB; have HO327 := n0_; have HO329 := n1_; have HO332 := n2_; have HO335 := n3_; have HO338 := n4_; have HO341 := n5_; have HB := n6_; clear n0_ n1_ n2_ n3_ n4_ n5_ n6_; (try clear hb); (try clear hb2); (try clear hk); (try clear hi); (try clear ho0); obtain ⟨Ao27, co27, eo27⟩ := Kd.R_slice HO341.out; subst eo27) | (go_at_call 25; (with_reducible refine (impl_RunEdits.calls k _ _ t323 _ _ t336 t342 _ ?side1 ?side2 ?side3 ?side4 A22.out).mono ?_); (case side1 => exact cU (Kd.R_reads' HO327.out).2.2); (case side2 => exact (Kd.R_reads' HO327.out).2.1); (case side3 => exact cU (Kd.R_reads' HO338.out).2.2); (case side4 => exact (Kd.R_reads' HO338.out).2.1); rintro e w28 ⟨v343, rfl, ho0, hb⟩; have n0_ := am (Kd.R_elder' (rU HO327.out) (Kd.R_base ho0) hb); have n1_ := am (Kd.R_below (rU HO329.out) hb); have n2_ := am (Kd.R_elder' (rU HO332.out) (Kd.R_base ho0) hb); have n3_ := am (Kd.R_below (rU HO335.out) hb); have n4_ := am (Kd.R_below (rU HO338.out) hb); have n5_ := am (Kd.R_below (rU HO341.out) hb); have n6_ := am (Kd.R_lower (Kd.R_new' (Kd.R_new' ho0 (Kd.R_lt (rU HO327.out))) (Kd.R_lt (rU HO332.out))) (below_size (bU HB.out))); have n7_ := am (below_step (bU HB.out) hb); clear HO327; clear HO329; clear HO332; clear HO335; clear HO338; clear HO341; clear HB; have HO327 := n0_; have HO329 := n1_; have HO332 := n2_; have HO335 := n3_; have HO338 := n4_; have HO341 := n5_; have HO344 := n6_; have HB := n7_; clear n0_ n1_ n2_ n3_ n4_ n5_ n6_ n7_; (try clear hb); (try clear hb2); (try clear hk); (try clear hi); (try clear ho0); obtain ⟨Ao29, co29, eo29⟩ := Kd.R_slice HO332.out; subst eo29; obtain ⟨Ao30, co30, eo30⟩ := Kd.R_slice HO344.out; subst eo30) | (go_at_call 46; (with_reducible refine (impl_EqualDocuments.calls k _ _ t330 _ _ t342 t345 _ ?side1 ?side2 ?side3 ?side4 A23.out).mono ?_); (case side1 => exact cU (Kd.R_reads' HO332.out).2.2); (case side2 => exact (Kd.R_reads' HO332.out).2.1); (case side3 => exact cU (Kd.R_reads' HO344.out).2.2); (case side4 => exact (Kd.R_reads' HO344.out).2.1); rintro e w' ⟨rfl, ⟨nd, rfl⟩⟩))
     go_meet
     case rel => exact ⟨_, (!t345), (by first | rfl | (simp; done) | (simp [*]; done)), H', ⟨by first | omega | exact Nat.le_refl _⟩, ⟨by (with_reducible repeat (first | apply Kd.R_alloc | apply Kd.R_drewN | apply Kd.R_drew)); exact Kd.R_mono HO327.out (fun _ hk => hk.1.2)⟩, ⟨by (with_reducible repeat (first | apply Kd.R_alloc | apply Kd.R_drewN | apply Kd.R_drew)); exact Kd.R_mono HO329.out (fun _ hk => ⟨hk.1.1.2, hk.1.2⟩)⟩, ⟨by (with_reducible repeat (first | apply Kd.R_alloc | apply Kd.R_drewN | apply Kd.R_drew)); exact Kd.R_mono HO332.out (fun _ hk => hk.1.2)⟩, ⟨by (with_reducible repeat (first | apply Kd.R_alloc | apply Kd.R_drewN | apply Kd.R_drew)); exact Kd.R_mono HO335.out (fun _ hk => ⟨hk.1.1.2, hk.1.2⟩)⟩, ⟨by (with_reducible repeat (first | apply Kd.R_alloc | apply Kd.R_drewN | apply Kd.R_drew)); exact Kd.R_mono HO338.out (fun _ hk => ⟨hk.1.1.2, hk.1.2⟩)⟩, ⟨bU HB.out⟩⟩
   ·rw [if_neg c15] at H
    have c15b0 : ((wrap64 ((t333.length : Int) + (t336.length : Int))) == (t324.length : Int)) = false := beq_eq_false_iff_ne.mpr c15
    have c15b1 : ((wrap64 ((t333.length : Int) + (t336.length : Int))) != (t324.length : Int)) = true := bne_iff_ne.mpr c15
    (first | rw [c15b0] | (simp only [i64_w, i32_w]; rw [c15b0]) | skip)
    have H' := am H
    clear H
    obtain ⟨Ao31, co31, eo31⟩ := Kd.R_slice HO335.out
    subst eo31
    obtain ⟨Ao32, co32, eo32⟩ := Kd.R_slice HO338.out
    subst eo32
    go_wp2
    go_meet
    case rel => exact ⟨_, (true), (by first | rfl | (simp; done) | (simp [*]; done)), H', ⟨by first | omega | exact Nat.le_refl _⟩, ⟨by (with_reducible repeat (first | apply Kd.R_alloc | apply Kd.R_drewN | apply Kd.R_drew)); exact Kd.R_mono HO327.out (fun _ hk => hk.2)⟩, ⟨by (with_reducible repeat (first | apply Kd.R_alloc | apply Kd.R_drewN | apply Kd.R_drew)); exact Kd.R_mono HO329.out (fun _ hk => ⟨hk.1.2, hk.2⟩)⟩, ⟨by (with_reducible repeat (first | apply Kd.R_alloc | apply Kd.R_drewN | apply Kd.R_drew)); exact Kd.R_mono HO332.out (fun _ hk => hk.2)⟩, ⟨by (with_reducible repeat (first | apply Kd.R_alloc | apply Kd.R_drewN | apply Kd.R_drew)); exact Kd.R_mono HO335.out (fun _ hk => ⟨hk.1.2, hk.2⟩)⟩, ⟨by (with_reducible repeat (first | apply Kd.R_alloc | apply Kd.R_drewN | apply Kd.R_drew)); exact Kd.R_mono HO338.out (fun _ hk => ⟨hk.1.2, hk.2⟩)⟩, ⟨bU HB.out⟩⟩
  case rest =>
   clear HC8
   try clear c1
   try clear c2
   try clear p2
   try clear c3
   try clear c6
   try clear p6
   try clear c13
   try clear c15
   try clear c15b0
   try clear c15b1
   try clear c17
   try clear c17b0
   try clear c17b1
   try clear c29
   obtain ⟨kq, x51_7, rfl, HA, HJ7, HO_3, HO_4, HO_6, HO_7, HO_8, HB⟩ := hcut
   cases kq with
   | zero => exact absurd HA.out (by simp [laws_FnTakenBack.j0])
   | succ kj7 =>
    have H := HA.out
    clear HA
    simp only [laws_FnTakenBack.j0] at H
    by_cases c33 : x51_7 = true
    ·subst c33
     have H1 : (some false) = some r := by rw [if_pos rfl] at H; exact H
     clear H
     have H := H1
     clear H1
     obtain rfl := Option.some.inj H
     go_wp2
     go_ret
     exact ⟨eU, bU HB.out⟩
    ·replace c33 := Bool.eq_false_iff.mpr c33
     subst c33
     have H1 : ((impl_Worlds.f kj7 t323).bind fun t346 => ((laws_contains.f kj7 t346 t325).bind fun t349 => (if t349 = true then (laws_FnTakenBack.j1 kj7 t323 t324 t325 t330 t333 t336 false) else ((impl_Worlds.f kj7 t330).bind fun t350 => ((laws_contains.f kj7 t350 t325).bind fun t353 => (laws_FnTakenBack.j1 kj7 t323 t324 t325 t330 t333 t336 t353)))))) = some r := by rw [if_neg (show ¬ (false = true) by decide)] at H; exact H
     clear H
     have H := H1
     clear H1
     have HC34 := am H
     clear H
     go_upto_region 9 with (fail)
     go_cut [62] (fun v62 wc => ∃ (kq : Nat) (x62_33 : Bool), v62 = .bool x62_33 ∧ Aside0 (laws_FnTakenBack.j1 kq t323 t324 t325 t330 t333 t336 x62_33 = some r) ∧ Aside0 (kq ≤ kj7) ∧ Aside0 (Kd.R k59 59 wc w.heap.size (fun k_ => some k_ ≠ (v331 : Value).ownBlock) (.slice Ao10 t323.length co10) t323) ∧ Aside0 (Kd.R k30 30 wc w.heap.size (fun k_ => some k_ ≠ (v334 : Value).ownBlock ∧ some k_ ≠ (v337 : Value).ownBlock) (.slice Ao11 t324.length co11) t324) ∧ Aside0 (Kd.R k59 59 wc w.heap.size (fun k_ => some k_ ≠ ((.slice Ao10 t323.length co10) : Value).ownBlock) v331 t330) ∧ Aside0 (Kd.R k30 30 wc w.heap.size (fun k_ => some k_ ≠ ((.slice Ao11 t324.length co11) : Value).ownBlock ∧ some k_ ≠ (v337 : Value).ownBlock) v334 t333) ∧ Aside0 (Kd.R k30 30 wc w.heap.size (fun k_ => some k_ ≠ ((.slice Ao11 t324.length co11) : Value).ownBlock ∧ some k_ ≠ (v334 : Value).ownBlock) v337 t336) ∧ Aside0 (Below w.heap.size w wc))
     case first =>
      have H := HC34.out
      clear HC34
      replace H := Option.bind_eq_some_iff.mp H
      obtain ⟨t346, A350, H⟩ := H
      replace H : ((laws_contains.f kj7 t346 t325).bind fun t349 => (if t349 = true then (laws_FnTakenBack.j1 kj7 t323 t324 t325 t330 t333 t336 false) else ((impl_Worlds.f kj7 t330).bind fun t350 => ((laws_contains.f kj7 t350 t325).bind fun t353 => (laws_FnTakenBack.j1 kj7 t323 t324 t325 t330 t333 t336 t353))))) = some r := H
      have A35 := am A350
      clear A350
      replace H := Option.bind_eq_some_iff.mp H
      obtain ⟨t349, A360, H⟩ := H
      replace H : (if t349 = true then (laws_FnTakenBack.j1 kj7 t323 t324 t325 t330 t333 t336 false) else ((impl_Worlds.f kj7 t330).bind fun t350 => ((laws_contains.f kj7 t350 t325).bind fun t353 => (laws_FnTakenBack.j1 kj7 t323 t324 t325 t330 t333 t336 t353)))) = some r := H
      have A36 := am A360
      clear A360
      by_cases c37 : t349 = true
      ·subst c37
       have H1 : (laws_FnTakenBack.j1 kj7 t323 t324 t325 t330 t333 t336 false) = some r := by rw [if_pos rfl] at H; exact H
       clear H
       have H := H1
       clear H1
       have H' := am H
       clear H
       go_wp2_with (first | ((with_reducible refine gate_callee (f := 55) rfl ?_); refine goesL_ (some 53) rfl rfl Try.func55 (by kernel_rfl) rfl #[.slice Ao10 t323.length co10] rfl mU ?_; (with_reducible refine (impl_Worlds.calls kj7 _ _ t323 t346 _ ?side1 ?side2 A35.out).mono ?_); (case side1 => exact cU (Kd.R_reads' HO_3.out).2.2); (case side2 => exact (Kd.R_reads' HO_3.out).2.1); rintro e w38 ⟨v347, rfl, ho0, hb⟩; refine ⟨_, rfl, ?_⟩; have n0_ := am (Kd.R_below (rU HO_3.out) hb); have n1_ := am (Kd.R_below (rU HO_4.out) hb); have n2_ := am (Kd.R_below (rU HO_6.out) hb); have n3_ := am (Kd.R_below (rU HO_7.out) hb); have n4_ := am (Kd.R_below (rU HO_8.out) hb); have n5_ := am (Kd.R_lower ho0 (below_size (bU HB.out))); have n6_ := am (below_step (bU HB.out) hb); clear HO_3; clear HO_4; clear HO_6; clear HO_7; clear HO_8; clear HB; have HO_3 := n0_; have HO_4 := n1_; have HO_6 := n2_; have HO_7 := n3_; have HO_8 := n4_; have HO348 := n5_; have HB := n6_; clear n0_ n1_ n2_ n3_ n4_ n5_ n6_; (try clear hb); (try clear hb2); (try clear hk); (try clear hi); (try clear ho0); obtain ⟨Ao39, co39, eo39⟩ := Kd.R_slice HO348.out; subst eo39) | ((with_reducible refine gate_callee (f := 41) rfl ?_); refine goesL_ (some 55) rfl rfl Try.func41 (by kernel_rfl) rfl #[.slice Ao39 t346.length co39, .int .i64 t325] rfl mU ?_; (with_reducible refine (laws_contains.calls kj7 _ _ t346 t325 true _ ?side1 ?side2 A36.out).mono ?_); (case side1 => exact cU (Kd.R_reads' HO348.out).2.2); (case side2 => exact (Kd.R_reads' HO348.out).2.1); rintro e w' ⟨rfl, ⟨nd, rfl⟩⟩; refine ⟨_, rfl, ?_⟩))
       go_meet
       case rel => exact ⟨_, (false), (by first | rfl | (simp; done) | (simp [*]; done)), H', ⟨by have := HJ7.out; first | omega | exact Nat.le_refl _⟩, ⟨rU HO_3.out⟩, ⟨rU HO_4.out⟩, ⟨rU HO_6.out⟩, ⟨rU HO_7.out⟩, ⟨rU HO_8.out⟩, ⟨bU HB.out⟩⟩
      ·replace c37 := Bool.eq_false_iff.mpr c37
       subst c37
       have H1 : ((impl_Worlds.f kj7 t330).bind fun t350 => ((laws_contains.f kj7 t350 t325).bind fun t353 => (laws_FnTakenBack.j1 kj7 t323 t324 t325 t330 t333 t336 t353))) = some r := by rw [if_neg (show ¬ (false = true) by decide)] at H; exact H
       clear H
       have H := H1
       clear H1
       replace H := Option.bind_eq_some_iff.mp H
       obtain ⟨t350, A400, H⟩ := H
       replace H : ((laws_contains.f kj7 t350 t325).bind fun t353 => (laws_FnTakenBack.j1 kj7 t323 t324 t325 t330 t333 t336 t353)) = some r := H
       have A40 := am A400
       clear A400
       replace H := Option.bind_eq_some_iff.mp H
       obtain ⟨t353, A410, H⟩ := H
       replace H : (laws_FnTakenBack.j1 kj7 t323 t324 t325 t330 t333 t336 t353) = some r := H
       have A41 := am A410
       clear A410
       have H' := am H
       clear H
       go_wp2_with (first | ((with_reducible refine gate_callee (f := 55) rfl ?_); refine goesL_ (some 53) rfl rfl Try.func55 (by kernel_rfl) rfl #[.slice Ao10 t323.length co10] rfl mU ?_; (with_reducible refine (impl_Worlds.calls kj7 _ _ t323 t346 _ ?side1 ?side2 A35.out).mono ?_); (case side1 => exact cU (Kd.R_reads' HO_3.out).2.2); (case side2 => exact (Kd.R_reads' HO_3.out).2.1); rintro e w42 ⟨v347, rfl, ho0, hb⟩; refine ⟨_, rfl, ?_⟩; have n0_ := am (Kd.R_below (rU HO_3.out) hb); have n1_ := am (Kd.R_below (rU HO_4.out) hb); have n2_ := am (Kd.R_below (rU HO_6.out) hb); have n3_ := am (Kd.R_below (rU HO_7.out) hb); have n4_ := am (Kd.R_below (rU HO_8.out) hb); have n5_ := am (Kd.R_lower ho0 (below_size (bU HB.out))); have n6_ := am (below_step (bU HB.out) hb); clear HO_3; clear HO_4; clear HO_6; clear HO_7; clear HO_8; clear HB; have HO_3 := n0_; have HO_4 := n1_; have HO_6 := n2_; have HO_7 := n3_; have HO_8 := n4_; have HO348 := n5_; have HB := n6_; clear n0_ n1_ n2_ n3_ n4_ n5_ n6_; (try clear hb); (try clear hb2); (try clear hk); (try clear hi); (try clear ho0); obtain ⟨Ao43, co43, eo43⟩ := Kd.R_slice HO348.out; subst eo43) | ((with_reducible refine gate_callee (f := 41) rfl ?_); refine goesL_ (some 55) rfl rfl Try.func41 (by kernel_rfl) rfl #[.slice Ao43 t346.length co43, .int .i64 t325] rfl mU ?_; (with_reducible refine (laws_contains.calls kj7 _ _ t346 t325 false _ ?side1 ?side2 A36.out).mono ?_); (case side1 => exact cU (Kd.R_reads' HO348.out).2.2); (case side2 => exact (Kd.R_reads' HO348.out).2.1); rintro e w' ⟨rfl, ⟨nd, rfl⟩⟩; refine ⟨_, rfl, ?_⟩; obtain ⟨Ao44, co44, eo44⟩ := Kd.R_slice HO_6.out; subst eo44) | (go_at_call 55; (with_reducible refine (impl_Worlds.calls kj7 _ _ t330 t350 _ ?side1 ?side2 A40.out).mono ?_); (case side1 => exact cU (Kd.R_reads' HO_6.out).2.2); (case side2 => exact (Kd.R_reads' HO_6.out).2.1); rintro e w45 ⟨v351, rfl, ho0, hb⟩; have n0_ := am (Kd.R_below (rU HO_3.out) hb); have n1_ := am (Kd.R_below (rU HO_4.out) hb); have n2_ := am (Kd.R_below (rU HO_6.out) hb); have n3_ := am (Kd.R_below (rU HO_7.out) hb); have n4_ := am (Kd.R_below (rU HO_8.out) hb); have n5_ := am (Kd.R_elder' (rU HO348.out) (Kd.R_base ho0) hb); have n6_ := am (Kd.R_lower (Kd.R_new' ho0 (Kd.R_lt (rU HO348.out))) (below_size (bU HB.out))); have n7_ := am (below_step (bU HB.out) hb); clear HO_3; clear HO_4; clear HO_6; clear HO_7; clear HO_8; clear HO348; clear HB; have HO_3 := n0_; have HO_4 := n1_; have HO_6 := n2_; have HO_7 := n3_; have HO_8 := n4_; have HO348 := n5_; have HO352 := n6_; have HB := n7_; clear n0_ n1_ n2_ n3_ n4_ n5_ n6_ n7_; (try clear hb); (try clear hb2); (try clear hk); (try clear hi); (try clear ho0); obtain ⟨Ao46, co46, eo46⟩ := Kd.R_slice HO352.out; subst eo46) | (go_at_call 41; (with_reducible refine (laws_contains.calls kj7 _ _ t350 t325 t353 _ ?side1 ?side2 A41.out).mono ?_); (case side1 => exact cU (Kd.R_reads' HO352.out).2.2); (case side2 => exact (Kd.R_reads' HO352.out).2.1); rintro e w' ⟨rfl, ⟨nd, rfl⟩⟩))
       go_meet
       case rel => exact ⟨_, (t353), (by first | rfl | (simp; done) | (simp [*]; done)), H', ⟨by have := HJ7.out; first | omega | exact Nat.le_refl _⟩, ⟨rU HO_3.out⟩, ⟨rU HO_4.out⟩, ⟨rU HO_6.out⟩, ⟨rU HO_7.out⟩, ⟨rU HO_8.out⟩, ⟨bU HB.out⟩⟩
     case rest =>
      clear HC34
      try clear c1
      try clear c2
      try clear p2
      try clear c3
      try clear c4
      try clear c5
      try clear c6
      try clear p6
      try clear c13
      try clear c15
      try clear c15b0
      try clear c15b1
      try clear c17
      try clear c17b0
      try clear c17b1
      try clear c29
      try clear c33
      try clear c37
      try clear c41
      try clear p2
      try clear p6
      obtain ⟨kq, x62_33, rfl, HA, HJ33, HO_3, HO_4, HO_6, HO_7, HO_8, HB⟩ := hcut
      cases kq with
      | zero => exact absurd HA.out (by simp [laws_FnTakenBack.j1])
      | succ kj33 =>
       have H := HA.out
       clear HA
       simp only [laws_FnTakenBack.j1] at H
       by_cases c47 : x62_33 = true
       ·subst c47
        have H1 : (some false) = some r := by rw [if_pos rfl] at H; exact H
        clear H
        have H := H1
        clear H1
        obtain rfl := Option.some.inj H
        go_wp2
        go_ret
        exact ⟨eU, bU HB.out⟩
       ·replace c47 := Bool.eq_false_iff.mpr c47
        subst c47
        have H1 : (if (t333.length : Int) = 0 then ((impl_RunEdits.f kj33 t323 t324).bind fun t354 => ((impl_EqualDocuments.f kj33 t330 t354).bind fun t357 => (if t357 = true then ((impl_LostWith.f kj33 t323 t324 t325).bind fun t358 => (laws_FnTakenBack.j2 kj33 t323 t324 t325 t330 t333 t336 (decide ((t358.length : Int) > 0)))) else (laws_FnTakenBack.j2 kj33 t323 t324 t325 t330 t333 t336 true)))) else (laws_FnTakenBack.j2 kj33 t323 t324 t325 t330 t333 t336 false)) = some r := by rw [if_neg (show ¬ (false = true) by decide)] at H; exact H
        clear H
        have H := H1
        clear H1
        have HC48 := am H
        clear H
        go_upto_region 11 with (fail)
        go_cut [81] (fun v81 wc => ∃ (kq : Nat) (x81_47 : Bool), v81 = .bool x81_47 ∧ Aside0 (laws_FnTakenBack.j2 kq t323 t324 t325 t330 t333 t336 x81_47 = some r) ∧ Aside0 (kq ≤ kj33) ∧ Aside0 (Kd.R k59 59 wc w.heap.size (fun k_ => some k_ ≠ (v331 : Value).ownBlock) (.slice Ao10 t323.length co10) t323) ∧ Aside0 (Kd.R k30 30 wc w.heap.size (fun k_ => some k_ ≠ (v334 : Value).ownBlock ∧ some k_ ≠ (v337 : Value).ownBlock) (.slice Ao11 t324.length co11) t324) ∧ Aside0 (Kd.R k59 59 wc w.heap.size (fun k_ => some k_ ≠ ((.slice Ao10 t323.length co10) : Value).ownBlock) v331 t330) ∧ Aside0 (Kd.R k30 30 wc w.heap.size (fun k_ => some k_ ≠ ((.slice Ao11 t324.length co11) : Value).ownBlock ∧ some k_ ≠ (v337 : Value).ownBlock) v334 t333) ∧ Aside0 (Kd.R k30 30 wc w.heap.size (fun k_ => some k_ ≠ ((.slice Ao11 t324.length co11) : Value).ownBlock ∧ some k_ ≠ (v334 : Value).ownBlock) v337 t336) ∧ Aside0 (Below w.heap.size w wc))
        case first =>
         have H := HC48.out
         clear HC48
         by_cases c49 : (t333.length : Int) = 0
         ·rw [if_pos c49] at H
          have c49b0 : ((t333.length : Int) == 0) = true := beq_iff_eq.mpr c49
          have c49b1 : ((t333.length : Int) != 0) = false := bne_eq_false_iff_eq.mpr c49
          clear c49
          (first | rw [c49b0] | (simp only [i64_w, i32_w]; rw [c49b0]) | skip)
          replace H := Option.bind_eq_some_iff.mp H
          obtain ⟨t354, A500, H⟩ := H
          replace H : ((impl_EqualDocuments.f kj33 t330 t354).bind fun t357 => (if t357 = true then ((impl_LostWith.f kj33 t323 t324 t325).bind fun t358 => (laws_FnTakenBack.j2 kj33 t323 t324 t325 t330 t333 t336 (decide ((t358.length : Int) > 0)))) else (laws_FnTakenBack.j2 kj33 t323 t324 t325 t330 t333 t336 true))) = some r := H
          have A50 := am A500
          clear A500
          replace H := Option.bind_eq_some_iff.mp H
          obtain ⟨t357, A510, H⟩ := H
          replace H : (if t357 = true then ((impl_LostWith.f kj33 t323 t324 t325).bind fun t358 => (laws_FnTakenBack.j2 kj33 t323 t324 t325 t330 t333 t336 (decide ((t358.length : Int) > 0)))) else (laws_FnTakenBack.j2 kj33 t323 t324 t325 t330 t333 t336 true)) = some r := H
          have A51 := am A510
          clear A510
          by_cases c52 : t357 = true
          ·subst c52
           have H1 : ((impl_LostWith.f kj33 t323 t324 t325).bind fun t358 => (laws_FnTakenBack.j2 kj33 t323 t324 t325 t330 t333 t336 (decide ((t358.length : Int) > 0)))) = some r := by rw [if_pos rfl] at H; exact H
           clear H
           have H := H1
           clear H1
           replace H := Option.bind_eq_some_iff.mp H
           obtain ⟨t358, A530, H⟩ := H
           replace H : (laws_FnTakenBack.j2 kj33 t323 t324 t325 t330 t333 t336 (decide ((t358.length : Int) > 0))) = some r := H
           have A53 := am A530
           clear A530
           have H' := am H
           clear H
           obtain ⟨Ao54, co54, eo54⟩ := Kd.R_slice HO_7.out
           subst eo54
           go_wp2_with (first | (go_at_call 25; (with_reducible refine (impl_RunEdits.calls kj33 _ _ t323 _ _ t324 t354 _ ?side1 ?side2 ?side3 ?side4 A50.out).mono ?_); (case side1 => exact cU (Kd.R_reads' HO_3.out).2.2); (case side2 => exact (Kd.R_reads' HO_3.out).2.1); (case side3 => exact cU (Kd.R_reads' HO_4.out).2.2); (case side4 => exact (Kd.R_reads' HO_4.out).2.1); rintro e w55 ⟨v355, rfl, ho0, hb⟩; have n0_ := am (Kd.R_elder' (rU HO_3.out) (Kd.R_base ho0) hb); have n1_ := am (Kd.R_below (rU HO_4.out) hb); have n2_ := am (Kd.R_elder' (rU HO_6.out) (Kd.R_base ho0) hb); have n3_ := am (Kd.R_below (rU HO_7.out) hb); have n4_ := am (Kd.R_below (rU HO_8.out) hb); have n5_ := am (Kd.R_lower (Kd.R_new' (Kd.R_new' ho0 (Kd.R_lt (rU HO_3.out))) (Kd.R_lt (rU HO_6.out))) (below_size (bU HB.out))); have n6_ := am (below_step (bU HB.out) hb); clear HO_3; clear HO_4; clear HO_6; clear HO_7; clear HO_8; clear HB; have HO_3 := n0_; have HO_4 := n1_; have HO_6 := n2_; have HO_7 := n3_; have HO_8 := n4_; have HO356 := n5_; have HB := n6_; clear n0_ n1_ n2_ n3_ n4_ n5_ n6_; (try clear hb); (try clear hb2); (try clear hk); (try clear hi); (try clear ho0); obtain ⟨Ao56, co56, eo56⟩ := Kd.R_slice HO_6.out; subst eo56; obtain ⟨Ao57, co57, eo57⟩ := Kd.R_slice HO356.out; subst eo57) | (go_at_call 46; (with_reducible refine (impl_EqualDocuments.calls kj33 _ _ t330 _ _ t354 true _ ?side1 ?side2 ?side3 ?side4 A51.out).mono ?_); (case side1 => exact cU (Kd.R_reads' HO_6.out).2.2); (case side2 => exact (Kd.R_reads' HO_6.out).2.1); (case side3 => exact cU (Kd.R_reads' HO356.out).2.2); (case side4 => exact (Kd.R_reads' HO356.out).2.1); rintro e w' ⟨rfl, ⟨nd, rfl⟩⟩) | (go_at_call 60; (with_reducible refine (impl_LostWith.calls kj33 _ _ t323 _ _ t324 t325 t358 _ ?side1 ?side2 ?side3 ?side4 A53.out).mono ?_); (case side1 => exact cU (Kd.R_reads' HO_3.out).2.2); (case side2 => exact (Kd.R_reads' HO_3.out).2.1); (case side3 => exact cU (Kd.R_reads' HO_4.out).2.2); (case side4 => exact (Kd.R_reads' HO_4.out).2.1); rintro e w58 ⟨v359, rfl, ho0, hb⟩; have n0_ := am (Kd.R_below (rU HO_3.out) hb); have n1_ := am (Kd.R_below (rU HO_4.out) hb); have n2_ := am (Kd.R_below (rU HO_6.out) hb); have n3_ := am (Kd.R_below (rU HO_7.out) hb); have n4_ := am (Kd.R_below (rU HO_8.out) hb); have n5_ := am (Kd.R_below (rU HO356.out) hb); have n6_ := am (Kd.R_lower ho0 (below_size (bU HB.out))); have n7_ := am (below_step (bU HB.out) hb); clear HO_3; clear HO_4; clear HO_6; clear HO_7; clear HO_8; clear HO356; clear HB; have HO_3 := n0_; have HO_4 := n1_; have HO_6 := n2_; have HO_7 := n3_; have HO_8 := n4_; have HO356 := n5_; have HO360 := n6_; have HB := n7_; clear n0_ n1_ n2_ n3_ n4_ n5_ n6_ n7_; (try clear hb); (try clear hb2); (try clear hk); (try clear hi); (try clear ho0); obtain ⟨Ao59, co59, eo59⟩ := Kd.R_slice HO360.out; subst eo59))
           go_meet
           case rel => exact ⟨_, (decide ((t358.length : Int) > 0)), (by first | rfl | (simp; done) | (simp [*]; done)), H', ⟨by have := HJ7.out; have := HJ33.out; first | omega | exact Nat.le_refl _⟩, ⟨by (with_reducible repeat (first | apply Kd.R_alloc | apply Kd.R_drewN | apply Kd.R_drew)); exact Kd.R_mono HO_3.out (fun _ hk => hk.1)⟩, ⟨rU HO_4.out⟩, ⟨by (with_reducible repeat (first | apply Kd.R_alloc | apply Kd.R_drewN | apply Kd.R_drew)); exact Kd.R_mono HO_6.out (fun _ hk => hk.1)⟩, ⟨rU HO_7.out⟩, ⟨rU HO_8.out⟩, ⟨bU HB.out⟩⟩
          ·replace c52 := Bool.eq_false_iff.mpr c52
           subst c52
           have H1 : (laws_FnTakenBack.j2 kj33 t323 t324 t325 t330 t333 t336 true) = some r := by rw [if_neg (show ¬ (false = true) by decide)] at H; exact H
           clear H
           have H := H1
           clear H1
           have H' := am H
           clear H
           obtain ⟨Ao60, co60, eo60⟩ := Kd.R_slice HO_7.out
           subst eo60
           go_wp2_with (first | (go_at_call 25; (with_reducible refine (impl_RunEdits.calls kj33 _ _ t323 _ _ t324 t354 _ ?side1 ?side2 ?side3 ?side4 A50.out).mono ?_); (case side1 => exact cU (Kd.R_reads' HO_3.out).2.2); (case side2 => exact (Kd.R_reads' HO_3.out).2.1); (case side3 => exact cU (Kd.R_reads' HO_4.out).2.2); (case side4 => exact (Kd.R_reads' HO_4.out).2.1); rintro e w61 ⟨v355, rfl, ho0, hb⟩; have n0_ := am (Kd.R_elder' (rU HO_3.out) (Kd.R_base ho0) hb); have n1_ := am (Kd.R_below (rU HO_4.out) hb); have n2_ := am (Kd.R_elder' (rU HO_6.out) (Kd.R_base ho0) hb); have n3_ := am (Kd.R_below (rU HO_7.out) hb); have n4_ := am (Kd.R_below (rU HO_8.out) hb); have n5_ := am (Kd.R_lower (Kd.R_new' (Kd.R_new' ho0 (Kd.R_lt (rU HO_3.out))) (Kd.R_lt (rU HO_6.out))) (below_size (bU HB.out))); have n6_ := am (below_step (bU HB.out) hb); clear HO_3; clear HO_4; clear HO_6; clear HO_7; clear HO_8; clear HB; have HO_3 := n0_; have HO_4 := n1_; have HO_6 := n2_; have HO_7 := n3_; have HO_8 := n4_; have HO356 := n5_; have HB := n6_; clear n0_ n1_ n2_ n3_ n4_ n5_ n6_; (try clear hb); (try clear hb2); (try clear hk); (try clear hi); (try clear ho0); obtain ⟨Ao62, co62, eo62⟩ := Kd.R_slice HO_6.out; subst eo62; obtain ⟨Ao63, co63, eo63⟩ := Kd.R_slice HO356.out; subst eo63) | (go_at_call 46; (with_reducible refine (impl_EqualDocuments.calls kj33 _ _ t330 _ _ t354 false _ ?side1 ?side2 ?side3 ?side4 A51.out).mono ?_); (case side1 => exact cU (Kd.R_reads' HO_6.out).2.2); (case side2 => exact (Kd.R_reads' HO_6.out).2.1); (case side3 => exact cU (Kd.R_reads' HO356.out).2.2); (case side4 => exact (Kd.R_reads' HO356.out).2.1); rintro e w' ⟨rfl, ⟨nd, rfl⟩⟩))
           go_meet
           case rel => exact ⟨_, (true), (by first | rfl | (simp; done) | (simp [*]; done)), H', ⟨by have := HJ7.out; have := HJ33.out; first | omega | exact Nat.le_refl _⟩, ⟨by (with_reducible repeat (first | apply Kd.R_alloc | apply Kd.R_drewN | apply Kd.R_drew)); exact Kd.R_mono HO_3.out (fun _ hk => hk.1)⟩, ⟨rU HO_4.out⟩, ⟨by (with_reducible repeat (first | apply Kd.R_alloc | apply Kd.R_drewN | apply Kd.R_drew)); exact Kd.R_mono HO_6.out (fun _ hk => hk.1)⟩, ⟨rU HO_7.out⟩, ⟨rU HO_8.out⟩, ⟨bU HB.out⟩⟩
         ·rw [if_neg c49] at H
          have c49b0 : ((t333.length : Int) == 0) = false := beq_eq_false_iff_ne.mpr c49
          have c49b1 : ((t333.length : Int) != 0) = true := bne_iff_ne.mpr c49
          have c49b2 : ¬ (t333 = []) := fun h_ => c49 (by rw [h_]; rfl)
          (first | rw [c49b0] | (simp only [i64_w, i32_w]; rw [c49b0]) | skip)
          have H' := am H
          clear H
          obtain ⟨Ao64, co64, eo64⟩ := Kd.R_slice HO_7.out
          subst eo64
          go_wp2
          go_meet
          case rel => exact ⟨_, (false), (by first | rfl | (simp; done) | (simp [*]; done)), H', ⟨by have := HJ7.out; have := HJ33.out; first | omega | exact Nat.le_refl _⟩, ⟨rU HO_3.out⟩, ⟨rU HO_4.out⟩, ⟨rU HO_6.out⟩, ⟨rU HO_7.out⟩, ⟨rU HO_8.out⟩, ⟨bU HB.out⟩⟩
        case rest =>
         clear HC48
         try clear c1
         try clear c2
         try clear p2
         try clear c3
         try clear c4
         try clear c5
         try clear c6
         try clear p6
         try clear c13
         try clear c15
         try clear c15b0
         try clear c15b1
         try clear c17
         try clear c17b0
         try clear c17b1
         try clear c29
         try clear c33
         try clear c37
         try clear c41
         try clear c47
         try clear c49
         try clear c49b0
         try clear c49b1
         try clear c49b2
         try clear c52
         try clear c55
         try clear c61
         try clear c62
         try clear c63
         try clear p64
         try clear p2
         try clear p6
         obtain ⟨kq, x81_47, rfl, HA, HJ47, HO_3, HO_4, HO_6, HO_7, HO_8, HB⟩ := hcut
         cases kq with
         | zero => exact absurd HA.out (by simp [laws_FnTakenBack.j2])
         | succ kj47 =>
          have H := HA.out
          clear HA
          simp only [laws_FnTakenBack.j2] at H
          by_cases c65 : x81_47 = true
          ·subst c65
           have H1 : (some false) = some r := by rw [if_pos rfl] at H; exact H
           clear H
           have H := H1
           clear H1
           obtain rfl := Option.some.inj H
           go_wp2
           go_ret
           exact ⟨eU, bU HB.out⟩
          ·replace c65 := Bool.eq_false_iff.mpr c65
           subst c65
           have H1 : ((impl_LostWith.f kj47 t323 t324 t325).bind fun t361 => (laws_FnTakenBack.l0 kj47 t323 t324 t325 t330 t333 t336 t361 0)) = some r := by rw [if_neg (show ¬ (false = true) by decide)] at H; exact H
           clear H
           have H := H1
           clear H1
           replace H := Option.bind_eq_some_iff.mp H
           obtain ⟨t361, A660, H⟩ := H
           replace H : (laws_FnTakenBack.l0 kj47 t323 t324 t325 t330 t333 t336 t361 0) = some r := H
           have A66 := am A660
           clear A660
           have H' := am H
           clear H
           go_wp2_with (first | ((with_reducible refine gate_callee (f := 60) rfl ?_); refine goesL_ (some 85) rfl rfl Try.func60 (by kernel_rfl) rfl #[.slice Ao10 t323.length co10, .slice Ao11 t324.length co11, .int .i64 t325] rfl mU ?_; (with_reducible refine (impl_LostWith.calls kj47 _ _ t323 _ _ t324 t325 t361 _ ?side1 ?side2 ?side3 ?side4 A66.out).mono ?_); (case side1 => exact cU (Kd.R_reads' HO_3.out).2.2); (case side2 => exact (Kd.R_reads' HO_3.out).2.1); (case side3 => exact cU (Kd.R_reads' HO_4.out).2.2); (case side4 => exact (Kd.R_reads' HO_4.out).2.1); rintro e w67 ⟨v362, rfl, ho0, hb⟩; refine ⟨_, rfl, ?_⟩; have n0_ := am (Kd.R_below (rU HO_3.out) hb); have n1_ := am (Kd.R_below (rU HO_4.out) hb); have n2_ := am (Kd.R_below (rU HO_6.out) hb); have n3_ := am (Kd.R_below (rU HO_7.out) hb); have n4_ := am (Kd.R_below (rU HO_8.out) hb); have n5_ := am (Kd.R_lower ho0 (below_size (bU HB.out))); have n6_ := am (below_step (bU HB.out) hb); clear HO_3; clear HO_4; clear HO_6; clear HO_7; clear HO_8; clear HB; have HO_3 := n0_; have HO_4 := n1_; have HO_6 := n2_; have HO_7 := n3_; have HO_8 := n4_; have HO363 := n5_; have HB := n6_; clear n0_ n1_ n2_ n3_ n4_ n5_ n6_; (try clear hb); (try clear hb2); (try clear hk); (try clear hi); (try clear ho0)))
           go_loopg [10] kj47 (fun kq v10 w' => ∃ (x10_4 : Int), v10 = .int .i64 x10_4 ∧ Aside0 (laws_FnTakenBack.l0 kq t323 t324 t325 t330 t333 t336 t361 x10_4 = some r) ∧ Aside0 (kq ≤ kj47) ∧ Aside0 (Kd.R k59 59 w' w.heap.size (fun k_ => some k_ ≠ (v331 : Value).ownBlock) (.slice Ao10 t323.length co10) t323) ∧ Aside0 (Kd.R k30 30 w' w.heap.size (fun k_ => some k_ ≠ (v334 : Value).ownBlock ∧ some k_ ≠ (v337 : Value).ownBlock) (.slice Ao11 t324.length co11) t324) ∧ Aside0 (Kd.R k59 59 w' w.heap.size (fun k_ => some k_ ≠ ((.slice Ao10 t323.length co10) : Value).ownBlock) v331 t330) ∧ Aside0 (Kd.R k30 30 w' w.heap.size (fun k_ => some k_ ≠ ((.slice Ao11 t324.length co11) : Value).ownBlock ∧ some k_ ≠ (v337 : Value).ownBlock) v334 t333) ∧ Aside0 (Kd.R k30 30 w' w.heap.size (fun k_ => some k_ ≠ ((.slice Ao11 t324.length co11) : Value).ownBlock ∧ some k_ ≠ (v334 : Value).ownBlock) v337 t336) ∧ Aside0 (Kd.R (Kd.int .i64) 3 w' w.heap.size (fun _ => True) v362 t361) ∧ Aside0 (Below w.heap.size w w'))
           case atStart => exact ⟨(0), (by first | rfl | (simp; done) | (simp [*]; done)), H', ⟨Nat.le_refl _⟩, ⟨rU HO_3.out⟩, ⟨rU HO_4.out⟩, ⟨rU HO_6.out⟩, ⟨rU HO_7.out⟩, ⟨rU HO_8.out⟩, ⟨rU HO363.out⟩, ⟨bU HB.out⟩⟩
           case round =>
            clear H'
            try clear c1
            try clear c2
            try clear p2
            try clear c3
            try clear c4
            try clear c5
            try clear c6
            try clear p6
            try clear c13
            try clear c15
            try clear c15b0
            try clear c15b1
            try clear c17
            try clear c17b0
            try clear c17b1
            try clear c29
            try clear c33
            try clear c37
            try clear c41
            try clear c47
            try clear c49
            try clear c49b0
            try clear c49b1
            try clear c49b2
            try clear c52
            try clear c55
            try clear c60
            try clear c61
            try clear c62
            try clear c63
            try clear p64
            try clear c65
            try clear p2
            try clear p6
            try clear p64
            obtain ⟨x10_4, rfl, HA, HK4, HO_3, HO_4, HO_6, HO_7, HO_8, HO_9, HB⟩ := hrel
            cases gk with
            | zero => exact absurd HA.out (by simp [laws_FnTakenBack.l0])
            | succ k4 =>
             have H := HA.out
             clear HA
             simp only [laws_FnTakenBack.l0] at H
             by_cases c68 : x10_4 < (t361.length : Int)
             ·rw [if_pos c68] at H
              have c68b0 : decide (x10_4 < (t361.length : Int)) = true := decide_eq_true c68
              clear c68
              by_cases c69 : 0 ≤ x10_4
              ·rw [if_pos c69] at H
               have c69b0 : decide (0 ≤ x10_4) = true := decide_eq_true c69
               clear c69
               replace H := Option.bind_eq_some_iff.mp H
               obtain ⟨t372, A700, H⟩ := H
               replace H : (if t372 ≥ 0 then (some false) else ((impl_RunEdits.f k4 t323 t324).bind fun t373 => ((impl_NodeOf.f k4 t373 (rd t361 x10_4)).bind fun t377 => (if t377 < 0 then (some false) else (laws_FnTakenBack.l0 k4 t323 t324 t325 t330 t333 t336 t361 (wrap64 (x10_4 + 1))))))) = some r := H
               have A70 := am A700
               clear A700
               by_cases c71 : t372 ≥ 0
               ·rw [if_pos c71] at H
                have c71b0 : decide (0 ≤ t372) = true := decide_eq_true c71
                clear c71
                obtain rfl := Option.some.inj H
                obtain ⟨Ao72, co72, eo72⟩ := Kd.R_slice HO_9.out
                subst eo72
                try go_wp2
                have n0_ := am (Kd.R_drew HO_3.out)
                have n1_ := am (Kd.R_drew HO_4.out)
                have n2_ := am (Kd.R_drew HO_6.out)
                have n3_ := am (Kd.R_drew HO_7.out)
                have n4_ := am (Kd.R_drew HO_8.out)
                have n5_ := am (Kd.R_drew HO_9.out)
                have n6_ := am (below_drew1 HB.out)
                clear HO_3
                clear HO_4
                clear HO_6
                clear HO_7
                clear HO_8
                clear HO_9
                clear HB
                have HO_3 := n0_
                have HO_4 := n1_
                have HO_6 := n2_
                have HO_7 := n3_
                have HO_8 := n4_
                have HO_9 := n5_
                have HB := n6_
                clear n0_ n1_ n2_ n3_ n4_ n5_ n6_
                have p371 : 0 ≤ (x10_4 : Int) := dU
                have q371 : x10_4 < (t361.length : Int) := dU
                obtain ⟨ad371, e371, hx371_0⟩ := Kd.at_int (Kd.R_reads' HO_9.out).2.2 x10_4 p371 q371
                cases e371
                replace p371 := eq_true p371
                replace q371 := eq_true q371
                obtain ⟨Ao74, co74, eo74⟩ := Kd.R_slice HO_6.out
                (first | subst eo74 | (injection eo74 with f1_ f2_ f3_; have f4_ := f1_.symm; have f5_ := f3_.symm; clear f1_ f2_ f3_; subst f4_; subst f5_))
                refine start_ (n := 18) (S := fun w' => w'.cell? (ad371.add (x10_4).toNat) = some (.int .i64 (rd t361 x10_4))) (ds := []) #[false, false, false, false, false, false, false, false, false, false, false, false, false, false, false, false, false, false] (by kernel_rfl) rfl rfl (hx371_0) (fun hHeld => ?_); refine with_tabW laws_FnTakenBack.tab17 laws_FnTakenBack.bits17 (fun HT_ HW_ => ?_)
                generalize wr.drew = w73 at HO_3 HO_4 HO_6 HO_7 HO_8 HO_9 HB hx371_0 hHeld ⊢
                refine pure_ (i := 0) (N := some 92) (v := ?_) (a' := ?_) #[true, false, false, false, false, false, false, false, false, false, false, false, false, false, false, false, false, false] rfl rfl (any_of HT_.out (by kernel_rfl)) (fun _ _ _ h => h) (Or.inl ⟨by rfl, ?_⟩) ?_ ?_
                rotate_left
                ·intro w'
                 go_simp
                 with_reducible rfl
                rotate_left
                ·simp only [Act.put, List.setIfInBounds_toArray, List.set_cons_zero, List.set_cons_succ, i64_w, i32_w]
                 rfl
                refine pure_ (i := 1) (N := some 93) (v := ?_) (a' := ?_) #[true, true, false, false, false, false, false, false, false, false, false, false, false, false, false, false, false, false] rfl rfl (any_of HT_.out (by kernel_rfl)) (fun _ _ _ h => h) (Or.inl ⟨by rfl, ?_⟩) ?_ ?_
                rotate_left
                ·intro w'
                 go_simp
                 with_reducible rfl
                rotate_left
                ·simp only [Act.put, List.setIfInBounds_toArray, List.set_cons_zero, List.set_cons_succ, i64_w, i32_w]
                 rfl
                refine pure_ (i := 2) (N := some 94) (v := ?_) (a' := ?_) #[true, true, true, false, false, false, false, false, false, false, false, false, false, false, false, false, false, false] rfl rfl (any_of HT_.out (by kernel_rfl)) (fun _ _ _ h => h) (Or.inl ⟨by rfl, ?_⟩) ?_ ?_
                rotate_left
                ·intro w'
                 go_simp
                 with_reducible rfl
                rotate_left
                ·simp only [Act.put, List.setIfInBounds_toArray, List.set_cons_zero, List.set_cons_succ, i64_w, i32_w]
                 rfl
                refine pure_ (i := 3) (N := some 95) (v := ?_) (a' := ?_) #[true, true, true, true, false, false, false, false, false, false, false, false, false, false, false, false, false, false] rfl rfl (any_of HT_.out (by kernel_rfl)) (fun _ _ _ h => h) (Or.inl ⟨by rfl, ?_⟩) ?_ ?_
                rotate_left
                ·intro w'
                 go_simp
                 with_reducible rfl
                rotate_left
                ·simp only [Act.put, List.setIfInBounds_toArray, List.set_cons_zero, List.set_cons_succ, i64_w, i32_w]
                 rfl
                refine take_ (i := 4) (N := some 96) (v := ?_) (a' := ?_) #[true, true, true, true, true, false, false, false, false, false, false, false, false, false, false, false, false, false] rfl rfl (take_ofW HT_.out HW_.out (by kernel_rfl)) (fun _ _ _ h => h) (Or.inl ⟨by rfl, ?_⟩) hHeld ?_ ?_
                rotate_left
                ·intro w' s0
                 go_simp
                 with_reducible rfl
                rotate_left
                ·simp only [Act.put, List.setIfInBounds_toArray, List.set_cons_zero, List.set_cons_succ, i64_w, i32_w]
                 rfl
                refine one_ (i := 5) (N := some 97) #[true, true, true, true, true, true, false, false, false, false, false, false, false, false, false, false, false, false] rfl rfl (one_of HT_.out (by kernel_rfl)) (by decide) (fun K hK => ?_)
                refine goes_ Try.func40 (by kernel_rfl) rfl #[.slice Ao74 t330.length co74, .int .i64 (rd t361 x10_4)] (by rfl) rfl rfl mU ?_
                with_reducible refine (impl_NodeOf.calls k4 _ _ t330 (rd t361 x10_4) t372 _ ?side1 ?side2 A70.out).mono ?_
                (case side1 => exact cU (Kd.R_reads' HO_6.out).2.2)
                (case side2 => exact (Kd.R_reads' HO_6.out).2.1)
                rintro e w75 ⟨rfl, hb⟩
                have HS0_ := (hb.cell (World.block_lt_of_cell? _ _ (hHeld))).trans (hHeld)
                refine ⟨_, rfl, ?_⟩
                have n0_ := am (Kd.R_below (rU HO_3.out) hb)
                have n1_ := am (Kd.R_below (rU HO_4.out) hb)
                have n2_ := am (Kd.R_below (rU HO_6.out) hb)
                have n3_ := am (Kd.R_below (rU HO_7.out) hb)
                have n4_ := am (Kd.R_below (rU HO_8.out) hb)
                have n5_ := am (Kd.R_below (rU HO_9.out) hb)
                have n6_ := am (below_step (bU HB.out) hb)
                clear HO_3
                clear HO_4
                clear HO_6
                clear HO_7
                clear HO_8
                clear HO_9
                clear HB
                have HO_3 := n0_
                have HO_4 := n1_
                have HO_6 := n2_
                have HO_7 := n3_
                have HO_8 := n4_
                have HO_9 := n5_
                have HB := n6_
                clear n0_ n1_ n2_ n3_ n4_ n5_ n6_
                (try clear hb)
                (try clear hb2)
                (try clear hk)
                (try clear hi)
                refine hK.out _ _ (HS0_) (fun hHeld => ?_)
                clear hK K
                refine norm_ (a' := ?_) ?_ ?_
                rotate_left
                ·show Act.put _ (some 97) _ = _
                 simp only [Act.put, List.setIfInBounds_toArray, List.set_cons_zero, List.set_cons_succ, i64_w, i32_w]
                 rfl
                refine pure_ (i := 6) (N := some 98) (v := ?_) (a' := ?_) #[true, true, true, true, true, true, true, false, false, false, false, false, false, false, false, false, false, false] rfl rfl (any_of HT_.out (by kernel_rfl)) (fun _ _ _ h => h) (Or.inl ⟨by rfl, ?_⟩) ?_ ?_
                rotate_left
                ·intro w'
                 go_simp
                 with_reducible rfl
                rotate_left
                ·simp only [Act.put, List.setIfInBounds_toArray, List.set_cons_zero, List.set_cons_succ, i64_w, i32_w]
                 rfl
                refine pure_ (i := 7) (N := some 99) (v := ?_) (a' := ?_) #[true, true, true, true, true, true, true, true, false, false, false, false, false, false, false, false, false, false] rfl rfl (any_of HT_.out (by kernel_rfl)) (fun _ _ _ h => h) (Or.inl ⟨by rfl, ?_⟩) ?_ ?_
                rotate_left
                ·intro w'
                 go_simp
                 with_reducible rfl
                rotate_left
                ·simp only [Act.put, List.setIfInBounds_toArray, List.set_cons_zero, List.set_cons_succ, i64_w, i32_w]
                 rfl
                refine pure_ (i := 8) (N := some 100) (v := undef) (a' := ?_) #[true, true, true, true, true, true, true, true, true, false, false, false, false, false, false, false, false, false] rfl rfl (any_of HT_.out (by kernel_rfl)) (fun _ _ _ h => h) (Or.inr ⟨by rfl, rfl⟩) ?_ ?_
                rotate_left
                ·simp only [Act.put, List.setIfInBounds_toArray, List.set_cons_zero, List.set_cons_succ, i64_w, i32_w]
                 rfl
                refine pure_ (i := 9) (N := some 101) (v := undef) (a' := ?_) #[true, true, true, true, true, true, true, true, true, true, false, false, false, false, false, false, false, false] rfl rfl (any_of HT_.out (by kernel_rfl)) (fun _ _ _ h => h) (Or.inr ⟨by rfl, rfl⟩) ?_ ?_
                rotate_left
                ·simp only [Act.put, List.setIfInBounds_toArray, List.set_cons_zero, List.set_cons_succ, i64_w, i32_w]
                 rfl
                refine pure_ (i := 10) (N := some 102) (v := undef) (a' := ?_) #[true, true, true, true, true, true, true, true, true, true, true, false, false, false, false, false, false, false] rfl rfl (any_of HT_.out (by kernel_rfl)) (fun _ _ _ h => h) (Or.inr ⟨by rfl, rfl⟩) ?_ ?_
                rotate_left
                ·simp only [Act.put, List.setIfInBounds_toArray, List.set_cons_zero, List.set_cons_succ, i64_w, i32_w]
                 rfl
                refine pure_ (i := 11) (N := some 103) (v := undef) (a' := ?_) #[true, true, true, true, true, true, true, true, true, true, true, true, false, false, false, false, false, false] rfl rfl (any_of HT_.out (by kernel_rfl)) (fun _ _ _ h => h) (Or.inr ⟨by rfl, rfl⟩) ?_ ?_
                rotate_left
                ·simp only [Act.put, List.setIfInBounds_toArray, List.set_cons_zero, List.set_cons_succ, i64_w, i32_w]
                 rfl
                refine pure_ (i := 12) (N := some 104) (v := undef) (a' := ?_) #[true, true, true, true, true, true, true, true, true, true, true, true, true, false, false, false, false, false] rfl rfl (any_of HT_.out (by kernel_rfl)) (fun _ _ _ h => h) (Or.inr ⟨by rfl, rfl⟩) ?_ ?_
                rotate_left
                ·simp only [Act.put, List.setIfInBounds_toArray, List.set_cons_zero, List.set_cons_succ, i64_w, i32_w]
                 rfl
                refine pure_ (i := 13) (N := some 105) (v := undef) (a' := ?_) #[true, true, true, true, true, true, true, true, true, true, true, true, true, true, false, false, false, false] rfl rfl (any_of HT_.out (by kernel_rfl)) (fun _ _ _ h => h) (Or.inr ⟨by rfl, rfl⟩) ?_ ?_
                rotate_left
                ·simp only [Act.put, List.setIfInBounds_toArray, List.set_cons_zero, List.set_cons_succ, i64_w, i32_w]
                 rfl
                refine pure_ (i := 14) (N := some 106) (v := undef) (a' := ?_) #[true, true, true, true, true, true, true, true, true, true, true, true, true, true, true, false, false, false] rfl rfl (any_of HT_.out (by kernel_rfl)) (fun _ _ _ h => h) (Or.inr ⟨by rfl, rfl⟩) ?_ ?_
                rotate_left
                ·simp only [Act.put, List.setIfInBounds_toArray, List.set_cons_zero, List.set_cons_succ, i64_w, i32_w]
                 rfl
                refine pure_ (i := 15) (N := some 107) (v := undef) (a' := ?_) #[true, true, true, true, true, true, true, true, true, true, true, true, true, true, true, true, false, false] rfl rfl (any_of HT_.out (by kernel_rfl)) (fun _ _ _ h => h) (Or.inr ⟨by rfl, rfl⟩) ?_ ?_
                rotate_left
                ·simp only [Act.put, List.setIfInBounds_toArray, List.set_cons_zero, List.set_cons_succ, i64_w, i32_w]
                 rfl
                refine pure_ (i := 16) (N := some 108) (v := undef) (a' := ?_) #[true, true, true, true, true, true, true, true, true, true, true, true, true, true, true, true, true, false] rfl rfl (any_of HT_.out (by kernel_rfl)) (fun _ _ _ h => h) (Or.inr ⟨by rfl, rfl⟩) ?_ ?_
                rotate_left
                ·simp only [Act.put, List.setIfInBounds_toArray, List.set_cons_zero, List.set_cons_succ, i64_w, i32_w]
                 rfl
                refine pure_ (i := 17) (N := some 109) (v := ?_) (a' := ?_) #[true, true, true, true, true, true, true, true, true, true, true, true, true, true, true, true, true, true] rfl rfl (any_of HT_.out (by kernel_rfl)) (fun _ _ _ h => h) (Or.inl ⟨by rfl, ?_⟩) ?_ ?_
                rotate_left
                ·intro w'
                 go_simp
                 with_reducible rfl
                rotate_left
                ·simp only [Act.put, List.setIfInBounds_toArray, List.set_cons_zero, List.set_cons_succ, i64_w, i32_w]
                 rfl
                refine done_ (done_of HT_.out (by kernel_rfl)) ?_
                try go_wp2
                go_ret
                exact ⟨eU, bU HB.out⟩
               ·rw [if_neg c71] at H
                have c71b0 : decide (0 ≤ t372) = false := decide_eq_false c71
                clear c71
                replace H := Option.bind_eq_some_iff.mp H
                obtain ⟨t373, A760, H⟩ := H
                replace H : ((impl_NodeOf.f k4 t373 (rd t361 x10_4)).bind fun t377 => (if t377 < 0 then (some false) else (laws_FnTakenBack.l0 k4 t323 t324 t325 t330 t333 t336 t361 (wrap64 (x10_4 + 1))))) = some r := H
                have A76 := am A760
                clear A760
                replace H := Option.bind_eq_some_iff.mp H
                obtain ⟨t377, A770, H⟩ := H
                replace H : (if t377 < 0 then (some false) else (laws_FnTakenBack.l0 k4 t323 t324 t325 t330 t333 t336 t361 (wrap64 (x10_4 + 1)))) = some r := H
                have A77 := am A770
                clear A770
                by_cases c78 : t377 < 0
                ·rw [if_pos c78] at H
                 have c78b0 : decide (t377 < 0) = true := decide_eq_true c78
                 clear c78
                 obtain rfl := Option.some.inj H
                 obtain ⟨Ao79, co79, eo79⟩ := Kd.R_slice HO_9.out
                 subst eo79
                 try go_wp2
                 have n0_ := am (Kd.R_drew HO_3.out)
                 have n1_ := am (Kd.R_drew HO_4.out)
                 have n2_ := am (Kd.R_drew HO_6.out)
                 have n3_ := am (Kd.R_drew HO_7.out)
                 have n4_ := am (Kd.R_drew HO_8.out)
                 have n5_ := am (Kd.R_drew HO_9.out)
                 have n6_ := am (below_drew1 HB.out)
                 clear HO_3
                 clear HO_4
                 clear HO_6
                 clear HO_7
                 clear HO_8
                 clear HO_9
                 clear HB
                 have HO_3 := n0_
                 have HO_4 := n1_
                 have HO_6 := n2_
                 have HO_7 := n3_
                 have HO_8 := n4_
                 have HO_9 := n5_
                 have HB := n6_
                 clear n0_ n1_ n2_ n3_ n4_ n5_ n6_
                 have p371 : 0 ≤ (x10_4 : Int) := dU
                 have q371 : x10_4 < (t361.length : Int) := dU
                 obtain ⟨ad371, e371, hx371_0⟩ := Kd.at_int (Kd.R_reads' HO_9.out).2.2 x10_4 p371 q371
                 cases e371
                 replace p371 := eq_true p371
                 replace q371 := eq_true q371
                 obtain ⟨Ao81, co81, eo81⟩ := Kd.R_slice HO_6.out
                 (first | subst eo81 | (injection eo81 with f1_ f2_ f3_; have f4_ := f1_.symm; have f5_ := f3_.symm; clear f1_ f2_ f3_; subst f4_; subst f5_))
                 have p376 : 0 ≤ (x10_4 : Int) := dU
                 have q376 : x10_4 < (t361.length : Int) := dU
                 obtain ⟨ad376, e376, hx376_0⟩ := Kd.at_int (Kd.R_reads' HO_9.out).2.2 x10_4 p376 q376
                 obtain rfl : ad371 = ad376 := (by injection e376)
                 replace p376 := eq_true p376
                 replace q376 := eq_true q376
                 refine start_ (n := 18) (S := fun w' => w'.cell? (ad371.add (x10_4).toNat) = some (.int .i64 (rd t361 x10_4)) ∧ w'.cell? (ad371.add (x10_4).toNat) = some (.int .i64 (rd t361 x10_4))) (ds := []) #[false, false, false, false, false, false, false, false, false, false, false, false, false, false, false, false, false, false] (by kernel_rfl) rfl rfl ⟨hx371_0, hx376_0⟩ (fun hHeld => ?_); refine with_tabW laws_FnTakenBack.tab17 laws_FnTakenBack.bits17 (fun HT_ HW_ => ?_)
                 generalize wr.drew = w80 at HO_3 HO_4 HO_6 HO_7 HO_8 HO_9 HB hx371_0 hx376_0 hHeld ⊢
                 refine pure_ (i := 0) (N := some 92) (v := ?_) (a' := ?_) #[true, false, false, false, false, false, false, false, false, false, false, false, false, false, false, false, false, false] rfl rfl (any_of HT_.out (by kernel_rfl)) (fun _ _ _ h => h) (Or.inl ⟨by rfl, ?_⟩) ?_ ?_
                 rotate_left
                 ·intro w'
                  go_simp
                  with_reducible rfl
                 rotate_left
                 ·simp only [Act.put, List.setIfInBounds_toArray, List.set_cons_zero, List.set_cons_succ, i64_w, i32_w]
                  rfl
                 refine pure_ (i := 1) (N := some 93) (v := ?_) (a' := ?_) #[true, true, false, false, false, false, false, false, false, false, false, false, false, false, false, false, false, false] rfl rfl (any_of HT_.out (by kernel_rfl)) (fun _ _ _ h => h) (Or.inl ⟨by rfl, ?_⟩) ?_ ?_
                 rotate_left
                 ·intro w'
                  go_simp
                  with_reducible rfl
                 rotate_left
                 ·simp only [Act.put, List.setIfInBounds_toArray, List.set_cons_zero, List.set_cons_succ, i64_w, i32_w]
                  rfl
                 refine pure_ (i := 2) (N := some 94) (v := ?_) (a' := ?_) #[true, true, true, false, false, false, false, false, false, false, false, false, false, false, false, false, false, false] rfl rfl (any_of HT_.out (by kernel_rfl)) (fun _ _ _ h => h) (Or.inl ⟨by rfl, ?_⟩) ?_ ?_
                 rotate_left
                 ·intro w'
                  go_simp
                  with_reducible rfl
                 rotate_left
                 ·simp only [Act.put, List.setIfInBounds_toArray, List.set_cons_zero, List.set_cons_succ, i64_w, i32_w]
                  rfl
                 refine pure_ (i := 3) (N := some 95) (v := ?_) (a' := ?_) #[true, true, true, true, false, false, false, false, false, false, false, false, false, false, false, false, false, false] rfl rfl (any_of HT_.out (by kernel_rfl)) (fun _ _ _ h => h) (Or.inl ⟨by rfl, ?_⟩) ?_ ?_
                 rotate_left
                 ·intro w'
                  go_simp
                  with_reducible rfl
                 rotate_left
                 ·simp only [Act.put, List.setIfInBounds_toArray, List.set_cons_zero, List.set_cons_succ, i64_w, i32_w]
                  rfl
                 refine take_ (i := 4) (N := some 96) (v := ?_) (a' := ?_) #[true, true, true, true, true, false, false, false, false, false, false, false, false, false, false, false, false, false] rfl rfl (take_ofW HT_.out HW_.out (by kernel_rfl)) (fun _ _ _ h => h) (Or.inl ⟨by rfl, ?_⟩) hHeld ?_ ?_
                 rotate_left
                 ·rintro w' ⟨s0, s1⟩
                  go_simp
                  with_reducible rfl
                 rotate_left
                 ·simp only [Act.put, List.setIfInBounds_toArray, List.set_cons_zero, List.set_cons_succ, i64_w, i32_w]
                  rfl
                 refine one_ (i := 5) (N := some 97) #[true, true, true, true, true, true, false, false, false, false, false, false, false, false, false, false, false, false] rfl rfl (one_of HT_.out (by kernel_rfl)) (by decide) (fun K hK => ?_)
                 refine goes_ Try.func40 (by kernel_rfl) rfl #[.slice Ao81 t330.length co81, .int .i64 (rd t361 x10_4)] (by rfl) rfl rfl mU ?_
                 with_reducible refine (impl_NodeOf.calls k4 _ _ t330 (rd t361 x10_4) t372 _ ?side1 ?side2 A70.out).mono ?_
                 (case side1 => exact cU (Kd.R_reads' HO_6.out).2.2)
                 (case side2 => exact (Kd.R_reads' HO_6.out).2.1)
                 rintro e w82 ⟨rfl, hb⟩
                 have HS0_ := (hb.cell (World.block_lt_of_cell? _ _ (hHeld.1))).trans (hHeld.1)
                 have HS1_ := (hb.cell (World.block_lt_of_cell? _ _ (hHeld.2))).trans (hHeld.2)
                 refine ⟨_, rfl, ?_⟩
                 have n0_ := am (Kd.R_below (rU HO_3.out) hb)
                 have n1_ := am (Kd.R_below (rU HO_4.out) hb)
                 have n2_ := am (Kd.R_below (rU HO_6.out) hb)
                 have n3_ := am (Kd.R_below (rU HO_7.out) hb)
                 have n4_ := am (Kd.R_below (rU HO_8.out) hb)
                 have n5_ := am (Kd.R_below (rU HO_9.out) hb)
                 have n6_ := am (below_step (bU HB.out) hb)
                 clear HO_3
                 clear HO_4
                 clear HO_6
                 clear HO_7
                 clear HO_8
                 clear HO_9
                 clear HB
                 have HO_3 := n0_
                 have HO_4 := n1_
                 have HO_6 := n2_
                 have HO_7 := n3_
                 have HO_8 := n4_
                 have HO_9 := n5_
                 have HB := n6_
                 clear n0_ n1_ n2_ n3_ n4_ n5_ n6_
                 (try clear hb)
                 (try clear hb2)
                 (try clear hk)
                 (try clear hi)
                 refine hK.out _ _ ⟨HS0_, HS1_⟩ (fun hHeld => ?_)
                 clear hK K
                 refine norm_ (a' := ?_) ?_ ?_
                 rotate_left
                 ·show Act.put _ (some 97) _ = _
                  simp only [Act.put, List.setIfInBounds_toArray, List.set_cons_zero, List.set_cons_succ, i64_w, i32_w]
                  rfl
                 refine pure_ (i := 6) (N := some 98) (v := ?_) (a' := ?_) #[true, true, true, true, true, true, true, false, false, false, false, false, false, false, false, false, false, false] rfl rfl (any_of HT_.out (by kernel_rfl)) (fun _ _ _ h => h) (Or.inl ⟨by rfl, ?_⟩) ?_ ?_
                 rotate_left
                 ·intro w'
                  go_simp
                  with_reducible rfl
                 rotate_left
                 ·simp only [Act.put, List.setIfInBounds_toArray, List.set_cons_zero, List.set_cons_succ, i64_w, i32_w]
                  rfl
                 refine pure_ (i := 7) (N := some 99) (v := ?_) (a' := ?_) #[true, true, true, true, true, true, true, true, false, false, false, false, false, false, false, false, false, false] rfl rfl (any_of HT_.out (by kernel_rfl)) (fun _ _ _ h => h) (Or.inl ⟨by rfl, ?_⟩) ?_ ?_
                 rotate_left
                 ·intro w'
                  go_simp
                  with_reducible rfl
                 rotate_left
                 ·simp only [Act.put, List.setIfInBounds_toArray, List.set_cons_zero, List.set_cons_succ, i64_w, i32_w]
                  rfl
                 refine pure_ (i := 8) (N := some 100) (v := ?_) (a' := ?_) #[true, true, true, true, true, true, true, true, true, false, false, false, false, false, false, false, false, false] rfl rfl (any_of HT_.out (by kernel_rfl)) (fun _ _ _ h => h) (Or.inl ⟨by rfl, ?_⟩) ?_ ?_
                 rotate_left
                 ·intro w'
                  go_simp
                  with_reducible rfl
                 rotate_left
                 ·simp only [Act.put, List.setIfInBounds_toArray, List.set_cons_zero, List.set_cons_succ, i64_w, i32_w]
                  rfl
                 refine pure_ (i := 9) (N := some 101) (v := ?_) (a' := ?_) #[true, true, true, true, true, true, true, true, true, true, false, false, false, false, false, false, false, false] rfl rfl (any_of HT_.out (by kernel_rfl)) (fun _ _ _ h => h) (Or.inl ⟨by rfl, ?_⟩) ?_ ?_
                 rotate_left
                 ·intro w'
                  go_simp
                  with_reducible rfl
                 rotate_left
                 ·simp only [Act.put, List.setIfInBounds_toArray, List.set_cons_zero, List.set_cons_succ, i64_w, i32_w]
                  rfl
                 refine pure_ (i := 11) (N := some 103) (v := ?_) (a' := ?_) #[true, true, true, true, true, true, true, true, true, true, false, true, false, false, false, false, false, false] rfl rfl (any_of HT_.out (by kernel_rfl)) (fun _ _ _ h => h) (Or.inl ⟨by rfl, ?_⟩) ?_ ?_
                 rotate_left
                 ·intro w'
                  go_simp
                  with_reducible rfl
                 rotate_left
                 ·simp only [Act.put, List.setIfInBounds_toArray, List.set_cons_zero, List.set_cons_succ, i64_w, i32_w]
                  rfl
                 refine pure_ (i := 12) (N := some 104) (v := ?_) (a' := ?_) #[true, true, true, true, true, true, true, true, true, true, false, true, true, false, false, false, false, false] rfl rfl (any_of HT_.out (by kernel_rfl)) (fun _ _ _ h => h) (Or.inl ⟨by rfl, ?_⟩) ?_ ?_
                 rotate_left
                 ·intro w'
                  go_simp
                  with_reducible rfl
                 rotate_left
                 ·simp only [Act.put, List.setIfInBounds_toArray, List.set_cons_zero, List.set_cons_succ, i64_w, i32_w]
                  rfl
                 refine pure_ (i := 13) (N := some 105) (v := ?_) (a' := ?_) #[true, true, true, true, true, true, true, true, true, true, false, true, true, true, false, false, false, false] rfl rfl (any_of HT_.out (by kernel_rfl)) (fun _ _ _ h => h) (Or.inl ⟨by rfl, ?_⟩) ?_ ?_
                 rotate_left
                 ·intro w'
                  go_simp
                  with_reducible rfl
                 rotate_left
                 ·simp only [Act.put, List.setIfInBounds_toArray, List.set_cons_zero, List.set_cons_succ, i64_w, i32_w]
                  rfl
                 refine take_ (i := 14) (N := some 106) (v := ?_) (a' := ?_) #[true, true, true, true, true, true, true, true, true, true, false, true, true, true, true, false, false, false] rfl rfl (take_ofW HT_.out HW_.out (by kernel_rfl)) (fun _ _ _ h => h) (Or.inl ⟨by rfl, ?_⟩) hHeld ?_ ?_
                 rotate_left
                 ·rintro w' ⟨s0, s1⟩
                  go_simp
                  with_reducible rfl
                 rotate_left
                 ·simp only [Act.put, List.setIfInBounds_toArray, List.set_cons_zero, List.set_cons_succ, i64_w, i32_w]
                  rfl
                 refine one_ (i := 10) (N := some 102) #[true, true, true, true, true, true, true, true, true, true, true, true, true, true, true, false, false, false] rfl rfl (one_of HT_.out (by kernel_rfl)) (by decide) (fun K hK => ?_)
                 refine goes_ Try.func25 (by kernel_rfl) rfl #[.slice Ao10 t323.length co10, .slice Ao11 t324.length co11] (by rfl) rfl rfl mU ?_
                 with_reducible refine (impl_RunEdits.calls k4 _ _ t323 _ _ t324 t373 _ ?side1 ?side2 ?side3 ?side4 A76.out).mono ?_
                 (case side1 => exact cU (Kd.R_reads' HO_3.out).2.2)
                 (case side2 => exact (Kd.R_reads' HO_3.out).2.1)
                 (case side3 => exact cU (Kd.R_reads' HO_4.out).2.2)
                 (case side4 => exact (Kd.R_reads' HO_4.out).2.1)
                 rintro e w83 ⟨v374, rfl, ho0, hb⟩
                 have HS0_ := (hb.cell (World.block_lt_of_cell? _ _ (hHeld.1))).trans (hHeld.1)
                 have HS1_ := (hb.cell (World.block_lt_of_cell? _ _ (hHeld.2))).trans (hHeld.2)
                 refine ⟨_, rfl, ?_⟩
                 have n0_ := am (Kd.R_elder' (rU HO_3.out) (Kd.R_base ho0) hb)
                 have n1_ := am (Kd.R_below (rU HO_4.out) hb)
                 have n2_ := am (Kd.R_elder' (rU HO_6.out) (Kd.R_base ho0) hb)
                 have n3_ := am (Kd.R_below (rU HO_7.out) hb)
                 have n4_ := am (Kd.R_below (rU HO_8.out) hb)
                 have n5_ := am (Kd.R_below (rU HO_9.out) hb)
                 have n6_ := am (Kd.R_lower (Kd.R_new' (Kd.R_new' ho0 (Kd.R_lt (rU HO_3.out))) (Kd.R_lt (rU HO_6.out))) (below_size (bU HB.out)))
                 have n7_ := am (below_step (bU HB.out) hb)
                 clear HO_3
                 clear HO_4
                 clear HO_6
                 clear HO_7
                 clear HO_8
                 clear HO_9
                 clear HB
                 have HO_3 := n0_
                 have HO_4 := n1_
                 have HO_6 := n2_
                 have HO_7 := n3_
                 have HO_8 := n4_
                 have HO_9 := n5_
                 have HO375 := n6_
                 have HB := n7_
                 clear n0_ n1_ n2_ n3_ n4_ n5_ n6_ n7_
                 (try clear hb)
                 (try clear hb2)
                 (try clear hk)
                 (try clear hi)
                 (try clear ho0)
                 obtain ⟨Ao84, co84, eo84⟩ := Kd.R_slice HO375.out
                 (first | subst eo84 | (injection eo84 with f1_ f2_ f3_; have f4_ := f1_.symm; have f5_ := f3_.symm; clear f1_ f2_ f3_; subst f4_; subst f5_))
                 refine hK.out _ _ ⟨HS0_, HS1_⟩ (fun hHeld => ?_)
                 clear hK K
                 refine norm_ (a' := ?_) ?_ ?_
                 rotate_left
                 ·show Act.put _ (some 102) _ = _
                  simp only [Act.put, List.setIfInBounds_toArray, List.set_cons_zero, List.set_cons_succ, i64_w, i32_w]
                  rfl
                 refine one_ (i := 15) (N := some 107) #[true, true, true, true, true, true, true, true, true, true, true, true, true, true, true, true, false, false] rfl rfl (one_of HT_.out (by kernel_rfl)) (by decide) (fun K hK => ?_)
                 refine goes_ Try.func40 (by kernel_rfl) rfl #[.slice Ao84 t373.length co84, .int .i64 (rd t361 x10_4)] (by rfl) rfl rfl mU ?_
                 with_reducible refine (impl_NodeOf.calls k4 _ _ t373 (rd t361 x10_4) t377 _ ?side1 ?side2 A77.out).mono ?_
                 (case side1 => exact cU (Kd.R_reads' HO375.out).2.2)
                 (case side2 => exact (Kd.R_reads' HO375.out).2.1)
                 rintro e w85 ⟨rfl, hb⟩
                 have HS0_ := (hb.cell (World.block_lt_of_cell? _ _ (hHeld.1))).trans (hHeld.1)
                 have HS1_ := (hb.cell (World.block_lt_of_cell? _ _ (hHeld.2))).trans (hHeld.2)
                 refine ⟨_, rfl, ?_⟩
                 have n0_ := am (Kd.R_below (rU HO_3.out) hb)
                 have n1_ := am (Kd.R_below (rU HO_4.out) hb)
                 have n2_ := am (Kd.R_below (rU HO_6.out) hb)
                 have n3_ := am (Kd.R_below (rU HO_7.out) hb)
                 have n4_ := am (Kd.R_below (rU HO_8.out) hb)
                 have n5_ := am (Kd.R_below (rU HO_9.out) hb)
                 have n6_ := am (Kd.R_below (rU HO375.out) hb)
                 have n7_ := am (below_step (bU HB.out) hb)
                 clear HO_3
                 clear HO_4
                 clear HO_6
                 clear HO_7
                 clear HO_8
                 clear HO_9
                 clear HO375
                 clear HB
                 have HO_3 := n0_
                 have HO_4 := n1_
                 have HO_6 := n2_
                 have HO_7 := n3_
                 have HO_8 := n4_
                 have HO_9 := n5_
                 have HO375 := n6_
                 have HB := n7_
                 clear n0_ n1_ n2_ n3_ n4_ n5_ n6_ n7_
                 (try clear hb)
                 (try clear hb2)
                 (try clear hk)
                 (try clear hi)
                 refine hK.out _ _ ⟨HS0_, HS1_⟩ (fun hHeld => ?_)
                 clear hK K
                 refine norm_ (a' := ?_) ?_ ?_
                 rotate_left
                 ·show Act.put _ (some 107) _ = _
                  simp only [Act.put, List.setIfInBounds_toArray, List.set_cons_zero, List.set_cons_succ, i64_w, i32_w]
                  rfl
                 refine pure_ (i := 16) (N := some 108) (v := ?_) (a' := ?_) #[true, true, true, true, true, true, true, true, true, true, true, true, true, true, true, true, true, false] rfl rfl (any_of HT_.out (by kernel_rfl)) (fun _ _ _ h => h) (Or.inl ⟨by rfl, ?_⟩) ?_ ?_
                 rotate_left
                 ·intro w'
                  go_simp
                  with_reducible rfl
                 rotate_left
                 ·simp only [Act.put, List.setIfInBounds_toArray, List.set_cons_zero, List.set_cons_succ, i64_w, i32_w]
                  rfl
                 refine pure_ (i := 17) (N := some 109) (v := ?_) (a' := ?_) #[true, true, true, true, true, true, true, true, true, true, true, true, true, true, true, true, true, true] rfl rfl (any_of HT_.out (by kernel_rfl)) (fun _ _ _ h => h) (Or.inl ⟨by rfl, ?_⟩) ?_ ?_
                 rotate_left
                 ·intro w'
                  go_simp
                  with_reducible rfl
                 rotate_left
                 ·simp only [Act.put, List.setIfInBounds_toArray, List.set_cons_zero, List.set_cons_succ, i64_w, i32_w]
                  rfl
                 refine done_ (done_of HT_.out (by kernel_rfl)) ?_
                 try go_wp2
                 go_ret
                 exact ⟨eU, bU HB.out⟩
                ·rw [if_neg c78] at H
                 have c78b0 : decide (t377 < 0) = false := decide_eq_false c78
                 clear c78
                 have H' := am H
                 clear H
                 obtain ⟨Ao86, co86, eo86⟩ := Kd.R_slice HO_9.out
                 subst eo86
                 try go_wp2
                 have n0_ := am (Kd.R_drew HO_3.out)
                 have n1_ := am (Kd.R_drew HO_4.out)
                 have n2_ := am (Kd.R_drew HO_6.out)
                 have n3_ := am (Kd.R_drew HO_7.out)
                 have n4_ := am (Kd.R_drew HO_8.out)
                 have n5_ := am (Kd.R_drew HO_9.out)
                 have n6_ := am (below_drew1 HB.out)
                 clear HO_3
                 clear HO_4
                 clear HO_6
                 clear HO_7
                 clear HO_8
                 clear HO_9
                 clear HB
                 have HO_3 := n0_
                 have HO_4 := n1_
                 have HO_6 := n2_
                 have HO_7 := n3_
                 have HO_8 := n4_
                 have HO_9 := n5_
                 have HB := n6_
                 clear n0_ n1_ n2_ n3_ n4_ n5_ n6_
                 have p371 : 0 ≤ (x10_4 : Int) := dU
                 have q371 : x10_4 < (t361.length : Int) := dU
                 obtain ⟨ad371, e371, hx371_0⟩ := Kd.at_int (Kd.R_reads' HO_9.out).2.2 x10_4 p371 q371
                 cases e371
                 replace p371 := eq_true p371
                 replace q371 := eq_true q371
                 obtain ⟨Ao88, co88, eo88⟩ := Kd.R_slice HO_6.out
                 (first | subst eo88 | (injection eo88 with f1_ f2_ f3_; have f4_ := f1_.symm; have f5_ := f3_.symm; clear f1_ f2_ f3_; subst f4_; subst f5_))
                 have p376 : 0 ≤ (x10_4 : Int) := dU
                 have q376 : x10_4 < (t361.length : Int) := dU
                 obtain ⟨ad376, e376, hx376_0⟩ := Kd.at_int (Kd.R_reads' HO_9.out).2.2 x10_4 p376 q376
                 obtain rfl : ad371 = ad376 := (by injection e376)
                 replace p376 := eq_true p376
                 replace q376 := eq_true q376
                 refine start_ (n := 18) (S := fun w' => w'.cell? (ad371.add (x10_4).toNat) = some (.int .i64 (rd t361 x10_4)) ∧ w'.cell? (ad371.add (x10_4).toNat) = some (.int .i64 (rd t361 x10_4))) (ds := []) #[false, false, false, false, false, false, false, false, false, false, false, false, false, false, false, false, false, false] (by kernel_rfl) rfl rfl ⟨hx371_0, hx376_0⟩ (fun hHeld => ?_); refine with_tabW laws_FnTakenBack.tab17 laws_FnTakenBack.bits17 (fun HT_ HW_ => ?_)
                 generalize wr.drew = w87 at HO_3 HO_4 HO_6 HO_7 HO_8 HO_9 HB hx371_0 hx376_0 hHeld ⊢
                 refine pure_ (i := 0) (N := some 92) (v := ?_) (a' := ?_) #[true, false, false, false, false, false, false, false, false, false, false, false, false, false, false, false, false, false] rfl rfl (any_of HT_.out (by kernel_rfl)) (fun _ _ _ h => h) (Or.inl ⟨by rfl, ?_⟩) ?_ ?_
                 rotate_left
                 ·intro w'
                  go_simp
                  with_reducible rfl
                 rotate_left
                 ·simp only [Act.put, List.setIfInBounds_toArray, List.set_cons_zero, List.set_cons_succ, i64_w, i32_w]
                  rfl
                 refine pure_ (i := 1) (N := some 93) (v := ?_) (a' := ?_) #[true, true, false, false, false, false, false, false, false, false, false, false, false, false, false, false, false, false] rfl rfl (any_of HT_.out (by kernel_rfl)) (fun _ _ _ h => h) (Or.inl ⟨by rfl, ?_⟩) ?_ ?_
                 rotate_left
                 ·intro w'
                  go_simp
                  with_reducible rfl
                 rotate_left
                 ·simp only [Act.put, List.setIfInBounds_toArray, List.set_cons_zero, List.set_cons_succ, i64_w, i32_w]
                  rfl
                 refine pure_ (i := 2) (N := some 94) (v := ?_) (a' := ?_) #[true, true, true, false, false, false, false, false, false, false, false, false, false, false, false, false, false, false] rfl rfl (any_of HT_.out (by kernel_rfl)) (fun _ _ _ h => h) (Or.inl ⟨by rfl, ?_⟩) ?_ ?_
                 rotate_left
                 ·intro w'
                  go_simp
                  with_reducible rfl
                 rotate_left
                 ·simp only [Act.put, List.setIfInBounds_toArray, List.set_cons_zero, List.set_cons_succ, i64_w, i32_w]
                  rfl
                 refine pure_ (i := 3) (N := some 95) (v := ?_) (a' := ?_) #[true, true, true, true, false, false, false, false, false, false, false, false, false, false, false, false, false, false] rfl rfl (any_of HT_.out (by kernel_rfl)) (fun _ _ _ h => h) (Or.inl ⟨by rfl, ?_⟩) ?_ ?_
                 rotate_left
                 ·intro w'
                  go_simp
                  with_reducible rfl
                 rotate_left
                 ·simp only [Act.put, List.setIfInBounds_toArray, List.set_cons_zero, List.set_cons_succ, i64_w, i32_w]
                  rfl
                 refine take_ (i := 4) (N := some 96) (v := ?_) (a' := ?_) #[true, true, true, true, true, false, false, false, false, false, false, false, false, false, false, false, false, false] rfl rfl (take_ofW HT_.out HW_.out (by kernel_rfl)) (fun _ _ _ h => h) (Or.inl ⟨by rfl, ?_⟩) hHeld ?_ ?_
                 rotate_left
                 ·rintro w' ⟨s0, s1⟩
                  go_simp
                  with_reducible rfl
                 rotate_left
                 ·simp only [Act.put, List.setIfInBounds_toArray, List.set_cons_zero, List.set_cons_succ, i64_w, i32_w]
                  rfl
                 refine one_ (i := 5) (N := some 97) #[true, true, true, true, true, true, false, false, false, false, false, false, false, false, false, false, false, false] rfl rfl (one_of HT_.out (by kernel_rfl)) (by decide) (fun K hK => ?_)
                 refine goes_ Try.func40 (by kernel_rfl) rfl #[.slice Ao88 t330.length co88, .int .i64 (rd t361 x10_4)] (by rfl) rfl rfl mU ?_
                 with_reducible refine (impl_NodeOf.calls k4 _ _ t330 (rd t361 x10_4) t372 _ ?side1 ?side2 A70.out).mono ?_
                 (case side1 => exact cU (Kd.R_reads' HO_6.out).2.2)
                 (case side2 => exact (Kd.R_reads' HO_6.out).2.1)
                 rintro e w89 ⟨rfl, hb⟩
                 have HS0_ := (hb.cell (World.block_lt_of_cell? _ _ (hHeld.1))).trans (hHeld.1)
                 have HS1_ := (hb.cell (World.block_lt_of_cell? _ _ (hHeld.2))).trans (hHeld.2)
                 refine ⟨_, rfl, ?_⟩
                 have n0_ := am (Kd.R_below (rU HO_3.out) hb)
                 have n1_ := am (Kd.R_below (rU HO_4.out) hb)
                 have n2_ := am (Kd.R_below (rU HO_6.out) hb)
                 have n3_ := am (Kd.R_below (rU HO_7.out) hb)
                 have n4_ := am (Kd.R_below (rU HO_8.out) hb)
                 have n5_ := am (Kd.R_below (rU HO_9.out) hb)
                 have n6_ := am (below_step (bU HB.out) hb)
                 clear HO_3
                 clear HO_4
                 clear HO_6
                 clear HO_7
                 clear HO_8
                 clear HO_9
                 clear HB
                 have HO_3 := n0_
                 have HO_4 := n1_
                 have HO_6 := n2_
                 have HO_7 := n3_
                 have HO_8 := n4_
                 have HO_9 := n5_
                 have HB := n6_
                 clear n0_ n1_ n2_ n3_ n4_ n5_ n6_
                 (try clear hb)
                 (try clear hb2)
                 (try clear hk)
                 (try clear hi)
                 refine hK.out _ _ ⟨HS0_, HS1_⟩ (fun hHeld => ?_)
                 clear hK K
                 refine norm_ (a' := ?_) ?_ ?_
                 rotate_left
                 ·show Act.put _ (some 97) _ = _
                  simp only [Act.put, List.setIfInBounds_toArray, List.set_cons_zero, List.set_cons_succ, i64_w, i32_w]
                  rfl
                 refine pure_ (i := 6) (N := some 98) (v := ?_) (a' := ?_) #[true, true, true, true, true, true, true, false, false, false, false, false, false, false, false, false, false, false] rfl rfl (any_of HT_.out (by kernel_rfl)) (fun _ _ _ h => h) (Or.inl ⟨by rfl, ?_⟩) ?_ ?_
                 rotate_left
                 ·intro w'
                  go_simp
                  with_reducible rfl
                 rotate_left
                 ·simp only [Act.put, List.setIfInBounds_toArray, List.set_cons_zero, List.set_cons_succ, i64_w, i32_w]
                  rfl
                 refine pure_ (i := 7) (N := some 99) (v := ?_) (a' := ?_) #[true, true, true, true, true, true, true, true, false, false, false, false, false, false, false, false, false, false] rfl rfl (any_of HT_.out (by kernel_rfl)) (fun _ _ _ h => h) (Or.inl ⟨by rfl, ?_⟩) ?_ ?_
                 rotate_left
                 ·intro w'
                  go_simp
                  with_reducible rfl
                 rotate_left
                 ·simp only [Act.put, List.setIfInBounds_toArray, List.set_cons_zero, List.set_cons_succ, i64_w, i32_w]
                  rfl
                 refine pure_ (i := 8) (N := some 100) (v := ?_) (a' := ?_) #[true, true, true, true, true, true, true, true, true, false, false, false, false, false, false, false, false, false] rfl rfl (any_of HT_.out (by kernel_rfl)) (fun _ _ _ h => h) (Or.inl ⟨by rfl, ?_⟩) ?_ ?_
                 rotate_left
                 ·intro w'
                  go_simp
                  with_reducible rfl
                 rotate_left
                 ·simp only [Act.put, List.setIfInBounds_toArray, List.set_cons_zero, List.set_cons_succ, i64_w, i32_w]
                  rfl
                 refine pure_ (i := 9) (N := some 101) (v := ?_) (a' := ?_) #[true, true, true, true, true, true, true, true, true, true, false, false, false, false, false, false, false, false] rfl rfl (any_of HT_.out (by kernel_rfl)) (fun _ _ _ h => h) (Or.inl ⟨by rfl, ?_⟩) ?_ ?_
                 rotate_left
                 ·intro w'
                  go_simp
                  with_reducible rfl
                 rotate_left
                 ·simp only [Act.put, List.setIfInBounds_toArray, List.set_cons_zero, List.set_cons_succ, i64_w, i32_w]
                  rfl
                 refine pure_ (i := 11) (N := some 103) (v := ?_) (a' := ?_) #[true, true, true, true, true, true, true, true, true, true, false, true, false, false, false, false, false, false] rfl rfl (any_of HT_.out (by kernel_rfl)) (fun _ _ _ h => h) (Or.inl ⟨by rfl, ?_⟩) ?_ ?_
                 rotate_left
                 ·intro w'
                  go_simp
                  with_reducible rfl
                 rotate_left
                 ·simp only [Act.put, List.setIfInBounds_toArray, List.set_cons_zero, List.set_cons_succ, i64_w, i32_w]
                  rfl
                 refine pure_ (i := 12) (N := some 104) (v := ?_) (a' := ?_) #[true, true, true, true, true, true, true, true, true, true, false, true, true, false, false, false, false, false] rfl rfl (any_of HT_.out (by kernel_rfl)) (fun _ _ _ h => h) (Or.inl ⟨by rfl, ?_⟩) ?_ ?_
                 rotate_left
                 ·intro w'
                  go_simp
                  with_reducible rfl
                 rotate_left
                 ·simp only [Act.put, List.setIfInBounds_toArray, List.set_cons_zero, List.set_cons_succ, i64_w, i32_w]
                  rfl
                 refine pure_ (i := 13) (N := some 105) (v := ?_) (a' := ?_) #[true, true, true, true, true, true, true, true, true, true, false, true, true, true, false, false, false, false] rfl rfl (any_of HT_.out (by kernel_rfl)) (fun _ _ _ h => h) (Or.inl ⟨by rfl, ?_⟩) ?_ ?_
                 rotate_left
                 ·intro w'
                  go_simp
                  with_reducible rfl
                 rotate_left
                 ·simp only [Act.put, List.setIfInBounds_toArray, List.set_cons_zero, List.set_cons_succ, i64_w, i32_w]
                  rfl
                 refine take_ (i := 14) (N := some 106) (v := ?_) (a' := ?_) #[true, true, true, true, true, true, true, true, true, true, false, true, true, true, true, false, false, false] rfl rfl (take_ofW HT_.out HW_.out (by kernel_rfl)) (fun _ _ _ h => h) (Or.inl ⟨by rfl, ?_⟩) hHeld ?_ ?_
                 rotate_left
                 ·rintro w' ⟨s0, s1⟩
                  go_simp
                  with_reducible rfl
                 rotate_left
                 ·simp only [Act.put, List.setIfInBounds_toArray, List.set_cons_zero, List.set_cons_succ, i64_w, i32_w]
                  rfl
                 refine one_ (i := 10) (N := some 102) #[true, true, true, true, true, true, true, true, true, true, true, true, true, true, true, false, false, false] rfl rfl (one_of HT_.out (by kernel_rfl)) (by decide) (fun K hK => ?_)
                 refine goes_ Try.func25 (by kernel_rfl) rfl #[.slice Ao10 t323.length co10, .slice Ao11 t324.length co11] (by rfl) rfl rfl mU ?_
                 with_reducible refine (impl_RunEdits.calls k4 _ _ t323 _ _ t324 t373 _ ?side1 ?side2 ?side3 ?side4 A76.out).mono ?_
                 (case side1 => exact cU (Kd.R_reads' HO_3.out).2.2)
                 (case side2 => exact (Kd.R_reads' HO_3.out).2.1)
                 (case side3 => exact cU (Kd.R_reads' HO_4.out).2.2)
                 (case side4 => exact (Kd.R_reads' HO_4.out).2.1)
                 rintro e w90 ⟨v374, rfl, ho0, hb⟩
                 have HS0_ := (hb.cell (World.block_lt_of_cell? _ _ (hHeld.1))).trans (hHeld.1)
                 have HS1_ := (hb.cell (World.block_lt_of_cell? _ _ (hHeld.2))).trans (hHeld.2)
                 refine ⟨_, rfl, ?_⟩
                 have n0_ := am (Kd.R_elder' (rU HO_3.out) (Kd.R_base ho0) hb)
                 have n1_ := am (Kd.R_below (rU HO_4.out) hb)
                 have n2_ := am (Kd.R_elder' (rU HO_6.out) (Kd.R_base ho0) hb)
                 have n3_ := am (Kd.R_below (rU HO_7.out) hb)
                 have n4_ := am (Kd.R_below (rU HO_8.out) hb)
                 have n5_ := am (Kd.R_below (rU HO_9.out) hb)
                 have n6_ := am (Kd.R_lower (Kd.R_new' (Kd.R_new' ho0 (Kd.R_lt (rU HO_3.out))) (Kd.R_lt (rU HO_6.out))) (below_size (bU HB.out)))
                 have n7_ := am (below_step (bU HB.out) hb)
                 clear HO_3
                 clear HO_4
                 clear HO_6
                 clear HO_7
                 clear HO_8
                 clear HO_9
                 clear HB
                 have HO_3 := n0_
                 have HO_4 := n1_
                 have HO_6 := n2_
                 have HO_7 := n3_
                 have HO_8 := n4_
                 have HO_9 := n5_
                 have HO375 := n6_
                 have HB := n7_
                 clear n0_ n1_ n2_ n3_ n4_ n5_ n6_ n7_
                 (try clear hb)
                 (try clear hb2)
                 (try clear hk)
                 (try clear hi)
                 (try clear ho0)
                 obtain ⟨Ao91, co91, eo91⟩ := Kd.R_slice HO375.out
                 (first | subst eo91 | (injection eo91 with f1_ f2_ f3_; have f4_ := f1_.symm; have f5_ := f3_.symm; clear f1_ f2_ f3_; subst f4_; subst f5_))
                 refine hK.out _ _ ⟨HS0_, HS1_⟩ (fun hHeld => ?_)
                 clear hK K
                 refine norm_ (a' := ?_) ?_ ?_
                 rotate_left
                 ·show Act.put _ (some 102) _ = _
                  simp only [Act.put, List.setIfInBounds_toArray, List.set_cons_zero, List.set_cons_succ, i64_w, i32_w]
                  rfl
                 refine one_ (i := 15) (N := some 107) #[true, true, true, true, true, true, true, true, true, true, true, true, true, true, true, true, false, false] rfl rfl (one_of HT_.out (by kernel_rfl)) (by decide) (fun K hK => ?_)
                 refine goes_ Try.func40 (by kernel_rfl) rfl #[.slice Ao91 t373.length co91, .int .i64 (rd t361 x10_4)] (by rfl) rfl rfl mU ?_
                 with_reducible refine (impl_NodeOf.calls k4 _ _ t373 (rd t361 x10_4) t377 _ ?side1 ?side2 A77.out).mono ?_
                 (case side1 => exact cU (Kd.R_reads' HO375.out).2.2)
                 (case side2 => exact (Kd.R_reads' HO375.out).2.1)
                 rintro e w92 ⟨rfl, hb⟩
                 have HS0_ := (hb.cell (World.block_lt_of_cell? _ _ (hHeld.1))).trans (hHeld.1)
                 have HS1_ := (hb.cell (World.block_lt_of_cell? _ _ (hHeld.2))).trans (hHeld.2)
                 refine ⟨_, rfl, ?_⟩
                 have n0_ := am (Kd.R_below (rU HO_3.out) hb)
                 have n1_ := am (Kd.R_below (rU HO_4.out) hb)
                 have n2_ := am (Kd.R_below (rU HO_6.out) hb)
                 have n3_ := am (Kd.R_below (rU HO_7.out) hb)
                 have n4_ := am (Kd.R_below (rU HO_8.out) hb)
                 have n5_ := am (Kd.R_below (rU HO_9.out) hb)
                 have n6_ := am (Kd.R_below (rU HO375.out) hb)
                 have n7_ := am (below_step (bU HB.out) hb)
                 clear HO_3
                 clear HO_4
                 clear HO_6
                 clear HO_7
                 clear HO_8
                 clear HO_9
                 clear HO375
                 clear HB
                 have HO_3 := n0_
                 have HO_4 := n1_
                 have HO_6 := n2_
                 have HO_7 := n3_
                 have HO_8 := n4_
                 have HO_9 := n5_
                 have HO375 := n6_
                 have HB := n7_
                 clear n0_ n1_ n2_ n3_ n4_ n5_ n6_ n7_
                 (try clear hb)
                 (try clear hb2)
                 (try clear hk)
                 (try clear hi)
                 refine hK.out _ _ ⟨HS0_, HS1_⟩ (fun hHeld => ?_)
                 clear hK K
                 refine norm_ (a' := ?_) ?_ ?_
                 rotate_left
                 ·show Act.put _ (some 107) _ = _
                  simp only [Act.put, List.setIfInBounds_toArray, List.set_cons_zero, List.set_cons_succ, i64_w, i32_w]
                  rfl
                 refine pure_ (i := 16) (N := some 108) (v := ?_) (a' := ?_) #[true, true, true, true, true, true, true, true, true, true, true, true, true, true, true, true, true, false] rfl rfl (any_of HT_.out (by kernel_rfl)) (fun _ _ _ h => h) (Or.inl ⟨by rfl, ?_⟩) ?_ ?_
                 rotate_left
                 ·intro w'
                  go_simp
                  with_reducible rfl
                 rotate_left
                 ·simp only [Act.put, List.setIfInBounds_toArray, List.set_cons_zero, List.set_cons_succ, i64_w, i32_w]
                  rfl
                 refine pure_ (i := 17) (N := some 109) (v := ?_) (a' := ?_) #[true, true, true, true, true, true, true, true, true, true, true, true, true, true, true, true, true, true] rfl rfl (any_of HT_.out (by kernel_rfl)) (fun _ _ _ h => h) (Or.inl ⟨by rfl, ?_⟩) ?_ ?_
                 rotate_left
                 ·intro w'
                  go_simp
                  with_reducible rfl
                 rotate_left
                 ·simp only [Act.put, List.setIfInBounds_toArray, List.set_cons_zero, List.set_cons_succ, i64_w, i32_w]
                  rfl
                 refine done_ (done_of HT_.out (by kernel_rfl)) ?_
                 try go_wp2
                 go_roundg k4
                 case measure => have := HJ7.out; have := HJ33.out; have := HJ47.out; have := HK4.out; omega
                 case rel => exact ⟨(wrap64 (x10_4 + 1)), (by first | rfl | (simp; done) | (simp [*]; done)), H', ⟨by have := HJ7.out; have := HJ33.out; have := HJ47.out; have := HK4.out; omega⟩, ⟨by (with_reducible repeat (first | apply Kd.R_alloc | apply Kd.R_drewN | apply Kd.R_drew)); exact Kd.R_mono HO_3.out (fun _ hk => hk.1)⟩, ⟨rU HO_4.out⟩, ⟨by (with_reducible repeat (first | apply Kd.R_alloc | apply Kd.R_drewN | apply Kd.R_drew)); exact Kd.R_mono HO_6.out (fun _ hk => hk.1)⟩, ⟨rU HO_7.out⟩, ⟨rU HO_8.out⟩, ⟨rU HO_9.out⟩, ⟨bU HB.out⟩⟩
              ·rw [if_neg c69] at H
               exact absurd H (by simp)
             ·rw [if_neg c68] at H
              have c68b0 : decide (x10_4 < (t361.length : Int)) = false := decide_eq_false c68
              clear c68
              replace H := Option.bind_eq_some_iff.mp H
              obtain ⟨t364, A930, H⟩ := H
              replace H : (if (t364.length : Int) ≤ (t333.length : Int) then ((impl_TakeBack.f k4 t323 t336 t325).bind fun t367 => ((impl_EqualDocuments.f k4 t367 t330).bind fun t370 => (some t370))) else (some false)) = some r := H
              have A93 := am A930
              clear A930
              by_cases c94 : (t364.length : Int) ≤ (t333.length : Int)
              ·rw [if_pos c94] at H
               have c94b0 : decide ((t364.length : Int) ≤ (t333.length : Int)) = true := decide_eq_true c94
               have c94b1 : decide (t364.length ≤ t333.length) = true := decide_eq_true (Int.ofNat_le.mp c94)
               clear c94
               replace H := Option.bind_eq_some_iff.mp H
               obtain ⟨t367, A950, H⟩ := H
               replace H : ((impl_EqualDocuments.f k4 t367 t330).bind fun t370 => (some t370)) = some r := H
               have A95 := am A950
               clear A950
               replace H := Option.bind_eq_some_iff.mp H
               obtain ⟨t370, A960, H⟩ := H
               replace H : (some t370) = some r := H
               have A96 := am A960
               clear A960
               obtain rfl := Option.some.inj H
               obtain ⟨Ao97, co97, eo97⟩ := Kd.R_slice HO_9.out
               subst eo97
               go_wp2_with (first | ((with_reducible refine gate_callee (f := 58) rfl ?_); refine goesL_ (some 112) rfl rfl Try.func58 (by kernel_rfl) rfl #[.slice Ao11 t324.length co11, .int .i64 t325] rfl mU ?_; (with_reducible refine (impl_Touched.calls k4 _ _ t324 t325 t364 _ ?side1 ?side2 A93.out).mono ?_); (case side1 => exact cU (Kd.R_reads' HO_4.out).2.2); (case side2 => exact (Kd.R_reads' HO_4.out).2.1); rintro e w98 ⟨v365, rfl, ho0, hb⟩; refine ⟨_, rfl, ?_⟩; have n0_ := am (Kd.R_below (rU HO_3.out) hb); have n1_ := am (Kd.R_below (rU HO_4.out) hb); have n2_ := am (Kd.R_below (rU HO_6.out) hb); have n3_ := am (Kd.R_below (rU HO_7.out) hb); have n4_ := am (Kd.R_below (rU HO_8.out) hb); have n5_ := am (Kd.R_elder' (rU HO_9.out) (Kd.R_base ho0) hb); have n6_ := am (Kd.R_lower (Kd.R_new' ho0 (Kd.R_lt (rU HO_9.out))) (below_size (bU HB.out))); have n7_ := am (below_step (bU HB.out) hb); clear HO_3; clear HO_4; clear HO_6; clear HO_7; clear HO_8; clear HO_9; clear HB; have HO_3 := n0_; have HO_4 := n1_; have HO_6 := n2_; have HO_7 := n3_; have HO_8 := n4_; have HO_9 := n5_; have HO366 := n6_; have HB := n7_; clear n0_ n1_ n2_ n3_ n4_ n5_ n6_ n7_; (try clear hb); (try clear hb2); (try clear hk); (try clear hi); (try clear ho0); obtain ⟨Ao99, co99, eo99⟩ := Kd.R_slice HO366.out; subst eo99; obtain ⟨Ao100, co100, eo100⟩ := Kd.R_slice HO_7.out; subst eo100; obtain ⟨Ao101, co101, eo101⟩ := Kd.R_slice HO_8.out; subst eo101) | (go_at_call 29; (with_reducible refine (impl_TakeBack.calls k4 _ _ t323 _ _ t336 t325 t367 _ ?side1 ?side2 ?side3 ?side4 A95.out).mono ?_); (case side1 => exact cU (Kd.R_reads' HO_3.out).2.2); (case side2 => exact (Kd.R_reads' HO_3.out).2.1); (case side3 => exact cU (Kd.R_reads' HO_8.out).2.2); (case side4 => exact (Kd.R_reads' HO_8.out).2.1); rintro e w102 ⟨v368, rfl, ho0, hb⟩; have n0_ := am (Kd.R_elder' (rU HO_3.out) (Kd.R_base ho0) hb); have n1_ := am (Kd.R_below (rU HO_4.out) hb); have n2_ := am (Kd.R_elder' (rU HO_6.out) (Kd.R_base ho0) hb); have n3_ := am (Kd.R_below (rU HO_7.out) hb); have n4_ := am (Kd.R_below (rU HO_8.out) hb); have n5_ := am (Kd.R_below (rU HO_9.out) hb); have n6_ := am (Kd.R_below (rU HO366.out) hb); have n7_ := am (Kd.R_lower (Kd.R_new' (Kd.R_new' ho0 (Kd.R_lt (rU HO_3.out))) (Kd.R_lt (rU HO_6.out))) (below_size (bU HB.out))); have n8_ := am (below_step (bU HB.out) hb); clear HO_3; clear HO_4; clear HO_6; clear HO_7; clear HO_8; clear HO_9; clear HO366; clear HB; have HO_3 := n0_; have HO_4 := n1_; have HO_6 := n2_; have HO_7 := n3_; have HO_8 := n4_; have HO_9 := n5_; have HO366 := n6_; have HO369 := n7_; have HB := n8_; clear n0_ n1_ n2_ n3_ n4_ n5_ n6_ n7_ n8_; (try clear hb); (try clear hb2); (try clear hk); (try clear hi); (try clear ho0); obtain ⟨Ao103, co103, eo103⟩ := Kd.R_slice HO369.out; subst eo103; obtain ⟨Ao104, co104, eo104⟩ := Kd.R_slice HO_6.out; subst eo104) | (go_at_call 46; (with_reducible refine (impl_EqualDocuments.calls k4 _ _ t367 _ _ t330 t370 _ ?side1 ?side2 ?side3 ?side4 A96.out).mono ?_); (case side1 => exact cU (Kd.R_reads' HO369.out).2.2); (case side2 => exact (Kd.R_reads' HO369.out).2.1); (case side3 => exact cU (Kd.R_reads' HO_6.out).2.2); (case side4 => exact (Kd.R_reads' HO_6.out).2.1); rintro e w' ⟨rfl, ⟨nd, rfl⟩⟩))
               go_ret
               exact ⟨eU, bU HB.out⟩
              ·rw [if_neg c94] at H
               have c94b0 : decide ((t364.length : Int) ≤ (t333.length : Int)) = false := decide_eq_false c94
               have c94b1 : decide (t364.length ≤ t333.length) = false := decide_eq_false (fun h => c94 (Int.ofNat_le.mpr h))
               clear c94
               obtain rfl := Option.some.inj H
               obtain ⟨Ao105, co105, eo105⟩ := Kd.R_slice HO_9.out
               subst eo105
               go_wp2_with (first | ((with_reducible refine gate_callee (f := 58) rfl ?_); refine goesL_ (some 112) rfl rfl Try.func58 (by kernel_rfl) rfl #[.slice Ao11 t324.length co11, .int .i64 t325] rfl mU ?_; (with_reducible refine (impl_Touched.calls k4 _ _ t324 t325 t364 _ ?side1 ?side2 A93.out).mono ?_); (case side1 => exact cU (Kd.R_reads' HO_4.out).2.2); (case side2 => exact (Kd.R_reads' HO_4.out).2.1); rintro e w106 ⟨v365, rfl, ho0, hb⟩; refine ⟨_, rfl, ?_⟩; have n0_ := am (Kd.R_below (rU HO_3.out) hb); have n1_ := am (Kd.R_below (rU HO_4.out) hb); have n2_ := am (Kd.R_below (rU HO_6.out) hb); have n3_ := am (Kd.R_below (rU HO_7.out) hb); have n4_ := am (Kd.R_below (rU HO_8.out) hb); have n5_ := am (Kd.R_elder' (rU HO_9.out) (Kd.R_base ho0) hb); have n6_ := am (Kd.R_lower (Kd.R_new' ho0 (Kd.R_lt (rU HO_9.out))) (below_size (bU HB.out))); have n7_ := am (below_step (bU HB.out) hb); clear HO_3; clear HO_4; clear HO_6; clear HO_7; clear HO_8; clear HO_9; clear HB; have HO_3 := n0_; have HO_4 := n1_; have HO_6 := n2_; have HO_7 := n3_; have HO_8 := n4_; have HO_9 := n5_; have HO366 := n6_; have HB := n7_; clear n0_ n1_ n2_ n3_ n4_ n5_ n6_ n7_; (try clear hb); (try clear hb2); (try clear hk); (try clear hi); (try clear ho0); obtain ⟨Ao107, co107, eo107⟩ := Kd.R_slice HO366.out; subst eo107; obtain ⟨Ao108, co108, eo108⟩ := Kd.R_slice HO_7.out; subst eo108))
               go_ret
               exact ⟨eU, bU HB.out⟩
def laws_FnTakenBack.Pure : Prop := ∀ (l0 : List Int), l0.length ≤ maxLen → l0.length * 1 ≤ 140737488351232 → (∀ x ∈ l0, (Lit.int .u8 x).wf = true) → ∃ k, laws_FnTakenBack.f k l0 = some true
theorem laws_FnTakenBack.walk (P : laws_FnTakenBack.Pure) (a0 : Option Addr) (len0 cap0 : Nat) (z0 : List Int) (w : World) (w0 : (a0 = none ∧ len0 = 0 ∧ cap0 = 0 ∧ z0 = []) ∨ ∃ x, a0 = some x ∧ len0 ≤ cap0 ∧ cap0 ≤ maxLen ∧ z0.length = cap0 ∧ (∀ i, i < z0.length → w.cell? (x.add i) = some (.int .u8 (z0.getD i 0))) ∧ ∀ n ∈ z0, (Lit.int .u8 n).wf = true) (y0 : len0 * 1 ≤ 140737488351232) :
  Calls Try.prog 13 #[.slice a0 len0 cap0] w fun e w' => e = .returned (.bool true) ∧ Below w.heap.size w w' := by
 obtain ⟨l0, rfl, hr0, hm0, hw0, hc0⟩ := ReadsInt.ofRowC w0
 obtain ⟨k, h⟩ := P l0 hm0 y0 hw0
 refine (laws_FnTakenBack.calls k _ _ l0 true w (Kd.C_of_reads (d := (0 : Int)) (h1 := fun _ => rfl) hr0) hc0 h).mono ?_
 rintro e w' ⟨rfl, hd⟩
 exact ⟨rfl, hd⟩
end Go.Proofs.Ytiiibfpijmmbfaa.QFnTakenBack
