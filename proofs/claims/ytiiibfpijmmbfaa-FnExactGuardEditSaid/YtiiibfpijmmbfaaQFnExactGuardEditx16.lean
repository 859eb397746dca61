import Derived.Test.YtiiibfpijmmbfaaUp
import Derived.Test.YtiiibfpijmmbfaaQFnExactGuardEditx0
import Derived.Test.YtiiibfpijmmbfaaQFnExactGuardEditx1
import Derived.Test.YtiiibfpijmmbfaaQFnExactGuardEditx2
import Derived.Test.YtiiibfpijmmbfaaQFnExactGuardEditx9
import Derived.Test.YtiiibfpijmmbfaaQFnExactGuardEditx14
import Derived.Test.YtiiibfpijmmbfaaQFnExactGuardEditx15
namespace Go.Proofs.Ytiiibfpijmmbfaa.QFnExactGuardEdit
open Go.RowKit Go.Proofs.YtiiibfpijmmbfaaW.PrintWords Go.Proofs.YtiiibfpijmmbfaaW.PrintLast Go.Proofs.YtiiibfpijmmbfaaW.PrintMore
attribute [local go_sem] max2_int min2_int max_two min_two max_three min_three max_four min_four
set_option linter.unusedVariables false
set_option linter.unusedSimpArgs false
mutual
def laws_FnExactGuardEdit.j0 : Nat → List (S87) → List Int → List (S59) → Bool → List (S59) → List Int → List (S59) → Bool → Bool → Int → Int → Int → Int → Int → Int → Option (Bool)
 | 0, _, _, _, _, _, _, _, _, _, _, _, _, _, _, _ => none
 | k + 1, x0, x1, x8, x9, x10, x11, x12, x13, x57, x411000, x411001, x411002, x411003, x411004, x411005 => if x57 = true then (some false) else ((laws_toNodeS.f k x0).bind fun t445 => ((laws_eqNodeS.f k x10 t445).bind fun t448 => (if t448 = true then ((laws_toIntS.f k x1).bind fun t449 => ((laws_eqIntS.f k x11 t449).bind fun t452 => (if t452 = true then ((laws_markNodeS.f k x10 1).bind fun bt453 => ((laws_markIntS.f k x11 bt453.1).bind fun bt455 => (if bt455.1 < 0 then (laws_FnExactGuardEdit.j1 k x0 x1 x8 x9 x12 true x411000 x411001 x411002 x411003 x411004 x411005) else ((laws_eqNodeS.f k x12 x8).bind fun t457 => (if t457 = true then (laws_FnExactGuardEdit.j1 k x0 x1 x8 x9 x12 (x13 != x9) x411000 x411001 x411002 x411003 x411004 x411005) else (laws_FnExactGuardEdit.j1 k x0 x1 x8 x9 x12 true x411000 x411001 x411002 x411003 x411004 x411005)))))) else (some false)))) else (some false))))
def laws_FnExactGuardEdit.j1 : Nat → List (S87) → List Int → List (S59) → Bool → List (S59) → Bool → Int → Int → Int → Int → Int → Int → Option (Bool)
 | 0, _, _, _, _, _, _, _, _, _, _, _, _ => none
 | k + 1, x0, x1, x8, x9, x12, x86, x411000, x411001, x411002, x411003, x411004, x411005 => if x86 = true then (some false) else ((laws_markNodeS.f k x12 1).bind fun bt458 => ((laws_heldNodeS.f k bt458.2 1).bind fun t460 => (if t460 < 0 then (some false) else (if t460 = bt458.1 then ((laws_toNodeS.f k x0).bind fun t461 => ((laws_toIntS.f k x1).bind fun t464 => ((laws_toEdit.f x411000 x411001 x411002 x411003 x411004 x411005).bind fun bt467 => ((impl_GuardEdit.f k t461 t464 bt467.1 bt467.2.1 bt467.2.2.1 bt467.2.2.2.1 bt467.2.2.2.2.1 bt467.2.2.2.2.2).bind fun bt473 => ((laws_eqNodeS.f k bt473.1 x8).bind fun t477 => (if t477 = true then (laws_FnExactGuardEdit.j2 k bt458.2 bt458.1 (bt473.2 != x9)) else (laws_FnExactGuardEdit.j2 k bt458.2 bt458.1 true))))))) else (some false)))))
def laws_FnExactGuardEdit.j2 : Nat → List (S59) → Int → Bool → Option (Bool)
 | 0, _, _, _ => none
 | k + 1, x12, x15, x116 => if x116 = true then (some false) else ((laws_heldNodeS.f k x12 1).bind fun t478 => (if t478 < 0 then (some false) else (if t478 = x15 then (some true) else (some false))))
end
def laws_FnExactGuardEdit.f (k : Nat) (l0 : List (S87)) (l1 : List Int) (a2_0 : Int) (a2_1 : Int) (a2_2 : Int) (a2_3 : Int) (a2_4 : Int) (a2_5 : Int) : Option (Bool) := if (l1.length : Int) > 1048576 then (some true) else ((laws_szNodeS.f l0 1048576).bind fun t411 => (if t411 < 0 then (some true) else ((laws_toNodeS.f k l0).bind fun t412 => ((laws_toIntS.f k l1).bind fun t415 => ((laws_toEdit.f a2_0 a2_1 a2_2 a2_3 a2_4 a2_5).bind fun bt418 => ((spec_GuardEdit.f k t412 t415 bt418.1 bt418.2.1 bt418.2.2.1 bt418.2.2.2.1 bt418.2.2.2.2.1 bt418.2.2.2.2.2).bind fun bt424 => ((laws_toNodeS.f k l0).bind fun t428 => ((laws_toIntS.f k l1).bind fun t431 => ((laws_toEdit.f a2_0 a2_1 a2_2 a2_3 a2_4 a2_5).bind fun bt434 => ((impl_GuardEdit.f k t428 t431 bt434.1 bt434.2.1 bt434.2.2.1 bt434.2.2.2.1 bt434.2.2.2.2.1 bt434.2.2.2.2.2).bind fun bt440 => ((laws_eqNodeS.f k bt440.1 bt424.1).bind fun t444 => (if t444 = true then (laws_FnExactGuardEdit.j0 k l0 l1 bt424.1 bt424.2 t428 t431 bt440.1 bt440.2 (bt440.2 != bt424.2) a2_0 a2_1 a2_2 a2_3 a2_4 a2_5) else (laws_FnExactGuardEdit.j0 k l0 l1 bt424.1 bt424.2 t428 t431 bt440.1 bt440.2 true a2_0 a2_1 a2_2 a2_3 a2_4 a2_5)))))))))))))
theorem laws_FnExactGuardEdit.mono_l : ∀ k, (∀ y0 y1 y2 y3 y4 y5 y6 y7 y8 y9 y10 y11 y12 y13 y14, LeO (laws_FnExactGuardEdit.j0 k y0 y1 y2 y3 y4 y5 y6 y7 y8 y9 y10 y11 y12 y13 y14) (laws_FnExactGuardEdit.j0 (k + 1) y0 y1 y2 y3 y4 y5 y6 y7 y8 y9 y10 y11 y12 y13 y14)) ∧ (∀ y0 y1 y2 y3 y4 y5 y6 y7 y8 y9 y10 y11, LeO (laws_FnExactGuardEdit.j1 k y0 y1 y2 y3 y4 y5 y6 y7 y8 y9 y10 y11) (laws_FnExactGuardEdit.j1 (k + 1) y0 y1 y2 y3 y4 y5 y6 y7 y8 y9 y10 y11)) ∧ (∀ y0 y1 y2, LeO (laws_FnExactGuardEdit.j2 k y0 y1 y2) (laws_FnExactGuardEdit.j2 (k + 1) y0 y1 y2))
 | 0 => ⟨fun _ _ _ _ _ _ _ _ _ _ _ _ _ _ _ r h => by simp [laws_FnExactGuardEdit.j0] at h, fun _ _ _ _ _ _ _ _ _ _ _ _ r h => by simp [laws_FnExactGuardEdit.j1] at h, fun _ _ _ r h => by simp [laws_FnExactGuardEdit.j2] at h⟩
 | k + 1 => by
  obtain ⟨ih0, ih1, ih2⟩ := laws_FnExactGuardEdit.mono_l k
  refine ⟨?_, ?_, ?_⟩
  ·intro y0 y1 y2 y3 y4 y5 y6 y7 y8 y9 y10 y11 y12 y13 y14
   unfold laws_FnExactGuardEdit.j0
   repeat' first
   | (with_reducible exact ih0 _ _ _ _ _ _ _ _ _ _ _ _ _ _ _)
   | (with_reducible exact ih1 _ _ _ _ _ _ _ _ _ _ _ _)
   | (with_reducible exact ih2 _ _ _)
   | (with_reducible exact impl_GuardEdit.mono _ _ _ _ _ _ _ _ _)
   | (with_reducible exact laws_eqIntS.mono _ _ _)
   | (with_reducible exact laws_eqNodeS.mono _ _ _)
   | (with_reducible exact laws_heldNodeS.mono _ _ _)
   | (with_reducible exact laws_markIntS.mono _ _ _)
   | (with_reducible exact laws_markNodeS.mono _ _ _)
   | (with_reducible exact laws_toIntS.mono _ _)
   | (with_reducible exact laws_toNodeS.mono _ _)
   | (with_reducible exact spec_GuardEdit.mono _ _ _ _ _ _ _ _ _)
   | (with_reducible exact LeO.refl _)
   | (with_reducible exact LeO.none _)
   | (with_reducible refine LeO.ite ?_ ?_)
   | (with_reducible refine LeO.bind ?_ (fun _ => ?_))
   | exact ih0 _ _ _ _ _ _ _ _ _ _ _ _ _ _ _
   | exact ih1 _ _ _ _ _ _ _ _ _ _ _ _
   | exact ih2 _ _ _
   | exact impl_GuardEdit.mono _ _ _ _ _ _ _ _ _
   | exact laws_eqIntS.mono _ _ _
   | exact laws_eqNodeS.mono _ _ _
   | exact laws_heldNodeS.mono _ _ _
   | exact laws_markIntS.mono _ _ _
   | exact laws_markNodeS.mono _ _ _
   | exact laws_toIntS.mono _ _
   | exact laws_toNodeS.mono _ _
   | exact spec_GuardEdit.mono _ _ _ _ _ _ _ _ _
   | exact LeO.none _
   | refine LeO.ite ?_ ?_
   | refine LeO.bind ?_ (fun _ => ?_)
  ·intro y0 y1 y2 y3 y4 y5 y6 y7 y8 y9 y10 y11
   unfold laws_FnExactGuardEdit.j1
   repeat' first
   | (with_reducible exact ih0 _ _ _ _ _ _ _ _ _ _ _ _ _ _ _)
   | (with_reducible exact ih1 _ _ _ _ _ _ _ _ _ _ _ _)
   | (with_reducible exact ih2 _ _ _)
   | (with_reducible exact impl_GuardEdit.mono _ _ _ _ _ _ _ _ _)
   | (with_reducible exact laws_eqIntS.mono _ _ _)
   | (with_reducible exact laws_eqNodeS.mono _ _ _)
   | (with_reducible exact laws_heldNodeS.mono _ _ _)
   | (with_reducible exact laws_markIntS.mono _ _ _)
   | (with_reducible exact laws_markNodeS.mono _ _ _)
   | (with_reducible exact laws_toIntS.mono _ _)
   | (with_reducible exact laws_toNodeS.mono _ _)
   | (with_reducible exact spec_GuardEdit.mono _ _ _ _ _ _ _ _ _)
   | (with_reducible exact LeO.refl _)
   | (with_reducible exact LeO.none _)
   | (with_reducible refine LeO.ite ?_ ?_)
   | (with_reducible refine LeO.bind ?_ (fun _ => ?_))
   | exact ih0 _ _ _ _ _ _ _ _ _ _ _ _ _ _ _
   | exact ih1 _ _ _ _ _ _ _ _ _ _ _ _
   | exact ih2 _ _ _
   | exact impl_GuardEdit.mono _ _ _ _ _ _ _ _ _
   | exact laws_eqIntS.mono _ _ _
   | exact laws_eqNodeS.mono _ _ _
   | exact laws_heldNodeS.mono _ _ _
   | exact laws_markIntS.mono _ _ _
   | exact laws_markNodeS.mono _ _ _
   | exact laws_toIntS.mono _ _
   | exact laws_toNodeS.mono _ _
   | exact spec_GuardEdit.mono _ _ _ _ _ _ _ _ _
   | exact LeO.none _
   | refine LeO.ite ?_ ?_
   | refine LeO.bind ?_ (fun _ => ?_)
  ·intro y0 y1 y2
   unfold laws_FnExactGuardEdit.j2
   repeat' first
   | (with_reducible exact ih0 _ _ _ _ _ _ _ _ _ _ _ _ _ _ _)
   | (with_reducible exact ih1 _ _ _ _ _ _ _ _ _ _ _ _)
   | (with_reducible exact ih2 _ _ _)
   | (with_reducible exact impl_GuardEdit.mono _ _ _ _ _ _ _ _ _)
   | (with_reducible exact laws_eqIntS.mono _ _ _)
   | (with_reducible exact laws_eqNodeS.mono _ _ _)
   | (with_reducible exact laws_heldNodeS.mono _ _ _)
   | (with_reducible exact laws_markIntS.mono _ _ _)
   | (with_reducible exact laws_markNodeS.mono _ _ _)
   | (with_reducible exact laws_toIntS.mono _ _)
   | (with_reducible exact laws_toNodeS.mono _ _)
   | (with_reducible exact spec_GuardEdit.mono _ _ _ _ _ _ _ _ _)
   | (with_reducible exact LeO.refl _)
   | (with_reducible exact LeO.none _)
   | (with_reducible refine LeO.ite ?_ ?_)
   | (with_reducible refine LeO.bind ?_ (fun _ => ?_))
   | exact ih0 _ _ _ _ _ _ _ _ _ _ _ _ _ _ _
   | exact ih1 _ _ _ _ _ _ _ _ _ _ _ _
   | exact ih2 _ _ _
   | exact impl_GuardEdit.mono _ _ _ _ _ _ _ _ _
   | exact laws_eqIntS.mono _ _ _
   | exact laws_eqNodeS.mono _ _ _
   | exact laws_heldNodeS.mono _ _ _
   | exact laws_markIntS.mono _ _ _
   | exact laws_markNodeS.mono _ _ _
   | exact laws_toIntS.mono _ _
   | exact laws_toNodeS.mono _ _
   | exact spec_GuardEdit.mono _ _ _ _ _ _ _ _ _
   | exact LeO.none _
   | refine LeO.ite ?_ ?_
   | refine LeO.bind ?_ (fun _ => ?_)
theorem laws_FnExactGuardEdit.mono : ∀ a0 a1 a2 a3 a4 a5 a6 a7 k, LeO (laws_FnExactGuardEdit.f k a0 a1 a2 a3 a4 a5 a6 a7) (laws_FnExactGuardEdit.f (k + 1) a0 a1 a2 a3 a4 a5 a6 a7) := by
 intro a0 a1 a2 a3 a4 a5 a6 a7 k
 obtain ⟨ih0, ih1, ih2⟩ := laws_FnExactGuardEdit.mono_l k
 unfold laws_FnExactGuardEdit.f
 repeat' first
   | (with_reducible exact ih0 _ _ _ _ _ _ _ _ _ _ _ _ _ _ _)
   | (with_reducible exact ih1 _ _ _ _ _ _ _ _ _ _ _ _)
   | (with_reducible exact ih2 _ _ _)
   | (with_reducible exact impl_GuardEdit.mono _ _ _ _ _ _ _ _ _)
   | (with_reducible exact laws_eqIntS.mono _ _ _)
   | (with_reducible exact laws_eqNodeS.mono _ _ _)
   | (with_reducible exact laws_heldNodeS.mono _ _ _)
   | (with_reducible exact laws_markIntS.mono _ _ _)
   | (with_reducible exact laws_markNodeS.mono _ _ _)
   | (with_reducible exact laws_toIntS.mono _ _)
   | (with_reducible exact laws_toNodeS.mono _ _)
   | (with_reducible exact spec_GuardEdit.mono _ _ _ _ _ _ _ _ _)
   | (with_reducible exact LeO.refl _)
   | (with_reducible exact LeO.none _)
   | (with_reducible refine LeO.ite ?_ ?_)
   | (with_reducible refine LeO.bind ?_ (fun _ => ?_))
   | exact ih0 _ _ _ _ _ _ _ _ _ _ _ _ _ _ _
   | exact ih1 _ _ _ _ _ _ _ _ _ _ _ _
   | exact ih2 _ _ _
   | exact impl_GuardEdit.mono _ _ _ _ _ _ _ _ _
   | exact laws_eqIntS.mono _ _ _
   | exact laws_eqNodeS.mono _ _ _
   | exact laws_heldNodeS.mono _ _ _
   | exact laws_markIntS.mono _ _ _
   | exact laws_markNodeS.mono _ _ _
   | exact laws_toIntS.mono _ _
   | exact laws_toNodeS.mono _ _
   | exact spec_GuardEdit.mono _ _ _ _ _ _ _ _ _
   | exact LeO.none _
   | refine LeO.ite ?_ ?_
   | refine LeO.bind ?_ (fun _ => ?_)
def laws_FnExactGuardEdit.T7 : Bool × List (List Nat × List Nat) := (true, [([], []), ([0], [0]), ([], []), ([2, 1], [2]), ([], []), ([4, 3], [4]), ([1, 3, 5, 5], [1, 3, 5]), ([6], [6]), ([7], [7]), ([7], [7]), ([8, 6, 0, 1, 2, 3, 4, 5, 6, 7, 8], [8]), ([9, 10, 0, 1, 2, 3, 4, 5, 6, 7, 8, 9, 10], [9])])
def laws_FnExactGuardEdit.B7 : List Nat := [0, 1, 0, 7, 0, 31, 63, 127, 255, 255, 511, 2047]
theorem laws_FnExactGuardEdit.tab7 : rtab .any (opsOf Try.f6 7) = laws_FnExactGuardEdit.T7 := by kernel_rfl
theorem laws_FnExactGuardEdit.bits7 : waitsOk laws_FnExactGuardEdit.T7.2 laws_FnExactGuardEdit.B7 = true := by kernel_rfl
def laws_FnExactGuardEdit.T30 : Bool × List (List Nat × List Nat) := (true, [([], []), ([0], [0]), ([], []), ([2, 1], [2]), ([], []), ([4, 3], [4]), ([1, 3, 5, 5], [1, 3, 5]), ([6], [6]), ([7], [7]), ([7], [7]), ([8, 6, 0, 1, 2, 3, 4, 5, 6, 7, 8], [8]), ([9, 10, 0, 1, 2, 3, 4, 5, 6, 7, 8, 9, 10], [9])])
def laws_FnExactGuardEdit.B30 : List Nat := [0, 1, 0, 7, 0, 31, 63, 127, 255, 255, 511, 2047]
theorem laws_FnExactGuardEdit.tab30 : rtab .any (opsOf Try.f6 30) = laws_FnExactGuardEdit.T30 := by kernel_rfl
theorem laws_FnExactGuardEdit.bits30 : waitsOk laws_FnExactGuardEdit.T30.2 laws_FnExactGuardEdit.B30 = true := by kernel_rfl
set_option maxHeartbeats 8000000 in
set_option maxRecDepth 100000 in
theorem laws_FnExactGuardEdit.calls (k : Nat) (A0 : Option Addr) (c0 : Nat) (l0 : List (S87)) (A1 : Option Addr) (c1 : Nat) (l1 : List Int) (a2_0 : Int) (a2_1 : Int) (a2_2 : Int) (a2_3 : Int) (a2_4 : Int) (a2_5 : Int) (r : Bool) (w : World) (hr0 : Kd.C k87 w A0 l0.length l0) (hc0 : l0.length ≤ c0) (hr1 : Kd.C (Kd.int .i64) w A1 l1.length l1) (hc1 : l1.length ≤ c1) (h : laws_FnExactGuardEdit.f k l0 l1 a2_0 a2_1 a2_2 a2_3 a2_4 a2_5 = some r) :
  Calls Try.prog 6 #[.slice A0 l0.length c0, .slice A1 l1.length c1, .agg #[.int .i64 a2_0, .int .i64 a2_1, .int .i64 a2_2, .int .i64 a2_3, .int .i64 a2_4, .int .i64 a2_5]] w fun e w' => e = .returned (.bool r) ∧ Below w.heap.size w w' := by
 have hu24 := Try.underlying24
 have HR0 := am hr0
 have HC0 := am hc0
 clear hr0 hc0
 have HR1 := am hr1
 have HC1 := am hc1
 clear hr1 hc1
 have HB := am (Below.refl w.heap.size w)
 have H : (if (l1.length : Int) > 1048576 then (some true) else ((laws_szNodeS.f l0 1048576).bind fun t411 => (if t411 < 0 then (some true) else ((laws_toNodeS.f k l0).bind fun t412 => ((laws_toIntS.f k l1).bind fun t415 => ((laws_toEdit.f a2_0 a2_1 a2_2 a2_3 a2_4 a2_5).bind fun bt418 => ((spec_GuardEdit.f k t412 t415 bt418.1 bt418.2.1 bt418.2.2.1 bt418.2.2.2.1 bt418.2.2.2.2.1 bt418.2.2.2.2.2).bind fun bt424 => ((laws_toNodeS.f k l0).bind fun t428 => ((laws_toIntS.f k l1).bind fun t431 => ((laws_toEdit.f a2_0 a2_1 a2_2 a2_3 a2_4 a2_5).bind fun bt434 => ((impl_GuardEdit.f k t428 t431 bt434.1 bt434.2.1 bt434.2.2.1 bt434.2.2.2.1 bt434.2.2.2.2.1 bt434.2.2.2.2.2).bind fun bt440 => ((laws_eqNodeS.f k bt440.1 bt424.1).bind fun t444 => (if t444 = true then (laws_FnExactGuardEdit.j0 k l0 l1 bt424.1 bt424.2 t428 t431 bt440.1 bt440.2 (bt440.2 != bt424.2) a2_0 a2_1 a2_2 a2_3 a2_4 a2_5) else (laws_FnExactGuardEdit.j0 k l0 l1 bt424.1 bt424.2 t428 t431 bt440.1 bt440.2 true a2_0 a2_1 a2_2 a2_3 a2_4 a2_5)))))))))))))) = some r := h
 clear h
 by_cases c4 : (l1.length : Int) > 1048576
 ·rw [if_pos c4] at H
  have c4b0 : decide (1048576 < (l1.length : Int)) = true := decide_eq_true c4
  have c4b1 : decide (1048576 < l1.length) = true := decide_eq_true (by omega)
  clear c4
  obtain rfl := Option.some.inj H
  go_enter Try.func6, Try.ntmps6
  go_wp2_with (first | ((with_reducible refine gate_dst (N := 5) rfl ?_); refine box_event ?hg (N := 5) ?hd (cs := #[.int .i64 a2_0, .int .i64 a2_1, .int .i64 a2_2, .int .i64 a2_3, .int .i64 a2_4, .int .i64 a2_5]) (t := 24) ?hr ?_; (case hd => rfl); (case hg => rfl); (case hr => first | (go_simp; done) | (go_simp; rfl)); intro gb410 hg w5 hbox hb; have n0_ := am (below_step (bU HB.out) hb); have n1_ := am (hbox); have n2_ := am ((by rw [hg]; exact (below_size (bU HB.out)) : w.heap.size ≤ gb410)); have n3_ := am ((by rw [hg]; exact (below_size (bU HB.out)) : w.heap.size ≤ gb410)); clear HB; have HB := n0_; have BK410 := n1_; have GW410 := n2_; have GE410 := n3_; clear n0_ n1_ n2_ n3_; clear hb hbox hg))
  go_ret
  exact ⟨eU, bS HB.out GE410.out⟩
 ·rw [if_neg c4] at H
  have c4b0 : decide (1048576 < (l1.length : Int)) = false := decide_eq_false c4
  have c4b1 : decide (1048576 < l1.length) = false := decide_eq_false (by omega)
  clear c4
  replace H := Option.bind_eq_some_iff.mp H
  obtain ⟨t411, A60, H⟩ := H
  replace H : (if t411 < 0 then (some true) else ((laws_toNodeS.f k l0).bind fun t412 => ((laws_toIntS.f k l1).bind fun t415 => ((laws_toEdit.f a2_0 a2_1 a2_2 a2_3 a2_4 a2_5).bind fun bt418 => ((spec_GuardEdit.f k t412 t415 bt418.1 bt418.2.1 bt418.2.2.1 bt418.2.2.2.1 bt418.2.2.2.2.1 bt418.2.2.2.2.2).bind fun bt424 => ((laws_toNodeS.f k l0).bind fun t428 => ((laws_toIntS.f k l1).bind fun t431 => ((laws_toEdit.f a2_0 a2_1 a2_2 a2_3 a2_4 a2_5).bind fun bt434 => ((impl_GuardEdit.f k t428 t431 bt434.1 bt434.2.1 bt434.2.2.1 bt434.2.2.2.1 bt434.2.2.2.2.1 bt434.2.2.2.2.2).bind fun bt440 => ((laws_eqNodeS.f k bt440.1 bt424.1).bind fun t444 => (if t444 = true then (laws_FnExactGuardEdit.j0 k l0 l1 bt424.1 bt424.2 t428 t431 bt440.1 bt440.2 (bt440.2 != bt424.2) a2_0 a2_1 a2_2 a2_3 a2_4 a2_5) else (laws_FnExactGuardEdit.j0 k l0 l1 bt424.1 bt424.2 t428 t431 bt440.1 bt440.2 true a2_0 a2_1 a2_2 a2_3 a2_4 a2_5)))))))))))) = some r := H
  have A6 := am A60
  clear A60
  by_cases c7 : t411 < 0
  ·rw [if_pos c7] at H
   have c7b0 : decide (t411 < 0) = true := decide_eq_true c7
   clear c7
   obtain rfl := Option.some.inj H
   go_enter Try.func6, Try.ntmps6
   go_wp2_with (first | ((with_reducible refine gate_dst (N := 5) rfl ?_); refine box_event ?hg (N := 5) ?hd (cs := #[.int .i64 a2_0, .int .i64 a2_1, .int .i64 a2_2, .int .i64 a2_3, .int .i64 a2_4, .int .i64 a2_5]) (t := 24) ?hr ?_; (case hd => rfl); (case hg => rfl); (case hr => first | (go_simp; done) | (go_simp; rfl)); intro gb410 hg w8 hbox hb; have n0_ := am (below_step (bU HB.out) hb); have n1_ := am (hbox); have n2_ := am ((by rw [hg]; exact (below_size (bU HB.out)) : w.heap.size ≤ gb410)); have n3_ := am ((by rw [hg]; exact (below_size (bU HB.out)) : w.heap.size ≤ gb410)); clear HB; have HB := n0_; have BK410 := n1_; have GW410 := n2_; have GE410 := n3_; clear n0_ n1_ n2_ n3_; clear hb hbox hg) | ((with_reducible refine gate_callee (f := 14) rfl ?_); refine goesL_ (some 24) rfl rfl Try.func14 (by kernel_rfl) rfl #[.slice A0 l0.length c0, .int .i64 1048576] rfl mU ?_; (with_reducible refine (laws_szNodeS.calls _ _ l0 1048576 t411 _ ?side1 ?side2 A6.out).mono ?_); (case side1 => exact cU (Kd.C_below HR0.out HB.out)); (case side2 => exact HC0.out); rintro e w' ⟨rfl, ⟨nd, rfl⟩⟩; refine ⟨_, rfl, ?_⟩))
   go_ret
   exact ⟨eU, bS HB.out GE410.out⟩
  ·rw [if_neg c7] at H
   have c7b0 : decide (t411 < 0) = false := decide_eq_false c7
   clear c7
   replace H := Option.bind_eq_some_iff.mp H
   obtain ⟨t412, A90, H⟩ := H
   replace H : ((laws_toIntS.f k l1).bind fun t415 => ((laws_toEdit.f a2_0 a2_1 a2_2 a2_3 a2_4 a2_5).bind fun bt418 => ((spec_GuardEdit.f k t412 t415 bt418.1 bt418.2.1 bt418.2.2.1 bt418.2.2.2.1 bt418.2.2.2.2.1 bt418.2.2.2.2.2).bind fun bt424 => ((laws_toNodeS.f k l0).bind fun t428 => ((laws_toIntS.f k l1).bind fun t431 => ((laws_toEdit.f a2_0 a2_1 a2_2 a2_3 a2_4 a2_5).bind fun bt434 => ((impl_GuardEdit.f k t428 t431 bt434.1 bt434.2.1 bt434.2.2.1 bt434.2.2.2.1 bt434.2.2.2.2.1 bt434.2.2.2.2.2).bind fun bt440 => ((laws_eqNodeS.f k bt440.1 bt424.1).bind fun t444 => (if t444 = true then (laws_FnExactGuardEdit.j0 k l0 l1 bt424.1 bt424.2 t428 t431 bt440.1 bt440.2 (bt440.2 != bt424.2) a2_0 a2_1 a2_2 a2_3 a2_4 a2_5) else (laws_FnExactGuardEdit.j0 k l0 l1 bt424.1 bt424.2 t428 t431 bt440.1 bt440.2 true a2_0 a2_1 a2_2 a2_3 a2_4 a2_5)))))))))) = some r := H
   have A9 := am A90
   clear A90
   replace H := Option.bind_eq_some_iff.mp H
   obtain ⟨t415, A100, H⟩ := H
   replace H : ((laws_toEdit.f a2_0 a2_1 a2_2 a2_3 a2_4 a2_5).bind fun bt418 => ((spec_GuardEdit.f k t412 t415 bt418.1 bt418.2.1 bt418.2.2.1 bt418.2.2.2.1 bt418.2.2.2.2.1 bt418.2.2.2.2.2).bind fun bt424 => ((laws_toNodeS.f k l0).bind fun t428 => ((laws_toIntS.f k l1).bind fun t431 => ((laws_toEdit.f a2_0 a2_1 a2_2 a2_3 a2_4 a2_5).bind fun bt434 => ((impl_GuardEdit.f k t428 t431 bt434.1 bt434.2.1 bt434.2.2.1 bt434.2.2.2.1 bt434.2.2.2.2.1 bt434.2.2.2.2.2).bind fun bt440 => ((laws_eqNodeS.f k bt440.1 bt424.1).bind fun t444 => (if t444 = true then (laws_FnExactGuardEdit.j0 k l0 l1 bt424.1 bt424.2 t428 t431 bt440.1 bt440.2 (bt440.2 != bt424.2) a2_0 a2_1 a2_2 a2_3 a2_4 a2_5) else (laws_FnExactGuardEdit.j0 k l0 l1 bt424.1 bt424.2 t428 t431 bt440.1 bt440.2 true a2_0 a2_1 a2_2 a2_3 a2_4 a2_5))))))))) = some r := H
   have A10 := am A100
   clear A100
   replace H := Option.bind_eq_some_iff.mp H
   obtain ⟨⟨t418, t419, t420, t421, t422, t423⟩, A110, H⟩ := H
   replace H : ((spec_GuardEdit.f k t412 t415 t418 t419 t420 t421 t422 t423).bind fun bt424 => ((laws_toNodeS.f k l0).bind fun t428 => ((laws_toIntS.f k l1).bind fun t431 => ((laws_toEdit.f a2_0 a2_1 a2_2 a2_3 a2_4 a2_5).bind fun bt434 => ((impl_GuardEdit.f k t428 t431 bt434.1 bt434.2.1 bt434.2.2.1 bt434.2.2.2.1 bt434.2.2.2.2.1 bt434.2.2.2.2.2).bind fun bt440 => ((laws_eqNodeS.f k bt440.1 bt424.1).bind fun t444 => (if t444 = true then (laws_FnExactGuardEdit.j0 k l0 l1 bt424.1 bt424.2 t428 t431 bt440.1 bt440.2 (bt440.2 != bt424.2) a2_0 a2_1 a2_2 a2_3 a2_4 a2_5) else (laws_FnExactGuardEdit.j0 k l0 l1 bt424.1 bt424.2 t428 t431 bt440.1 bt440.2 true a2_0 a2_1 a2_2 a2_3 a2_4 a2_5)))))))) = some r := H
   have A11 := am A110
   clear A110
   replace H := Option.bind_eq_some_iff.mp H
   obtain ⟨⟨t424, t427⟩, A120, H⟩ := H
   replace H : ((laws_toNodeS.f k l0).bind fun t428 => ((laws_toIntS.f k l1).bind fun t431 => ((laws_toEdit.f a2_0 a2_1 a2_2 a2_3 a2_4 a2_5).bind fun bt434 => ((impl_GuardEdit.f k t428 t431 bt434.1 bt434.2.1 bt434.2.2.1 bt434.2.2.2.1 bt434.2.2.2.2.1 bt434.2.2.2.2.2).bind fun bt440 => ((laws_eqNodeS.f k bt440.1 t424).bind fun t444 => (if t444 = true then (laws_FnExactGuardEdit.j0 k l0 l1 t424 t427 t428 t431 bt440.1 bt440.2 (bt440.2 != t427) a2_0 a2_1 a2_2 a2_3 a2_4 a2_5) else (laws_FnExactGuardEdit.j0 k l0 l1 t424 t427 t428 t431 bt440.1 bt440.2 true a2_0 a2_1 a2_2 a2_3 a2_4 a2_5))))))) = some r := H
   have A12 := am A120
   clear A120
   replace H := Option.bind_eq_some_iff.mp H
   obtain ⟨t428, A130, H⟩ := H
   replace H : ((laws_toIntS.f k l1).bind fun t431 => ((laws_toEdit.f a2_0 a2_1 a2_2 a2_3 a2_4 a2_5).bind fun bt434 => ((impl_GuardEdit.f k t428 t431 bt434.1 bt434.2.1 bt434.2.2.1 bt434.2.2.2.1 bt434.2.2.2.2.1 bt434.2.2.2.2.2).bind fun bt440 => ((laws_eqNodeS.f k bt440.1 t424).bind fun t444 => (if t444 = true then (laws_FnExactGuardEdit.j0 k l0 l1 t424 t427 t428 t431 bt440.1 bt440.2 (bt440.2 != t427) a2_0 a2_1 a2_2 a2_3 a2_4 a2_5) else (laws_FnExactGuardEdit.j0 k l0 l1 t424 t427 t428 t431 bt440.1 bt440.2 true a2_0 a2_1 a2_2 a2_3 a2_4 a2_5)))))) = some r := H
   have A13 := am A130
   clear A130
   replace H := Option.bind_eq_some_iff.mp H
   obtain ⟨t431, A140, H⟩ := H
   replace H : ((laws_toEdit.f a2_0 a2_1 a2_2 a2_3 a2_4 a2_5).bind fun bt434 => ((impl_GuardEdit.f k t428 t431 bt434.1 bt434.2.1 bt434.2.2.1 bt434.2.2.2.1 bt434.2.2.2.2.1 bt434.2.2.2.2.2).bind fun bt440 => ((laws_eqNodeS.f k bt440.1 t424).bind fun t444 => (if t444 = true then (laws_FnExactGuardEdit.j0 k l0 l1 t424 t427 t428 t431 bt440.1 bt440.2 (bt440.2 != t427) a2_0 a2_1 a2_2 a2_3 a2_4 a2_5) else (laws_FnExactGuardEdit.j0 k l0 l1 t424 t427 t428 t431 bt440.1 bt440.2 true a2_0 a2_1 a2_2 a2_3 a2_4 a2_5))))) = some r := H
   have A14 := am A140
   clear A140
   replace H := Option.bind_eq_some_iff.mp H
   obtain ⟨⟨t434, t435, t436, t437, t438, t439⟩, A150, H⟩ := H
   replace H : ((impl_GuardEdit.f k t428 t431 t434 t435 t436 t437 t438 t439).bind fun bt440 => ((laws_eqNodeS.f k bt440.1 t424).bind fun t444 => (if t444 = true then (laws_FnExactGuardEdit.j0 k l0 l1 t424 t427 t428 t431 bt440.1 bt440.2 (bt440.2 != t427) a2_0 a2_1 a2_2 a2_3 a2_4 a2_5) else (laws_FnExactGuardEdit.j0 k l0 l1 t424 t427 t428 t431 bt440.1 bt440.2 true a2_0 a2_1 a2_2 a2_3 a2_4 a2_5)))) = some r := H
   have A15 := am A150
   clear A150
   replace H := Option.bind_eq_some_iff.mp H
   obtain ⟨⟨t440, t443⟩, A160, H⟩ := H
   replace H : ((laws_eqNodeS.f k t440 t424).bind fun t444 => (if t444 = true then (laws_FnExactGuardEdit.j0 k l0 l1 t424 t427 t428 t431 t440 t443 (t443 != t427) a2_0 a2_1 a2_2 a2_3 a2_4 a2_5) else (laws_FnExactGuardEdit.j0 k l0 l1 t424 t427 t428 t431 t440 t443 true a2_0 a2_1 a2_2 a2_3 a2_4 a2_5))) = some r := H
   have A16 := am A160
   clear A160
   have HC17 := am H
   clear H
   go_enter Try.func6, Try.ntmps6
   try go_wp2_with (first | ((with_reducible refine gate_dst (N := 5) rfl ?_); refine box_event ?hg (N := 5) ?hd (cs := #[.int .i64 a2_0, .int .i64 a2_1, .int .i64 a2_2, .int .i64 a2_3, .int .i64 a2_4, .int .i64 a2_5]) (t := 24) ?hr ?_; (case hd => rfl); (case hg => rfl); (case hr => first | (go_simp; done) | (go_simp; rfl)); intro gb410 hg w18 hbox hb; have n0_ := am (below_step (bU HB.out) hb); have n1_ := am (hbox); have n2_ := am ((by rw [hg]; exact (below_size (bU HB.out)) : w.heap.size ≤ gb410)); have n3_ := am ((by rw [hg]; exact (below_size (bU HB.out)) : w.heap.size ≤ gb410)); clear HB; have HB := n0_; have BK410 := n1_; have GW410 := n2_; have GE410 := n3_; clear n0_ n1_ n2_ n3_; clear hb hbox hg) | ((with_reducible refine gate_callee (f := 14) rfl ?_); refine goesL_ (some 24) rfl rfl Try.func14 (by kernel_rfl) rfl #[.slice A0 l0.length c0, .int .i64 1048576] rfl mU ?_; (with_reducible refine (laws_szNodeS.calls _ _ l0 1048576 t411 _ ?side1 ?side2 A6.out).mono ?_); (case side1 => exact cU (Kd.C_below HR0.out HB.out)); (case side2 => exact HC0.out); rintro e w' ⟨rfl, ⟨nd, rfl⟩⟩; refine ⟨_, rfl, ?_⟩))
   (try (rw [drewN_self w18]; generalize hq_ : World.drewN w18 _ = w18; have n0_ : Aside0 (w18.heap[gb410]? = some (.cells #[.int .i64 a2_0, .int .i64 a2_1, .int .i64 a2_2, .int .i64 a2_3, .int .i64 a2_4, .int .i64 a2_5] 24 (0, 0))) := ⟨by rw [← hq_]; exact kU BK410.out⟩; have n1_ : Aside0 (Below w.heap.size w w18) := ⟨by rw [← hq_]; exact bS HB.out GE410.out⟩; clear BK410 HB hq_; have BK410 := n0_; have HB := n1_; clear n0_ n1_))
   have n0_ := am (blk_drew BK410.out)
   have n1_ := am (below_drew1 HB.out)
   clear BK410
   clear HB
   have BK410 := n0_
   have HB := n1_
   clear n0_ n1_
   refine start_ (n := 12) (S := fun w' => w'.cell? ⟨gb410, 0, none⟩ = some (.int .i64 a2_0) ∧ w'.cell? ⟨gb410, 1, none⟩ = some (.int .i64 a2_1) ∧ w'.cell? ⟨gb410, 2, none⟩ = some (.int .i64 a2_2) ∧ w'.cell? ⟨gb410, 3, none⟩ = some (.int .i64 a2_3) ∧ w'.cell? ⟨gb410, 4, none⟩ = some (.int .i64 a2_4) ∧ w'.cell? ⟨gb410, 5, none⟩ = some (.int .i64 a2_5)) (ds := []) #[false, false, false, false, false, false, false, false, false, false, false, false] (by kernel_rfl) rfl rfl (bc6 BK410.out) (fun hHeld => ?_); refine with_tabW laws_FnExactGuardEdit.tab7 laws_FnExactGuardEdit.bits7 (fun HT_ HW_ => ?_)
   generalize w18.drew = w19 at BK410 HB hHeld ⊢
   refine pure_ (i := 0) (N := some 28) (v := ?_) (a' := ?_) #[true, false, false, false, false, false, false, false, false, false, false, false] rfl rfl (any_of HT_.out (by kernel_rfl)) (fun _ _ _ h => h) (Or.inl ⟨by rfl, ?_⟩) ?_ ?_
   rotate_left
   ·intro w'
    go_simp
    with_reducible rfl
   rotate_left
   ·simp only [Act.put, List.setIfInBounds_toArray, List.set_cons_zero, List.set_cons_succ, i64_w, i32_w]
    rfl
   refine pure_ (i := 2) (N := some 30) (v := ?_) (a' := ?_) #[true, false, true, false, false, false, false, false, false, false, false, false] rfl rfl (any_of HT_.out (by kernel_rfl)) (fun _ _ _ h => h) (Or.inl ⟨by rfl, ?_⟩) ?_ ?_
   rotate_left
   ·intro w'
    go_simp
    with_reducible rfl
   rotate_left
   ·simp only [Act.put, List.setIfInBounds_toArray, List.set_cons_zero, List.set_cons_succ, i64_w, i32_w]
    rfl
   refine take_ (i := 4) (N := some 32) (v := ?_) (a' := ?_) #[true, false, true, false, true, false, false, false, false, false, false, false] rfl rfl (take_ofW HT_.out HW_.out (by kernel_rfl)) (fun _ _ _ h => h) (Or.inl ⟨by rfl, ?_⟩) hHeld ?_ ?_
   rotate_left
   ·rintro w' ⟨s0, s1, s2, s3, s4, s5⟩
    go_simp
    with_reducible rfl
   rotate_left
   ·simp only [Act.put, List.setIfInBounds_toArray, List.set_cons_zero, List.set_cons_succ, i64_w, i32_w]
    rfl
   refine one_ (i := 1) (N := some 29) #[true, true, true, false, true, false, false, false, false, false, false, false] rfl rfl (one_of HT_.out (by kernel_rfl)) (by decide) (fun K hK => ?_)
   refine goes_ Try.func16 (by kernel_rfl) rfl #[.slice A0 l0.length c0] (by rfl) rfl rfl mU ?_
   with_reducible refine (laws_toNodeS.calls k _ _ l0 t412 _ ?side1 ?side2 A9.out).mono ?_
   (case side1 => exact cU (Kd.C_below HR0.out HB.out))
   (case side2 => exact HC0.out)
   rintro e w20 ⟨v413, rfl, ho0, hb⟩
   refine ⟨_, rfl, ?_⟩
   have n0_ := am (Kd.R_lower ho0 (below_size (bS HB.out GE410.out)))
   have n1_ := am (kB BK410.out hb)
   have n2_ := am (below_step (bS HB.out GE410.out) hb)
   clear BK410
   clear HB
   have HO414 := n0_
   have BK410 := n1_
   have HB := n2_
   clear n0_ n1_ n2_
   (try clear hb)
   (try clear hb2)
   (try clear hk)
   (try clear hi)
   (try clear ho0)
   refine hK.out _ _ (bc6 BK410.out) (fun hHeld => ?_)
   clear hK K
   refine norm_ (a' := ?_) ?_ ?_
   rotate_left
   ·show Act.put _ (some 29) _ = _
    simp only [Act.put, List.setIfInBounds_toArray, List.set_cons_zero, List.set_cons_succ, i64_w, i32_w]
    rfl
   refine one_ (i := 3) (N := some 31) #[true, true, true, true, true, false, false, false, false, false, false, false] rfl rfl (one_of HT_.out (by kernel_rfl)) (by decide) (fun K hK => ?_)
   refine goes_ Try.func31 (by kernel_rfl) rfl #[.slice A1 l1.length c1] (by rfl) rfl rfl mU ?_
   with_reducible refine (laws_toIntS.calls k _ _ l1 t415 _ ?side1 ?side2 A10.out).mono ?_
   (case side1 => exact cU (Kd.C_below HR1.out HB.out))
   (case side2 => exact HC1.out)
   rintro e w21 ⟨v416, rfl, ho0, hb⟩
   refine ⟨_, rfl, ?_⟩
   have n0_ := am (Kd.R_below (rU HO414.out) hb)
   have n1_ := am (Kd.R_lower ho0 (below_size (bS HB.out GE410.out)))
   have n2_ := am (kB BK410.out hb)
   have n3_ := am (below_step (bS HB.out GE410.out) hb)
   clear HO414
   clear BK410
   clear HB
   have HO414 := n0_
   have HO417 := n1_
   have BK410 := n2_
   have HB := n3_
   clear n0_ n1_ n2_ n3_
   (try clear hb)
   (try clear hb2)
   (try clear hk)
   (try clear hi)
   (try clear ho0)
   refine hK.out _ _ (bc6 BK410.out) (fun hHeld => ?_)
   clear hK K
   refine norm_ (a' := ?_) ?_ ?_
   rotate_left
   ·show Act.put _ (some 31) _ = _
    simp only [Act.put, List.setIfInBounds_toArray, List.set_cons_zero, List.set_cons_succ, i64_w, i32_w]
    rfl
   refine one_ (i := 5) (N := some 33) #[true, true, true, true, true, true, false, false, false, false, false, false] rfl rfl (one_of HT_.out (by kernel_rfl)) (by decide) (fun K hK => ?_)
   refine goes_ Try.func17 (by kernel_rfl) rfl #[.agg #[.int .i64 a2_0, .int .i64 a2_1, .int .i64 a2_2, .int .i64 a2_3, .int .i64 a2_4, .int .i64 a2_5]] (by rfl) rfl rfl mU ?_
   with_reducible refine (laws_toEdit.calls a2_0 a2_1 a2_2 a2_3 a2_4 a2_5 t418 t419 t420 t421 t422 t423 _ A11.out).mono ?_
   rintro e w22 ⟨rfl, hb⟩
   refine ⟨_, rfl, ?_⟩
   have n0_ := am (Kd.R_below (rU HO414.out) hb)
   have n1_ := am (Kd.R_below (rU HO417.out) hb)
   have n2_ := am (kB BK410.out hb)
   have n3_ := am (below_step (bS HB.out GE410.out) hb)
   clear HO414
   clear HO417
   clear BK410
   clear HB
   have HO414 := n0_
   have HO417 := n1_
   have BK410 := n2_
   have HB := n3_
   clear n0_ n1_ n2_ n3_
   (try clear hb)
   (try clear hb2)
   (try clear hk)
   (try clear hi)
   obtain ⟨Ao23, co23, eo23⟩ := Kd.R_slice HO414.out
   (first | subst eo23 | (injection eo23 with f1_ f2_ f3_; have f4_ := f1_.symm; have f5_ := f3_.symm; clear f1_ f2_ f3_; subst f4_; subst f5_))
   obtain ⟨Ao24, co24, eo24⟩ := Kd.R_slice HO417.out
   (first | subst eo24 | (injection eo24 with f1_ f2_ f3_; have f4_ := f1_.symm; have f5_ := f3_.symm; clear f1_ f2_ f3_; subst f4_; subst f5_))
   refine hK.out _ _ (bc6 BK410.out) (fun hHeld => ?_)
   clear hK K
   refine norm_ (a' := ?_) ?_ ?_
   rotate_left
   ·show Act.put _ (some 33) _ = _
    simp only [Act.put, List.setIfInBounds_toArray, List.set_cons_zero, List.set_cons_succ, i64_w, i32_w]
    rfl
   refine one_ (i := 6) (N := some 34) #[true, true, true, true, true, true, true, false, false, false, false, false] rfl rfl (one_of HT_.out (by kernel_rfl)) (by decide) (fun K hK => ?_)
   refine goes_ Try.func30 (by kernel_rfl) rfl #[.slice Ao23 t412.length co23, .slice Ao24 t415.length co24, .agg #[.int .i64 t418, .int .i64 t419, .int .i64 t420, .int .i64 t421, .int .i64 t422, .int .i64 t423]] (by rfl) rfl rfl mU ?_
   with_reducible refine (spec_GuardEdit.calls k _ _ t412 _ _ t415 t418 t419 t420 t421 t422 t423 t424 t427 _ ?side1 ?side2 ?side3 ?side4 A12.out).mono ?_
   (case side1 => exact cU (Kd.R_reads' HO414.out).2.2)
   (case side2 => exact (Kd.R_reads' HO414.out).2.1)
   (case side3 => exact cU (Kd.R_reads' HO417.out).2.2)
   (case side4 => exact (Kd.R_reads' HO417.out).2.1)
   rintro e w25 ⟨v425, rfl, ho0, hb⟩
   refine ⟨_, rfl, ?_⟩
   have n0_ := am (Kd.R_elder' (rU HO414.out) (Kd.R_base ho0) hb)
   have n1_ := am (Kd.R_below (rU HO417.out) hb)
   have n2_ := am (Kd.R_lower (Kd.R_new' ho0 (Kd.R_lt (rU HO414.out))) (below_size (bS HB.out GE410.out)))
   have n3_ := am (kB BK410.out hb)
   have n4_ := am (below_step (bS HB.out GE410.out) hb)
   clear HO414
   clear HO417
   clear BK410
   clear HB
   have HO414 := n0_
   have HO417 := n1_
   have HO426 := n2_
   have BK410 := n3_
   have HB := n4_
   clear n0_ n1_ n2_ n3_ n4_
   (try clear hb)
   (try clear hb2)
   (try clear hk)
   (try clear hi)
   (try clear ho0)
   refine hK.out _ _ (bc6 BK410.out) (fun hHeld => ?_)
   clear hK K
   refine norm_ (a' := ?_) ?_ ?_
   rotate_left
   ·show Act.put _ (some 34) _ = _
    simp only [Act.put, List.setIfInBounds_toArray, List.set_cons_zero, List.set_cons_succ, i64_w, i32_w]
    rfl
   refine pure_ (i := 7) (N := some 27) (v := ?_) (a' := ?_) #[true, true, true, true, true, true, true, true, false, false, false, false] rfl rfl (any_of HT_.out (by kernel_rfl)) (fun _ _ _ h => h) (Or.inl ⟨by rfl, ?_⟩) ?_ ?_
   rotate_left
   ·intro w'
    go_simp
    with_reducible rfl
   rotate_left
   ·simp only [Act.put, List.setIfInBounds_toArray, List.set_cons_zero, List.set_cons_succ, i64_w, i32_w]
    rfl
   refine pure_ (i := 8) (N := some 35) (v := ?_) (a' := ?_) #[true, true, true, true, true, true, true, true, true, false, false, false] rfl rfl (any_of HT_.out (by kernel_rfl)) (fun _ _ _ h => h) (Or.inl ⟨by rfl, ?_⟩) ?_ ?_
   rotate_left
   ·intro w'
    go_simp
    with_reducible rfl
   rotate_left
   ·simp only [Act.put, List.setIfInBounds_toArray, List.set_cons_zero, List.set_cons_succ, i64_w, i32_w]
    rfl
   refine pure_ (i := 9) (N := some 36) (v := ?_) (a' := ?_) #[true, true, true, true, true, true, true, true, true, true, false, false] rfl rfl (any_of HT_.out (by kernel_rfl)) (fun _ _ _ h => h) (Or.inl ⟨by rfl, ?_⟩) ?_ ?_
   rotate_left
   ·intro w'
    go_simp
    with_reducible rfl
   rotate_left
   ·simp only [Act.put, List.setIfInBounds_toArray, List.set_cons_zero, List.set_cons_succ, i64_w, i32_w]
    rfl
   refine pure_ (i := 10) (N := some 8) (v := ?_) (a' := ?_) #[true, true, true, true, true, true, true, true, true, true, true, false] rfl rfl (any_of HT_.out (by kernel_rfl)) (fun _ _ _ h => h) (Or.inl ⟨by rfl, ?_⟩) ?_ ?_
   rotate_left
   ·intro w'
    go_simp
    with_reducible rfl
   rotate_left
   ·simp only [Act.put, List.setIfInBounds_toArray, List.set_cons_zero, List.set_cons_succ, i64_w, i32_w]
    rfl
   refine pure_ (i := 11) (N := some 9) (v := ?_) (a' := ?_) #[true, true, true, true, true, true, true, true, true, true, true, true] rfl rfl (any_of HT_.out (by kernel_rfl)) (fun _ _ _ h => h) (Or.inl ⟨by rfl, ?_⟩) ?_ ?_
   rotate_left
   ·intro w'
    go_simp
    with_reducible rfl
   rotate_left
   ·simp only [Act.put, List.setIfInBounds_toArray, List.set_cons_zero, List.set_cons_succ, i64_w, i32_w]
    rfl
   refine done_ (done_of HT_.out (by kernel_rfl)) ?_
   go_upto_region 11 with (first | ((with_reducible refine gate_callee (f := 16) rfl ?_); refine goesL_ (some 38) rfl rfl Try.func16 (by kernel_rfl) rfl #[.slice A0 l0.length c0] rfl mU ?_; (with_reducible refine (laws_toNodeS.calls k _ _ l0 t428 _ ?side1 ?side2 A13.out).mono ?_); (case side1 => exact cU (Kd.C_below HR0.out HB.out)); (case side2 => exact HC0.out); rintro e w26 ⟨v429, rfl, ho0, hb⟩; refine ⟨_, rfl, ?_⟩; have n0_ := am (Kd.R_elder' (rU HO414.out) (Kd.R_base ho0) hb); have n1_ := am (Kd.R_below (rU HO417.out) hb); have n2_ := am (Kd.R_elder' (rU HO426.out) (Kd.R_base ho0) hb); have n3_ := am (Kd.R_lower (Kd.R_new' (Kd.R_new' ho0 (Kd.R_lt (rU HO414.out))) (Kd.R_lt (rU HO426.out))) (below_size (bS HB.out GE410.out))); have n4_ := am (kB BK410.out hb); have n5_ := am (below_step (bS HB.out GE410.out) hb); clear HO414; clear HO417; clear HO426; clear BK410; clear HB; have HO414 := n0_; have HO417 := n1_; have HO426 := n2_; have HO430 := n3_; have BK410 := n4_; have HB := n5_; clear n0_ n1_ n2_ n3_ n4_ n5_; (try clear hb); (try clear hb2); (try clear hk); (try clear hi); (try clear ho0)) | ((with_reducible refine gate_callee (f := 31) rfl ?_); refine goesL_ (some 40) rfl rfl Try.func31 (by kernel_rfl) rfl #[.slice A1 l1.length c1] rfl mU ?_; (with_reducible refine (laws_toIntS.calls k _ _ l1 t431 _ ?side1 ?side2 A14.out).mono ?_); (case side1 => exact cU (Kd.C_below HR1.out HB.out)); (case side2 => exact HC1.out); rintro e w27 ⟨v432, rfl, ho0, hb⟩; refine ⟨_, rfl, ?_⟩; have n0_ := am (Kd.R_below (rU HO414.out) hb); have n1_ := am (Kd.R_elder' (rU HO417.out) (Kd.R_base ho0) hb); have n2_ := am (Kd.R_below (rU HO426.out) hb); have n3_ := am (Kd.R_below (rU HO430.out) hb); have n4_ := am (Kd.R_lower (Kd.R_new' ho0 (Kd.R_lt (rU HO417.out))) (below_size (bS HB.out GE410.out))); have n5_ := am (kB BK410.out hb); have n6_ := am (below_step (bS HB.out GE410.out) hb); clear HO414; clear HO417; clear HO426; clear HO430; clear BK410; clear HB; have HO414 := n0_; have HO417 := n1_; have HO426 := n2_; have HO430 := n3_; have HO433 := n4_; have BK410 := n5_; have HB := n6_; clear n0_ n1_ n2_ n3_ n4_ n5_ n6_; (try clear hb); (try clear hb2); (try clear hk); (try clear hi); (try clear ho0); obtain ⟨hcz28_0, hcz28_1, hcz28_2, hcz28_3, hcz28_4, hcz28_5⟩ := bc6 BK410.out; obtain ⟨hfz28_0, hfz28_1, hfz28_2, hfz28_3, hfz28_4, hfz28_5⟩ := bf6 BK410.out) | ((with_reducible refine gate_callee (f := 17) rfl ?_); refine goesL_ (some 45) rfl rfl Try.func17 (by kernel_rfl) rfl #[.agg #[.int .i64 a2_0, .int .i64 a2_1, .int .i64 a2_2, .int .i64 a2_3, .int .i64 a2_4, .int .i64 a2_5]] rfl mU ?_; (with_reducible refine (laws_toEdit.calls a2_0 a2_1 a2_2 a2_3 a2_4 a2_5 t434 t435 t436 t437 t438 t439 _ A15.out).mono ?_); rintro e w29 ⟨rfl, hb⟩; refine ⟨_, rfl, ?_⟩; have n0_ := am (Kd.R_below (rU HO414.out) hb); have n1_ := am (Kd.R_below (rU HO417.out) hb); have n2_ := am (Kd.R_below (rU HO426.out) hb); have n3_ := am (Kd.R_below (rU HO430.out) hb); have n4_ := am (Kd.R_below (rU HO433.out) hb); have n5_ := am (kB BK410.out hb); have n6_ := am (below_step (bS HB.out GE410.out) hb); clear HO414; clear HO417; clear HO426; clear HO430; clear HO433; clear BK410; clear HB; have HO414 := n0_; have HO417 := n1_; have HO426 := n2_; have HO430 := n3_; have HO433 := n4_; have BK410 := n5_; have HB := n6_; clear n0_ n1_ n2_ n3_ n4_ n5_ n6_; (try clear hb); (try clear hb2); (try clear hk); (try clear hi); obtain ⟨Ao30, co30, eo30⟩ := Kd.R_slice HO430.out; subst eo30; obtain ⟨Ao31, co31, eo31⟩ := Kd.R_slice HO433.out; subst eo31) | ((with_reducible refine gate_callee (f := 32) rfl ?_); refine goesL_ (some 46) rfl rfl Try.func32 (by kernel_rfl) rfl #[.slice Ao30 t428.length co30, .slice Ao31 t431.length co31, .agg #[.int .i64 t434, .int .i64 t435, .int .i64 t436, .int .i64 t437, .int .i64 t438, .int .i64 t439]] rfl mU ?_; (with_reducible refine (impl_GuardEdit.calls k _ _ t428 _ _ t431 t434 t435 t436 t437 t438 t439 t440 t443 _ ?side1 ?side2 ?side3 ?side4 A16.out).mono ?_); (case side1 => exact cU (Kd.R_reads' HO430.out).2.2); (case side2 => exact (Kd.R_reads' HO430.out).2.1); (case side3 => exact cU (Kd.R_reads' HO433.out).2.2); (case side4 => exact (Kd.R_reads' HO433.out).2.1); rintro e w32 ⟨v441, rfl, ho0, hb⟩; refine ⟨_, rfl, ?_⟩; have n0_ := am (Kd.R_elder' (rU HO414.out) (Kd.R_base ho0) hb); have n1_ := am (Kd.R_below (rU HO417.out) hb); have n2_ := am (Kd.R_elder' (rU HO426.out) (Kd.R_base ho0) hb); have n3_ := am (Kd.R_elder' (rU HO430.out) (Kd.R_base ho0) hb); have n4_ := am (Kd.R_below (rU HO433.out) hb); have n5_ := am (Kd.R_lower (Kd.R_new' (Kd.R_new' (Kd.R_new' ho0 (Kd.R_lt (rU HO414.out))) (Kd.R_lt (rU HO426.out))) (Kd.R_lt (rU HO430.out))) (below_size (bS HB.out GE410.out))); have n6_ := am (kB BK410.out hb); have n7_ := am (below_step (bS HB.out GE410.out) hb); clear HO414; clear HO417; clear HO426; clear HO430; clear HO433; clear BK410; clear HB; have HO414 := n0_; have HO417 := n1_; have HO426 := n2_; have HO430 := n3_; have HO433 := n4_; have HO442 := n5_; have BK410 := n6_; have HB := n7_; clear n0_ n1_ n2_ n3_ n4_ n5_ n6_ n7_; (try clear hb); (try clear hb2); (try clear hk); (try clear hi); (try clear ho0)))
   (try simp only [Act.put, List.setIfInBounds_toArray, List.set_cons_zero, List.set_cons_succ])
   go_cut [57] (fun v57 wc => ∃ (kq : Nat) (x57_16 : Bool), v57 = .bool x57_16 ∧ Aside0 (laws_FnExactGuardEdit.j0 kq l0 l1 t424 t427 t428 t431 t440 t443 x57_16 a2_0 a2_1 a2_2 a2_3 a2_4 a2_5 = some r) ∧ Aside0 (kq ≤ k) ∧ Aside0 (Kd.R k59 59 wc w.heap.size (fun k_ => some k_ ≠ ((.slice Ao30 t428.length co30) : Value).ownBlock ∧ some k_ ≠ (v441 : Value).ownBlock) v425 t424) ∧ Aside0 (Kd.R k59 59 wc w.heap.size (fun k_ => some k_ ≠ (v425 : Value).ownBlock ∧ some k_ ≠ (v441 : Value).ownBlock) (.slice Ao30 t428.length co30) t428) ∧ Aside0 (Kd.R (Kd.int .i64) 3 wc w.heap.size (fun _ => True) (.slice Ao31 t431.length co31) t431) ∧ Aside0 (Kd.R k59 59 wc w.heap.size (fun k_ => some k_ ≠ (v425 : Value).ownBlock ∧ some k_ ≠ ((.slice Ao30 t428.length co30) : Value).ownBlock) v441 t440) ∧ Aside0 (wc.heap[gb410]? = some (.cells #[.int .i64 a2_0, .int .i64 a2_1, .int .i64 a2_2, .int .i64 a2_3, .int .i64 a2_4, .int .i64 a2_5] 24 (0, 0))) ∧ Aside0 (Below w.heap.size w wc))
   case first =>
    have H := HC17.out
    clear HC17
    replace H := Option.bind_eq_some_iff.mp H
    obtain ⟨t444, A330, H⟩ := H
    replace H : (if t444 = true then (laws_FnExactGuardEdit.j0 k l0 l1 t424 t427 t428 t431 t440 t443 (t443 != t427) a2_0 a2_1 a2_2 a2_3 a2_4 a2_5) else (laws_FnExactGuardEdit.j0 k l0 l1 t424 t427 t428 t431 t440 t443 true a2_0 a2_1 a2_2 a2_3 a2_4 a2_5)) = some r := H
    have A33 := am A330
    clear A330
    by_cases c34 : t444 = true
    ·subst c34
     have H1 : (laws_FnExactGuardEdit.j0 k l0 l1 t424 t427 t428 t431 t440 t443 (t443 != t427) a2_0 a2_1 a2_2 a2_3 a2_4 a2_5) = some r := by rw [if_pos rfl] at H; exact H
     clear H
     have H := H1
     clear H1
     have H' := am H
     clear H
     obtain ⟨Ao35, co35, eo35⟩ := Kd.R_slice HO442.out
     subst eo35
     obtain ⟨Ao36, co36, eo36⟩ := Kd.R_slice HO426.out
     subst eo36
     go_wp2_with (first | ((with_reducible refine gate_callee (f := 19) rfl ?_); refine goesL_ (some 51) rfl rfl Try.func19 (by kernel_rfl) rfl #[.slice Ao35 t440.length co35, .slice Ao36 t424.length co36] rfl mU ?_; (with_reducible refine (laws_eqNodeS.calls k _ _ t440 _ _ t424 true _ ?side1 ?side2 ?side3 ?side4 A33.out).mono ?_); (case side1 => exact cU (Kd.R_reads' HO442.out).2.2); (case side2 => exact (Kd.R_reads' HO442.out).2.1); (case side3 => exact cU (Kd.R_reads' HO426.out).2.2); (case side4 => exact (Kd.R_reads' HO426.out).2.1); rintro e w37 ⟨rfl, hb⟩; refine ⟨_, rfl, ?_⟩; have n0_ := am (Kd.R_below (rU HO414.out) hb); have n1_ := am (Kd.R_below (rU HO417.out) hb); have n2_ := am (Kd.R_below (rU HO426.out) hb); have n3_ := am (Kd.R_below (rU HO430.out) hb); have n4_ := am (Kd.R_below (rU HO433.out) hb); have n5_ := am (Kd.R_below (rU HO442.out) hb); have n6_ := am (kB BK410.out hb); have n7_ := am (below_step (bS HB.out GE410.out) hb); clear HO414; clear HO417; clear HO426; clear HO430; clear HO433; clear HO442; clear BK410; clear HB; have HO414 := n0_; have HO417 := n1_; have HO426 := n2_; have HO430 := n3_; have HO433 := n4_; have HO442 := n5_; have BK410 := n6_; have HB := n7_; clear n0_ n1_ n2_ n3_ n4_ n5_ n6_ n7_; (try clear hb); (try clear hb2); (try clear hk); (try clear hi)))
     go_meet
     case rel => exact ⟨_, ((t443 != t427)), (by first | rfl | (simp; done) | (simp [*]; done)), H', ⟨by first | omega | exact Nat.le_refl _⟩, ⟨by (with_reducible repeat (first | apply Kd.R_alloc | apply Kd.R_drewN | apply Kd.R_drew)); exact Kd.R_mono HO426.out (fun _ hk => ⟨hk.1.2, hk.2⟩)⟩, ⟨by (with_reducible repeat (first | apply Kd.R_alloc | apply Kd.R_drewN | apply Kd.R_drew)); exact Kd.R_mono HO430.out (fun _ hk => ⟨hk.1.2, hk.2⟩)⟩, ⟨by (with_reducible repeat (first | apply Kd.R_alloc | apply Kd.R_drewN | apply Kd.R_drew)); exact Kd.R_mono HO433.out (fun _ hk => trivial)⟩, ⟨by (with_reducible repeat (first | apply Kd.R_alloc | apply Kd.R_drewN | apply Kd.R_drew)); exact Kd.R_mono HO442.out (fun _ hk => ⟨hk.1.2, hk.2⟩)⟩, ⟨kU BK410.out⟩, ⟨bS HB.out GE410.out⟩⟩
    ·replace c34 := Bool.eq_false_iff.mpr c34
     subst c34
     have H1 : (laws_FnExactGuardEdit.j0 k l0 l1 t424 t427 t428 t431 t440 t443 true a2_0 a2_1 a2_2 a2_3 a2_4 a2_5) = some r := by rw [if_neg (show ¬ (false = true) by decide)] at H; exact H
     clear H
     have H := H1
     clear H1
     have H' := am H
     clear H
     obtain ⟨Ao38, co38, eo38⟩ := Kd.R_slice HO442.out
     subst eo38
     obtain ⟨Ao39, co39, eo39⟩ := Kd.R_slice HO426.out
     subst eo39
     go_wp2_with (first | ((with_reducible refine gate_callee (f := 19) rfl ?_); refine goesL_ (some 51) rfl rfl Try.func19 (by kernel_rfl) rfl #[.slice Ao38 t440.length co38, .slice Ao39 t424.length co39] rfl mU ?_; (with_reducible refine (laws_eqNodeS.calls k _ _ t440 _ _ t424 false _ ?side1 ?side2 ?side3 ?side4 A33.out).mono ?_); (case side1 => exact cU (Kd.R_reads' HO442.out).2.2); (case side2 => exact (Kd.R_reads' HO442.out).2.1); (case side3 => exact cU (Kd.R_reads' HO426.out).2.2); (case side4 => exact (Kd.R_reads' HO426.out).2.1); rintro e w40 ⟨rfl, hb⟩; refine ⟨_, rfl, ?_⟩; have n0_ := am (Kd.R_below (rU HO414.out) hb); have n1_ := am (Kd.R_below (rU HO417.out) hb); have n2_ := am (Kd.R_below (rU HO426.out) hb); have n3_ := am (Kd.R_below (rU HO430.out) hb); have n4_ := am (Kd.R_below (rU HO433.out) hb); have n5_ := am (Kd.R_below (rU HO442.out) hb); have n6_ := am (kB BK410.out hb); have n7_ := am (below_step (bS HB.out GE410.out) hb); clear HO414; clear HO417; clear HO426; clear HO430; clear HO433; clear HO442; clear BK410; clear HB; have HO414 := n0_; have HO417 := n1_; have HO426 := n2_; have HO430 := n3_; have HO433 := n4_; have HO442 := n5_; have BK410 := n6_; have HB := n7_; clear n0_ n1_ n2_ n3_ n4_ n5_ n6_ n7_; (try clear hb); (try clear hb2); (try clear hk); (try clear hi)))
     go_meet
     case rel => exact ⟨_, (true), (by first | rfl | (simp; done) | (simp [*]; done)), H', ⟨by first | omega | exact Nat.le_refl _⟩, ⟨by (with_reducible repeat (first | apply Kd.R_alloc | apply Kd.R_drewN | apply Kd.R_drew)); exact Kd.R_mono HO426.out (fun _ hk => ⟨hk.1.2, hk.2⟩)⟩, ⟨by (with_reducible repeat (first | apply Kd.R_alloc | apply Kd.R_drewN | apply Kd.R_drew)); exact Kd.R_mono HO430.out (fun _ hk => ⟨hk.1.2, hk.2⟩)⟩, ⟨by (with_reducible repeat (first | apply Kd.R_alloc | apply Kd.R_drewN | apply Kd.R_drew)); exact Kd.R_mono HO433.out (fun _ hk => trivial)⟩, ⟨by (with_reducible repeat (first | apply Kd.R_alloc | apply Kd.R_drewN | apply Kd.R_drew)); exact Kd.R_mono HO442.out (fun _ hk => ⟨hk.1.2, hk.2⟩)⟩, ⟨kU BK410.out⟩, ⟨bS HB.out GE410.out⟩⟩
   case rest =>
    clear HC17
    try clear c1
    try clear p2
    try clear c3
    try clear c4
    try clear c4b0
    try clear c4b1
    try clear c6
    try clear c7
    try clear c7b0
    try clear c14
    try clear c16
    try clear c17
    try clear c19
    try clear c30
    try clear c31
    try clear c32
    try clear c34
    try clear hcz28_0 hcz28_1 hcz28_2 hcz28_3 hcz28_4 hcz28_5 hfz28_0 hfz28_1 hfz28_2 hfz28_3 hfz28_4 hfz28_5
    obtain ⟨kq, x57_16, rfl, HA, HJ16, HO_8, HO_10, HO_11, HO_12, BK410, HB⟩ := hcut
    cases kq with
    | zero => exact absurd HA.out (by simp [laws_FnExactGuardEdit.j0])
    | succ kj16 =>
     have H := HA.out
     clear HA
     simp only [laws_FnExactGuardEdit.j0] at H
     by_cases c41 : x57_16 = true
     ·subst c41
      have H1 : (some false) = some r := by rw [if_pos rfl] at H; exact H
      clear H
      have H := H1
      clear H1
      obtain rfl := Option.some.inj H
      go_wp2
      go_ret
      exact ⟨eU, bS HB.out GE410.out⟩
     ·replace c41 := Bool.eq_false_iff.mpr c41
      subst c41
      have H1 : ((laws_toNodeS.f kj16 l0).bind fun t445 => ((laws_eqNodeS.f kj16 t428 t445).bind fun t448 => (if t448 = true then ((laws_toIntS.f kj16 l1).bind fun t449 => ((laws_eqIntS.f kj16 t431 t449).bind fun t452 => (if t452 = true then ((laws_markNodeS.f kj16 t428 1).bind fun bt453 => ((laws_markIntS.f kj16 t431 bt453.1).bind fun bt455 => (if bt455.1 < 0 then (laws_FnExactGuardEdit.j1 kj16 l0 l1 t424 t427 t440 true a2_0 a2_1 a2_2 a2_3 a2_4 a2_5) else ((laws_eqNodeS.f kj16 t440 t424).bind fun t457 => (if t457 = true then (laws_FnExactGuardEdit.j1 kj16 l0 l1 t424 t427 t440 (t443 != t427) a2_0 a2_1 a2_2 a2_3 a2_4 a2_5) else (laws_FnExactGuardEdit.j1 kj16 l0 l1 t424 t427 t440 true a2_0 a2_1 a2_2 a2_3 a2_4 a2_5)))))) else (some false)))) else (some false)))) = some r := by rw [if_neg (show ¬ (false = true) by decide)] at H; exact H
      clear H
      have H := H1
      clear H1
      replace H := Option.bind_eq_some_iff.mp H
      obtain ⟨t445, A420, H⟩ := H
      replace H : ((laws_eqNodeS.f kj16 t428 t445).bind fun t448 => (if t448 = true then ((laws_toIntS.f kj16 l1).bind fun t449 => ((laws_eqIntS.f kj16 t431 t449).bind fun t452 => (if t452 = true then ((laws_markNodeS.f kj16 t428 1).bind fun bt453 => ((laws_markIntS.f kj16 t431 bt453.1).bind fun bt455 => (if bt455.1 < 0 then (laws_FnExactGuardEdit.j1 kj16 l0 l1 t424 t427 t440 true a2_0 a2_1 a2_2 a2_3 a2_4 a2_5) else ((laws_eqNodeS.f kj16 t440 t424).bind fun t457 => (if t457 = true then (laws_FnExactGuardEdit.j1 kj16 l0 l1 t424 t427 t440 (t443 != t427) a2_0 a2_1 a2_2 a2_3 a2_4 a2_5) else (laws_FnExactGuardEdit.j1 kj16 l0 l1 t424 t427 t440 true a2_0 a2_1 a2_2 a2_3 a2_4 a2_5)))))) else (some false)))) else (some false))) = some r := H
      have A42 := am A420
      clear A420
      replace H := Option.bind_eq_some_iff.mp H
      obtain ⟨t448, A430, H⟩ := H
      replace H : (if t448 = true then ((laws_toIntS.f kj16 l1).bind fun t449 => ((laws_eqIntS.f kj16 t431 t449).bind fun t452 => (if t452 = true then ((laws_markNodeS.f kj16 t428 1).bind fun bt453 => ((laws_markIntS.f kj16 t431 bt453.1).bind fun bt455 => (if bt455.1 < 0 then (laws_FnExactGuardEdit.j1 kj16 l0 l1 t424 t427 t440 true a2_0 a2_1 a2_2 a2_3 a2_4 a2_5) else ((laws_eqNodeS.f kj16 t440 t424).bind fun t457 => (if t457 = true then (laws_FnExactGuardEdit.j1 kj16 l0 l1 t424 t427 t440 (t443 != t427) a2_0 a2_1 a2_2 a2_3 a2_4 a2_5) else (laws_FnExactGuardEdit.j1 kj16 l0 l1 t424 t427 t440 true a2_0 a2_1 a2_2 a2_3 a2_4 a2_5)))))) else (some false)))) else (some false)) = some r := H
      have A43 := am A430
      clear A430
      by_cases c44 : t448 = true
      ·subst c44
       have H1 : ((laws_toIntS.f kj16 l1).bind fun t449 => ((laws_eqIntS.f kj16 t431 t449).bind fun t452 => (if t452 = true then ((laws_markNodeS.f kj16 t428 1).bind fun bt453 => ((laws_markIntS.f kj16 t431 bt453.1).bind fun bt455 => (if bt455.1 < 0 then (laws_FnExactGuardEdit.j1 kj16 l0 l1 t424 t427 t440 true a2_0 a2_1 a2_2 a2_3 a2_4 a2_5) else ((laws_eqNodeS.f kj16 t440 t424).bind fun t457 => (if t457 = true then (laws_FnExactGuardEdit.j1 kj16 l0 l1 t424 t427 t440 (t443 != t427) a2_0 a2_1 a2_2 a2_3 a2_4 a2_5) else (laws_FnExactGuardEdit.j1 kj16 l0 l1 t424 t427 t440 true a2_0 a2_1 a2_2 a2_3 a2_4 a2_5)))))) else (some false)))) = some r := by rw [if_pos rfl] at H; exact H
       clear H
       have H := H1
       clear H1
       replace H := Option.bind_eq_some_iff.mp H
       obtain ⟨t449, A450, H⟩ := H
       replace H : ((laws_eqIntS.f kj16 t431 t449).bind fun t452 => (if t452 = true then ((laws_markNodeS.f kj16 t428 1).bind fun bt453 => ((laws_markIntS.f kj16 t431 bt453.1).bind fun bt455 => (if bt455.1 < 0 then (laws_FnExactGuardEdit.j1 kj16 l0 l1 t424 t427 t440 true a2_0 a2_1 a2_2 a2_3 a2_4 a2_5) else ((laws_eqNodeS.f kj16 t440 t424).bind fun t457 => (if t457 = true then (laws_FnExactGuardEdit.j1 kj16 l0 l1 t424 t427 t440 (t443 != t427) a2_0 a2_1 a2_2 a2_3 a2_4 a2_5) else (laws_FnExactGuardEdit.j1 kj16 l0 l1 t424 t427 t440 true a2_0 a2_1 a2_2 a2_3 a2_4 a2_5)))))) else (some false))) = some r := H
       have A45 := am A450
       clear A450
       replace H := Option.bind_eq_some_iff.mp H
       obtain ⟨t452, A460, H⟩ := H
       replace H : (if t452 = true then ((laws_markNodeS.f kj16 t428 1).bind fun bt453 => ((laws_markIntS.f kj16 t431 bt453.1).bind fun bt455 => (if bt455.1 < 0 then (laws_FnExactGuardEdit.j1 kj16 l0 l1 t424 t427 t440 true a2_0 a2_1 a2_2 a2_3 a2_4 a2_5) else ((laws_eqNodeS.f kj16 t440 t424).bind fun t457 => (if t457 = true then (laws_FnExactGuardEdit.j1 kj16 l0 l1 t424 t427 t440 (t443 != t427) a2_0 a2_1 a2_2 a2_3 a2_4 a2_5) else (laws_FnExactGuardEdit.j1 kj16 l0 l1 t424 t427 t440 true a2_0 a2_1 a2_2 a2_3 a2_4 a2_5)))))) else (some false)) = some r := H
       have A46 := am A460
       clear A460
       by_cases c47 : t452 = true
       ·subst c47
        have H1 : ((laws_markNodeS.f kj16 t428 1).bind fun bt453 => ((laws_markIntS.f kj16 t431 bt453.1).bind fun bt455 => (if bt455.1 < 0 then (laws_FnExactGuardEdit.j1 kj16 l0 l1 t424 t427 t440 true a2_0 a2_1 a2_2 a2_3 a2_4 a2_5) else ((laws_eqNodeS.f kj16 t440 t424).bind fun t457 => (if t457 = true then (laws_FnExactGuardEdit.j1 kj16 l0 l1 t424 t427 t440 (t443 != t427) a2_0 a2_1 a2_2 a2_3 a2_4 a2_5) else (laws_FnExactGuardEdit.j1 kj16 l0 l1 t424 t427 t440 true a2_0 a2_1 a2_2 a2_3 a2_4 a2_5)))))) = some r := by rw [if_pos rfl] at H; exact H
        clear H
        have H := H1
        clear H1
        replace H := Option.bind_eq_some_iff.mp H
        obtain ⟨⟨t453, t454⟩, A480, H⟩ := H
        replace H : ((laws_markIntS.f kj16 t431 t453).bind fun bt455 => (if bt455.1 < 0 then (laws_FnExactGuardEdit.j1 kj16 l0 l1 t424 t427 t440 true a2_0 a2_1 a2_2 a2_3 a2_4 a2_5) else ((laws_eqNodeS.f kj16 t440 t424).bind fun t457 => (if t457 = true then (laws_FnExactGuardEdit.j1 kj16 l0 l1 t424 t427 t440 (t443 != t427) a2_0 a2_1 a2_2 a2_3 a2_4 a2_5) else (laws_FnExactGuardEdit.j1 kj16 l0 l1 t424 t427 t440 true a2_0 a2_1 a2_2 a2_3 a2_4 a2_5))))) = some r := H
        have A48 := am A480
        clear A480
        replace H := Option.bind_eq_some_iff.mp H
        obtain ⟨⟨t455, t456⟩, A490, H⟩ := H
        replace H : (if t455 < 0 then (laws_FnExactGuardEdit.j1 kj16 l0 l1 t424 t427 t440 true a2_0 a2_1 a2_2 a2_3 a2_4 a2_5) else ((laws_eqNodeS.f kj16 t440 t424).bind fun t457 => (if t457 = true then (laws_FnExactGuardEdit.j1 kj16 l0 l1 t424 t427 t440 (t443 != t427) a2_0 a2_1 a2_2 a2_3 a2_4 a2_5) else (laws_FnExactGuardEdit.j1 kj16 l0 l1 t424 t427 t440 true a2_0 a2_1 a2_2 a2_3 a2_4 a2_5)))) = some r := H
        have A49 := am A490
        clear A490
        have HC50 := am H
        clear H
        go_upto_region 20 with (first | ((with_reducible refine gate_callee (f := 16) rfl ?_); refine goesL_ (some 60) rfl rfl Try.func16 (by kernel_rfl) rfl #[.slice A0 l0.length c0] rfl mU ?_; (with_reducible refine (laws_toNodeS.calls kj16 _ _ l0 t445 _ ?side1 ?side2 A42.out).mono ?_); (case side1 => exact cU (Kd.C_below HR0.out HB.out)); (case side2 => exact HC0.out); rintro e w51 ⟨v446, rfl, ho0, hb⟩; refine ⟨_, rfl, ?_⟩; have n0_ := am (Kd.R_elder' (rU HO_8.out) (Kd.R_base ho0) hb); have n1_ := am (Kd.R_elder' (rU HO_10.out) (Kd.R_base ho0) hb); have n2_ := am (Kd.R_below (rU HO_11.out) hb); have n3_ := am (Kd.R_elder' (rU HO_12.out) (Kd.R_base ho0) hb); have n4_ := am (Kd.R_lower (Kd.R_new' (Kd.R_new' (Kd.R_new' ho0 (Kd.R_lt (rU HO_8.out))) (Kd.R_lt (rU HO_10.out))) (Kd.R_lt (rU HO_12.out))) (below_size (bS HB.out GE410.out))); have n5_ := am (kB BK410.out hb); have n6_ := am (below_step (bS HB.out GE410.out) hb); clear HO_8; clear HO_10; clear HO_11; clear HO_12; clear BK410; clear HB; have HO_8 := n0_; have HO_10 := n1_; have HO_11 := n2_; have HO_12 := n3_; have HO447 := n4_; have BK410 := n5_; have HB := n6_; clear n0_ n1_ n2_ n3_ n4_ n5_ n6_; (try clear hb); (try clear hb2); (try clear hk); (try clear hi); (try clear ho0); obtain ⟨Ao52, co52, eo52⟩ := Kd.R_slice HO447.out; subst eo52) | ((with_reducible refine gate_callee (f := 19) rfl ?_); refine goesL_ (some 61) rfl rfl Try.func19 (by kernel_rfl) rfl #[.slice Ao30 t428.length co30, .slice Ao52 t445.length co52] rfl mU ?_; (with_reducible refine (laws_eqNodeS.calls kj16 _ _ t428 _ _ t445 true _ ?side1 ?side2 ?side3 ?side4 A43.out).mono ?_); (case side1 => exact cU (Kd.R_reads' HO_10.out).2.2); (case side2 => exact (Kd.R_reads' HO_10.out).2.1); (case side3 => exact cU (Kd.R_reads' HO447.out).2.2); (case side4 => exact (Kd.R_reads' HO447.out).2.1); rintro e w53 ⟨rfl, hb⟩; refine ⟨_, rfl, ?_⟩; have n0_ := am (Kd.R_below (rU HO_8.out) hb); have n1_ := am (Kd.R_below (rU HO_10.out) hb); have n2_ := am (Kd.R_below (rU HO_11.out) hb); have n3_ := am (Kd.R_below (rU HO_12.out) hb); have n4_ := am (Kd.R_below (rU HO447.out) hb); have n5_ := am (kB BK410.out hb); have n6_ := am (below_step (bS HB.out GE410.out) hb); clear HO_8; clear HO_10; clear HO_11; clear HO_12; clear HO447; clear BK410; clear HB; have HO_8 := n0_; have HO_10 := n1_; have HO_11 := n2_; have HO_12 := n3_; have HO447 := n4_; have BK410 := n5_; have HB := n6_; clear n0_ n1_ n2_ n3_ n4_ n5_ n6_; (try clear hb); (try clear hb2); (try clear hk); (try clear hi)) | ((with_reducible refine gate_callee (f := 31) rfl ?_); refine goesL_ (some 65) rfl rfl Try.func31 (by kernel_rfl) rfl #[.slice A1 l1.length c1] rfl mU ?_; (with_reducible refine (laws_toIntS.calls kj16 _ _ l1 t449 _ ?side1 ?side2 A45.out).mono ?_); (case side1 => exact cU (Kd.C_below HR1.out HB.out)); (case side2 => exact HC1.out); rintro e w54 ⟨v450, rfl, ho0, hb⟩; refine ⟨_, rfl, ?_⟩; have n0_ := am (Kd.R_below (rU HO_8.out) hb); have n1_ := am (Kd.R_below (rU HO_10.out) hb); have n2_ := am (Kd.R_elder' (rU HO_11.out) (Kd.R_base ho0) hb); have n3_ := am (Kd.R_below (rU HO_12.out) hb); have n4_ := am (Kd.R_below (rU HO447.out) hb); have n5_ := am (Kd.R_lower (Kd.R_new' ho0 (Kd.R_lt (rU HO_11.out))) (below_size (bS HB.out GE410.out))); have n6_ := am (kB BK410.out hb); have n7_ := am (below_step (bS HB.out GE410.out) hb); clear HO_8; clear HO_10; clear HO_11; clear HO_12; clear HO447; clear BK410; clear HB; have HO_8 := n0_; have HO_10 := n1_; have HO_11 := n2_; have HO_12 := n3_; have HO447 := n4_; have HO451 := n5_; have BK410 := n6_; have HB := n7_; clear n0_ n1_ n2_ n3_ n4_ n5_ n6_ n7_; (try clear hb); (try clear hb2); (try clear hk); (try clear hi); (try clear ho0); obtain ⟨Ao55, co55, eo55⟩ := Kd.R_slice HO451.out; subst eo55) | ((with_reducible refine gate_callee (f := 33) rfl ?_); refine goesL_ (some 66) rfl rfl Try.func33 (by kernel_rfl) rfl #[.slice Ao31 t431.length co31, .slice Ao55 t449.length co55] rfl mU ?_; (with_reducible refine (laws_eqIntS.calls kj16 _ _ t431 _ _ t449 true _ ?side1 ?side2 ?side3 ?side4 A46.out).mono ?_); (case side1 => exact cU (Kd.R_reads' HO_11.out).2.2); (case side2 => exact (Kd.R_reads' HO_11.out).2.1); (case side3 => exact cU (Kd.R_reads' HO451.out).2.2); (case side4 => exact (Kd.R_reads' HO451.out).2.1); rintro e w' ⟨rfl, ⟨nd, rfl⟩⟩; refine ⟨_, rfl, ?_⟩) | ((with_reducible refine gate_callee (f := 20) rfl ?_); refine goesL_ (some 70) rfl rfl Try.func20 (by kernel_rfl) rfl #[.slice Ao30 t428.length co30, .int .i64 1] rfl mU ?_; (with_reducible refine (laws_markNodeS.calls kj16 (fun k_ => some k_ = (.slice Ao30 t428.length co30 : Value).ownBlock) (.slice Ao30 t428.length co30) t428 1 t453 t454 w _ ?side1 ?side2 A48.out).mono ?_); (case side1 => exact bS HB.out GE410.out); (case side2 => exact Kd.R_tight rfl HO_10.out); rintro e w56 ⟨rfl, hy0, hb, hkp⟩; refine ⟨_, rfl, ?_⟩; have n0_ := am (Kd.R_mono (ok' := fun k_ => some k_ ≠ (.slice Ao30 t428.length co30 : Value).ownBlock ∧ some k_ ≠ (v441 : Value).ownBlock ∧ some k_ ≠ (.slice Ao52 t445.length co52 : Value).ownBlock) (Kd.R_keptB (HO_8.out) hkp (fun k_ hk_ hs_ => (hk_.1.1) hs_)) (fun k_ hk_ => ⟨hk_.1.1.1, hk_.1.1.2, hk_.1.2⟩)); have n1_ := am (Kd.R_reok rfl hy0 (fun k_ e_ => HO_10.out.1 k_ e_)); have n2_ := am (Kd.R_mono (ok' := fun k_ => some k_ ≠ (.slice Ao55 t449.length co55 : Value).ownBlock) (Kd.R_keptB ((Kd.R_apart' HO_11.out (Kd.R_typed HO_10.out) (by decide))) hkp (fun k_ hk_ hs_ => (hk_.2) hs_)) (fun k_ hk_ => hk_.1.1.2)); have n3_ := am (Kd.R_mono (ok' := fun k_ => some k_ ≠ (v425 : Value).ownBlock ∧ some k_ ≠ (.slice Ao30 t428.length co30 : Value).ownBlock ∧ some k_ ≠ (.slice Ao52 t445.length co52 : Value).ownBlock) (Kd.R_keptB (HO_12.out) hkp (fun k_ hk_ hs_ => (hk_.1.2) hs_)) (fun k_ hk_ => ⟨hk_.1.1.1, hk_.1.1.2, hk_.1.2⟩)); have n4_ := am (blk_kept (kU BK410.out) hkp (fun hs_ => (fun e_ => (Kd.R_ne HO_10.out BK410.out (by decide)) e_) hs_)); have n5_ := am (Kd.R_mono (ok' := fun k_ => some k_ ≠ (v425 : Value).ownBlock ∧ some k_ ≠ (.slice Ao30 t428.length co30 : Value).ownBlock ∧ some k_ ≠ (v441 : Value).ownBlock) (Kd.R_keptB (HO447.out) hkp (fun k_ hk_ hs_ => (hk_.1.2) hs_)) (fun k_ hk_ => ⟨hk_.1.1.1.2, hk_.1.1.2, hk_.1.2⟩)); have n6_ := am (Kd.R_mono (ok' := fun k_ => some k_ ≠ (.slice Ao31 t431.length co31 : Value).ownBlock) (Kd.R_keptB ((Kd.R_apart' HO451.out (Kd.R_typed HO_10.out) (by decide))) hkp (fun k_ hk_ hs_ => (hk_.2) hs_)) (fun k_ hk_ => hk_.1.1.2)); have n7_ := am (hb); clear HO_8; clear HO_10; clear HO_11; clear HO_12; clear BK410; clear HO447; clear HO451; clear HB; have HO_8 := n0_; have HO_10 := n1_; have HO_11 := n2_; have HO_12 := n3_; have BK410 := n4_; have HO447 := n5_; have HO451 := n6_; have HB := n7_; clear n0_ n1_ n2_ n3_ n4_ n5_ n6_ n7_; (try clear hb); (try clear hkp); (try clear hy0)) | ((with_reducible refine gate_callee (f := 34) rfl ?_); refine goesL_ (some 73) rfl rfl Try.func34 (by kernel_rfl) rfl #[.slice Ao31 t431.length co31, .int .i64 t453] rfl mU ?_; (with_reducible refine (laws_markIntS.calls kj16 (fun k_ => some k_ = (.slice Ao31 t431.length co31 : Value).ownBlock) (.slice Ao31 t431.length co31) t431 t453 t455 t456 w _ ?side1 ?side2 A49.out).mono ?_); (case side1 => exact bS HB.out GE410.out); (case side2 => exact Kd.R_tight rfl HO_11.out); rintro e w57 ⟨rfl, hy0, hb, hkp⟩; refine ⟨_, rfl, ?_⟩; have n0_ := am (Kd.R_mono (ok' := fun k_ => some k_ ≠ (.slice Ao30 t428.length co30 : Value).ownBlock ∧ some k_ ≠ (v441 : Value).ownBlock ∧ some k_ ≠ (.slice Ao52 t445.length co52 : Value).ownBlock) (Kd.R_keptB ((Kd.R_apart' HO_8.out (Kd.R_typed HO_11.out) (by decide))) hkp (fun k_ hk_ hs_ => (hk_.2) hs_)) (fun k_ hk_ => ⟨hk_.1.1.1, hk_.1.1.2.1, hk_.1.1.2.2⟩)); have n1_ := am (Kd.R_mono (ok' := fun k_ => some k_ ≠ (v425 : Value).ownBlock ∧ some k_ ≠ (v441 : Value).ownBlock ∧ some k_ ≠ (.slice Ao52 t445.length co52 : Value).ownBlock) (Kd.R_keptB ((Kd.R_apart' HO_10.out (Kd.R_typed HO_11.out) (by decide))) hkp (fun k_ hk_ hs_ => (hk_.2) hs_)) (fun k_ hk_ => ⟨hk_.1.1.1.1, hk_.1.1.1.2, hk_.1.1.2⟩)); have n2_ := am (Kd.R_reok rfl hy0 (fun k_ e_ => HO_11.out.1 k_ e_)); have n3_ := am (Kd.R_mono (ok' := fun k_ => some k_ ≠ (v425 : Value).ownBlock ∧ some k_ ≠ (.slice Ao30 t428.length co30 : Value).ownBlock ∧ some k_ ≠ (.slice Ao52 t445.length co52 : Value).ownBlock) (Kd.R_keptB ((Kd.R_apart' HO_12.out (Kd.R_typed HO_11.out) (by decide))) hkp (fun k_ hk_ hs_ => (hk_.2) hs_)) (fun k_ hk_ => ⟨hk_.1.1.1, hk_.1.1.2.1, hk_.1.1.2.2⟩)); have n4_ := am (blk_kept (kU BK410.out) hkp (fun hs_ => (fun e_ => (Kd.R_ne HO_11.out BK410.out (by decide)) e_) hs_)); have n5_ := am (Kd.R_mono (ok' := fun k_ => some k_ ≠ (v425 : Value).ownBlock ∧ some k_ ≠ (.slice Ao30 t428.length co30 : Value).ownBlock ∧ some k_ ≠ (v441 : Value).ownBlock) (Kd.R_keptB ((Kd.R_apart' HO447.out (Kd.R_typed HO_11.out) (by decide))) hkp (fun k_ hk_ hs_ => (hk_.2) hs_)) (fun k_ hk_ => ⟨hk_.1.1.1, hk_.1.1.2.1, hk_.1.1.2.2⟩)); have n6_ := am (Kd.R_mono (ok' := fun k_ => some k_ ≠ (.slice Ao31 t431.length co31 : Value).ownBlock) (Kd.R_keptB (HO451.out) hkp (fun k_ hk_ hs_ => (hk_) hs_)) (fun k_ hk_ => hk_.1)); have n7_ := am (hb); clear HO_8; clear HO_10; clear HO_11; clear HO_12; clear BK410; clear HO447; clear HO451; clear HB; have HO_8 := n0_; have HO_10 := n1_; have HO_11 := n2_; have HO_12 := n3_; have BK410 := n4_; have HO447 := n5_; have HO451 := n6_; have HB := n7_; clear n0_ n1_ n2_ n3_ n4_ n5_ n6_ n7_; (try clear hb); (try clear hkp); (try clear hy0)))
        (try simp only [Act.put, List.setIfInBounds_toArray, List.set_cons_zero, List.set_cons_succ])
        go_cut [86] (fun v86 wc => ∃ (kq : Nat) (x86_49 : Bool), v86 = .bool x86_49 ∧ Aside0 (laws_FnExactGuardEdit.j1 kq l0 l1 t424 t427 t440 x86_49 a2_0 a2_1 a2_2 a2_3 a2_4 a2_5 = some r) ∧ Aside0 (kq ≤ kj16) ∧ Aside0 (Kd.R k59 59 wc w.heap.size (fun k_ => some k_ ≠ (v441 : Value).ownBlock) v425 t424) ∧ Aside0 (Kd.R k59 59 wc w.heap.size (fun k_ => some k_ ≠ (v425 : Value).ownBlock) v441 t440) ∧ Aside0 (wc.heap[gb410]? = some (.cells #[.int .i64 a2_0, .int .i64 a2_1, .int .i64 a2_2, .int .i64 a2_3, .int .i64 a2_4, .int .i64 a2_5] 24 (0, 0))) ∧ Aside0 (Below w.heap.size w wc))
        case first =>
         have H := HC50.out
         clear HC50
         by_cases c58 : t455 < 0
         ·rw [if_pos c58] at H
          have c58b0 : decide (t455 < 0) = true := decide_eq_true c58
          clear c58
          (first | rw [c58b0] | (simp only [i64_w, i32_w]; rw [c58b0]) | skip)
          have H' := am H
          clear H
          go_wp2
          go_meet
          case rel => exact ⟨_, (true), (by first | rfl | (simp; done) | (simp [*]; done)), H', ⟨by have := HJ16.out; first | omega | exact Nat.le_refl _⟩, ⟨by (with_reducible repeat (first | apply Kd.R_alloc | apply Kd.R_drewN | apply Kd.R_drew)); exact Kd.R_mono HO_8.out (fun _ hk => hk.2.1)⟩, ⟨by (with_reducible repeat (first | apply Kd.R_alloc | apply Kd.R_drewN | apply Kd.R_drew)); exact Kd.R_mono HO_12.out (fun _ hk => hk.1)⟩, ⟨kU BK410.out⟩, ⟨bS HB.out GE410.out⟩⟩
         ·rw [if_neg c58] at H
          have c58b0 : decide (t455 < 0) = false := decide_eq_false c58
          clear c58
          (first | rw [c58b0] | (simp only [i64_w, i32_w]; rw [c58b0]) | skip)
          replace H := Option.bind_eq_some_iff.mp H
          obtain ⟨t457, A590, H⟩ := H
          replace H : (if t457 = true then (laws_FnExactGuardEdit.j1 kj16 l0 l1 t424 t427 t440 (t443 != t427) a2_0 a2_1 a2_2 a2_3 a2_4 a2_5) else (laws_FnExactGuardEdit.j1 kj16 l0 l1 t424 t427 t440 true a2_0 a2_1 a2_2 a2_3 a2_4 a2_5)) = some r := H
          have A59 := am A590
          clear A590
          by_cases c60 : t457 = true
          ·subst c60
           have H1 : (laws_FnExactGuardEdit.j1 kj16 l0 l1 t424 t427 t440 (t443 != t427) a2_0 a2_1 a2_2 a2_3 a2_4 a2_5) = some r := by rw [if_pos rfl] at H; exact H
           clear H
           have H := H1
           clear H1
           have H' := am H
           clear H
           obtain ⟨Ao61, co61, eo61⟩ := Kd.R_slice HO_12.out
           subst eo61
           obtain ⟨Ao62, co62, eo62⟩ := Kd.R_slice HO_8.out
           subst eo62
           go_wp2_with (first | (go_at_call 19; (with_reducible refine (laws_eqNodeS.calls kj16 _ _ t440 _ _ t424 true _ ?side1 ?side2 ?side3 ?side4 A59.out).mono ?_); (case side1 => exact cU (Kd.R_reads' HO_12.out).2.2); (case side2 => exact (Kd.R_reads' HO_12.out).2.1); (case side3 => exact cU (Kd.R_reads' HO_8.out).2.2); (case side4 => exact (Kd.R_reads' HO_8.out).2.1); rintro e w63 ⟨rfl, hb⟩; have n0_ := am (Kd.R_below (rU HO_8.out) hb); have n1_ := am (Kd.R_below (rU HO_10.out) hb); have n2_ := am (Kd.R_below (rU HO_11.out) hb); have n3_ := am (Kd.R_below (rU HO_12.out) hb); have n4_ := am (Kd.R_below (rU HO447.out) hb); have n5_ := am (Kd.R_below (rU HO451.out) hb); have n6_ := am (kB BK410.out hb); have n7_ := am (below_step (bS HB.out GE410.out) hb); clear HO_8; clear HO_10; clear HO_11; clear HO_12; clear HO447; clear HO451; clear BK410; clear HB; have HO_8 := n0_; have HO_10 := n1_; have HO_11 := n2_; have HO_12 := n3_; have HO447 := n4_; have HO451 := n5_; have BK410 := n6_; have HB := n7_; clear n0_ n1_ n2_ n3_ n4_ n5_ n6_ n7_; (try clear hb); (try clear hb2); (try clear hk); (try clear hi)))
           go_meet
           case rel => exact ⟨_, ((t443 != t427)), (by first | rfl | (simp; done) | (simp [*]; done)), H', ⟨by have := HJ16.out; first | omega | exact Nat.le_refl _⟩, ⟨by (with_reducible repeat (first | apply Kd.R_alloc | apply Kd.R_drewN | apply Kd.R_drew)); exact Kd.R_mono HO_8.out (fun _ hk => hk.2.1)⟩, ⟨by (with_reducible repeat (first | apply Kd.R_alloc | apply Kd.R_drewN | apply Kd.R_drew)); exact Kd.R_mono HO_12.out (fun _ hk => hk.1)⟩, ⟨kU BK410.out⟩, ⟨bS HB.out GE410.out⟩⟩
          ·replace c60 := Bool.eq_false_iff.mpr c60
           subst c60
           have H1 : (laws_FnExactGuardEdit.j1 kj16 l0 l1 t424 t427 t440 true a2_0 a2_1 a2_2 a2_3 a2_4 a2_5) = some r := by rw [if_neg (show ¬ (false = true) by decide)] at H; exact H
           clear H
           have H := H1
           clear H1
           have H' := am H
           clear H
           obtain ⟨Ao64, co64, eo64⟩ := Kd.R_slice HO_12.out
           subst eo64
           obtain ⟨Ao65, co65, eo65⟩ := Kd.R_slice HO_8.out
           subst eo65
           go_wp2_with (first | (go_at_call 19; (with_reducible refine (laws_eqNodeS.calls kj16 _ _ t440 _ _ t424 false _ ?side1 ?side2 ?side3 ?side4 A59.out).mono ?_); (case side1 => exact cU (Kd.R_reads' HO_12.out).2.2); (case side2 => exact (Kd.R_reads' HO_12.out).2.1); (case side3 => exact cU (Kd.R_reads' HO_8.out).2.2); (case side4 => exact (Kd.R_reads' HO_8.out).2.1); rintro e w66 ⟨rfl, hb⟩; have n0_ := am (Kd.R_below (rU HO_8.out) hb); have n1_ := am (Kd.R_below (rU HO_10.out) hb); have n2_ := am (Kd.R_below (rU HO_11.out) hb); have n3_ := am (Kd.R_below (rU HO_12.out) hb); have n4_ := am (Kd.R_below (rU HO447.out) hb); have n5_ := am (Kd.R_below (rU HO451.out) hb); have n6_ := am (kB BK410.out hb); have n7_ := am (below_step (bS HB.out GE410.out) hb); clear HO_8; clear HO_10; clear HO_11; clear HO_12; clear HO447; clear HO451; clear BK410; clear HB; have HO_8 := n0_; have HO_10 := n1_; have HO_11 := n2_; have HO_12 := n3_; have HO447 := n4_; have HO451 := n5_; have BK410 := n6_; have HB := n7_; clear n0_ n1_ n2_ n3_ n4_ n5_ n6_ n7_; (try clear hb); (try clear hb2); (try clear hk); (try clear hi)))
           go_meet
           case rel => exact ⟨_, (true), (by first | rfl | (simp; done) | (simp [*]; done)), H', ⟨by have := HJ16.out; first | omega | exact Nat.le_refl _⟩, ⟨by (with_reducible repeat (first | apply Kd.R_alloc | apply Kd.R_drewN | apply Kd.R_drew)); exact Kd.R_mono HO_8.out (fun _ hk => hk.2.1)⟩, ⟨by (with_reducible repeat (first | apply Kd.R_alloc | apply Kd.R_drewN | apply Kd.R_drew)); exact Kd.R_mono HO_12.out (fun _ hk => hk.1)⟩, ⟨kU BK410.out⟩, ⟨bS HB.out GE410.out⟩⟩
        case rest =>
         clear HC50
         try clear c1
         try clear c2
         try clear p2
         try clear c3
         try clear c4
         try clear c4b0
         try clear c4b1
         try clear c5
         try clear c6
         try clear c7
         try clear c7b0
         try clear c14
         try clear c16
         try clear c17
         try clear c19
         try clear c20
         try clear c30
         try clear c31
         try clear c32
         try clear c33
         try clear c34
         try clear c41
         try clear c44
         try clear c47
         try clear c58
         try clear c58b0
         try clear c60
         try clear hcz28_0 hcz28_1 hcz28_2 hcz28_3 hcz28_4 hcz28_5 hfz28_0 hfz28_1 hfz28_2 hfz28_3 hfz28_4 hfz28_5
         try clear p2
         obtain ⟨kq, x86_49, rfl, HA, HJ49, HO_8, HO_12, BK410, HB⟩ := hcut
         cases kq with
         | zero => exact absurd HA.out (by simp [laws_FnExactGuardEdit.j1])
         | succ kj49 =>
          have H := HA.out
          clear HA
          simp only [laws_FnExactGuardEdit.j1] at H
          by_cases c67 : x86_49 = true
          ·subst c67
           have H1 : (some false) = some r := by rw [if_pos rfl] at H; exact H
           clear H
           have H := H1
           clear H1
           obtain rfl := Option.some.inj H
           go_wp2
           go_ret
           exact ⟨eU, bS HB.out GE410.out⟩
          ·replace c67 := Bool.eq_false_iff.mpr c67
           subst c67
           have H1 : ((laws_markNodeS.f kj49 t440 1).bind fun bt458 => ((laws_heldNodeS.f kj49 bt458.2 1).bind fun t460 => (if t460 < 0 then (some false) else (if t460 = bt458.1 then ((laws_toNodeS.f kj49 l0).bind fun t461 => ((laws_toIntS.f kj49 l1).bind fun t464 => ((laws_toEdit.f a2_0 a2_1 a2_2 a2_3 a2_4 a2_5).bind fun bt467 => ((impl_GuardEdit.f kj49 t461 t464 bt467.1 bt467.2.1 bt467.2.2.1 bt467.2.2.2.1 bt467.2.2.2.2.1 bt467.2.2.2.2.2).bind fun bt473 => ((laws_eqNodeS.f kj49 bt473.1 t424).bind fun t477 => (if t477 = true then (laws_FnExactGuardEdit.j2 kj49 bt458.2 bt458.1 (bt473.2 != t427)) else (laws_FnExactGuardEdit.j2 kj49 bt458.2 bt458.1 true))))))) else (some false))))) = some r := by rw [if_neg (show ¬ (false = true) by decide)] at H; exact H
           clear H
           have H := H1
           clear H1
           replace H := Option.bind_eq_some_iff.mp H
           obtain ⟨⟨t458, t459⟩, A680, H⟩ := H
           replace H : ((laws_heldNodeS.f kj49 t459 1).bind fun t460 => (if t460 < 0 then (some false) else (if t460 = t458 then ((laws_toNodeS.f kj49 l0).bind fun t461 => ((laws_toIntS.f kj49 l1).bind fun t464 => ((laws_toEdit.f a2_0 a2_1 a2_2 a2_3 a2_4 a2_5).bind fun bt467 => ((impl_GuardEdit.f kj49 t461 t464 bt467.1 bt467.2.1 bt467.2.2.1 bt467.2.2.2.1 bt467.2.2.2.2.1 bt467.2.2.2.2.2).bind fun bt473 => ((laws_eqNodeS.f kj49 bt473.1 t424).bind fun t477 => (if t477 = true then (laws_FnExactGuardEdit.j2 kj49 t459 t458 (bt473.2 != t427)) else (laws_FnExactGuardEdit.j2 kj49 t459 t458 true))))))) else (some false)))) = some r := H
           have A68 := am A680
           clear A680
           replace H := Option.bind_eq_some_iff.mp H
           obtain ⟨t460, A690, H⟩ := H
           replace H : (if t460 < 0 then (some false) else (if t460 = t458 then ((laws_toNodeS.f kj49 l0).bind fun t461 => ((laws_toIntS.f kj49 l1).bind fun t464 => ((laws_toEdit.f a2_0 a2_1 a2_2 a2_3 a2_4 a2_5).bind fun bt467 => ((impl_GuardEdit.f kj49 t461 t464 bt467.1 bt467.2.1 bt467.2.2.1 bt467.2.2.2.1 bt467.2.2.2.2.1 bt467.2.2.2.2.2).bind fun bt473 => ((laws_eqNodeS.f kj49 bt473.1 t424).bind fun t477 => (if t477 = true then (laws_FnExactGuardEdit.j2 kj49 t459 t458 (bt473.2 != t427)) else (laws_FnExactGuardEdit.j2 kj49 t459 t458 true))))))) else (some false))) = some r := H
           have A69 := am A690
           clear A690
           by_cases c70 : t460 < 0
           ·rw [if_pos c70] at H
            have c70b0 : decide (t460 < 0) = true := decide_eq_true c70
            clear c70
            obtain rfl := Option.some.inj H
            obtain ⟨Ao71, co71, eo71⟩ := Kd.R_slice HO_12.out
            subst eo71
            go_wp2_with (first | ((with_reducible refine gate_callee (f := 20) rfl ?_); refine goesL_ (some 89) rfl rfl Try.func20 (by kernel_rfl) rfl #[.slice Ao71 t440.length co71, .int .i64 1] rfl mU ?_; (with_reducible refine (laws_markNodeS.calls kj49 (fun k_ => some k_ = (.slice Ao71 t440.length co71 : Value).ownBlock) (.slice Ao71 t440.length co71) t440 1 t458 t459 w _ ?side1 ?side2 A68.out).mono ?_); (case side1 => exact bS HB.out GE410.out); (case side2 => exact Kd.R_tight rfl HO_12.out); rintro e w72 ⟨rfl, hy0, hb, hkp⟩; refine ⟨_, rfl, ?_⟩; have n0_ := am (Kd.R_mono (ok' := fun k_ => some k_ ≠ (.slice Ao71 t440.length co71 : Value).ownBlock) (Kd.R_keptB (HO_8.out) hkp (fun k_ hk_ hs_ => (hk_) hs_)) (fun k_ hk_ => hk_.1)); have n1_ := am (Kd.R_reok rfl hy0 (fun k_ e_ => HO_12.out.1 k_ e_)); have n2_ := am (blk_kept (kU BK410.out) hkp (fun hs_ => (fun e_ => (Kd.R_ne HO_12.out BK410.out (by decide)) e_) hs_)); have n3_ := am (hb); clear HO_8; clear HO_12; clear BK410; clear HB; have HO_8 := n0_; have HO_12 := n1_; have BK410 := n2_; have HB := n3_; clear n0_ n1_ n2_ n3_; (try clear hb); (try clear hkp); (try clear hy0)) | ((with_reducible refine gate_callee (f := 21) rfl ?_); refine goesL_ (some 92) rfl rfl Try.func21 (by kernel_rfl) rfl #[.slice Ao71 t459.length co71, .int .i64 1] rfl (by (try simp only [List.map_toArray, List.map_cons, List.map_nil]); first | done | (rw [show t459.length = t440.length from (Kd.R_reads' HO_12.out).1.symm] <;> rfl) | rfl | (simp only [List.length_drop, List.length_take]; rfl)) ?_; (with_reducible refine (laws_heldNodeS.calls kj49 _ _ t459 1 t460 _ ?side1 ?side2 A69.out).mono ?_); (case side1 => exact cU (Kd.R_reads' HO_12.out).2.2); (case side2 => rw [show t459.length = t440.length from (Kd.R_reads' HO_12.out).1.symm]; exact (Kd.R_reads' HO_12.out).2.1); rintro e w' ⟨rfl, ⟨nd, rfl⟩⟩; refine ⟨_, rfl, ?_⟩))
            go_ret
            exact ⟨eU, bS HB.out GE410.out⟩
           ·rw [if_neg c70] at H
            have c70b0 : decide (t460 < 0) = false := decide_eq_false c70
            clear c70
            by_cases c73 : t460 = t458
            ·rw [if_pos c73] at H
             have c73b0 : (t460 == t458) = true := beq_iff_eq.mpr c73
             have c73b1 : (t460 != t458) = false := bne_eq_false_iff_eq.mpr c73
             clear c73
             replace H := Option.bind_eq_some_iff.mp H
             obtain ⟨t461, A740, H⟩ := H
             replace H : ((laws_toIntS.f kj49 l1).bind fun t464 => ((laws_toEdit.f a2_0 a2_1 a2_2 a2_3 a2_4 a2_5).bind fun bt467 => ((impl_GuardEdit.f kj49 t461 t464 bt467.1 bt467.2.1 bt467.2.2.1 bt467.2.2.2.1 bt467.2.2.2.2.1 bt467.2.2.2.2.2).bind fun bt473 => ((laws_eqNodeS.f kj49 bt473.1 t424).bind fun t477 => (if t477 = true then (laws_FnExactGuardEdit.j2 kj49 t459 t458 (bt473.2 != t427)) else (laws_FnExactGuardEdit.j2 kj49 t459 t458 true)))))) = some r := H
             have A74 := am A740
             clear A740
             replace H := Option.bind_eq_some_iff.mp H
             obtain ⟨t464, A750, H⟩ := H
             replace H : ((laws_toEdit.f a2_0 a2_1 a2_2 a2_3 a2_4 a2_5).bind fun bt467 => ((impl_GuardEdit.f kj49 t461 t464 bt467.1 bt467.2.1 bt467.2.2.1 bt467.2.2.2.1 bt467.2.2.2.2.1 bt467.2.2.2.2.2).bind fun bt473 => ((laws_eqNodeS.f kj49 bt473.1 t424).bind fun t477 => (if t477 = true then (laws_FnExactGuardEdit.j2 kj49 t459 t458 (bt473.2 != t427)) else (laws_FnExactGuardEdit.j2 kj49 t459 t458 true))))) = some r := H
             have A75 := am A750
             clear A750
             replace H := Option.bind_eq_some_iff.mp H
             obtain ⟨⟨t467, t468, t469, t470, t471, t472⟩, A760, H⟩ := H
             replace H : ((impl_GuardEdit.f kj49 t461 t464 t467 t468 t469 t470 t471 t472).bind fun bt473 => ((laws_eqNodeS.f kj49 bt473.1 t424).bind fun t477 => (if t477 = true then (laws_FnExactGuardEdit.j2 kj49 t459 t458 (bt473.2 != t427)) else (laws_FnExactGuardEdit.j2 kj49 t459 t458 true)))) = some r := H
             have A76 := am A760
             clear A760
             replace H := Option.bind_eq_some_iff.mp H
             obtain ⟨⟨t473, t476⟩, A770, H⟩ := H
             replace H : ((laws_eqNodeS.f kj49 t473 t424).bind fun t477 => (if t477 = true then (laws_FnExactGuardEdit.j2 kj49 t459 t458 (t476 != t427)) else (laws_FnExactGuardEdit.j2 kj49 t459 t458 true))) = some r := H
             have A77 := am A770
             clear A770
             have HC78 := am H
             clear H
             obtain ⟨Ao79, co79, eo79⟩ := Kd.R_slice HO_12.out
             subst eo79
             try go_wp2_with (first | ((with_reducible refine gate_callee (f := 20) rfl ?_); refine goesL_ (some 89) rfl rfl Try.func20 (by kernel_rfl) rfl #[.slice Ao79 t440.length co79, .int .i64 1] rfl mU ?_; (with_reducible refine (laws_markNodeS.calls kj49 (fun k_ => some k_ = (.slice Ao79 t440.length co79 : Value).ownBlock) (.slice Ao79 t440.length co79) t440 1 t458 t459 w _ ?side1 ?side2 A68.out).mono ?_); (case side1 => exact bS HB.out GE410.out); (case side2 => exact Kd.R_tight rfl HO_12.out); rintro e w80 ⟨rfl, hy0, hb, hkp⟩; refine ⟨_, rfl, ?_⟩; have n0_ := am (Kd.R_mono (ok' := fun k_ => some k_ ≠ (.slice Ao79 t440.length co79 : Value).ownBlock) (Kd.R_keptB (HO_8.out) hkp (fun k_ hk_ hs_ => (hk_) hs_)) (fun k_ hk_ => hk_.1)); have n1_ := am (Kd.R_reok rfl hy0 (fun k_ e_ => HO_12.out.1 k_ e_)); have n2_ := am (blk_kept (kU BK410.out) hkp (fun hs_ => (fun e_ => (Kd.R_ne HO_12.out BK410.out (by decide)) e_) hs_)); have n3_ := am (hb); clear HO_8; clear HO_12; clear BK410; clear HB; have HO_8 := n0_; have HO_12 := n1_; have BK410 := n2_; have HB := n3_; clear n0_ n1_ n2_ n3_; (try clear hb); (try clear hkp); (try clear hy0)) | ((with_reducible refine gate_callee (f := 21) rfl ?_); refine goesL_ (some 92) rfl rfl Try.func21 (by kernel_rfl) rfl #[.slice Ao79 t459.length co79, .int .i64 1] rfl (by (try simp only [List.map_toArray, List.map_cons, List.map_nil]); first | done | (rw [show t459.length = t440.length from (Kd.R_reads' HO_12.out).1.symm] <;> rfl) | rfl | (simp only [List.length_drop, List.length_take]; rfl)) ?_; (with_reducible refine (laws_heldNodeS.calls kj49 _ _ t459 1 t460 _ ?side1 ?side2 A69.out).mono ?_); (case side1 => exact cU (Kd.R_reads' HO_12.out).2.2); (case side2 => rw [show t459.length = t440.length from (Kd.R_reads' HO_12.out).1.symm]; exact (Kd.R_reads' HO_12.out).2.1); rintro e w' ⟨rfl, ⟨nd, rfl⟩⟩; refine ⟨_, rfl, ?_⟩))
             (try (rw [drewN_self w80]; generalize hq_ : World.drewN w80 _ = w80; have n0_ : Aside0 (Kd.R k59 59 w80 w.heap.size (fun k_ => some k_ ≠ (v425 : Value).ownBlock) (.slice Ao79 t440.length co79) t459) := ⟨by rw [← hq_]; exact rU HO_12.out⟩; have n1_ : Aside0 (Kd.R k59 59 w80 w.heap.size (fun k_ => some k_ ≠ (.slice Ao79 t440.length co79 : Value).ownBlock) v425 t424) := ⟨by rw [← hq_]; exact rU HO_8.out⟩; have n2_ : Aside0 (w80.heap[gb410]? = some (.cells #[.int .i64 a2_0, .int .i64 a2_1, .int .i64 a2_2, .int .i64 a2_3, .int .i64 a2_4, .int .i64 a2_5] 24 (0, 0))) := ⟨by rw [← hq_]; exact kU BK410.out⟩; have n3_ : Aside0 (Below w.heap.size w w80) := ⟨by rw [← hq_]; exact bS HB.out GE410.out⟩; clear HO_12 HO_8 BK410 HB hq_; have HO_12 := n0_; have HO_8 := n1_; have BK410 := n2_; have HB := n3_; clear n0_ n1_ n2_ n3_))
             have n0_ := am (Kd.R_drew HO_8.out)
             have n1_ := am (Kd.R_drew HO_12.out)
             have n2_ := am (blk_drew BK410.out)
             have n3_ := am (below_drew1 HB.out)
             clear HO_8
             clear HO_12
             clear BK410
             clear HB
             have HO_8 := n0_
             have HO_12 := n1_
             have BK410 := n2_
             have HB := n3_
             clear n0_ n1_ n2_ n3_
             refine start_ (n := 12) (S := fun w' => w'.cell? ⟨gb410, 0, none⟩ = some (.int .i64 a2_0) ∧ w'.cell? ⟨gb410, 1, none⟩ = some (.int .i64 a2_1) ∧ w'.cell? ⟨gb410, 2, none⟩ = some (.int .i64 a2_2) ∧ w'.cell? ⟨gb410, 3, none⟩ = some (.int .i64 a2_3) ∧ w'.cell? ⟨gb410, 4, none⟩ = some (.int .i64 a2_4) ∧ w'.cell? ⟨gb410, 5, none⟩ = some (.int .i64 a2_5)) (ds := []) #[false, false, false, false, false, false, false, false, false, false, false, false] (by kernel_rfl) rfl rfl (bc6 BK410.out) (fun hHeld => ?_); refine with_tabW laws_FnExactGuardEdit.tab30 laws_FnExactGuardEdit.bits30 (fun HT_ HW_ => ?_)
             generalize w80.drew = w81 at HO_8 HO_12 BK410 HB hHeld ⊢
             refine pure_ (i := 0) (N := some 99) (v := ?_) (a' := ?_) #[true, false, false, false, false, false, false, false, false, false, false, false] rfl rfl (any_of HT_.out (by kernel_rfl)) (fun _ _ _ h => h) (Or.inl ⟨by rfl, ?_⟩) ?_ ?_
             rotate_left
             ·intro w'
              go_simp
              with_reducible rfl
             rotate_left
             ·simp only [Act.put, List.setIfInBounds_toArray, List.set_cons_zero, List.set_cons_succ, i64_w, i32_w]
              rfl
             refine pure_ (i := 2) (N := some 101) (v := ?_) (a' := ?_) #[true, false, true, false, false, false, false, false, false, false, false, false] rfl rfl (any_of HT_.out (by kernel_rfl)) (fun _ _ _ h => h) (Or.inl ⟨by rfl, ?_⟩) ?_ ?_
             rotate_left
             ·intro w'
              go_simp
              with_reducible rfl
             rotate_left
             ·simp only [Act.put, List.setIfInBounds_toArray, List.set_cons_zero, List.set_cons_succ, i64_w, i32_w]
              rfl
             refine take_ (i := 4) (N := some 103) (v := ?_) (a' := ?_) #[true, false, true, false, true, false, false, false, false, false, false, false] rfl rfl (take_ofW HT_.out HW_.out (by kernel_rfl)) (fun _ _ _ h => h) (Or.inl ⟨by rfl, ?_⟩) hHeld ?_ ?_
             rotate_left
             ·rintro w' ⟨s0, s1, s2, s3, s4, s5⟩
              go_simp
              with_reducible rfl
             rotate_left
             ·simp only [Act.put, List.setIfInBounds_toArray, List.set_cons_zero, List.set_cons_succ, i64_w, i32_w]
              rfl
             refine one_ (i := 1) (N := some 100) #[true, true, true, false, true, false, false, false, false, false, false, false] rfl rfl (one_of HT_.out (by kernel_rfl)) (by decide) (fun K hK => ?_)
             refine goes_ Try.func16 (by kernel_rfl) rfl #[.slice A0 l0.length c0] (by rfl) rfl rfl mU ?_
             with_reducible refine (laws_toNodeS.calls kj49 _ _ l0 t461 _ ?side1 ?side2 A74.out).mono ?_
             (case side1 => exact cU (Kd.C_below HR0.out HB.out))
             (case side2 => exact HC0.out)
             rintro e w82 ⟨v462, rfl, ho0, hb⟩
             refine ⟨_, rfl, ?_⟩
             have n0_ := am (Kd.R_elder' (rU HO_8.out) (Kd.R_base ho0) hb)
             have n1_ := am (Kd.R_elder' (rU HO_12.out) (Kd.R_base ho0) hb)
             have n2_ := am (Kd.R_lower (Kd.R_new' (Kd.R_new' ho0 (Kd.R_lt (rU HO_8.out))) (Kd.R_lt (rU HO_12.out))) (below_size (bS HB.out GE410.out)))
             have n3_ := am (kB BK410.out hb)
             have n4_ := am (below_step (bS HB.out GE410.out) hb)
             clear HO_8
             clear HO_12
             clear BK410
             clear HB
             have HO_8 := n0_
             have HO_12 := n1_
             have HO463 := n2_
             have BK410 := n3_
             have HB := n4_
             clear n0_ n1_ n2_ n3_ n4_
             (try clear hb)
             (try clear hb2)
             (try clear hk)
             (try clear hi)
             (try clear ho0)
             refine hK.out _ _ (bc6 BK410.out) (fun hHeld => ?_)
             clear hK K
             refine norm_ (a' := ?_) ?_ ?_
             rotate_left
             ·show Act.put _ (some 100) _ = _
              simp only [Act.put, List.setIfInBounds_toArray, List.set_cons_zero, List.set_cons_succ, i64_w, i32_w]
              rfl
             refine one_ (i := 3) (N := some 102) #[true, true, true, true, true, false, false, false, false, false, false, false] rfl rfl (one_of HT_.out (by kernel_rfl)) (by decide) (fun K hK => ?_)
             refine goes_ Try.func31 (by kernel_rfl) rfl #[.slice A1 l1.length c1] (by rfl) rfl rfl mU ?_
             with_reducible refine (laws_toIntS.calls kj49 _ _ l1 t464 _ ?side1 ?side2 A75.out).mono ?_
             (case side1 => exact cU (Kd.C_below HR1.out HB.out))
             (case side2 => exact HC1.out)
             rintro e w83 ⟨v465, rfl, ho0, hb⟩
             refine ⟨_, rfl, ?_⟩
             have n0_ := am (Kd.R_below (rU HO_8.out) hb)
             have n1_ := am (Kd.R_below (rU HO_12.out) hb)
             have n2_ := am (Kd.R_below (rU HO463.out) hb)
             have n3_ := am (Kd.R_lower ho0 (below_size (bS HB.out GE410.out)))
             have n4_ := am (kB BK410.out hb)
             have n5_ := am (below_step (bS HB.out GE410.out) hb)
             clear HO_8
             clear HO_12
             clear HO463
             clear BK410
             clear HB
             have HO_8 := n0_
             have HO_12 := n1_
             have HO463 := n2_
             have HO466 := n3_
             have BK410 := n4_
             have HB := n5_
             clear n0_ n1_ n2_ n3_ n4_ n5_
             (try clear hb)
             (try clear hb2)
             (try clear hk)
             (try clear hi)
             (try clear ho0)
             refine hK.out _ _ (bc6 BK410.out) (fun hHeld => ?_)
             clear hK K
             refine norm_ (a' := ?_) ?_ ?_
             rotate_left
             ·show Act.put _ (some 102) _ = _
              simp only [Act.put, List.setIfInBounds_toArray, List.set_cons_zero, List.set_cons_succ, i64_w, i32_w]
              rfl
             refine one_ (i := 5) (N := some 104) #[true, true, true, true, true, true, false, false, false, false, false, false] rfl rfl (one_of HT_.out (by kernel_rfl)) (by decide) (fun K hK => ?_)
             refine goes_ Try.func17 (by kernel_rfl) rfl #[.agg #[.int .i64 a2_0, .int .i64 a2_1, .int .i64 a2_2, .int .i64 a2_3, .int .i64 a2_4, .int .i64 a2_5]] (by rfl) rfl rfl mU ?_
             with_reducible refine (laws_toEdit.calls a2_0 a2_1 a2_2 a2_3 a2_4 a2_5 t467 t468 t469 t470 t471 t472 _ A76.out).mono ?_
             rintro e w84 ⟨rfl, hb⟩
             refine ⟨_, rfl, ?_⟩
             have n0_ := am (Kd.R_below (rU HO_8.out) hb)
             have n1_ := am (Kd.R_below (rU HO_12.out) hb)
             have n2_ := am (Kd.R_below (rU HO463.out) hb)
             have n3_ := am (Kd.R_below (rU HO466.out) hb)
             have n4_ := am (kB BK410.out hb)
             have n5_ := am (below_step (bS HB.out GE410.out) hb)
             clear HO_8
             clear HO_12
             clear HO463
             clear HO466
             clear BK410
             clear HB
             have HO_8 := n0_
             have HO_12 := n1_
             have HO463 := n2_
             have HO466 := n3_
             have BK410 := n4_
             have HB := n5_
             clear n0_ n1_ n2_ n3_ n4_ n5_
             (try clear hb)
             (try clear hb2)
             (try clear hk)
             (try clear hi)
             obtain ⟨Ao85, co85, eo85⟩ := Kd.R_slice HO463.out
             (first | subst eo85 | (injection eo85 with f1_ f2_ f3_; have f4_ := f1_.symm; have f5_ := f3_.symm; clear f1_ f2_ f3_; subst f4_; subst f5_))
             obtain ⟨Ao86, co86, eo86⟩ := Kd.R_slice HO466.out
             (first | subst eo86 | (injection eo86 with f1_ f2_ f3_; have f4_ := f1_.symm; have f5_ := f3_.symm; clear f1_ f2_ f3_; subst f4_; subst f5_))
             refine hK.out _ _ (bc6 BK410.out) (fun hHeld => ?_)
             clear hK K
             refine norm_ (a' := ?_) ?_ ?_
             rotate_left
             ·show Act.put _ (some 104) _ = _
              simp only [Act.put, List.setIfInBounds_toArray, List.set_cons_zero, List.set_cons_succ, i64_w, i32_w]
              rfl
             refine one_ (i := 6) (N := some 105) #[true, true, true, true, true, true, true, false, false, false, false, false] rfl rfl (one_of HT_.out (by kernel_rfl)) (by decide) (fun K hK => ?_)
             refine goes_ Try.func32 (by kernel_rfl) rfl #[.slice Ao85 t461.length co85, .slice Ao86 t464.length co86, .agg #[.int .i64 t467, .int .i64 t468, .int .i64 t469, .int .i64 t470, .int .i64 t471, .int .i64 t472]] (by rfl) rfl rfl mU ?_
             with_reducible refine (impl_GuardEdit.calls kj49 _ _ t461 _ _ t464 t467 t468 t469 t470 t471 t472 t473 t476 _ ?side1 ?side2 ?side3 ?side4 A77.out).mono ?_
             (case side1 => exact cU (Kd.R_reads' HO463.out).2.2)
             (case side2 => exact (Kd.R_reads' HO463.out).2.1)
             (case side3 => exact cU (Kd.R_reads' HO466.out).2.2)
             (case side4 => exact (Kd.R_reads' HO466.out).2.1)
             rintro e w87 ⟨v474, rfl, ho0, hb⟩
             refine ⟨_, rfl, ?_⟩
             have n0_ := am (Kd.R_elder' (rU HO_8.out) (Kd.R_base ho0) hb)
             have n1_ := am (Kd.R_elder' (rU HO_12.out) (Kd.R_base ho0) hb)
             have n2_ := am (Kd.R_elder' (rU HO463.out) (Kd.R_base ho0) hb)
             have n3_ := am (Kd.R_below (rU HO466.out) hb)
             have n4_ := am (Kd.R_lower (Kd.R_new' (Kd.R_new' (Kd.R_new' ho0 (Kd.R_lt (rU HO_8.out))) (Kd.R_lt (rU HO_12.out))) (Kd.R_lt (rU HO463.out))) (below_size (bS HB.out GE410.out)))
             have n5_ := am (kB BK410.out hb)
             have n6_ := am (below_step (bS HB.out GE410.out) hb)
             clear HO_8
             clear HO_12
             clear HO463
             clear HO466
             clear BK410
             clear HB
             have HO_8 := n0_
             have HO_12 := n1_
             have HO463 := n2_
             have HO466 := n3_
             have HO475 := n4_
             have BK410 := n5_
             have HB := n6_
             clear n0_ n1_ n2_ n3_ n4_ n5_ n6_
             (try clear hb)
             (try clear hb2)
             (try clear hk)
             (try clear hi)
             (try clear ho0)
             refine hK.out _ _ (bc6 BK410.out) (fun hHeld => ?_)
             clear hK K
             refine norm_ (a' := ?_) ?_ ?_
             rotate_left
             ·show Act.put _ (some 105) _ = _
              simp only [Act.put, List.setIfInBounds_toArray, List.set_cons_zero, List.set_cons_succ, i64_w, i32_w]
              rfl
             refine pure_ (i := 7) (N := some 98) (v := ?_) (a' := ?_) #[true, true, true, true, true, true, true, true, false, false, false, false] rfl rfl (any_of HT_.out (by kernel_rfl)) (fun _ _ _ h => h) (Or.inl ⟨by rfl, ?_⟩) ?_ ?_
             rotate_left
             ·intro w'
              go_simp
              with_reducible rfl
             rotate_left
             ·simp only [Act.put, List.setIfInBounds_toArray, List.set_cons_zero, List.set_cons_succ, i64_w, i32_w]
              rfl
             refine pure_ (i := 8) (N := some 106) (v := ?_) (a' := ?_) #[true, true, true, true, true, true, true, true, true, false, false, false] rfl rfl (any_of HT_.out (by kernel_rfl)) (fun _ _ _ h => h) (Or.inl ⟨by rfl, ?_⟩) ?_ ?_
             rotate_left
             ·intro w'
              go_simp
              with_reducible rfl
             rotate_left
             ·simp only [Act.put, List.setIfInBounds_toArray, List.set_cons_zero, List.set_cons_succ, i64_w, i32_w]
              rfl
             refine pure_ (i := 9) (N := some 107) (v := ?_) (a' := ?_) #[true, true, true, true, true, true, true, true, true, true, false, false] rfl rfl (any_of HT_.out (by kernel_rfl)) (fun _ _ _ h => h) (Or.inl ⟨by rfl, ?_⟩) ?_ ?_
             rotate_left
             ·intro w'
              go_simp
              with_reducible rfl
             rotate_left
             ·simp only [Act.put, List.setIfInBounds_toArray, List.set_cons_zero, List.set_cons_succ, i64_w, i32_w]
              rfl
             refine pure_ (i := 10) (N := some 17) (v := ?_) (a' := ?_) #[true, true, true, true, true, true, true, true, true, true, true, false] rfl rfl (any_of HT_.out (by kernel_rfl)) (fun _ _ _ h => h) (Or.inl ⟨by rfl, ?_⟩) ?_ ?_
             rotate_left
             ·intro w'
              go_simp
              with_reducible rfl
             rotate_left
             ·simp only [Act.put, List.setIfInBounds_toArray, List.set_cons_zero, List.set_cons_succ, i64_w, i32_w]
              rfl
             refine pure_ (i := 11) (N := some 18) (v := ?_) (a' := ?_) #[true, true, true, true, true, true, true, true, true, true, true, true] rfl rfl (any_of HT_.out (by kernel_rfl)) (fun _ _ _ h => h) (Or.inl ⟨by rfl, ?_⟩) ?_ ?_
             rotate_left
             ·intro w'
              go_simp
              with_reducible rfl
             rotate_left
             ·simp only [Act.put, List.setIfInBounds_toArray, List.set_cons_zero, List.set_cons_succ, i64_w, i32_w]
              rfl
             refine done_ (done_of HT_.out (by kernel_rfl)) ?_
             go_upto_region 31 with (fail)
             go_cut [116] (fun v116 wc => ∃ (kq : Nat) (x116_77 : Bool), v116 = .bool x116_77 ∧ Aside0 (laws_FnExactGuardEdit.j2 kq t459 t458 x116_77 = some r) ∧ Aside0 (kq ≤ kj49) ∧ Aside0 (Kd.R k59 59 wc w.heap.size (fun _ => True) (.slice Ao79 t440.length co79) t459) ∧ Aside0 (wc.heap[gb410]? = some (.cells #[.int .i64 a2_0, .int .i64 a2_1, .int .i64 a2_2, .int .i64 a2_3, .int .i64 a2_4, .int .i64 a2_5] 24 (0, 0))) ∧ Aside0 (Below w.heap.size w wc))
             case first =>
              have H := HC78.out
              clear HC78
              replace H := Option.bind_eq_some_iff.mp H
              obtain ⟨t477, A880, H⟩ := H
              replace H : (if t477 = true then (laws_FnExactGuardEdit.j2 kj49 t459 t458 (t476 != t427)) else (laws_FnExactGuardEdit.j2 kj49 t459 t458 true)) = some r := H
              have A88 := am A880
              clear A880
              by_cases c89 : t477 = true
              ·subst c89
               have H1 : (laws_FnExactGuardEdit.j2 kj49 t459 t458 (t476 != t427)) = some r := by rw [if_pos rfl] at H; exact H
               clear H
               have H := H1
               clear H1
               have H' := am H
               clear H
               obtain ⟨Ao90, co90, eo90⟩ := Kd.R_slice HO475.out
               subst eo90
               obtain ⟨Ao91, co91, eo91⟩ := Kd.R_slice HO_8.out
               subst eo91
               go_wp2_with (first | ((with_reducible refine gate_callee (f := 19) rfl ?_); refine goesL_ (some 110) rfl rfl Try.func19 (by kernel_rfl) rfl #[.slice Ao90 t473.length co90, .slice Ao91 t424.length co91] rfl mU ?_; (with_reducible refine (laws_eqNodeS.calls kj49 _ _ t473 _ _ t424 true _ ?side1 ?side2 ?side3 ?side4 A88.out).mono ?_); (case side1 => exact cU (Kd.R_reads' HO475.out).2.2); (case side2 => exact (Kd.R_reads' HO475.out).2.1); (case side3 => exact cU (Kd.R_reads' HO_8.out).2.2); (case side4 => exact (Kd.R_reads' HO_8.out).2.1); rintro e w92 ⟨rfl, hb⟩; refine ⟨_, rfl, ?_⟩; have n0_ := am (Kd.R_below (rU HO_8.out) hb); have n1_ := am (Kd.R_below (rU HO_12.out) hb); have n2_ := am (Kd.R_below (rU HO463.out) hb); have n3_ := am (Kd.R_below (rU HO466.out) hb); have n4_ := am (Kd.R_below (rU HO475.out) hb); have n5_ := am (kB BK410.out hb); have n6_ := am (below_step (bS HB.out GE410.out) hb); clear HO_8; clear HO_12; clear HO463; clear HO466; clear HO475; clear BK410; clear HB; have HO_8 := n0_; have HO_12 := n1_; have HO463 := n2_; have HO466 := n3_; have HO475 := n4_; have BK410 := n5_; have HB := n6_; clear n0_ n1_ n2_ n3_ n4_ n5_ n6_; (try clear hb); (try clear hb2); (try clear hk); (try clear hi)))
               go_meet
               case rel => exact ⟨_, ((t476 != t427)), (by first | rfl | (simp; done) | (simp [*]; done)), H', ⟨by have := HJ16.out; have := HJ49.out; first | omega | exact Nat.le_refl _⟩, ⟨by (with_reducible repeat (first | apply Kd.R_alloc | apply Kd.R_drewN | apply Kd.R_drew)); exact Kd.R_mono HO_12.out (fun _ hk => trivial)⟩, ⟨kU BK410.out⟩, ⟨bS HB.out GE410.out⟩⟩
              ·replace c89 := Bool.eq_false_iff.mpr c89
               subst c89
               have H1 : (laws_FnExactGuardEdit.j2 kj49 t459 t458 true) = some r := by rw [if_neg (show ¬ (false = true) by decide)] at H; exact H
               clear H
               have H := H1
               clear H1
               have H' := am H
               clear H
               obtain ⟨Ao93, co93, eo93⟩ := Kd.R_slice HO475.out
               subst eo93
               obtain ⟨Ao94, co94, eo94⟩ := Kd.R_slice HO_8.out
               subst eo94
               go_wp2_with (first | ((with_reducible refine gate_callee (f := 19) rfl ?_); refine goesL_ (some 110) rfl rfl Try.func19 (by kernel_rfl) rfl #[.slice Ao93 t473.length co93, .slice Ao94 t424.length co94] rfl mU ?_; (with_reducible refine (laws_eqNodeS.calls kj49 _ _ t473 _ _ t424 false _ ?side1 ?side2 ?side3 ?side4 A88.out).mono ?_); (case side1 => exact cU (Kd.R_reads' HO475.out).2.2); (case side2 => exact (Kd.R_reads' HO475.out).2.1); (case side3 => exact cU (Kd.R_reads' HO_8.out).2.2); (case side4 => exact (Kd.R_reads' HO_8.out).2.1); rintro e w95 ⟨rfl, hb⟩; refine ⟨_, rfl, ?_⟩; have n0_ := am (Kd.R_below (rU HO_8.out) hb); have n1_ := am (Kd.R_below (rU HO_12.out) hb); have n2_ := am (Kd.R_below (rU HO463.out) hb); have n3_ := am (Kd.R_below (rU HO466.out) hb); have n4_ := am (Kd.R_below (rU HO475.out) hb); have n5_ := am (kB BK410.out hb); have n6_ := am (below_step (bS HB.out GE410.out) hb); clear HO_8; clear HO_12; clear HO463; clear HO466; clear HO475; clear BK410; clear HB; have HO_8 := n0_; have HO_12 := n1_; have HO463 := n2_; have HO466 := n3_; have HO475 := n4_; have BK410 := n5_; have HB := n6_; clear n0_ n1_ n2_ n3_ n4_ n5_ n6_; (try clear hb); (try clear hb2); (try clear hk); (try clear hi)))
               go_meet
               case rel => exact ⟨_, (true), (by first | rfl | (simp; done) | (simp [*]; done)), H', ⟨by have := HJ16.out; have := HJ49.out; first | omega | exact Nat.le_refl _⟩, ⟨by (with_reducible repeat (first | apply Kd.R_alloc | apply Kd.R_drewN | apply Kd.R_drew)); exact Kd.R_mono HO_12.out (fun _ hk => trivial)⟩, ⟨kU BK410.out⟩, ⟨bS HB.out GE410.out⟩⟩
             case rest =>
              clear HC78
              try clear c1
              try clear c2
              try clear p2
              try clear c3
              try clear c4
              try clear c4b0
              try clear c4b1
              try clear c5
              try clear c6
              try clear c7
              try clear c7b0
              try clear c8
              try clear c14
              try clear c16
              try clear c17
              try clear c19
              try clear c20
              try clear c21
              try clear c30
              try clear c31
              try clear c32
              try clear c33
              try clear c34
              try clear c41
              try clear c44
              try clear c47
              try clear c58
              try clear c58b0
              try clear c60
              try clear c67
              try clear c70
              try clear c70b0
              try clear c73
              try clear c73b0
              try clear c73b1
              try clear c89
              try clear hcz28_0 hcz28_1 hcz28_2 hcz28_3 hcz28_4 hcz28_5 hfz28_0 hfz28_1 hfz28_2 hfz28_3 hfz28_4 hfz28_5
              try clear p2
              obtain ⟨kq, x116_77, rfl, HA, HJ77, HO_12, BK410, HB⟩ := hcut
              have hl12_77 := (Kd.R_reads' HO_12.out).1
              rw [hl12_77] at HO_12
              (try simp only [hl12_77])
              (try simp only [hl12_77] at BK410)
              cases kq with
              | zero => exact absurd HA.out (by simp [laws_FnExactGuardEdit.j2])
              | succ kj77 =>
               have H := HA.out
               clear HA
               simp only [laws_FnExactGuardEdit.j2] at H
               by_cases c96 : x116_77 = true
               ·subst c96
                have H1 : (some false) = some r := by rw [if_pos rfl] at H; exact H
                clear H
                have H := H1
                clear H1
                obtain rfl := Option.some.inj H
                go_wp2
                go_ret
                exact ⟨eU, bS HB.out GE410.out⟩
               ·replace c96 := Bool.eq_false_iff.mpr c96
                subst c96
                have H1 : ((laws_heldNodeS.f kj77 t459 1).bind fun t478 => (if t478 < 0 then (some false) else (if t478 = t458 then (some true) else (some false)))) = some r := by rw [if_neg (show ¬ (false = true) by decide)] at H; exact H
                clear H
                have H := H1
                clear H1
                replace H := Option.bind_eq_some_iff.mp H
                obtain ⟨t478, A970, H⟩ := H
                replace H : (if t478 < 0 then (some false) else (if t478 = t458 then (some true) else (some false))) = some r := H
                have A97 := am A970
                clear A970
                by_cases c98 : t478 < 0
                ·rw [if_pos c98] at H
                 have c98b0 : decide (t478 < 0) = true := decide_eq_true c98
                 clear c98
                 obtain rfl := Option.some.inj H
                 go_wp2_with (first | ((with_reducible refine gate_callee (f := 21) rfl ?_); refine goesL_ (some 119) rfl rfl Try.func21 (by kernel_rfl) rfl #[.slice Ao79 t459.length co79, .int .i64 1] rfl mU ?_; (with_reducible refine (laws_heldNodeS.calls kj77 _ _ t459 1 t478 _ ?side1 ?side2 A97.out).mono ?_); (case side1 => exact cU (Kd.R_reads' HO_12.out).2.2); (case side2 => exact (Kd.R_reads' HO_12.out).2.1); rintro e w' ⟨rfl, ⟨nd, rfl⟩⟩; refine ⟨_, rfl, ?_⟩))
                 go_ret
                 exact ⟨eU, bS HB.out GE410.out⟩
                ·rw [if_neg c98] at H
                 have c98b0 : decide (t478 < 0) = false := decide_eq_false c98
                 clear c98
                 by_cases c99 : t478 = t458
                 ·rw [if_pos c99] at H
                  have c99b0 : (t478 == t458) = true := beq_iff_eq.mpr c99
                  have c99b1 : (t478 != t458) = false := bne_eq_false_iff_eq.mpr c99
                  clear c99
                  obtain rfl := Option.some.inj H
                  go_wp2_with (first | ((with_reducible refine gate_callee (f := 21) rfl ?_); refine goesL_ (some 119) rfl rfl Try.func21 (by kernel_rfl) rfl #[.slice Ao79 t459.length co79, .int .i64 1] rfl mU ?_; (with_reducible refine (laws_heldNodeS.calls kj77 _ _ t459 1 t478 _ ?side1 ?side2 A97.out).mono ?_); (case side1 => exact cU (Kd.R_reads' HO_12.out).2.2); (case side2 => exact (Kd.R_reads' HO_12.out).2.1); rintro e w' ⟨rfl, ⟨nd, rfl⟩⟩; refine ⟨_, rfl, ?_⟩))
                  go_ret
                  exact ⟨eU, bS HB.out GE410.out⟩
                 ·rw [if_neg c99] at H
                  have c99b0 : (t478 == t458) = false := beq_eq_false_iff_ne.mpr c99
                  have c99b1 : (t478 != t458) = true := bne_iff_ne.mpr c99
                  obtain rfl := Option.some.inj H
                  go_wp2_with (first | ((with_reducible refine gate_callee (f := 21) rfl ?_); refine goesL_ (some 119) rfl rfl Try.func21 (by kernel_rfl) rfl #[.slice Ao79 t459.length co79, .int .i64 1] rfl mU ?_; (with_reducible refine (laws_heldNodeS.calls kj77 _ _ t459 1 t478 _ ?side1 ?side2 A97.out).mono ?_); (case side1 => exact cU (Kd.R_reads' HO_12.out).2.2); (case side2 => exact (Kd.R_reads' HO_12.out).2.1); rintro e w' ⟨rfl, ⟨nd, rfl⟩⟩; refine ⟨_, rfl, ?_⟩))
                  go_ret
                  exact ⟨eU, bS HB.out GE410.out⟩
            ·rw [if_neg c73] at H
             have c73b0 : (t460 == t458) = false := beq_eq_false_iff_ne.mpr c73
             have c73b1 : (t460 != t458) = true := bne_iff_ne.mpr c73
             obtain rfl := Option.some.inj H
             obtain ⟨Ao100, co100, eo100⟩ := Kd.R_slice HO_12.out
             subst eo100
             go_wp2_with (first | ((with_reducible refine gate_callee (f := 20) rfl ?_); refine goesL_ (some 89) rfl rfl Try.func20 (by kernel_rfl) rfl #[.slice Ao100 t440.length co100, .int .i64 1] rfl mU ?_; (with_reducible refine (laws_markNodeS.calls kj49 (fun k_ => some k_ = (.slice Ao100 t440.length co100 : Value).ownBlock) (.slice Ao100 t440.length co100) t440 1 t458 t459 w _ ?side1 ?side2 A68.out).mono ?_); (case side1 => exact bS HB.out GE410.out); (case side2 => exact Kd.R_tight rfl HO_12.out); rintro e w101 ⟨rfl, hy0, hb, hkp⟩; refine ⟨_, rfl, ?_⟩; have n0_ := am (Kd.R_mono (ok' := fun k_ => some k_ ≠ (.slice Ao100 t440.length co100 : Value).ownBlock) (Kd.R_keptB (HO_8.out) hkp (fun k_ hk_ hs_ => (hk_) hs_)) (fun k_ hk_ => hk_.1)); have n1_ := am (Kd.R_reok rfl hy0 (fun k_ e_ => HO_12.out.1 k_ e_)); have n2_ := am (blk_kept (kU BK410.out) hkp (fun hs_ => (fun e_ => (Kd.R_ne HO_12.out BK410.out (by decide)) e_) hs_)); have n3_ := am (hb); clear HO_8; clear HO_12; clear BK410; clear HB; have HO_8 := n0_; have HO_12 := n1_; have BK410 := n2_; have HB := n3_; clear n0_ n1_ n2_ n3_; (try clear hb); (try clear hkp); (try clear hy0)) | ((with_reducible refine gate_callee (f := 21) rfl ?_); refine goesL_ (some 92) rfl rfl Try.func21 (by kernel_rfl) rfl #[.slice Ao100 t459.length co100, .int .i64 1] rfl (by (try simp only [List.map_toArray, List.map_cons, List.map_nil]); first | done | (rw [show t459.length = t440.length from (Kd.R_reads' HO_12.out).1.symm] <;> rfl) | rfl | (simp only [List.length_drop, List.length_take]; rfl)) ?_; (with_reducible refine (laws_heldNodeS.calls kj49 _ _ t459 1 t460 _ ?side1 ?side2 A69.out).mono ?_); (case side1 => exact cU (Kd.R_reads' HO_12.out).2.2); (case side2 => rw [show t459.length = t440.length from (Kd.R_reads' HO_12.out).1.symm]; exact (Kd.R_reads' HO_12.out).2.1); rintro e w' ⟨rfl, ⟨nd, rfl⟩⟩; refine ⟨_, rfl, ?_⟩))
             go_ret
             exact ⟨eU, bS HB.out GE410.out⟩
       ·replace c47 := Bool.eq_false_iff.mpr c47
        subst c47
        have H1 : (some false) = some r := by rw [if_neg (show ¬ (false = true) by decide)] at H; exact H
        clear H
        have H := H1
        clear H1
        obtain rfl := Option.some.inj H
        go_wp2_with (first | ((with_reducible refine gate_callee (f := 16) rfl ?_); refine goesL_ (some 60) rfl rfl Try.func16 (by kernel_rfl) rfl #[.slice A0 l0.length c0] rfl mU ?_; (with_reducible refine (laws_toNodeS.calls kj16 _ _ l0 t445 _ ?side1 ?side2 A42.out).mono ?_); (case side1 => exact cU (Kd.C_below HR0.out HB.out)); (case side2 => exact HC0.out); rintro e w102 ⟨v446, rfl, ho0, hb⟩; refine ⟨_, rfl, ?_⟩; have n0_ := am (Kd.R_elder' (rU HO_8.out) (Kd.R_base ho0) hb); have n1_ := am (Kd.R_elder' (rU HO_10.out) (Kd.R_base ho0) hb); have n2_ := am (Kd.R_below (rU HO_11.out) hb); have n3_ := am (Kd.R_elder' (rU HO_12.out) (Kd.R_base ho0) hb); have n4_ := am (Kd.R_lower (Kd.R_new' (Kd.R_new' (Kd.R_new' ho0 (Kd.R_lt (rU HO_8.out))) (Kd.R_lt (rU HO_10.out))) (Kd.R_lt (rU HO_12.out))) (below_size (bS HB.out GE410.out))); have n5_ := am (kB BK410.out hb); have n6_ := am (below_step (bS HB.out GE410.out) hb); clear HO_8; clear HO_10; clear HO_11; clear HO_12; clear BK410; clear HB; have HO_8 := n0_; have HO_10 := n1_; have HO_11 := n2_; have HO_12 := n3_; have HO447 := n4_; have BK410 := n5_; have HB := n6_; clear n0_ n1_ n2_ n3_ n4_ n5_ n6_; (try clear hb); (try clear hb2); (try clear hk); (try clear hi); (try clear ho0); obtain ⟨Ao103, co103, eo103⟩ := Kd.R_slice HO447.out; subst eo103) | ((with_reducible refine gate_callee (f := 19) rfl ?_); refine goesL_ (some 61) rfl rfl Try.func19 (by kernel_rfl) rfl #[.slice Ao30 t428.length co30, .slice Ao103 t445.length co103] rfl mU ?_; (with_reducible refine (laws_eqNodeS.calls kj16 _ _ t428 _ _ t445 true _ ?side1 ?side2 ?side3 ?side4 A43.out).mono ?_); (case side1 => exact cU (Kd.R_reads' HO_10.out).2.2); (case side2 => exact (Kd.R_reads' HO_10.out).2.1); (case side3 => exact cU (Kd.R_reads' HO447.out).2.2); (case side4 => exact (Kd.R_reads' HO447.out).2.1); rintro e w104 ⟨rfl, hb⟩; refine ⟨_, rfl, ?_⟩; have n0_ := am (Kd.R_below (rU HO_8.out) hb); have n1_ := am (Kd.R_below (rU HO_10.out) hb); have n2_ := am (Kd.R_below (rU HO_11.out) hb); have n3_ := am (Kd.R_below (rU HO_12.out) hb); have n4_ := am (Kd.R_below (rU HO447.out) hb); have n5_ := am (kB BK410.out hb); have n6_ := am (below_step (bS HB.out GE410.out) hb); clear HO_8; clear HO_10; clear HO_11; clear HO_12; clear HO447; clear BK410; clear HB; have HO_8 := n0_; have HO_10 := n1_; have HO_11 := n2_; have HO_12 := n3_; have HO447 := n4_; have BK410 := n5_; have HB := n6_; clear n0_ n1_ n2_ n3_ n4_ n5_ n6_; (try clear hb); (try clear hb2); (try clear hk); (try clear hi)) | ((with_reducible refine gate_callee (f := 31) rfl ?_); refine goesL_ (some 65) rfl rfl Try.func31 (by kernel_rfl) rfl #[.slice A1 l1.length c1] rfl mU ?_; (with_reducible refine (laws_toIntS.calls kj16 _ _ l1 t449 _ ?side1 ?side2 A45.out).mono ?_); (case side1 => exact cU (Kd.C_below HR1.out HB.out)); (case side2 => exact HC1.out); rintro e w105 ⟨v450, rfl, ho0, hb⟩; refine ⟨_, rfl, ?_⟩; have n0_ := am (Kd.R_below (rU HO_8.out) hb); have n1_ := am (Kd.R_below (rU HO_10.out) hb); have n2_ := am (Kd.R_elder' (rU HO_11.out) (Kd.R_base ho0) hb); have n3_ := am (Kd.R_below (rU HO_12.out) hb); have n4_ := am (Kd.R_below (rU HO447.out) hb); have n5_ := am (Kd.R_lower (Kd.R_new' ho0 (Kd.R_lt (rU HO_11.out))) (below_size (bS HB.out GE410.out))); have n6_ := am (kB BK410.out hb); have n7_ := am (below_step (bS HB.out GE410.out) hb); clear HO_8; clear HO_10; clear HO_11; clear HO_12; clear HO447; clear BK410; clear HB; have HO_8 := n0_; have HO_10 := n1_; have HO_11 := n2_; have HO_12 := n3_; have HO447 := n4_; have HO451 := n5_; have BK410 := n6_; have HB := n7_; clear n0_ n1_ n2_ n3_ n4_ n5_ n6_ n7_; (try clear hb); (try clear hb2); (try clear hk); (try clear hi); (try clear ho0); obtain ⟨Ao106, co106, eo106⟩ := Kd.R_slice HO451.out; subst eo106) | ((with_reducible refine gate_callee (f := 33) rfl ?_); refine goesL_ (some 66) rfl rfl Try.func33 (by kernel_rfl) rfl #[.slice Ao31 t431.length co31, .slice Ao106 t449.length co106] rfl mU ?_; (with_reducible refine (laws_eqIntS.calls kj16 _ _ t431 _ _ t449 false _ ?side1 ?side2 ?side3 ?side4 A46.out).mono ?_); (case side1 => exact cU (Kd.R_reads' HO_11.out).2.2); (case side2 => exact (Kd.R_reads' HO_11.out).2.1); (case side3 => exact cU (Kd.R_reads' HO451.out).2.2); (case side4 => exact (Kd.R_reads' HO451.out).2.1); rintro e w' ⟨rfl, ⟨nd, rfl⟩⟩; refine ⟨_, rfl, ?_⟩))
        go_ret
        exact ⟨eU, bS HB.out GE410.out⟩
      ·replace c44 := Bool.eq_false_iff.mpr c44
       subst c44
       have H1 : (some false) = some r := by rw [if_neg (show ¬ (false = true) by decide)] at H; exact H
       clear H
       have H := H1
       clear H1
       obtain rfl := Option.some.inj H
       go_wp2_with (first | ((with_reducible refine gate_callee (f := 16) rfl ?_); refine goesL_ (some 60) rfl rfl Try.func16 (by kernel_rfl) rfl #[.slice A0 l0.length c0] rfl mU ?_; (with_reducible refine (laws_toNodeS.calls kj16 _ _ l0 t445 _ ?side1 ?side2 A42.out).mono ?_); (case side1 => exact cU (Kd.C_below HR0.out HB.out)); (case side2 => exact HC0.out); rintro e w107 ⟨v446, rfl, ho0, hb⟩; refine ⟨_, rfl, ?_⟩; have n0_ := am (Kd.R_elder' (rU HO_8.out) (Kd.R_base ho0) hb); have n1_ := am (Kd.R_elder' (rU HO_10.out) (Kd.R_base ho0) hb); have n2_ := am (Kd.R_below (rU HO_11.out) hb); have n3_ := am (Kd.R_elder' (rU HO_12.out) (Kd.R_base ho0) hb); have n4_ := am (Kd.R_lower (Kd.R_new' (Kd.R_new' (Kd.R_new' ho0 (Kd.R_lt (rU HO_8.out))) (Kd.R_lt (rU HO_10.out))) (Kd.R_lt (rU HO_12.out))) (below_size (bS HB.out GE410.out))); have n5_ := am (kB BK410.out hb); have n6_ := am (below_step (bS HB.out GE410.out) hb); clear HO_8; clear HO_10; clear HO_11; clear HO_12; clear BK410; clear HB; have HO_8 := n0_; have HO_10 := n1_; have HO_11 := n2_; have HO_12 := n3_; have HO447 := n4_; have BK410 := n5_; have HB := n6_; clear n0_ n1_ n2_ n3_ n4_ n5_ n6_; (try clear hb); (try clear hb2); (try clear hk); (try clear hi); (try clear ho0); obtain ⟨Ao108, co108, eo108⟩ := Kd.R_slice HO447.out; subst eo108) | ((with_reducible refine gate_callee (f := 19) rfl ?_); refine goesL_ (some 61) rfl rfl Try.func19 (by kernel_rfl) rfl #[.slice Ao30 t428.length co30, .slice Ao108 t445.length co108] rfl mU ?_; (with_reducible refine (laws_eqNodeS.calls kj16 _ _ t428 _ _ t445 false _ ?side1 ?side2 ?side3 ?side4 A43.out).mono ?_); (case side1 => exact cU (Kd.R_reads' HO_10.out).2.2); (case side2 => exact (Kd.R_reads' HO_10.out).2.1); (case side3 => exact cU (Kd.R_reads' HO447.out).2.2); (case side4 => exact (Kd.R_reads' HO447.out).2.1); rintro e w109 ⟨rfl, hb⟩; refine ⟨_, rfl, ?_⟩; have n0_ := am (Kd.R_below (rU HO_8.out) hb); have n1_ := am (Kd.R_below (rU HO_10.out) hb); have n2_ := am (Kd.R_below (rU HO_11.out) hb); have n3_ := am (Kd.R_below (rU HO_12.out) hb); have n4_ := am (Kd.R_below (rU HO447.out) hb); have n5_ := am (kB BK410.out hb); have n6_ := am (below_step (bS HB.out GE410.out) hb); clear HO_8; clear HO_10; clear HO_11; clear HO_12; clear HO447; clear BK410; clear HB; have HO_8 := n0_; have HO_10 := n1_; have HO_11 := n2_; have HO_12 := n3_; have HO447 := n4_; have BK410 := n5_; have HB := n6_; clear n0_ n1_ n2_ n3_ n4_ n5_ n6_; (try clear hb); (try clear hb2); (try clear hk); (try clear hi)))
       go_ret
       exact ⟨eU, bS HB.out GE410.out⟩
end Go.Proofs.Ytiiibfpijmmbfaa.QFnExactGuardEdit
