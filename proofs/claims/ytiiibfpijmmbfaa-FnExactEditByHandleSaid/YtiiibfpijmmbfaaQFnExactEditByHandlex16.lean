import Derived.Test.YtiiibfpijmmbfaaUp
import Derived.Test.YtiiibfpijmmbfaaQFnExactEditByHandlex0
import Derived.Test.YtiiibfpijmmbfaaQFnExactEditByHandlex1
import Derived.Test.YtiiibfpijmmbfaaQFnExactEditByHandlex2
import Derived.Test.YtiiibfpijmmbfaaQFnExactEditByHandlex9
import Derived.Test.YtiiibfpijmmbfaaQFnExactEditByHandlex15
namespace Go.Proofs.Ytiiibfpijmmbfaa.QFnExactEditByHandle
open Go.RowKit Go.Proofs.YtiiibfpijmmbfaaW.PrintWords Go.Proofs.YtiiibfpijmmbfaaW.PrintLast Go.Proofs.YtiiibfpijmmbfaaW.PrintMore
attribute [local go_sem] max2_int min2_int max_two min_two max_three min_three max_four min_four
set_option linter.unusedVariables false
set_option linter.unusedSimpArgs false
mutual
def laws_FnExactEditByHandle.j0 : Nat → List (S87) → List Int → Int → Int → Int → Int → List (S59) → Bool → List (S59) → List Int → List (S59) → Bool → Bool → Option (Bool)
 | 0, _, _, _, _, _, _, _, _, _, _, _, _, _ => none
 | k + 1, x0, x1, x2, x3, x4, x5, x14, x15, x16, x17, x18, x19, x67 => if x67 = true then (some false) else ((laws_toNodeS.f k x0).bind fun t480 => ((laws_eqNodeS.f k x16 t480).bind fun t483 => (if t483 = true then ((laws_toIntS.f k x1).bind fun t484 => ((laws_eqIntS.f k x17 t484).bind fun t487 => (if t487 = true then ((laws_markNodeS.f k x16 1).bind fun bt488 => ((laws_markIntS.f k x17 bt488.1).bind fun bt490 => (if bt490.1 < 0 then (laws_FnExactEditByHandle.j1 k x0 x1 x2 x3 x4 x5 x14 x15 x18 true) else ((laws_eqNodeS.f k x18 x14).bind fun t492 => (if t492 = true then (laws_FnExactEditByHandle.j1 k x0 x1 x2 x3 x4 x5 x14 x15 x18 (x19 != x15)) else (laws_FnExactEditByHandle.j1 k x0 x1 x2 x3 x4 x5 x14 x15 x18 true)))))) else (some false)))) else (some false))))
def laws_FnExactEditByHandle.j1 : Nat → List (S87) → List Int → Int → Int → Int → Int → List (S59) → Bool → List (S59) → Bool → Option (Bool)
 | 0, _, _, _, _, _, _, _, _, _, _ => none
 | k + 1, x0, x1, x2, x3, x4, x5, x14, x15, x18, x96 => if x96 = true then (some false) else ((laws_markNodeS.f k x18 1).bind fun bt493 => ((laws_heldNodeS.f k bt493.2 1).bind fun t495 => (if t495 < 0 then (some false) else (if t495 = bt493.1 then ((laws_toNodeS.f k x0).bind fun t496 => ((laws_toIntS.f k x1).bind fun t499 => ((impl_EditByHandle.f k t496 t499 x2 x3 x4 x5).bind fun bt502 => ((laws_eqNodeS.f k bt502.1 x14).bind fun t506 => (if t506 = true then (laws_FnExactEditByHandle.j2 k bt493.2 bt493.1 (bt502.2 != x15)) else (laws_FnExactEditByHandle.j2 k bt493.2 bt493.1 true)))))) else (some false)))))
def laws_FnExactEditByHandle.j2 : Nat → List (S59) → Int → Bool → Option (Bool)
 | 0, _, _, _ => none
 | k + 1, x18, x21, x128 => if x128 = true then (some false) else ((laws_heldNodeS.f k x18 1).bind fun t507 => (if t507 < 0 then (some false) else (if t507 = x21 then (some true) else (some false))))
end
def laws_FnExactEditByHandle.f (k : Nat) (l0 : List (S87)) (l1 : List Int) (a2 : Int) (a3 : Int) (a4 : Int) (a5 : Int) : Option (Bool) := if (l1.length : Int) > 1048576 then (some true) else ((laws_szNodeS.f l0 1048576).bind fun t458 => (if t458 < 0 then (some true) else ((laws_toNodeS.f k l0).bind fun t459 => ((laws_toIntS.f k l1).bind fun t462 => ((spec_EditByHandle.f k t459 t462 a2 a3 a4 a5).bind fun bt465 => ((laws_toNodeS.f k l0).bind fun t469 => ((laws_toIntS.f k l1).bind fun t472 => ((impl_EditByHandle.f k t469 t472 a2 a3 a4 a5).bind fun bt475 => ((laws_eqNodeS.f k bt475.1 bt465.1).bind fun t479 => (if t479 = true then (laws_FnExactEditByHandle.j0 k l0 l1 a2 a3 a4 a5 bt465.1 bt465.2 t469 t472 bt475.1 bt475.2 (bt475.2 != bt465.2)) else (laws_FnExactEditByHandle.j0 k l0 l1 a2 a3 a4 a5 bt465.1 bt465.2 t469 t472 bt475.1 bt475.2 true)))))))))))
theorem laws_FnExactEditByHandle.mono_l : ∀ k, (∀ y0 y1 y2 y3 y4 y5 y6 y7 y8 y9 y10 y11 y12, LeO (laws_FnExactEditByHandle.j0 k y0 y1 y2 y3 y4 y5 y6 y7 y8 y9 y10 y11 y12) (laws_FnExactEditByHandle.j0 (k + 1) y0 y1 y2 y3 y4 y5 y6 y7 y8 y9 y10 y11 y12)) ∧ (∀ y0 y1 y2 y3 y4 y5 y6 y7 y8 y9, LeO (laws_FnExactEditByHandle.j1 k y0 y1 y2 y3 y4 y5 y6 y7 y8 y9) (laws_FnExactEditByHandle.j1 (k + 1) y0 y1 y2 y3 y4 y5 y6 y7 y8 y9)) ∧ (∀ y0 y1 y2, LeO (laws_FnExactEditByHandle.j2 k y0 y1 y2) (laws_FnExactEditByHandle.j2 (k + 1) y0 y1 y2))
 | 0 => ⟨fun _ _ _ _ _ _ _ _ _ _ _ _ _ r h => by simp [laws_FnExactEditByHandle.j0] at h, fun _ _ _ _ _ _ _ _ _ _ r h => by simp [laws_FnExactEditByHandle.j1] at h, fun _ _ _ r h => by simp [laws_FnExactEditByHandle.j2] at h⟩
 | k + 1 => by
  obtain ⟨ih0, ih1, ih2⟩ := laws_FnExactEditByHandle.mono_l k
  refine ⟨?_, ?_, ?_⟩
  ·intro y0 y1 y2 y3 y4 y5 y6 y7 y8 y9 y10 y11 y12
   unfold laws_FnExactEditByHandle.j0
   repeat' first
   | (with_reducible exact ih0 _ _ _ _ _ _ _ _ _ _ _ _ _)
   | (with_reducible exact ih1 _ _ _ _ _ _ _ _ _ _)
   | (with_reducible exact ih2 _ _ _)
   | (with_reducible exact impl_EditByHandle.mono _ _ _ _ _ _ _)
   | (with_reducible exact laws_eqIntS.mono _ _ _)
   | (with_reducible exact laws_eqNodeS.mono _ _ _)
   | (with_reducible exact laws_heldNodeS.mono _ _ _)
   | (with_reducible exact laws_markIntS.mono _ _ _)
   | (with_reducible exact laws_markNodeS.mono _ _ _)
   | (with_reducible exact laws_toIntS.mono _ _)
   | (with_reducible exact laws_toNodeS.mono _ _)
   | (with_reducible exact spec_EditByHandle.mono _ _ _ _ _ _ _)
   | (with_reducible exact LeO.refl _)
   | (with_reducible exact LeO.none _)
   | (with_reducible refine LeO.ite ?_ ?_)
   | (with_reducible refine LeO.bind ?_ (fun _ => ?_))
   | exact ih0 _ _ _ _ _ _ _ _ _ _ _ _ _
   | exact ih1 _ _ _ _ _ _ _ _ _ _
   | exact ih2 _ _ _
   | exact impl_EditByHandle.mono _ _ _ _ _ _ _
   | exact laws_eqIntS.mono _ _ _
   | exact laws_eqNodeS.mono _ _ _
   | exact laws_heldNodeS.mono _ _ _
   | exact laws_markIntS.mono _ _ _
   | exact laws_markNodeS.mono _ _ _
   | exact laws_toIntS.mono _ _
   | exact laws_toNodeS.mono _ _
   | exact spec_EditByHandle.mono _ _ _ _ _ _ _
   | exact LeO.none _
   | refine LeO.ite ?_ ?_
   | refine LeO.bind ?_ (fun _ => ?_)
  ·intro y0 y1 y2 y3 y4 y5 y6 y7 y8 y9
   unfold laws_FnExactEditByHandle.j1
   repeat' first
   | (with_reducible exact ih0 _ _ _ _ _ _ _ _ _ _ _ _ _)
   | (with_reducible exact ih1 _ _ _ _ _ _ _ _ _ _)
   | (with_reducible exact ih2 _ _ _)
   | (with_reducible exact impl_EditByHandle.mono _ _ _ _ _ _ _)
   | (with_reducible exact laws_eqIntS.mono _ _ _)
   | (with_reducible exact laws_eqNodeS.mono _ _ _)
   | (with_reducible exact laws_heldNodeS.mono _ _ _)
   | (with_reducible exact laws_markIntS.mono _ _ _)
   | (with_reducible exact laws_markNodeS.mono _ _ _)
   | (with_reducible exact laws_toIntS.mono _ _)
   | (with_reducible exact laws_toNodeS.mono _ _)
   | (with_reducible exact spec_EditByHandle.mono _ _ _ _ _ _ _)
   | (with_reducible exact LeO.refl _)
   | (with_reducible exact LeO.none _)
   | (with_reducible refine LeO.ite ?_ ?_)
   | (with_reducible refine LeO.bind ?_ (fun _ => ?_))
   | exact ih0 _ _ _ _ _ _ _ _ _ _ _ _ _
   | exact ih1 _ _ _ _ _ _ _ _ _ _
   | exact ih2 _ _ _
   | exact impl_EditByHandle.mono _ _ _ _ _ _ _
   | exact laws_eqIntS.mono _ _ _
   | exact laws_eqNodeS.mono _ _ _
   | exact laws_heldNodeS.mono _ _ _
   | exact laws_markIntS.mono _ _ _
   | exact laws_markNodeS.mono _ _ _
   | exact laws_toIntS.mono _ _
   | exact laws_toNodeS.mono _ _
   | exact spec_EditByHandle.mono _ _ _ _ _ _ _
   | exact LeO.none _
   | refine LeO.ite ?_ ?_
   | refine LeO.bind ?_ (fun _ => ?_)
  ·intro y0 y1 y2
   unfold laws_FnExactEditByHandle.j2
   repeat' first
   | (with_reducible exact ih0 _ _ _ _ _ _ _ _ _ _ _ _ _)
   | (with_reducible exact ih1 _ _ _ _ _ _ _ _ _ _)
   | (with_reducible exact ih2 _ _ _)
   | (with_reducible exact impl_EditByHandle.mono _ _ _ _ _ _ _)
   | (with_reducible exact laws_eqIntS.mono _ _ _)
   | (with_reducible exact laws_eqNodeS.mono _ _ _)
   | (with_reducible exact laws_heldNodeS.mono _ _ _)
   | (with_reducible exact laws_markIntS.mono _ _ _)
   | (with_reducible exact laws_markNodeS.mono _ _ _)
   | (with_reducible exact laws_toIntS.mono _ _)
   | (with_reducible exact laws_toNodeS.mono _ _)
   | (with_reducible exact spec_EditByHandle.mono _ _ _ _ _ _ _)
   | (with_reducible exact LeO.refl _)
   | (with_reducible exact LeO.none _)
   | (with_reducible refine LeO.ite ?_ ?_)
   | (with_reducible refine LeO.bind ?_ (fun _ => ?_))
   | exact ih0 _ _ _ _ _ _ _ _ _ _ _ _ _
   | exact ih1 _ _ _ _ _ _ _ _ _ _
   | exact ih2 _ _ _
   | exact impl_EditByHandle.mono _ _ _ _ _ _ _
   | exact laws_eqIntS.mono _ _ _
   | exact laws_eqNodeS.mono _ _ _
   | exact laws_heldNodeS.mono _ _ _
   | exact laws_markIntS.mono _ _ _
   | exact laws_markNodeS.mono _ _ _
   | exact laws_toIntS.mono _ _
   | exact laws_toNodeS.mono _ _
   | exact spec_EditByHandle.mono _ _ _ _ _ _ _
   | exact LeO.none _
   | refine LeO.ite ?_ ?_
   | refine LeO.bind ?_ (fun _ => ?_)
theorem laws_FnExactEditByHandle.mono : ∀ a0 a1 a2 a3 a4 a5 k, LeO (laws_FnExactEditByHandle.f k a0 a1 a2 a3 a4 a5) (laws_FnExactEditByHandle.f (k + 1) a0 a1 a2 a3 a4 a5) := by
 intro a0 a1 a2 a3 a4 a5 k
 obtain ⟨ih0, ih1, ih2⟩ := laws_FnExactEditByHandle.mono_l k
 unfold laws_FnExactEditByHandle.f
 repeat' first
   | (with_reducible exact ih0 _ _ _ _ _ _ _ _ _ _ _ _ _)
   | (with_reducible exact ih1 _ _ _ _ _ _ _ _ _ _)
   | (with_reducible exact ih2 _ _ _)
   | (with_reducible exact impl_EditByHandle.mono _ _ _ _ _ _ _)
   | (with_reducible exact laws_eqIntS.mono _ _ _)
   | (with_reducible exact laws_eqNodeS.mono _ _ _)
   | (with_reducible exact laws_heldNodeS.mono _ _ _)
   | (with_reducible exact laws_markIntS.mono _ _ _)
   | (with_reducible exact laws_markNodeS.mono _ _ _)
   | (with_reducible exact laws_toIntS.mono _ _)
   | (with_reducible exact laws_toNodeS.mono _ _)
   | (with_reducible exact spec_EditByHandle.mono _ _ _ _ _ _ _)
   | (with_reducible exact LeO.refl _)
   | (with_reducible exact LeO.none _)
   | (with_reducible refine LeO.ite ?_ ?_)
   | (with_reducible refine LeO.bind ?_ (fun _ => ?_))
   | exact ih0 _ _ _ _ _ _ _ _ _ _ _ _ _
   | exact ih1 _ _ _ _ _ _ _ _ _ _
   | exact ih2 _ _ _
   | exact impl_EditByHandle.mono _ _ _ _ _ _ _
   | exact laws_eqIntS.mono _ _ _
   | exact laws_eqNodeS.mono _ _ _
   | exact laws_heldNodeS.mono _ _ _
   | exact laws_markIntS.mono _ _ _
   | exact laws_markNodeS.mono _ _ _
   | exact laws_toIntS.mono _ _
   | exact laws_toNodeS.mono _ _
   | exact spec_EditByHandle.mono _ _ _ _ _ _ _
   | exact LeO.none _
   | refine LeO.ite ?_ ?_
   | refine LeO.bind ?_ (fun _ => ?_)
set_option maxHeartbeats 8000000 in
set_option maxRecDepth 100000 in
theorem laws_FnExactEditByHandle.calls (k : Nat) (A0 : Option Addr) (c0 : Nat) (l0 : List (S87)) (A1 : Option Addr) (c1 : Nat) (l1 : List Int) (a2 : Int) (a3 : Int) (a4 : Int) (a5 : Int) (r : Bool) (w : World) (hr0 : Kd.C k87 w A0 l0.length l0) (hc0 : l0.length ≤ c0) (hr1 : Kd.C (Kd.int .i64) w A1 l1.length l1) (hc1 : l1.length ≤ c1) (h : laws_FnExactEditByHandle.f k l0 l1 a2 a3 a4 a5 = some r) :
  Calls Try.prog 7 #[.slice A0 l0.length c0, .slice A1 l1.length c1, .int .i64 a2, .int .i64 a3, .int .i64 a4, .int .i64 a5] w fun e w' => e = .returned (.bool r) ∧ Below w.heap.size w w' := by
 have HR0 := am hr0
 have HC0 := am hc0
 clear hr0 hc0
 have HR1 := am hr1
 have HC1 := am hc1
 clear hr1 hc1
 have HB := am (Below.refl w.heap.size w)
 have H : (if (l1.length : Int) > 1048576 then (some true) else ((laws_szNodeS.f l0 1048576).bind fun t458 => (if t458 < 0 then (some true) else ((laws_toNodeS.f k l0).bind fun t459 => ((laws_toIntS.f k l1).bind fun t462 => ((spec_EditByHandle.f k t459 t462 a2 a3 a4 a5).bind fun bt465 => ((laws_toNodeS.f k l0).bind fun t469 => ((laws_toIntS.f k l1).bind fun t472 => ((impl_EditByHandle.f k t469 t472 a2 a3 a4 a5).bind fun bt475 => ((laws_eqNodeS.f k bt475.1 bt465.1).bind fun t479 => (if t479 = true then (laws_FnExactEditByHandle.j0 k l0 l1 a2 a3 a4 a5 bt465.1 bt465.2 t469 t472 bt475.1 bt475.2 (bt475.2 != bt465.2)) else (laws_FnExactEditByHandle.j0 k l0 l1 a2 a3 a4 a5 bt465.1 bt465.2 t469 t472 bt475.1 bt475.2 true)))))))))))) = some r := h
 clear h
 by_cases c7 : (l1.length : Int) > 1048576
 ·rw [if_pos c7] at H
  have c7b0 : decide (1048576 < (l1.length : Int)) = true := decide_eq_true c7
  have c7b1 : decide (1048576 < l1.length) = true := decide_eq_true (by omega)
  clear c7
  obtain rfl := Option.some.inj H
  go_enter Try.func7, Try.ntmps7
  go_wp2
  go_ret
  exact ⟨eU, bU HB.out⟩
 ·rw [if_neg c7] at H
  have c7b0 : decide (1048576 < (l1.length : Int)) = false := decide_eq_false c7
  have c7b1 : decide (1048576 < l1.length) = false := decide_eq_false (by omega)
  clear c7
  replace H := Option.bind_eq_some_iff.mp H
  obtain ⟨t458, A80, H⟩ := H
  replace H : (if t458 < 0 then (some true) else ((laws_toNodeS.f k l0).bind fun t459 => ((laws_toIntS.f k l1).bind fun t462 => ((spec_EditByHandle.f k t459 t462 a2 a3 a4 a5).bind fun bt465 => ((laws_toNodeS.f k l0).bind fun t469 => ((laws_toIntS.f k l1).bind fun t472 => ((impl_EditByHandle.f k t469 t472 a2 a3 a4 a5).bind fun bt475 => ((laws_eqNodeS.f k bt475.1 bt465.1).bind fun t479 => (if t479 = true then (laws_FnExactEditByHandle.j0 k l0 l1 a2 a3 a4 a5 bt465.1 bt465.2 t469 t472 bt475.1 bt475.2 (bt475.2 != bt465.2)) else (laws_FnExactEditByHandle.j0 k l0 l1 a2 a3 a4 a5 bt465.1 bt465.2 t469 t472 bt475.1 bt475.2 true)))))))))) = some r := H
  have A8 := am A80
  clear A80
  by_cases c9 : t458 < 0
  ·rw [if_pos c9] at H
   have c9b0 : decide (t458 < 0) = true := decide_eq_true c9
   clear c9
   obtain rfl := Option.some.inj H
   go_enter Try.func7, Try.ntmps7
   go_wp2_with (first | ((with_reducible refine gate_callee (f := 14) rfl ?_); refine goesL_ (some 30) rfl rfl Try.func14 (by kernel_rfl) rfl #[.slice A0 l0.length c0, .int .i64 1048576] rfl mU ?_; (with_reducible refine (laws_szNodeS.calls _ _ l0 1048576 t458 _ ?side1 ?side2 A8.out).mono ?_); (case side1 => exact cU HR0.out); (case side2 => exact HC0.out); rintro e w' ⟨rfl, ⟨nd, rfl⟩⟩; refine ⟨_, rfl, ?_⟩))
   go_ret
   exact ⟨eU, bU HB.out⟩
  ·rw [if_neg c9] at H
   have c9b0 : decide (t458 < 0) = false := decide_eq_false c9
   clear c9
   replace H := Option.bind_eq_some_iff.mp H
   obtain ⟨t459, A100, H⟩ := H
   replace H : ((laws_toIntS.f k l1).bind fun t462 => ((spec_EditByHandle.f k t459 t462 a2 a3 a4 a5).bind fun bt465 => ((laws_toNodeS.f k l0).bind fun t469 => ((laws_toIntS.f k l1).bind fun t472 => ((impl_EditByHandle.f k t469 t472 a2 a3 a4 a5).bind fun bt475 => ((laws_eqNodeS.f k bt475.1 bt465.1).bind fun t479 => (if t479 = true then (laws_FnExactEditByHandle.j0 k l0 l1 a2 a3 a4 a5 bt465.1 bt465.2 t469 t472 bt475.1 bt475.2 (bt475.2 != bt465.2)) else (laws_FnExactEditByHandle.j0 k l0 l1 a2 a3 a4 a5 bt465.1 bt465.2 t469 t472 bt475.1 bt475.2 true)))))))) = some r := H
   have A10 := am A100
   clear A100
   replace H := Option.bind_eq_some_iff.mp H
   obtain ⟨t462, A110, H⟩ := H
   replace H : ((spec_EditByHandle.f k t459 t462 a2 a3 a4 a5).bind fun bt465 => ((laws_toNodeS.f k l0).bind fun t469 => ((laws_toIntS.f k l1).bind fun t472 => ((impl_EditByHandle.f k t469 t472 a2 a3 a4 a5).bind fun bt475 => ((laws_eqNodeS.f k bt475.1 bt465.1).bind fun t479 => (if t479 = true then (laws_FnExactEditByHandle.j0 k l0 l1 a2 a3 a4 a5 bt465.1 bt465.2 t469 t472 bt475.1 bt475.2 (bt475.2 != bt465.2)) else (laws_FnExactEditByHandle.j0 k l0 l1 a2 a3 a4 a5 bt465.1 bt465.2 t469 t472 bt475.1 bt475.2 true))))))) = some r := H
   have A11 := am A110
   clear A110
   replace H := Option.bind_eq_some_iff.mp H
   obtain ⟨⟨t465, t466⟩, A120, H⟩ := H
   replace H : ((laws_toNodeS.f k l0).bind fun t469 => ((laws_toIntS.f k l1).bind fun t472 => ((impl_EditByHandle.f k t469 t472 a2 a3 a4 a5).bind fun bt475 => ((laws_eqNodeS.f k bt475.1 t465).bind fun t479 => (if t479 = true then (laws_FnExactEditByHandle.j0 k l0 l1 a2 a3 a4 a5 t465 t466 t469 t472 bt475.1 bt475.2 (bt475.2 != t466)) else (laws_FnExactEditByHandle.j0 k l0 l1 a2 a3 a4 a5 t465 t466 t469 t472 bt475.1 bt475.2 true)))))) = some r := H
   have A12 := am A120
   clear A120
   replace H := Option.bind_eq_some_iff.mp H
   obtain ⟨t469, A130, H⟩ := H
   replace H : ((laws_toIntS.f k l1).bind fun t472 => ((impl_EditByHandle.f k t469 t472 a2 a3 a4 a5).bind fun bt475 => ((laws_eqNodeS.f k bt475.1 t465).bind fun t479 => (if t479 = true then (laws_FnExactEditByHandle.j0 k l0 l1 a2 a3 a4 a5 t465 t466 t469 t472 bt475.1 bt475.2 (bt475.2 != t466)) else (laws_FnExactEditByHandle.j0 k l0 l1 a2 a3 a4 a5 t465 t466 t469 t472 bt475.1 bt475.2 true))))) = some r := H
   have A13 := am A130
   clear A130
   replace H := Option.bind_eq_some_iff.mp H
   obtain ⟨t472, A140, H⟩ := H
   replace H : ((impl_EditByHandle.f k t469 t472 a2 a3 a4 a5).bind fun bt475 => ((laws_eqNodeS.f k bt475.1 t465).bind fun t479 => (if t479 = true then (laws_FnExactEditByHandle.j0 k l0 l1 a2 a3 a4 a5 t465 t466 t469 t472 bt475.1 bt475.2 (bt475.2 != t466)) else (laws_FnExactEditByHandle.j0 k l0 l1 a2 a3 a4 a5 t465 t466 t469 t472 bt475.1 bt475.2 true)))) = some r := H
   have A14 := am A140
   clear A140
   replace H := Option.bind_eq_some_iff.mp H
   obtain ⟨⟨t475, t476⟩, A150, H⟩ := H
   replace H : ((laws_eqNodeS.f k t475 t465).bind fun t479 => (if t479 = true then (laws_FnExactEditByHandle.j0 k l0 l1 a2 a3 a4 a5 t465 t466 t469 t472 t475 t476 (t476 != t466)) else (laws_FnExactEditByHandle.j0 k l0 l1 a2 a3 a4 a5 t465 t466 t469 t472 t475 t476 true))) = some r := H
   have A15 := am A150
   clear A150
   have HC16 := am H
   clear H
   go_enter Try.func7, Try.ntmps7
   go_upto_region 11 with (first | ((with_reducible refine gate_callee (f := 14) rfl ?_); refine goesL_ (some 30) rfl rfl Try.func14 (by kernel_rfl) rfl #[.slice A0 l0.length c0, .int .i64 1048576] rfl mU ?_; (with_reducible refine (laws_szNodeS.calls _ _ l0 1048576 t458 _ ?side1 ?side2 A8.out).mono ?_); (case side1 => exact cU HR0.out); (case side2 => exact HC0.out); rintro e w' ⟨rfl, ⟨nd, rfl⟩⟩; refine ⟨_, rfl, ?_⟩) | ((with_reducible refine gate_callee (f := 16) rfl ?_); refine goesL_ (some 35) rfl rfl Try.func16 (by kernel_rfl) rfl #[.slice A0 l0.length c0] rfl mU ?_; (with_reducible refine (laws_toNodeS.calls k _ _ l0 t459 _ ?side1 ?side2 A10.out).mono ?_); (case side1 => exact cU HR0.out); (case side2 => exact HC0.out); rintro e w17 ⟨v460, rfl, ho0, hb⟩; refine ⟨_, rfl, ?_⟩; have n0_ := am (Kd.R_lower ho0 (below_size (bU HB.out))); have n1_ := am (below_step (bU HB.out) hb); clear HB; have HO461 := n0_; have HB := n1_; clear n0_ n1_; (try clear hb); (try clear hb2); (try clear hk); (try clear hi); (try clear ho0)) | ((with_reducible refine gate_callee (f := 31) rfl ?_); refine goesL_ (some 37) rfl rfl Try.func31 (by kernel_rfl) rfl #[.slice A1 l1.length c1] rfl mU ?_; (with_reducible refine (laws_toIntS.calls k _ _ l1 t462 _ ?side1 ?side2 A11.out).mono ?_); (case side1 => exact cU (Kd.C_below HR1.out HB.out)); (case side2 => exact HC1.out); rintro e w18 ⟨v463, rfl, ho0, hb⟩; refine ⟨_, rfl, ?_⟩; have n0_ := am (Kd.R_below (rU HO461.out) hb); have n1_ := am (Kd.R_lower ho0 (below_size (bU HB.out))); have n2_ := am (below_step (bU HB.out) hb); clear HO461; clear HB; have HO461 := n0_; have HO464 := n1_; have HB := n2_; clear n0_ n1_ n2_; (try clear hb); (try clear hb2); (try clear hk); (try clear hi); (try clear ho0); obtain ⟨Ao19, co19, eo19⟩ := Kd.R_slice HO461.out; subst eo19; obtain ⟨Ao20, co20, eo20⟩ := Kd.R_slice HO464.out; subst eo20) | ((with_reducible refine gate_callee (f := 35) rfl ?_); refine goesL_ (some 42) rfl rfl Try.func35 (by kernel_rfl) rfl #[.slice Ao19 t459.length co19, .slice Ao20 t462.length co20, .int .i64 a2, .int .i64 a3, .int .i64 a4, .int .i64 a5] rfl mU ?_; (with_reducible refine (spec_EditByHandle.calls k _ _ t459 _ _ t462 a2 a3 a4 a5 t465 t466 _ ?side1 ?side2 ?side3 ?side4 A12.out).mono ?_); (case side1 => exact cU (Kd.R_reads' HO461.out).2.2); (case side2 => exact (Kd.R_reads' HO461.out).2.1); (case side3 => exact cU (Kd.R_reads' HO464.out).2.2); (case side4 => exact (Kd.R_reads' HO464.out).2.1); rintro e w21 ⟨v467, rfl, ho0, hb⟩; refine ⟨_, rfl, ?_⟩; have n0_ := am (Kd.R_elder' (rU HO461.out) (Kd.R_base ho0) hb); have n1_ := am (Kd.R_below (rU HO464.out) hb); have n2_ := am (Kd.R_lower (Kd.R_new' ho0 (Kd.R_lt (rU HO461.out))) (below_size (bU HB.out))); have n3_ := am (below_step (bU HB.out) hb); clear HO461; clear HO464; clear HB; have HO461 := n0_; have HO464 := n1_; have HO468 := n2_; have HB := n3_; clear n0_ n1_ n2_ n3_; (try clear hb); (try clear hb2); (try clear hk); (try clear hi); (try clear ho0)) | ((with_reducible refine gate_callee (f := 16) rfl ?_); refine goesL_ (some 46) rfl rfl Try.func16 (by kernel_rfl) rfl #[.slice A0 l0.length c0] rfl mU ?_; (with_reducible refine (laws_toNodeS.calls k _ _ l0 t469 _ ?side1 ?side2 A13.out).mono ?_); (case side1 => exact cU (Kd.C_below HR0.out HB.out)); (case side2 => exact HC0.out); rintro e w22 ⟨v470, rfl, ho0, hb⟩; refine ⟨_, rfl, ?_⟩; have n0_ := am (Kd.R_elder' (rU HO461.out) (Kd.R_base ho0) hb); have n1_ := am (Kd.R_below (rU HO464.out) hb); have n2_ := am (Kd.R_elder' (rU HO468.out) (Kd.R_base ho0) hb); have n3_ := am (Kd.R_lower (Kd.R_new' (Kd.R_new' ho0 (Kd.R_lt (rU HO461.out))) (Kd.R_lt (rU HO468.out))) (below_size (bU HB.out))); have n4_ := am (below_step (bU HB.out) hb); clear HO461; clear HO464; clear HO468; clear HB; have HO461 := n0_; have HO464 := n1_; have HO468 := n2_; have HO471 := n3_; have HB := n4_; clear n0_ n1_ n2_ n3_ n4_; (try clear hb); (try clear hb2); (try clear hk); (try clear hi); (try clear ho0)) | ((with_reducible refine gate_callee (f := 31) rfl ?_); refine goesL_ (some 48) rfl rfl Try.func31 (by kernel_rfl) rfl #[.slice A1 l1.length c1] rfl mU ?_; (with_reducible refine (laws_toIntS.calls k _ _ l1 t472 _ ?side1 ?side2 A14.out).mono ?_); (case side1 => exact cU (Kd.C_below HR1.out HB.out)); (case side2 => exact HC1.out); rintro e w23 ⟨v473, rfl, ho0, hb⟩; refine ⟨_, rfl, ?_⟩; have n0_ := am (Kd.R_below (rU HO461.out) hb); have n1_ := am (Kd.R_elder' (rU HO464.out) (Kd.R_base ho0) hb); have n2_ := am (Kd.R_below (rU HO468.out) hb); have n3_ := am (Kd.R_below (rU HO471.out) hb); have n4_ := am (Kd.R_lower (Kd.R_new' ho0 (Kd.R_lt (rU HO464.out))) (below_size (bU HB.out))); have n5_ := am (below_step (bU HB.out) hb); clear HO461; clear HO464; clear HO468; clear HO471; clear HB; have HO461 := n0_; have HO464 := n1_; have HO468 := n2_; have HO471 := n3_; have HO474 := n4_; have HB := n5_; clear n0_ n1_ n2_ n3_ n4_ n5_; (try clear hb); (try clear hb2); (try clear hk); (try clear hi); (try clear ho0); obtain ⟨Ao24, co24, eo24⟩ := Kd.R_slice HO471.out; subst eo24; obtain ⟨Ao25, co25, eo25⟩ := Kd.R_slice HO474.out; subst eo25) | ((with_reducible refine gate_callee (f := 36) rfl ?_); refine goesL_ (some 56) rfl rfl Try.func36 (by kernel_rfl) rfl #[.slice Ao24 t469.length co24, .slice Ao25 t472.length co25, .int .i64 a2, .int .i64 a3, .int .i64 a4, .int .i64 a5] rfl mU ?_; (with_reducible refine (impl_EditByHandle.calls k _ _ t469 _ _ t472 a2 a3 a4 a5 t475 t476 _ ?side1 ?side2 ?side3 ?side4 A15.out).mono ?_); (case side1 => exact cU (Kd.R_reads' HO471.out).2.2); (case side2 => exact (Kd.R_reads' HO471.out).2.1); (case side3 => exact cU (Kd.R_reads' HO474.out).2.2); (case side4 => exact (Kd.R_reads' HO474.out).2.1); rintro e w26 ⟨v477, rfl, ho0, hb⟩; refine ⟨_, rfl, ?_⟩; have n0_ := am (Kd.R_elder' (rU HO461.out) (Kd.R_base ho0) hb); have n1_ := am (Kd.R_below (rU HO464.out) hb); have n2_ := am (Kd.R_elder' (rU HO468.out) (Kd.R_base ho0) hb); have n3_ := am (Kd.R_elder' (rU HO471.out) (Kd.R_base ho0) hb); have n4_ := am (Kd.R_below (rU HO474.out) hb); have n5_ := am (Kd.R_lower (Kd.R_new' (Kd.R_new' (Kd.R_new' ho0 (Kd.R_lt (rU HO461.out))) (Kd.R_lt (rU HO468.out))) (Kd.R_lt (rU HO471.out))) (below_size (bU HB.out))); have n6_ := am (below_step (bU HB.out) hb); clear HO461; clear HO464; clear HO468; clear HO471; clear HO474; clear HB; have HO461 := n0_; have HO464 := n1_; have HO468 := n2_; have HO471 := n3_; have HO474 := n4_; have HO478 := n5_; have HB := n6_; clear n0_ n1_ n2_ n3_ n4_ n5_ n6_; (try clear hb); (try clear hb2); (try clear hk); (try clear hi); (try clear ho0)))
   (try simp only [Act.put, List.setIfInBounds_toArray, List.set_cons_zero, List.set_cons_succ])
   go_cut [67] (fun v67 wc => ∃ (kq : Nat) (x67_15 : Bool), v67 = .bool x67_15 ∧ Aside0 (laws_FnExactEditByHandle.j0 kq l0 l1 a2 a3 a4 a5 t465 t466 t469 t472 t475 t476 x67_15 = some r) ∧ Aside0 (kq ≤ k) ∧ Aside0 (Kd.R k59 59 wc w.heap.size (fun k_ => some k_ ≠ ((.slice Ao24 t469.length co24) : Value).ownBlock ∧ some k_ ≠ (v477 : Value).ownBlock) v467 t465) ∧ Aside0 (Kd.R k59 59 wc w.heap.size (fun k_ => some k_ ≠ (v467 : Value).ownBlock ∧ some k_ ≠ (v477 : Value).ownBlock) (.slice Ao24 t469.length co24) t469) ∧ Aside0 (Kd.R (Kd.int .i64) 3 wc w.heap.size (fun _ => True) (.slice Ao25 t472.length co25) t472) ∧ Aside0 (Kd.R k59 59 wc w.heap.size (fun k_ => some k_ ≠ (v467 : Value).ownBlock ∧ some k_ ≠ ((.slice Ao24 t469.length co24) : Value).ownBlock) v477 t475) ∧ Aside0 (Below w.heap.size w wc))
   case first =>
    have H := HC16.out
    clear HC16
    replace H := Option.bind_eq_some_iff.mp H
    obtain ⟨t479, A270, H⟩ := H
    replace H : (if t479 = true then (laws_FnExactEditByHandle.j0 k l0 l1 a2 a3 a4 a5 t465 t466 t469 t472 t475 t476 (t476 != t466)) else (laws_FnExactEditByHandle.j0 k l0 l1 a2 a3 a4 a5 t465 t466 t469 t472 t475 t476 true)) = some r := H
    have A27 := am A270
    clear A270
    by_cases c28 : t479 = true
    ·subst c28
     have H1 : (laws_FnExactEditByHandle.j0 k l0 l1 a2 a3 a4 a5 t465 t466 t469 t472 t475 t476 (t476 != t466)) = some r := by rw [if_pos rfl] at H; exact H
     clear H
     have H := H1
     clear H1
     have H' := am H
     clear H
     obtain ⟨Ao29, co29, eo29⟩ := Kd.R_slice HO478.out
     subst eo29
     obtain ⟨Ao30, co30, eo30⟩ := Kd.R_slice HO468.out
     subst eo30
     go_wp2_with (first | ((with_reducible refine gate_callee (f := 19) rfl ?_); refine goesL_ (some 61) rfl rfl Try.func19 (by kernel_rfl) rfl #[.slice Ao29 t475.length co29, .slice Ao30 t465.length co30] rfl mU ?_; (with_reducible refine (laws_eqNodeS.calls k _ _ t475 _ _ t465 true _ ?side1 ?side2 ?side3 ?side4 A27.out).mono ?_); (case side1 => exact cU (Kd.R_reads' HO478.out).2.2); (case side2 => exact (Kd.R_reads' HO478.out).2.1); (case side3 => exact cU (Kd.R_reads' HO468.out).2.2); (case side4 => exact (Kd.R_reads' HO468.out).2.1); rintro e w31 ⟨rfl, hb⟩; refine ⟨_, rfl, ?_⟩; have n0_ := am (Kd.R_below (rU HO461.out) hb); have n1_ := am (Kd.R_below (rU HO464.out) hb); have n2_ := am (Kd.R_below (rU HO468.out) hb); have n3_ := am (Kd.R_below (rU HO471.out) hb); have n4_ := am (Kd.R_below (rU HO474.out) hb); have n5_ := am (Kd.R_below (rU HO478.out) hb); have n6_ := am (below_step (bU HB.out) hb); clear HO461; clear HO464; clear HO468; clear HO471; clear HO474; clear HO478; clear HB; have HO461 := n0_; have HO464 := n1_; have HO468 := n2_; have HO471 := n3_; have HO474 := n4_; have HO478 := n5_; have HB := n6_; clear n0_ n1_ n2_ n3_ n4_ n5_ n6_; (try clear hb); (try clear hb2); (try clear hk); (try clear hi)))
     go_meet
     case rel => exact ⟨_, ((t476 != t466)), (by first | rfl | (simp; done) | (simp [*]; done)), H', ⟨by first | omega | exact Nat.le_refl _⟩, ⟨by (with_reducible repeat (first | apply Kd.R_alloc | apply Kd.R_drewN | apply Kd.R_drew)); exact Kd.R_mono HO468.out (fun _ hk => ⟨hk.1.2, hk.2⟩)⟩, ⟨by (with_reducible repeat (first | apply Kd.R_alloc | apply Kd.R_drewN | apply Kd.R_drew)); exact Kd.R_mono HO471.out (fun _ hk => ⟨hk.1.2, hk.2⟩)⟩, ⟨by (with_reducible repeat (first | apply Kd.R_alloc | apply Kd.R_drewN | apply Kd.R_drew)); exact Kd.R_mono HO474.out (fun _ hk => trivial)⟩, ⟨by (with_reducible repeat (first | apply Kd.R_alloc | apply Kd.R_drewN | apply Kd.R_drew)); exact Kd.R_mono HO478.out (fun _ hk => ⟨hk.1.2, hk.2⟩)⟩, ⟨bU HB.out⟩⟩
    ·replace c28 := Bool.eq_false_iff.mpr c28
     subst c28
     have H1 : (laws_FnExactEditByHandle.j0 k l0 l1 a2 a3 a4 a5 t465 t466 t469 t472 t475 t476 true) = some r := by rw [if_neg (show ¬ (false = true) by decide)] at H; exact H
     clear H
     have H := H1
     clear H1
     have H' := am H
     clear H
     obtain ⟨Ao32, co32, eo32⟩ := Kd.R_slice HO478.out
     subst eo32
     obtain ⟨Ao33, co33, eo33⟩ := Kd.R_slice HO468.out
     subst eo33
     go_wp2_with (first | ((with_reducible refine gate_callee (f := 19) rfl ?_); refine goesL_ (some 61) rfl rfl Try.func19 (by kernel_rfl) rfl #[.slice Ao32 t475.length co32, .slice Ao33 t465.length co33] rfl mU ?_; (with_reducible refine (laws_eqNodeS.calls k _ _ t475 _ _ t465 false _ ?side1 ?side2 ?side3 ?side4 A27.out).mono ?_); (case side1 => exact cU (Kd.R_reads' HO478.out).2.2); (case side2 => exact (Kd.R_reads' HO478.out).2.1); (case side3 => exact cU (Kd.R_reads' HO468.out).2.2); (case side4 => exact (Kd.R_reads' HO468.out).2.1); rintro e w34 ⟨rfl, hb⟩; refine ⟨_, rfl, ?_⟩; have n0_ := am (Kd.R_below (rU HO461.out) hb); have n1_ := am (Kd.R_below (rU HO464.out) hb); have n2_ := am (Kd.R_below (rU HO468.out) hb); have n3_ := am (Kd.R_below (rU HO471.out) hb); have n4_ := am (Kd.R_below (rU HO474.out) hb); have n5_ := am (Kd.R_below (rU HO478.out) hb); have n6_ := am (below_step (bU HB.out) hb); clear HO461; clear HO464; clear HO468; clear HO471; clear HO474; clear HO478; clear HB; have HO461 := n0_; have HO464 := n1_; have HO468 := n2_; have HO471 := n3_; have HO474 := n4_; have HO478 := n5_; have HB := n6_; clear n0_ n1_ n2_ n3_ n4_ n5_ n6_; (try clear hb); (try clear hb2); (try clear hk); (try clear hi)))
     go_meet
     case rel => exact ⟨_, (true), (by first | rfl | (simp; done) | (simp [*]; done)), H', ⟨by first | omega | exact Nat.le_refl _⟩, ⟨by (with_reducible repeat (first | apply Kd.R_alloc | apply Kd.R_drewN | apply Kd.R_drew)); exact Kd.R_mono HO468.out (fun _ hk => ⟨hk.1.2, hk.2⟩)⟩, ⟨by (with_reducible repeat (first | apply Kd.R_alloc | apply Kd.R_drewN | apply Kd.R_drew)); exact Kd.R_mono HO471.out (fun _ hk => ⟨hk.1.2, hk.2⟩)⟩, ⟨by (with_reducible repeat (first | apply Kd.R_alloc | apply Kd.R_drewN | apply Kd.R_drew)); exact Kd.R_mono HO474.out (fun _ hk => trivial)⟩, ⟨by (with_reducible repeat (first | apply Kd.R_alloc | apply Kd.R_drewN | apply Kd.R_drew)); exact Kd.R_mono HO478.out (fun _ hk => ⟨hk.1.2, hk.2⟩)⟩, ⟨bU HB.out⟩⟩
   case rest =>
    clear HC16
    try clear c1
    try clear c2
    try clear p2
    try clear c3
    try clear c7
    try clear c7b0
    try clear c7b1
    try clear c9
    try clear c9b0
    try clear c14
    try clear c16
    try clear c19
    try clear c28
    try clear c31
    obtain ⟨kq, x67_15, rfl, HA, HJ15, HO_14, HO_16, HO_17, HO_18, HB⟩ := hcut
    cases kq with
    | zero => exact absurd HA.out (by simp [laws_FnExactEditByHandle.j0])
    | succ kj15 =>
     have H := HA.out
     clear HA
     simp only [laws_FnExactEditByHandle.j0] at H
     by_cases c35 : x67_15 = true
     ·subst c35
      have H1 : (some false) = some r := by rw [if_pos rfl] at H; exact H
      clear H
      have H := H1
      clear H1
      obtain rfl := Option.some.inj H
      go_wp2
      go_ret
      exact ⟨eU, bU HB.out⟩
     ·replace c35 := Bool.eq_false_iff.mpr c35
      subst c35
      have H1 : ((laws_toNodeS.f kj15 l0).bind fun t480 => ((laws_eqNodeS.f kj15 t469 t480).bind fun t483 => (if t483 = true then ((laws_toIntS.f kj15 l1).bind fun t484 => ((laws_eqIntS.f kj15 t472 t484).bind fun t487 => (if t487 = true then ((laws_markNodeS.f kj15 t469 1).bind fun bt488 => ((laws_markIntS.f kj15 t472 bt488.1).bind fun bt490 => (if bt490.1 < 0 then (laws_FnExactEditByHandle.j1 kj15 l0 l1 a2 a3 a4 a5 t465 t466 t475 true) else ((laws_eqNodeS.f kj15 t475 t465).bind fun t492 => (if t492 = true then (laws_FnExactEditByHandle.j1 kj15 l0 l1 a2 a3 a4 a5 t465 t466 t475 (t476 != t466)) else (laws_FnExactEditByHandle.j1 kj15 l0 l1 a2 a3 a4 a5 t465 t466 t475 true)))))) else (some false)))) else (some false)))) = some r := by rw [if_neg (show ¬ (false = true) by decide)] at H; exact H
      clear H
      have H := H1
      clear H1
      replace H := Option.bind_eq_some_iff.mp H
      obtain ⟨t480, A360, H⟩ := H
      replace H : ((laws_eqNodeS.f kj15 t469 t480).bind fun t483 => (if t483 = true then ((laws_toIntS.f kj15 l1).bind fun t484 => ((laws_eqIntS.f kj15 t472 t484).bind fun t487 => (if t487 = true then ((laws_markNodeS.f kj15 t469 1).bind fun bt488 => ((laws_markIntS.f kj15 t472 bt488.1).bind fun bt490 => (if bt490.1 < 0 then (laws_FnExactEditByHandle.j1 kj15 l0 l1 a2 a3 a4 a5 t465 t466 t475 true) else ((laws_eqNodeS.f kj15 t475 t465).bind fun t492 => (if t492 = true then (laws_FnExactEditByHandle.j1 kj15 l0 l1 a2 a3 a4 a5 t465 t466 t475 (t476 != t466)) else (laws_FnExactEditByHandle.j1 kj15 l0 l1 a2 a3 a4 a5 t465 t466 t475 true)))))) else (some false)))) else (some false))) = some r := H
      have A36 := am A360
      clear A360
      replace H := Option.bind_eq_some_iff.mp H
      obtain ⟨t483, A370, H⟩ := H
      replace H : (if t483 = true then ((laws_toIntS.f kj15 l1).bind fun t484 => ((laws_eqIntS.f kj15 t472 t484).bind fun t487 => (if t487 = true then ((laws_markNodeS.f kj15 t469 1).bind fun bt488 => ((laws_markIntS.f kj15 t472 bt488.1).bind fun bt490 => (if bt490.1 < 0 then (laws_FnExactEditByHandle.j1 kj15 l0 l1 a2 a3 a4 a5 t465 t466 t475 true) else ((laws_eqNodeS.f kj15 t475 t465).bind fun t492 => (if t492 = true then (laws_FnExactEditByHandle.j1 kj15 l0 l1 a2 a3 a4 a5 t465 t466 t475 (t476 != t466)) else (laws_FnExactEditByHandle.j1 kj15 l0 l1 a2 a3 a4 a5 t465 t466 t475 true)))))) else (some false)))) else (some false)) = some r := H
      have A37 := am A370
      clear A370
      by_cases c38 : t483 = true
      ·subst c38
       have H1 : ((laws_toIntS.f kj15 l1).bind fun t484 => ((laws_eqIntS.f kj15 t472 t484).bind fun t487 => (if t487 = true then ((laws_markNodeS.f kj15 t469 1).bind fun bt488 => ((laws_markIntS.f kj15 t472 bt488.1).bind fun bt490 => (if bt490.1 < 0 then (laws_FnExactEditByHandle.j1 kj15 l0 l1 a2 a3 a4 a5 t465 t466 t475 true) else ((laws_eqNodeS.f kj15 t475 t465).bind fun t492 => (if t492 = true then (laws_FnExactEditByHandle.j1 kj15 l0 l1 a2 a3 a4 a5 t465 t466 t475 (t476 != t466)) else (laws_FnExactEditByHandle.j1 kj15 l0 l1 a2 a3 a4 a5 t465 t466 t475 true)))))) else (some false)))) = some r := by rw [if_pos rfl] at H; exact H
       clear H
       have H := H1
       clear H1
       replace H := Option.bind_eq_some_iff.mp H
       obtain ⟨t484, A390, H⟩ := H
       replace H : ((laws_eqIntS.f kj15 t472 t484).bind fun t487 => (if t487 = true then ((laws_markNodeS.f kj15 t469 1).bind fun bt488 => ((laws_markIntS.f kj15 t472 bt488.1).bind fun bt490 => (if bt490.1 < 0 then (laws_FnExactEditByHandle.j1 kj15 l0 l1 a2 a3 a4 a5 t465 t466 t475 true) else ((laws_eqNodeS.f kj15 t475 t465).bind fun t492 => (if t492 = true then (laws_FnExactEditByHandle.j1 kj15 l0 l1 a2 a3 a4 a5 t465 t466 t475 (t476 != t466)) else (laws_FnExactEditByHandle.j1 kj15 l0 l1 a2 a3 a4 a5 t465 t466 t475 true)))))) else (some false))) = some r := H
       have A39 := am A390
       clear A390
       replace H := Option.bind_eq_some_iff.mp H
       obtain ⟨t487, A400, H⟩ := H
       replace H : (if t487 = true then ((laws_markNodeS.f kj15 t469 1).bind fun bt488 => ((laws_markIntS.f kj15 t472 bt488.1).bind fun bt490 => (if bt490.1 < 0 then (laws_FnExactEditByHandle.j1 kj15 l0 l1 a2 a3 a4 a5 t465 t466 t475 true) else ((laws_eqNodeS.f kj15 t475 t465).bind fun t492 => (if t492 = true then (laws_FnExactEditByHandle.j1 kj15 l0 l1 a2 a3 a4 a5 t465 t466 t475 (t476 != t466)) else (laws_FnExactEditByHandle.j1 kj15 l0 l1 a2 a3 a4 a5 t465 t466 t475 true)))))) else (some false)) = some r := H
       have A40 := am A400
       clear A400
       by_cases c41 : t487 = true
       ·subst c41
        have H1 : ((laws_markNodeS.f kj15 t469 1).bind fun bt488 => ((laws_markIntS.f kj15 t472 bt488.1).bind fun bt490 => (if bt490.1 < 0 then (laws_FnExactEditByHandle.j1 kj15 l0 l1 a2 a3 a4 a5 t465 t466 t475 true) else ((laws_eqNodeS.f kj15 t475 t465).bind fun t492 => (if t492 = true then (laws_FnExactEditByHandle.j1 kj15 l0 l1 a2 a3 a4 a5 t465 t466 t475 (t476 != t466)) else (laws_FnExactEditByHandle.j1 kj15 l0 l1 a2 a3 a4 a5 t465 t466 t475 true)))))) = some r := by rw [if_pos rfl] at H; exact H
        clear H
        have H := H1
        clear H1
        replace H := Option.bind_eq_some_iff.mp H
        obtain ⟨⟨t488, t489⟩, A420, H⟩ := H
        replace H : ((laws_markIntS.f kj15 t472 t488).bind fun bt490 => (if bt490.1 < 0 then (laws_FnExactEditByHandle.j1 kj15 l0 l1 a2 a3 a4 a5 t465 t466 t475 true) else ((laws_eqNodeS.f kj15 t475 t465).bind fun t492 => (if t492 = true then (laws_FnExactEditByHandle.j1 kj15 l0 l1 a2 a3 a4 a5 t465 t466 t475 (t476 != t466)) else (laws_FnExactEditByHandle.j1 kj15 l0 l1 a2 a3 a4 a5 t465 t466 t475 true))))) = some r := H
        have A42 := am A420
        clear A420
        replace H := Option.bind_eq_some_iff.mp H
        obtain ⟨⟨t490, t491⟩, A430, H⟩ := H
        replace H : (if t490 < 0 then (laws_FnExactEditByHandle.j1 kj15 l0 l1 a2 a3 a4 a5 t465 t466 t475 true) else ((laws_eqNodeS.f kj15 t475 t465).bind fun t492 => (if t492 = true then (laws_FnExactEditByHandle.j1 kj15 l0 l1 a2 a3 a4 a5 t465 t466 t475 (t476 != t466)) else (laws_FnExactEditByHandle.j1 kj15 l0 l1 a2 a3 a4 a5 t465 t466 t475 true)))) = some r := H
        have A43 := am A430
        clear A430
        have HC44 := am H
        clear H
        go_upto_region 20 with (first | ((with_reducible refine gate_callee (f := 16) rfl ?_); refine goesL_ (some 70) rfl rfl Try.func16 (by kernel_rfl) rfl #[.slice A0 l0.length c0] rfl mU ?_; (with_reducible refine (laws_toNodeS.calls kj15 _ _ l0 t480 _ ?side1 ?side2 A36.out).mono ?_); (case side1 => exact cU (Kd.C_below HR0.out HB.out)); (case side2 => exact HC0.out); rintro e w45 ⟨v481, rfl, ho0, hb⟩; refine ⟨_, rfl, ?_⟩; have n0_ := am (Kd.R_elder' (rU HO_14.out) (Kd.R_base ho0) hb); have n1_ := am (Kd.R_elder' (rU HO_16.out) (Kd.R_base ho0) hb); have n2_ := am (Kd.R_below (rU HO_17.out) hb); have n3_ := am (Kd.R_elder' (rU HO_18.out) (Kd.R_base ho0) hb); have n4_ := am (Kd.R_lower (Kd.R_new' (Kd.R_new' (Kd.R_new' ho0 (Kd.R_lt (rU HO_14.out))) (Kd.R_lt (rU HO_16.out))) (Kd.R_lt (rU HO_18.out))) (below_size (bU HB.out))); have n5_ := am (below_step (bU HB.out) hb); clear HO_14; clear HO_16; clear HO_17; clear HO_18; clear HB; have HO_14 := n0_; have HO_16 := n1_; have HO_17 := n2_; have HO_18 := n3_; have HO482 := n4_; have HB := n5_; clear n0_ n1_ n2_ n3_ n4_ n5_; (try clear hb); (try clear hb2); (try clear hk); (try clear hi); (try clear ho0); obtain ⟨Ao46, co46, eo46⟩ := Kd.R_slice HO482.out; subst eo46) | ((with_reducible refine gate_callee (f := 19) rfl ?_); refine goesL_ (some 71) rfl rfl Try.func19 (by kernel_rfl) rfl #[.slice Ao24 t469.length co24, .slice Ao46 t480.length co46] rfl mU ?_; (with_reducible refine (laws_eqNodeS.calls kj15 _ _ t469 _ _ t480 true _ ?side1 ?side2 ?side3 ?side4 A37.out).mono ?_); (case side1 => exact cU (Kd.R_reads' HO_16.out).2.2); (case side2 => exact (Kd.R_reads' HO_16.out).2.1); (case side3 => exact cU (Kd.R_reads' HO482.out).2.2); (case side4 => exact (Kd.R_reads' HO482.out).2.1); rintro e w47 ⟨rfl, hb⟩; refine ⟨_, rfl, ?_⟩; have n0_ := am (Kd.R_below (rU HO_14.out) hb); have n1_ := am (Kd.R_below (rU HO_16.out) hb); have n2_ := am (Kd.R_below (rU HO_17.out) hb); have n3_ := am (Kd.R_below (rU HO_18.out) hb); have n4_ := am (Kd.R_below (rU HO482.out) hb); have n5_ := am (below_step (bU HB.out) hb); clear HO_14; clear HO_16; clear HO_17; clear HO_18; clear HO482; clear HB; have HO_14 := n0_; have HO_16 := n1_; have HO_17 := n2_; have HO_18 := n3_; have HO482 := n4_; have HB := n5_; clear n0_ n1_ n2_ n3_ n4_ n5_; (try clear hb); (try clear hb2); (try clear hk); (try clear hi)) | ((with_reducible refine gate_callee (f := 31) rfl ?_); refine goesL_ (some 75) rfl rfl Try.func31 (by kernel_rfl) rfl #[.slice A1 l1.length c1] rfl mU ?_; (with_reducible refine (laws_toIntS.calls kj15 _ _ l1 t484 _ ?side1 ?side2 A39.out).mono ?_); (case side1 => exact cU (Kd.C_below HR1.out HB.out)); (case side2 => exact HC1.out); rintro e w48 ⟨v485, rfl, ho0, hb⟩; refine ⟨_, rfl, ?_⟩; have n0_ := am (Kd.R_below (rU HO_14.out) hb); have n1_ := am (Kd.R_below (rU HO_16.out) hb); have n2_ := am (Kd.R_elder' (rU HO_17.out) (Kd.R_base ho0) hb); have n3_ := am (Kd.R_below (rU HO_18.out) hb); have n4_ := am (Kd.R_below (rU HO482.out) hb); have n5_ := am (Kd.R_lower (Kd.R_new' ho0 (Kd.R_lt (rU HO_17.out))) (below_size (bU HB.out))); have n6_ := am (below_step (bU HB.out) hb); clear HO_14; clear HO_16; clear HO_17; clear HO_18; clear HO482; clear HB; have HO_14 := n0_; have HO_16 := n1_; have HO_17 := n2_; have HO_18 := n3_; have HO482 := n4_; have HO486 := n5_; have HB := n6_; clear n0_ n1_ n2_ n3_ n4_ n5_ n6_; (try clear hb); (try clear hb2); (try clear hk); (try clear hi); (try clear ho0); obtain ⟨Ao49, co49, eo49⟩ := Kd.R_slice HO486.out; subst eo49) | ((with_reducible refine gate_callee (f := 33) rfl ?_); refine goesL_ (some 76) rfl rfl Try.func33 (by kernel_rfl) rfl #[.slice Ao25 t472.length co25, .slice Ao49 t484.length co49] rfl mU ?_; (with_reducible refine (laws_eqIntS.calls kj15 _ _ t472 _ _ t484 true _ ?side1 ?side2 ?side3 ?side4 A40.out).mono ?_); (case side1 => exact cU (Kd.R_reads' HO_17.out).2.2); (case side2 => exact (Kd.R_reads' HO_17.out).2.1); (case side3 => exact cU (Kd.R_reads' HO486.out).2.2); (case side4 => exact (Kd.R_reads' HO486.out).2.1); rintro e w' ⟨rfl, ⟨nd, rfl⟩⟩; refine ⟨_, rfl, ?_⟩) | ((with_reducible refine gate_callee (f := 20) rfl ?_); refine goesL_ (some 80) rfl rfl Try.func20 (by kernel_rfl) rfl #[.slice Ao24 t469.length co24, .int .i64 1] rfl mU ?_; (with_reducible refine (laws_markNodeS.calls kj15 (fun k_ => some k_ = (.slice Ao24 t469.length co24 : Value).ownBlock) (.slice Ao24 t469.length co24) t469 1 t488 t489 w _ ?side1 ?side2 A42.out).mono ?_); (case side1 => exact bU HB.out); (case side2 => exact Kd.R_tight rfl HO_16.out); rintro e w50 ⟨rfl, hy0, hb, hkp⟩; refine ⟨_, rfl, ?_⟩; have n0_ := am (Kd.R_mono (ok' := fun k_ => some k_ ≠ (.slice Ao24 t469.length co24 : Value).ownBlock ∧ some k_ ≠ (v477 : Value).ownBlock ∧ some k_ ≠ (.slice Ao46 t480.length co46 : Value).ownBlock) (Kd.R_keptB (HO_14.out) hkp (fun k_ hk_ hs_ => (hk_.1.1) hs_)) (fun k_ hk_ => ⟨hk_.1.1.1, hk_.1.1.2, hk_.1.2⟩)); have n1_ := am (Kd.R_reok rfl hy0 (fun k_ e_ => HO_16.out.1 k_ e_)); have n2_ := am (Kd.R_mono (ok' := fun k_ => some k_ ≠ (.slice Ao49 t484.length co49 : Value).ownBlock) (Kd.R_keptB ((Kd.R_apart' HO_17.out (Kd.R_typed HO_16.out) (by decide))) hkp (fun k_ hk_ hs_ => (hk_.2) hs_)) (fun k_ hk_ => hk_.1.1.2)); have n3_ := am (Kd.R_mono (ok' := fun k_ => some k_ ≠ (v467 : Value).ownBlock ∧ some k_ ≠ (.slice Ao24 t469.length co24 : Value).ownBlock ∧ some k_ ≠ (.slice Ao46 t480.length co46 : Value).ownBlock) (Kd.R_keptB (HO_18.out) hkp (fun k_ hk_ hs_ => (hk_.1.2) hs_)) (fun k_ hk_ => ⟨hk_.1.1.1, hk_.1.1.2, hk_.1.2⟩)); have n4_ := am (Kd.R_mono (ok' := fun k_ => some k_ ≠ (v467 : Value).ownBlock ∧ some k_ ≠ (.slice Ao24 t469.length co24 : Value).ownBlock ∧ some k_ ≠ (v477 : Value).ownBlock) (Kd.R_keptB (HO482.out) hkp (fun k_ hk_ hs_ => (hk_.1.2) hs_)) (fun k_ hk_ => ⟨hk_.1.1.1.2, hk_.1.1.2, hk_.1.2⟩)); have n5_ := am (Kd.R_mono (ok' := fun k_ => some k_ ≠ (.slice Ao25 t472.length co25 : Value).ownBlock) (Kd.R_keptB ((Kd.R_apart' HO486.out (Kd.R_typed HO_16.out) (by decide))) hkp (fun k_ hk_ hs_ => (hk_.2) hs_)) (fun k_ hk_ => hk_.1.1.2)); have n6_ := am (hb); clear HO_14; clear HO_16; clear HO_17; clear HO_18; clear HO482; clear HO486; clear HB; have HO_14 := n0_; have HO_16 := n1_; have HO_17 := n2_; have HO_18 := n3_; have HO482 := n4_; have HO486 := n5_; have HB := n6_; clear n0_ n1_ n2_ n3_ n4_ n5_ n6_; (try clear hb); (try clear hkp); (try clear hy0)) | ((with_reducible refine gate_callee (f := 34) rfl ?_); refine goesL_ (some 83) rfl rfl Try.func34 (by kernel_rfl) rfl #[.slice Ao25 t472.length co25, .int .i64 t488] rfl mU ?_; (with_reducible refine (laws_markIntS.calls kj15 (fun k_ => some k_ = (.slice Ao25 t472.length co25 : Value).ownBlock) (.slice Ao25 t472.length co25) t472 t488 t490 t491 w _ ?side1 ?side2 A43.out).mono ?_); (case side1 => exact bU HB.out); (case side2 => exact Kd.R_tight rfl HO_17.out); rintro e w51 ⟨rfl, hy0, hb, hkp⟩; refine ⟨_, rfl, ?_⟩; have n0_ := am (Kd.R_mono (ok' := fun k_ => some k_ ≠ (.slice Ao24 t469.length co24 : Value).ownBlock ∧ some k_ ≠ (v477 : Value).ownBlock ∧ some k_ ≠ (.slice Ao46 t480.length co46 : Value).ownBlock) (Kd.R_keptB ((Kd.R_apart' HO_14.out (Kd.R_typed HO_17.out) (by decide))) hkp (fun k_ hk_ hs_ => (hk_.2) hs_)) (fun k_ hk_ => ⟨hk_.1.1.1, hk_.1.1.2.1, hk_.1.1.2.2⟩)); have n1_ := am (Kd.R_mono (ok' := fun k_ => some k_ ≠ (v467 : Value).ownBlock ∧ some k_ ≠ (v477 : Value).ownBlock ∧ some k_ ≠ (.slice Ao46 t480.length co46 : Value).ownBlock) (Kd.R_keptB ((Kd.R_apart' HO_16.out (Kd.R_typed HO_17.out) (by decide))) hkp (fun k_ hk_ hs_ => (hk_.2) hs_)) (fun k_ hk_ => ⟨hk_.1.1.1.1, hk_.1.1.1.2, hk_.1.1.2⟩)); have n2_ := am (Kd.R_reok rfl hy0 (fun k_ e_ => HO_17.out.1 k_ e_)); have n3_ := am (Kd.R_mono (ok' := fun k_ => some k_ ≠ (v467 : Value).ownBlock ∧ some k_ ≠ (.slice Ao24 t469.length co24 : Value).ownBlock ∧ some k_ ≠ (.slice Ao46 t480.length co46 : Value).ownBlock) (Kd.R_keptB ((Kd.R_apart' HO_18.out (Kd.R_typed HO_17.out) (by decide))) hkp (fun k_ hk_ hs_ => (hk_.2) hs_)) (fun k_ hk_ => ⟨hk_.1.1.1, hk_.1.1.2.1, hk_.1.1.2.2⟩)); have n4_ := am (Kd.R_mono (ok' := fun k_ => some k_ ≠ (v467 : Value).ownBlock ∧ some k_ ≠ (.slice Ao24 t469.length co24 : Value).ownBlock ∧ some k_ ≠ (v477 : Value).ownBlock) (Kd.R_keptB ((Kd.R_apart' HO482.out (Kd.R_typed HO_17.out) (by decide))) hkp (fun k_ hk_ hs_ => (hk_.2) hs_)) (fun k_ hk_ => ⟨hk_.1.1.1, hk_.1.1.2.1, hk_.1.1.2.2⟩)); have n5_ := am (Kd.R_mono (ok' := fun k_ => some k_ ≠ (.slice Ao25 t472.length co25 : Value).ownBlock) (Kd.R_keptB (HO486.out) hkp (fun k_ hk_ hs_ => (hk_) hs_)) (fun k_ hk_ => hk_.1)); have n6_ := am (hb); clear HO_14; clear HO_16; clear HO_17; clear HO_18; clear HO482; clear HO486; clear HB; have HO_14 := n0_; have HO_16 := n1_; have HO_17 := n2_; have HO_18 := n3_; have HO482 := n4_; have HO486 := n5_; have HB := n6_; clear n0_ n1_ n2_ n3_ n4_ n5_ n6_; (try clear hb); (try clear hkp); (try clear hy0)))
        (try simp only [Act.put, List.setIfInBounds_toArray, List.set_cons_zero, List.set_cons_succ])
        go_cut [96] (fun v96 wc => ∃ (kq : Nat) (x96_43 : Bool), v96 = .bool x96_43 ∧ Aside0 (laws_FnExactEditByHandle.j1 kq l0 l1 a2 a3 a4 a5 t465 t466 t475 x96_43 = some r) ∧ Aside0 (kq ≤ kj15) ∧ Aside0 (Kd.R k59 59 wc w.heap.size (fun k_ => some k_ ≠ (v477 : Value).ownBlock) v467 t465) ∧ Aside0 (Kd.R k59 59 wc w.heap.size (fun k_ => some k_ ≠ (v467 : Value).ownBlock) v477 t475) ∧ Aside0 (Below w.heap.size w wc))
        case first =>
         have H := HC44.out
         clear HC44
         by_cases c52 : t490 < 0
         ·rw [if_pos c52] at H
          have c52b0 : decide (t490 < 0) = true := decide_eq_true c52
          clear c52
          (first | rw [c52b0] | (simp only [i64_w, i32_w]; rw [c52b0]) | skip)
          have H' := am H
          clear H
          go_wp2
          go_meet
          case rel => exact ⟨_, (true), (by first | rfl | (simp; done) | (simp [*]; done)), H', ⟨by have := HJ15.out; first | omega | exact Nat.le_refl _⟩, ⟨by (with_reducible repeat (first | apply Kd.R_alloc | apply Kd.R_drewN | apply Kd.R_drew)); exact Kd.R_mono HO_14.out (fun _ hk => hk.2.1)⟩, ⟨by (with_reducible repeat (first | apply Kd.R_alloc | apply Kd.R_drewN | apply Kd.R_drew)); exact Kd.R_mono HO_18.out (fun _ hk => hk.1)⟩, ⟨bU HB.out⟩⟩
         ·rw [if_neg c52] at H
          have c52b0 : decide (t490 < 0) = false := decide_eq_false c52
          clear c52
          (first | rw [c52b0] | (simp only [i64_w, i32_w]; rw [c52b0]) | skip)
          replace H := Option.bind_eq_some_iff.mp H
          obtain ⟨t492, A530, H⟩ := H
          replace H : (if t492 = true then (laws_FnExactEditByHandle.j1 kj15 l0 l1 a2 a3 a4 a5 t465 t466 t475 (t476 != t466)) else (laws_FnExactEditByHandle.j1 kj15 l0 l1 a2 a3 a4 a5 t465 t466 t475 true)) = some r := H
          have A53 := am A530
          clear A530
          by_cases c54 : t492 = true
          ·subst c54
           have H1 : (laws_FnExactEditByHandle.j1 kj15 l0 l1 a2 a3 a4 a5 t465 t466 t475 (t476 != t466)) = some r := by rw [if_pos rfl] at H; exact H
           clear H
           have H := H1
           clear H1
           have H' := am H
           clear H
           obtain ⟨Ao55, co55, eo55⟩ := Kd.R_slice HO_18.out
           subst eo55
           obtain ⟨Ao56, co56, eo56⟩ := Kd.R_slice HO_14.out
           subst eo56
           go_wp2_with (first | (go_at_call 19; (with_reducible refine (laws_eqNodeS.calls kj15 _ _ t475 _ _ t465 true _ ?side1 ?side2 ?side3 ?side4 A53.out).mono ?_); (case side1 => exact cU (Kd.R_reads' HO_18.out).2.2); (case side2 => exact (Kd.R_reads' HO_18.out).2.1); (case side3 => exact cU (Kd.R_reads' HO_14.out).2.2); (case side4 => exact (Kd.R_reads' HO_14.out).2.1); rintro e w57 ⟨rfl, hb⟩; have n0_ := am (Kd.R_below (rU HO_14.out) hb); have n1_ := am (Kd.R_below (rU HO_16.out) hb); have n2_ := am (Kd.R_below (rU HO_17.out) hb); have n3_ := am (Kd.R_below (rU HO_18.out) hb); have n4_ := am (Kd.R_below (rU HO482.out) hb); have n5_ := am (Kd.R_below (rU HO486.out) hb); have n6_ := am (below_step (bU HB.out) hb); clear HO_14; clear HO_16; clear HO_17; clear HO_18; clear HO482; clear HO486; clear HB; have HO_14 := n0_; have HO_16 := n1_; have HO_17 := n2_; have HO_18 := n3_; have HO482 := n4_; have HO486 := n5_; have HB := n6_; clear n0_ n1_ n2_ n3_ n4_ n5_ n6_; (try clear hb); (try clear hb2); (try clear hk); (try clear hi)))
           go_meet
           case rel => exact ⟨_, ((t476 != t466)), (by first | rfl | (simp; done) | (simp [*]; done)), H', ⟨by have := HJ15.out; first | omega | exact Nat.le_refl _⟩, ⟨by (with_reducible repeat (first | apply Kd.R_alloc | apply Kd.R_drewN | apply Kd.R_drew)); exact Kd.R_mono HO_14.out (fun _ hk => hk.2.1)⟩, ⟨by (with_reducible repeat (first | apply Kd.R_alloc | apply Kd.R_drewN | apply Kd.R_drew)); exact Kd.R_mono HO_18.out (fun _ hk => hk.1)⟩, ⟨bU HB.out⟩⟩
          ·replace c54 := Bool.eq_false_iff.mpr c54
           subst c54
           have H1 : (laws_FnExactEditByHandle.j1 kj15 l0 l1 a2 a3 a4 a5 t465 t466 t475 true) = some r := by rw [if_neg (show ¬ (false = true) by decide)] at H; exact H
           clear H
           have H := H1
           clear H1
           have H' := am H
           clear H
           obtain ⟨Ao58, co58, eo58⟩ := Kd.R_slice HO_18.out
           subst eo58
           obtain ⟨Ao59, co59, eo59⟩ := Kd.R_slice HO_14.out
           subst eo59
           go_wp2_with (first | (go_at_call 19; (with_reducible refine (laws_eqNodeS.calls kj15 _ _ t475 _ _ t465 false _ ?side1 ?side2 ?side3 ?side4 A53.out).mono ?_); (case side1 => exact cU (Kd.R_reads' HO_18.out).2.2); (case side2 => exact (Kd.R_reads' HO_18.out).2.1); (case side3 => exact cU (Kd.R_reads' HO_14.out).2.2); (case side4 => exact (Kd.R_reads' HO_14.out).2.1); rintro e w60 ⟨rfl, hb⟩; have n0_ := am (Kd.R_below (rU HO_14.out) hb); have n1_ := am (Kd.R_below (rU HO_16.out) hb); have n2_ := am (Kd.R_below (rU HO_17.out) hb); have n3_ := am (Kd.R_below (rU HO_18.out) hb); have n4_ := am (Kd.R_below (rU HO482.out) hb); have n5_ := am (Kd.R_below (rU HO486.out) hb); have n6_ := am (below_step (bU HB.out) hb); clear HO_14; clear HO_16; clear HO_17; clear HO_18; clear HO482; clear HO486; clear HB; have HO_14 := n0_; have HO_16 := n1_; have HO_17 := n2_; have HO_18 := n3_; have HO482 := n4_; have HO486 := n5_; have HB := n6_; clear n0_ n1_ n2_ n3_ n4_ n5_ n6_; (try clear hb); (try clear hb2); (try clear hk); (try clear hi)))
           go_meet
           case rel => exact ⟨_, (true), (by first | rfl | (simp; done) | (simp [*]; done)), H', ⟨by have := HJ15.out; first | omega | exact Nat.le_refl _⟩, ⟨by (with_reducible repeat (first | apply Kd.R_alloc | apply Kd.R_drewN | apply Kd.R_drew)); exact Kd.R_mono HO_14.out (fun _ hk => hk.2.1)⟩, ⟨by (with_reducible repeat (first | apply Kd.R_alloc | apply Kd.R_drewN | apply Kd.R_drew)); exact Kd.R_mono HO_18.out (fun _ hk => hk.1)⟩, ⟨bU HB.out⟩⟩
        case rest =>
         clear HC44
         try clear c1
         try clear c2
         try clear p2
         try clear c3
         try clear c4
         try clear c5
         try clear c7
         try clear c7b0
         try clear c7b1
         try clear c9
         try clear c9b0
         try clear c14
         try clear c16
         try clear c19
         try clear c20
         try clear c28
         try clear c31
         try clear c33
         try clear c34
         try clear c35
         try clear c36
         try clear c38
         try clear c41
         try clear c52
         try clear c52b0
         try clear c54
         try clear p2
         obtain ⟨kq, x96_43, rfl, HA, HJ43, HO_14, HO_18, HB⟩ := hcut
         cases kq with
         | zero => exact absurd HA.out (by simp [laws_FnExactEditByHandle.j1])
         | succ kj43 =>
          have H := HA.out
          clear HA
          simp only [laws_FnExactEditByHandle.j1] at H
          by_cases c61 : x96_43 = true
          ·subst c61
           have H1 : (some false) = some r := by rw [if_pos rfl] at H; exact H
           clear H
           have H := H1
           clear H1
           obtain rfl := Option.some.inj H
           go_wp2
           go_ret
           exact ⟨eU, bU HB.out⟩
          ·replace c61 := Bool.eq_false_iff.mpr c61
           subst c61
           have H1 : ((laws_markNodeS.f kj43 t475 1).bind fun bt493 => ((laws_heldNodeS.f kj43 bt493.2 1).bind fun t495 => (if t495 < 0 then (some false) else (if t495 = bt493.1 then ((laws_toNodeS.f kj43 l0).bind fun t496 => ((laws_toIntS.f kj43 l1).bind fun t499 => ((impl_EditByHandle.f kj43 t496 t499 a2 a3 a4 a5).bind fun bt502 => ((laws_eqNodeS.f kj43 bt502.1 t465).bind fun t506 => (if t506 = true then (laws_FnExactEditByHandle.j2 kj43 bt493.2 bt493.1 (bt502.2 != t466)) else (laws_FnExactEditByHandle.j2 kj43 bt493.2 bt493.1 true)))))) else (some false))))) = some r := by rw [if_neg (show ¬ (false = true) by decide)] at H; exact H
           clear H
           have H := H1
           clear H1
           replace H := Option.bind_eq_some_iff.mp H
           obtain ⟨⟨t493, t494⟩, A620, H⟩ := H
           replace H : ((laws_heldNodeS.f kj43 t494 1).bind fun t495 => (if t495 < 0 then (some false) else (if t495 = t493 then ((laws_toNodeS.f kj43 l0).bind fun t496 => ((laws_toIntS.f kj43 l1).bind fun t499 => ((impl_EditByHandle.f kj43 t496 t499 a2 a3 a4 a5).bind fun bt502 => ((laws_eqNodeS.f kj43 bt502.1 t465).bind fun t506 => (if t506 = true then (laws_FnExactEditByHandle.j2 kj43 t494 t493 (bt502.2 != t466)) else (laws_FnExactEditByHandle.j2 kj43 t494 t493 true)))))) else (some false)))) = some r := H
           have A62 := am A620
           clear A620
           replace H := Option.bind_eq_some_iff.mp H
           obtain ⟨t495, A630, H⟩ := H
           replace H : (if t495 < 0 then (some false) else (if t495 = t493 then ((laws_toNodeS.f kj43 l0).bind fun t496 => ((laws_toIntS.f kj43 l1).bind fun t499 => ((impl_EditByHandle.f kj43 t496 t499 a2 a3 a4 a5).bind fun bt502 => ((laws_eqNodeS.f kj43 bt502.1 t465).bind fun t506 => (if t506 = true then (laws_FnExactEditByHandle.j2 kj43 t494 t493 (bt502.2 != t466)) else (laws_FnExactEditByHandle.j2 kj43 t494 t493 true)))))) else (some false))) = some r := H
           have A63 := am A630
           clear A630
           by_cases c64 : t495 < 0
           ·rw [if_pos c64] at H
            have c64b0 : decide (t495 < 0) = true := decide_eq_true c64
            clear c64
            obtain rfl := Option.some.inj H
            obtain ⟨Ao65, co65, eo65⟩ := Kd.R_slice HO_18.out
            subst eo65
            go_wp2_with (first | ((with_reducible refine gate_callee (f := 20) rfl ?_); refine goesL_ (some 99) rfl rfl Try.func20 (by kernel_rfl) rfl #[.slice Ao65 t475.length co65, .int .i64 1] rfl mU ?_; (with_reducible refine (laws_markNodeS.calls kj43 (fun k_ => some k_ = (.slice Ao65 t475.length co65 : Value).ownBlock) (.slice Ao65 t475.length co65) t475 1 t493 t494 w _ ?side1 ?side2 A62.out).mono ?_); (case side1 => exact bU HB.out); (case side2 => exact Kd.R_tight rfl HO_18.out); rintro e w66 ⟨rfl, hy0, hb, hkp⟩; refine ⟨_, rfl, ?_⟩; have n0_ := am (Kd.R_mono (ok' := fun k_ => some k_ ≠ (.slice Ao65 t475.length co65 : Value).ownBlock) (Kd.R_keptB (HO_14.out) hkp (fun k_ hk_ hs_ => (hk_) hs_)) (fun k_ hk_ => hk_.1)); have n1_ := am (Kd.R_reok rfl hy0 (fun k_ e_ => HO_18.out.1 k_ e_)); have n2_ := am (hb); clear HO_14; clear HO_18; clear HB; have HO_14 := n0_; have HO_18 := n1_; have HB := n2_; clear n0_ n1_ n2_; (try clear hb); (try clear hkp); (try clear hy0)) | ((with_reducible refine gate_callee (f := 21) rfl ?_); refine goesL_ (some 102) rfl rfl Try.func21 (by kernel_rfl) rfl #[.slice Ao65 t494.length co65, .int .i64 1] rfl (by (try simp only [List.map_toArray, List.map_cons, List.map_nil]); first | done | (rw [show t494.length = t475.length from (Kd.R_reads' HO_18.out).1.symm] <;> rfl) | rfl | (simp only [List.length_drop, List.length_take]; rfl)) ?_; (with_reducible refine (laws_heldNodeS.calls kj43 _ _ t494 1 t495 _ ?side1 ?side2 A63.out).mono ?_); (case side1 => exact cU (Kd.R_reads' HO_18.out).2.2); (case side2 => rw [show t494.length = t475.length from (Kd.R_reads' HO_18.out).1.symm]; exact (Kd.R_reads' HO_18.out).2.1); rintro e w' ⟨rfl, ⟨nd, rfl⟩⟩; refine ⟨_, rfl, ?_⟩))
            go_ret
            exact ⟨eU, bU HB.out⟩
           ·rw [if_neg c64] at H
            have c64b0 : decide (t495 < 0) = false := decide_eq_false c64
            clear c64
            by_cases c67 : t495 = t493
            ·rw [if_pos c67] at H
             have c67b0 : (t495 == t493) = true := beq_iff_eq.mpr c67
             have c67b1 : (t495 != t493) = false := bne_eq_false_iff_eq.mpr c67
             clear c67
             replace H := Option.bind_eq_some_iff.mp H
             obtain ⟨t496, A680, H⟩ := H
             replace H : ((laws_toIntS.f kj43 l1).bind fun t499 => ((impl_EditByHandle.f kj43 t496 t499 a2 a3 a4 a5).bind fun bt502 => ((laws_eqNodeS.f kj43 bt502.1 t465).bind fun t506 => (if t506 = true then (laws_FnExactEditByHandle.j2 kj43 t494 t493 (bt502.2 != t466)) else (laws_FnExactEditByHandle.j2 kj43 t494 t493 true))))) = some r := H
             have A68 := am A680
             clear A680
             replace H := Option.bind_eq_some_iff.mp H
             obtain ⟨t499, A690, H⟩ := H
             replace H : ((impl_EditByHandle.f kj43 t496 t499 a2 a3 a4 a5).bind fun bt502 => ((laws_eqNodeS.f kj43 bt502.1 t465).bind fun t506 => (if t506 = true then (laws_FnExactEditByHandle.j2 kj43 t494 t493 (bt502.2 != t466)) else (laws_FnExactEditByHandle.j2 kj43 t494 t493 true)))) = some r := H
             have A69 := am A690
             clear A690
             replace H := Option.bind_eq_some_iff.mp H
             obtain ⟨⟨t502, t503⟩, A700, H⟩ := H
             replace H : ((laws_eqNodeS.f kj43 t502 t465).bind fun t506 => (if t506 = true then (laws_FnExactEditByHandle.j2 kj43 t494 t493 (t503 != t466)) else (laws_FnExactEditByHandle.j2 kj43 t494 t493 true))) = some r := H
             have A70 := am A700
             clear A700
             have HC71 := am H
             clear H
             obtain ⟨Ao72, co72, eo72⟩ := Kd.R_slice HO_18.out
             subst eo72
             go_upto_region 31 with (first | ((with_reducible refine gate_callee (f := 20) rfl ?_); refine goesL_ (some 99) rfl rfl Try.func20 (by kernel_rfl) rfl #[.slice Ao72 t475.length co72, .int .i64 1] rfl mU ?_; (with_reducible refine (laws_markNodeS.calls kj43 (fun k_ => some k_ = (.slice Ao72 t475.length co72 : Value).ownBlock) (.slice Ao72 t475.length co72) t475 1 t493 t494 w _ ?side1 ?side2 A62.out).mono ?_); (case side1 => exact bU HB.out); (case side2 => exact Kd.R_tight rfl HO_18.out); rintro e w73 ⟨rfl, hy0, hb, hkp⟩; refine ⟨_, rfl, ?_⟩; have n0_ := am (Kd.R_mono (ok' := fun k_ => some k_ ≠ (.slice Ao72 t475.length co72 : Value).ownBlock) (Kd.R_keptB (HO_14.out) hkp (fun k_ hk_ hs_ => (hk_) hs_)) (fun k_ hk_ => hk_.1)); have n1_ := am (Kd.R_reok rfl hy0 (fun k_ e_ => HO_18.out.1 k_ e_)); have n2_ := am (hb); clear HO_14; clear HO_18; clear HB; have HO_14 := n0_; have HO_18 := n1_; have HB := n2_; clear n0_ n1_ n2_; (try clear hb); (try clear hkp); (try clear hy0)) | ((with_reducible refine gate_callee (f := 21) rfl ?_); refine goesL_ (some 102) rfl rfl Try.func21 (by kernel_rfl) rfl #[.slice Ao72 t494.length co72, .int .i64 1] rfl (by (try simp only [List.map_toArray, List.map_cons, List.map_nil]); first | done | (rw [show t494.length = t475.length from (Kd.R_reads' HO_18.out).1.symm] <;> rfl) | rfl | (simp only [List.length_drop, List.length_take]; rfl)) ?_; (with_reducible refine (laws_heldNodeS.calls kj43 _ _ t494 1 t495 _ ?side1 ?side2 A63.out).mono ?_); (case side1 => exact cU (Kd.R_reads' HO_18.out).2.2); (case side2 => rw [show t494.length = t475.length from (Kd.R_reads' HO_18.out).1.symm]; exact (Kd.R_reads' HO_18.out).2.1); rintro e w' ⟨rfl, ⟨nd, rfl⟩⟩; refine ⟨_, rfl, ?_⟩) | ((with_reducible refine gate_callee (f := 16) rfl ?_); refine goesL_ (some 110) rfl rfl Try.func16 (by kernel_rfl) rfl #[.slice A0 l0.length c0] rfl mU ?_; (with_reducible refine (laws_toNodeS.calls kj43 _ _ l0 t496 _ ?side1 ?side2 A68.out).mono ?_); (case side1 => repeat (first | exact (Kd.C_below HR0.out (bU HB.out)) | (with_reducible refine Kd.C_alloc ?_ _) | (with_reducible refine Kd.C_drewN ?_ _) | (with_reducible refine Kd.C_drew ?_))); (case side2 => exact HC0.out); rintro e w74 ⟨v497, rfl, ho0, hb⟩; refine ⟨_, rfl, ?_⟩; have n0_ := am (Kd.R_elder' (rU HO_14.out) (Kd.R_base ho0) hb); have n1_ := am (Kd.R_elder' (rU HO_18.out) (Kd.R_base ho0) hb); have n2_ := am (Kd.R_lower (Kd.R_new' (Kd.R_new' ho0 (Kd.R_lt (rU HO_14.out))) (Kd.R_lt (rU HO_18.out))) (below_size (bU HB.out))); have n3_ := am (below_step (bU HB.out) hb); clear HO_14; clear HO_18; clear HB; have HO_14 := n0_; have HO_18 := n1_; have HO498 := n2_; have HB := n3_; clear n0_ n1_ n2_ n3_; (try clear hb); (try clear hb2); (try clear hk); (try clear hi); (try clear ho0)) | ((with_reducible refine gate_callee (f := 31) rfl ?_); refine goesL_ (some 112) rfl rfl Try.func31 (by kernel_rfl) rfl #[.slice A1 l1.length c1] rfl mU ?_; (with_reducible refine (laws_toIntS.calls kj43 _ _ l1 t499 _ ?side1 ?side2 A69.out).mono ?_); (case side1 => exact cU (Kd.C_below HR1.out HB.out)); (case side2 => exact HC1.out); rintro e w75 ⟨v500, rfl, ho0, hb⟩; refine ⟨_, rfl, ?_⟩; have n0_ := am (Kd.R_below (rU HO_14.out) hb); have n1_ := am (Kd.R_below (rU HO_18.out) hb); have n2_ := am (Kd.R_below (rU HO498.out) hb); have n3_ := am (Kd.R_lower ho0 (below_size (bU HB.out))); have n4_ := am (below_step (bU HB.out) hb); clear HO_14; clear HO_18; clear HO498; clear HB; have HO_14 := n0_; have HO_18 := n1_; have HO498 := n2_; have HO501 := n3_; have HB := n4_; clear n0_ n1_ n2_ n3_ n4_; (try clear hb); (try clear hb2); (try clear hk); (try clear hi); (try clear ho0); obtain ⟨Ao76, co76, eo76⟩ := Kd.R_slice HO498.out; subst eo76; obtain ⟨Ao77, co77, eo77⟩ := Kd.R_slice HO501.out; subst eo77) | ((with_reducible refine gate_callee (f := 36) rfl ?_); refine goesL_ (some 117) rfl rfl Try.func36 (by kernel_rfl) rfl #[.slice Ao76 t496.length co76, .slice Ao77 t499.length co77, .int .i64 a2, .int .i64 a3, .int .i64 a4, .int .i64 a5] rfl mU ?_; (with_reducible refine (impl_EditByHandle.calls kj43 _ _ t496 _ _ t499 a2 a3 a4 a5 t502 t503 _ ?side1 ?side2 ?side3 ?side4 A70.out).mono ?_); (case side1 => exact cU (Kd.R_reads' HO498.out).2.2); (case side2 => exact (Kd.R_reads' HO498.out).2.1); (case side3 => exact cU (Kd.R_reads' HO501.out).2.2); (case side4 => exact (Kd.R_reads' HO501.out).2.1); rintro e w78 ⟨v504, rfl, ho0, hb⟩; refine ⟨_, rfl, ?_⟩; have n0_ := am (Kd.R_elder' (rU HO_14.out) (Kd.R_base ho0) hb); have n1_ := am (Kd.R_elder' (rU HO_18.out) (Kd.R_base ho0) hb); have n2_ := am (Kd.R_elder' (rU HO498.out) (Kd.R_base ho0) hb); have n3_ := am (Kd.R_below (rU HO501.out) hb); have n4_ := am (Kd.R_lower (Kd.R_new' (Kd.R_new' (Kd.R_new' ho0 (Kd.R_lt (rU HO_14.out))) (Kd.R_lt (rU HO_18.out))) (Kd.R_lt (rU HO498.out))) (below_size (bU HB.out))); have n5_ := am (below_step (bU HB.out) hb); clear HO_14; clear HO_18; clear HO498; clear HO501; clear HB; have HO_14 := n0_; have HO_18 := n1_; have HO498 := n2_; have HO501 := n3_; have HO505 := n4_; have HB := n5_; clear n0_ n1_ n2_ n3_ n4_ n5_; (try clear hb); (try clear hb2); (try clear hk); (try clear hi); (try clear ho0)))
             (try simp only [Act.put, List.setIfInBounds_toArray, List.set_cons_zero, List.set_cons_succ])
             go_cut [128] (fun v128 wc => ∃ (kq : Nat) (x128_70 : Bool), v128 = .bool x128_70 ∧ Aside0 (laws_FnExactEditByHandle.j2 kq t494 t493 x128_70 = some r) ∧ Aside0 (kq ≤ kj43) ∧ Aside0 (Kd.R k59 59 wc w.heap.size (fun _ => True) (.slice Ao72 t475.length co72) t494) ∧ Aside0 (Below w.heap.size w wc))
             case first =>
              have H := HC71.out
              clear HC71
              replace H := Option.bind_eq_some_iff.mp H
              obtain ⟨t506, A790, H⟩ := H
              replace H : (if t506 = true then (laws_FnExactEditByHandle.j2 kj43 t494 t493 (t503 != t466)) else (laws_FnExactEditByHandle.j2 kj43 t494 t493 true)) = some r := H
              have A79 := am A790
              clear A790
              by_cases c80 : t506 = true
              ·subst c80
               have H1 : (laws_FnExactEditByHandle.j2 kj43 t494 t493 (t503 != t466)) = some r := by rw [if_pos rfl] at H; exact H
               clear H
               have H := H1
               clear H1
               have H' := am H
               clear H
               obtain ⟨Ao81, co81, eo81⟩ := Kd.R_slice HO505.out
               subst eo81
               obtain ⟨Ao82, co82, eo82⟩ := Kd.R_slice HO_14.out
               subst eo82
               go_wp2_with (first | ((with_reducible refine gate_callee (f := 19) rfl ?_); refine goesL_ (some 122) rfl rfl Try.func19 (by kernel_rfl) rfl #[.slice Ao81 t502.length co81, .slice Ao82 t465.length co82] rfl mU ?_; (with_reducible refine (laws_eqNodeS.calls kj43 _ _ t502 _ _ t465 true _ ?side1 ?side2 ?side3 ?side4 A79.out).mono ?_); (case side1 => exact cU (Kd.R_reads' HO505.out).2.2); (case side2 => exact (Kd.R_reads' HO505.out).2.1); (case side3 => exact cU (Kd.R_reads' HO_14.out).2.2); (case side4 => exact (Kd.R_reads' HO_14.out).2.1); rintro e w83 ⟨rfl, hb⟩; refine ⟨_, rfl, ?_⟩; have n0_ := am (Kd.R_below (rU HO_14.out) hb); have n1_ := am (Kd.R_below (rU HO_18.out) hb); have n2_ := am (Kd.R_below (rU HO498.out) hb); have n3_ := am (Kd.R_below (rU HO501.out) hb); have n4_ := am (Kd.R_below (rU HO505.out) hb); have n5_ := am (below_step (bU HB.out) hb); clear HO_14; clear HO_18; clear HO498; clear HO501; clear HO505; clear HB; have HO_14 := n0_; have HO_18 := n1_; have HO498 := n2_; have HO501 := n3_; have HO505 := n4_; have HB := n5_; clear n0_ n1_ n2_ n3_ n4_ n5_; (try clear hb); (try clear hb2); (try clear hk); (try clear hi)))
               go_meet
               case rel => exact ⟨_, ((t503 != t466)), (by first | rfl | (simp; done) | (simp [*]; done)), H', ⟨by have := HJ15.out; have := HJ43.out; first | omega | exact Nat.le_refl _⟩, ⟨by (with_reducible repeat (first | apply Kd.R_alloc | apply Kd.R_drewN | apply Kd.R_drew)); exact Kd.R_mono HO_18.out (fun _ hk => trivial)⟩, ⟨bU HB.out⟩⟩
              ·replace c80 := Bool.eq_false_iff.mpr c80
               subst c80
               have H1 : (laws_FnExactEditByHandle.j2 kj43 t494 t493 true) = some r := by rw [if_neg (show ¬ (false = true) by decide)] at H; exact H
               clear H
               have H := H1
               clear H1
               have H' := am H
               clear H
               obtain ⟨Ao84, co84, eo84⟩ := Kd.R_slice HO505.out
               subst eo84
               obtain ⟨Ao85, co85, eo85⟩ := Kd.R_slice HO_14.out
               subst eo85
               go_wp2_with (first | ((with_reducible refine gate_callee (f := 19) rfl ?_); refine goesL_ (some 122) rfl rfl Try.func19 (by kernel_rfl) rfl #[.slice Ao84 t502.length co84, .slice Ao85 t465.length co85] rfl mU ?_; (with_reducible refine (laws_eqNodeS.calls kj43 _ _ t502 _ _ t465 false _ ?side1 ?side2 ?side3 ?side4 A79.out).mono ?_); (case side1 => exact cU (Kd.R_reads' HO505.out).2.2); (case side2 => exact (Kd.R_reads' HO505.out).2.1); (case side3 => exact cU (Kd.R_reads' HO_14.out).2.2); (case side4 => exact (Kd.R_reads' HO_14.out).2.1); rintro e w86 ⟨rfl, hb⟩; refine ⟨_, rfl, ?_⟩; have n0_ := am (Kd.R_below (rU HO_14.out) hb); have n1_ := am (Kd.R_below (rU HO_18.out) hb); have n2_ := am (Kd.R_below (rU HO498.out) hb); have n3_ := am (Kd.R_below (rU HO501.out) hb); have n4_ := am (Kd.R_below (rU HO505.out) hb); have n5_ := am (below_step (bU HB.out) hb); clear HO_14; clear HO_18; clear HO498; clear HO501; clear HO505; clear HB; have HO_14 := n0_; have HO_18 := n1_; have HO498 := n2_; have HO501 := n3_; have HO505 := n4_; have HB := n5_; clear n0_ n1_ n2_ n3_ n4_ n5_; (try clear hb); (try clear hb2); (try clear hk); (try clear hi)))
               go_meet
               case rel => exact ⟨_, (true), (by first | rfl | (simp; done) | (simp [*]; done)), H', ⟨by have := HJ15.out; have := HJ43.out; first | omega | exact Nat.le_refl _⟩, ⟨by (with_reducible repeat (first | apply Kd.R_alloc | apply Kd.R_drewN | apply Kd.R_drew)); exact Kd.R_mono HO_18.out (fun _ hk => trivial)⟩, ⟨bU HB.out⟩⟩
             case rest =>
              clear HC71
              try clear c1
              try clear c2
              try clear p2
              try clear c3
              try clear c4
              try clear c5
              try clear c6
              try clear c7
              try clear c7b0
              try clear c7b1
              try clear c8
              try clear c9
              try clear c9b0
              try clear c14
              try clear c16
              try clear c19
              try clear c20
              try clear c21
              try clear c28
              try clear c31
              try clear c33
              try clear c34
              try clear c35
              try clear c36
              try clear c38
              try clear c41
              try clear c52
              try clear c52b0
              try clear c54
              try clear c61
              try clear c64
              try clear c64b0
              try clear c67
              try clear c67b0
              try clear c67b1
              try clear c80
              try clear p2
              obtain ⟨kq, x128_70, rfl, HA, HJ70, HO_18, HB⟩ := hcut
              have hl18_70 := (Kd.R_reads' HO_18.out).1
              rw [hl18_70] at HO_18
              (try simp only [hl18_70])
              cases kq with
              | zero => exact absurd HA.out (by simp [laws_FnExactEditByHandle.j2])
              | succ kj70 =>
               have H := HA.out
               clear HA
               simp only [laws_FnExactEditByHandle.j2] at H
               by_cases c87 : x128_70 = true
               ·subst c87
                have H1 : (some false) = some r := by rw [if_pos rfl] at H; exact H
                clear H
                have H := H1
                clear H1
                obtain rfl := Option.some.inj H
                go_wp2
                go_ret
                exact ⟨eU, bU HB.out⟩
               ·replace c87 := Bool.eq_false_iff.mpr c87
                subst c87
                have H1 : ((laws_heldNodeS.f kj70 t494 1).bind fun t507 => (if t507 < 0 then (some false) else (if t507 = t493 then (some true) else (some false)))) = some r := by rw [if_neg (show ¬ (false = true) by decide)] at H; exact H
                clear H
                have H := H1
                clear H1
                replace H := Option.bind_eq_some_iff.mp H
                obtain ⟨t507, A880, H⟩ := H
                replace H : (if t507 < 0 then (some false) else (if t507 = t493 then (some true) else (some false))) = some r := H
                have A88 := am A880
                clear A880
                by_cases c89 : t507 < 0
                ·rw [if_pos c89] at H
                 have c89b0 : decide (t507 < 0) = true := decide_eq_true c89
                 clear c89
                 obtain rfl := Option.some.inj H
                 go_wp2_with (first | ((with_reducible refine gate_callee (f := 21) rfl ?_); refine goesL_ (some 131) rfl rfl Try.func21 (by kernel_rfl) rfl #[.slice Ao72 t494.length co72, .int .i64 1] rfl mU ?_; (with_reducible refine (laws_heldNodeS.calls kj70 _ _ t494 1 t507 _ ?side1 ?side2 A88.out).mono ?_); (case side1 => exact cU (Kd.R_reads' HO_18.out).2.2); (case side2 => exact (Kd.R_reads' HO_18.out).2.1); rintro e w' ⟨rfl, ⟨nd, rfl⟩⟩; refine ⟨_, rfl, ?_⟩))
                 go_ret
                 exact ⟨eU, bU HB.out⟩
                ·rw [if_neg c89] at H
                 have c89b0 : decide (t507 < 0) = false := decide_eq_false c89
                 clear c89
                 by_cases c90 : t507 = t493
                 ·rw [if_pos c90] at H
                  have c90b0 : (t507 == t493) = true := beq_iff_eq.mpr c90
                  have c90b1 : (t507 != t493) = false := bne_eq_false_iff_eq.mpr c90
                  clear c90
                  obtain rfl := Option.some.inj H
                  go_wp2_with (first | ((with_reducible refine gate_callee (f := 21) rfl ?_); refine goesL_ (some 131) rfl rfl Try.func21 (by kernel_rfl) rfl #[.slice Ao72 t494.length co72, .int .i64 1] rfl mU ?_; (with_reducible refine (laws_heldNodeS.calls kj70 _ _ t494 1 t507 _ ?side1 ?side2 A88.out).mono ?_); (case side1 => exact cU (Kd.R_reads' HO_18.out).2.2); (case side2 => exact (Kd.R_reads' HO_18.out).2.1); rintro e w' ⟨rfl, ⟨nd, rfl⟩⟩; refine ⟨_, rfl, ?_⟩))
                  go_ret
                  exact ⟨eU, bU HB.out⟩
                 ·rw [if_neg c90] at H
                  have c90b0 : (t507 == t493) = false := beq_eq_false_iff_ne.mpr c90
                  have c90b1 : (t507 != t493) = true := bne_iff_ne.mpr c90
                  obtain rfl := Option.some.inj H
                  go_wp2_with (first | ((with_reducible refine gate_callee (f := 21) rfl ?_); refine goesL_ (some 131) rfl rfl Try.func21 (by kernel_rfl) rfl #[.slice Ao72 t494.length co72, .int .i64 1] rfl mU ?_; (with_reducible refine (laws_heldNodeS.calls kj70 _ _ t494 1 t507 _ ?side1 ?side2 A88.out).mono ?_); (case side1 => exact cU (Kd.R_reads' HO_18.out).2.2); (case side2 => exact (Kd.R_reads' HO_18.out).2.1); rintro e w' ⟨rfl, ⟨nd, rfl⟩⟩; refine ⟨_, rfl, ?_⟩))
                  go_ret
                  exact ⟨eU, bU HB.out⟩
            ·rw [if_neg c67] at H
             have c67b0 : (t495 == t493) = false := beq_eq_false_iff_ne.mpr c67
             have c67b1 : (t495 != t493) = true := bne_iff_ne.mpr c67
             obtain rfl := Option.some.inj H
             obtain ⟨Ao91, co91, eo91⟩ := Kd.R_slice HO_18.out
             subst eo91
             go_wp2_with (first | ((with_reducible refine gate_callee (f := 20) rfl ?_); refine goesL_ (some 99) rfl rfl Try.func20 (by kernel_rfl) rfl #[.slice Ao91 t475.length co91, .int .i64 1] rfl mU ?_; (with_reducible refine (laws_markNodeS.calls kj43 (fun k_ => some k_ = (.slice Ao91 t475.length co91 : Value).ownBlock) (.slice Ao91 t475.length co91) t475 1 t493 t494 w _ ?side1 ?side2 A62.out).mono ?_); (case side1 => exact bU HB.out); (case side2 => exact Kd.R_tight rfl HO_18.out); rintro e w92 ⟨rfl, hy0, hb, hkp⟩; refine ⟨_, rfl, ?_⟩; have n0_ := am (Kd.R_mono (ok' := fun k_ => some k_ ≠ (.slice Ao91 t475.length co91 : Value).ownBlock) (Kd.R_keptB (HO_14.out) hkp (fun k_ hk_ hs_ => (hk_) hs_)) (fun k_ hk_ => hk_.1)); have n1_ := am (Kd.R_reok rfl hy0 (fun k_ e_ => HO_18.out.1 k_ e_)); have n2_ := am (hb); clear HO_14; clear HO_18; clear HB; have HO_14 := n0_; have HO_18 := n1_; have HB := n2_; clear n0_ n1_ n2_; (try clear hb); (try clear hkp); (try clear hy0)) | ((with_reducible refine gate_callee (f := 21) rfl ?_); refine goesL_ (some 102) rfl rfl Try.func21 (by kernel_rfl) rfl #[.slice Ao91 t494.length co91, .int .i64 1] rfl (by (try simp only [List.map_toArray, List.map_cons, List.map_nil]); first | done | (rw [show t494.length = t475.length from (Kd.R_reads' HO_18.out).1.symm] <;> rfl) | rfl | (simp only [List.length_drop, List.length_take]; rfl)) ?_; (with_reducible refine (laws_heldNodeS.calls kj43 _ _ t494 1 t495 _ ?side1 ?side2 A63.out).mono ?_); (case side1 => exact cU (Kd.R_reads' HO_18.out).2.2); (case side2 => rw [show t494.length = t475.length from (Kd.R_reads' HO_18.out).1.symm]; exact (Kd.R_reads' HO_18.out).2.1); rintro e w' ⟨rfl, ⟨nd, rfl⟩⟩; refine ⟨_, rfl, ?_⟩))
             go_ret
             exact ⟨eU, bU HB.out⟩
       ·replace c41 := Bool.eq_false_iff.mpr c41
        subst c41
        have H1 : (some false) = some r := by rw [if_neg (show ¬ (false = true) by decide)] at H; exact H
        clear H
        have H := H1
        clear H1
        obtain rfl := Option.some.inj H
        go_wp2_with (first | ((with_reducible refine gate_callee (f := 16) rfl ?_); refine goesL_ (some 70) rfl rfl Try.func16 (by kernel_rfl) rfl #[.slice A0 l0.length c0] rfl mU ?_; (with_reducible refine (laws_toNodeS.calls kj15 _ _ l0 t480 _ ?side1 ?side2 A36.out).mono ?_); (case side1 => exact cU (Kd.C_below HR0.out HB.out)); (case side2 => exact HC0.out); rintro e w93 ⟨v481, rfl, ho0, hb⟩; refine ⟨_, rfl, ?_⟩; have n0_ := am (Kd.R_elder' (rU HO_14.out) (Kd.R_base ho0) hb); have n1_ := am (Kd.R_elder' (rU HO_16.out) (Kd.R_base ho0) hb); have n2_ := am (Kd.R_below (rU HO_17.out) hb); have n3_ := am (Kd.R_elder' (rU HO_18.out) (Kd.R_base ho0) hb); have n4_ := am (Kd.R_lower (Kd.R_new' (Kd.R_new' (Kd.R_new' ho0 (Kd.R_lt (rU HO_14.out))) (Kd.R_lt (rU HO_16.out))) (Kd.R_lt (rU HO_18.out))) (below_size (bU HB.out))); have n5_ := am (below_step (bU HB.out) hb); clear HO_14; clear HO_16; clear HO_17; clear HO_18; clear HB; have HO_14 := n0_; have HO_16 := n1_; have HO_17 := n2_; have HO_18 := n3_; have HO482 := n4_; have HB := n5_; clear n0_ n1_ n2_ n3_ n4_ n5_; (try clear hb); (try clear hb2); (try clear hk); (try clear hi); (try clear ho0); obtain ⟨Ao94, co94, eo94⟩ := Kd.R_slice HO482.out; subst eo94) | ((with_reducible refine gate_callee (f := 19) rfl ?_); refine goesL_ (some 71) rfl rfl Try.func19 (by kernel_rfl) rfl #[.slice Ao24 t469.length co24, .slice Ao94 t480.length co94] rfl mU ?_; (with_reducible refine (laws_eqNodeS.calls kj15 _ _ t469 _ _ t480 true _ ?side1 ?side2 ?side3 ?side4 A37.out).mono ?_); (case side1 => exact cU (Kd.R_reads' HO_16.out).2.2); (case side2 => exact (Kd.R_reads' HO_16.out).2.1); (case side3 => exact cU (Kd.R_reads' HO482.out).2.2); (case side4 => exact (Kd.R_reads' HO482.out).2.1); rintro e w95 ⟨rfl, hb⟩; refine ⟨_, rfl, ?_⟩; have n0_ := am (Kd.R_below (rU HO_14.out) hb); have n1_ := am (Kd.R_below (rU HO_16.out) hb); have n2_ := am (Kd.R_below (rU HO_17.out) hb); have n3_ := am (Kd.R_below (rU HO_18.out) hb); have n4_ := am (Kd.R_below (rU HO482.out) hb); have n5_ := am (below_step (bU HB.out) hb); clear HO_14; clear HO_16; clear HO_17; clear HO_18; clear HO482; clear HB; have HO_14 := n0_; have HO_16 := n1_; have HO_17 := n2_; have HO_18 := n3_; have HO482 := n4_; have HB := n5_; clear n0_ n1_ n2_ n3_ n4_ n5_; (try clear hb); (try clear hb2); (try clear hk); (try clear hi)) | ((with_reducible refine gate_callee (f := 31) rfl ?_); refine goesL_ (some 75) rfl rfl Try.func31 (by kernel_rfl) rfl #[.slice A1 l1.length c1] rfl mU ?_; (with_reducible refine (laws_toIntS.calls kj15 _ _ l1 t484 _ ?side1 ?side2 A39.out).mono ?_); (case side1 => exact cU (Kd.C_below HR1.out HB.out)); (case side2 => exact HC1.out); rintro e w96 ⟨v485, rfl, ho0, hb⟩; refine ⟨_, rfl, ?_⟩; have n0_ := am (Kd.R_below (rU HO_14.out) hb); have n1_ := am (Kd.R_below (rU HO_16.out) hb); have n2_ := am (Kd.R_elder' (rU HO_17.out) (Kd.R_base ho0) hb); have n3_ := am (Kd.R_below (rU HO_18.out) hb); have n4_ := am (Kd.R_below (rU HO482.out) hb); have n5_ := am (Kd.R_lower (Kd.R_new' ho0 (Kd.R_lt (rU HO_17.out))) (below_size (bU HB.out))); have n6_ := am (below_step (bU HB.out) hb); clear HO_14; clear HO_16; clear HO_17; clear HO_18; clear HO482; clear HB; have HO_14 := n0_; have HO_16 := n1_; have HO_17 := n2_; have HO_18 := n3_; have HO482 := n4_; have HO486 := n5_; have HB := n6_; clear n0_ n1_ n2_ n3_ n4_ n5_ n6_; (try clear hb); (try clear hb2); (try clear hk); (try clear hi); (try clear ho0); obtain ⟨Ao97, co97, eo97⟩ := Kd.R_slice HO486.out; subst eo97) | ((with_reducible refine gate_callee (f := 33) rfl ?_); refine goesL_ (some 76) rfl rfl Try.func33 (by kernel_rfl) rfl #[.slice Ao25 t472.length co25, .slice Ao97 t484.length co97] rfl mU ?_; (with_reducible refine (laws_eqIntS.calls kj15 _ _ t472 _ _ t484 false _ ?side1 ?side2 ?side3 ?side4 A40.out).mono ?_); (case side1 => exact cU (Kd.R_reads' HO_17.out).2.2); (case side2 => exact (Kd.R_reads' HO_17.out).2.1); (case side3 => exact cU (Kd.R_reads' HO486.out).2.2); (case side4 => exact (Kd.R_reads' HO486.out).2.1); rintro e w' ⟨rfl, ⟨nd, rfl⟩⟩; refine ⟨_, rfl, ?_⟩))
        go_ret
        exact ⟨eU, bU HB.out⟩
      ·replace c38 := Bool.eq_false_iff.mpr c38
       subst c38
       have H1 : (some false) = some r := by rw [if_neg (show ¬ (false = true) by decide)] at H; exact H
       clear H
       have H := H1
       clear H1
       obtain rfl := Option.some.inj H
       go_wp2_with (first | ((with_reducible refine gate_callee (f := 16) rfl ?_); refine goesL_ (some 70) rfl rfl Try.func16 (by kernel_rfl) rfl #[.slice A0 l0.length c0] rfl mU ?_; (with_reducible refine (laws_toNodeS.calls kj15 _ _ l0 t480 _ ?side1 ?side2 A36.out).mono ?_); (case side1 => exact cU (Kd.C_below HR0.out HB.out)); (case side2 => exact HC0.out); rintro e w98 ⟨v481, rfl, ho0, hb⟩; refine ⟨_, rfl, ?_⟩; have n0_ := am (Kd.R_elder' (rU HO_14.out) (Kd.R_base ho0) hb); have n1_ := am (Kd.R_elder' (rU HO_16.out) (Kd.R_base ho0) hb); have n2_ := am (Kd.R_below (rU HO_17.out) hb); have n3_ := am (Kd.R_elder' (rU HO_18.out) (Kd.R_base ho0) hb); have n4_ := am (Kd.R_lower (Kd.R_new' (Kd.R_new' (Kd.R_new' ho0 (Kd.R_lt (rU HO_14.out))) (Kd.R_lt (rU HO_16.out))) (Kd.R_lt (rU HO_18.out))) (below_size (bU HB.out))); have n5_ := am (below_step (bU HB.out) hb); clear HO_14; clear HO_16; clear HO_17; clear HO_18; clear HB; have HO_14 := n0_; have HO_16 := n1_; have HO_17 := n2_; have HO_18 := n3_; have HO482 := n4_; have HB := n5_; clear n0_ n1_ n2_ n3_ n4_ n5_; (try clear hb); (try clear hb2); (try clear hk); (try clear hi); (try clear ho0); obtain ⟨Ao99, co99, eo99⟩ := Kd.R_slice HO482.out; subst eo99) | ((with_reducible refine gate_callee (f := 19) rfl ?_); refine goesL_ (some 71) rfl rfl Try.func19 (by kernel_rfl) rfl #[.slice Ao24 t469.length co24, .slice Ao99 t480.length co99] rfl mU ?_; (with_reducible refine (laws_eqNodeS.calls kj15 _ _ t469 _ _ t480 false _ ?side1 ?side2 ?side3 ?side4 A37.out).mono ?_); (case side1 => exact cU (Kd.R_reads' HO_16.out).2.2); (case side2 => exact (Kd.R_reads' HO_16.out).2.1); (case side3 => exact cU (Kd.R_reads' HO482.out).2.2); (case side4 => exact (Kd.R_reads' HO482.out).2.1); rintro e w100 ⟨rfl, hb⟩; refine ⟨_, rfl, ?_⟩; have n0_ := am (Kd.R_below (rU HO_14.out) hb); have n1_ := am (Kd.R_below (rU HO_16.out) hb); have n2_ := am (Kd.R_below (rU HO_17.out) hb); have n3_ := am (Kd.R_below (rU HO_18.out) hb); have n4_ := am (Kd.R_below (rU HO482.out) hb); have n5_ := am (below_step (bU HB.out) hb); clear HO_14; clear HO_16; clear HO_17; clear HO_18; clear HO482; clear HB; have HO_14 := n0_; have HO_16 := n1_; have HO_17 := n2_; have HO_18 := n3_; have HO482 := n4_; have HB := n5_; clear n0_ n1_ n2_ n3_ n4_ n5_; (try clear hb); (try clear hb2); (try clear hk); (try clear hi)))
       go_ret
       exact ⟨eU, bU HB.out⟩
end Go.Proofs.Ytiiibfpijmmbfaa.QFnExactEditByHandle
