import Derived.Test.YtiiibfpijmmbfaaUp
import Derived.Test.YtiiibfpijmmbfaaQFnHandlesx0
import Derived.Test.YtiiibfpijmmbfaaQFnHandlesx12
namespace Go.Proofs.Ytiiibfpijmmbfaa.QFnHandles
open Go.RowKit Go.Proofs.YtiiibfpijmmbfaaW.PrintWords Go.Proofs.YtiiibfpijmmbfaaW.PrintLast Go.Proofs.YtiiibfpijmmbfaaW.PrintMore
attribute [local go_sem] max2_int min2_int max_two min_two max_three min_three max_four min_four
set_option linter.unusedVariables false
set_option linter.unusedSimpArgs false
mutual
def spec_IsDocument.j0 : Nat → List (S59) → Bool → Option (Bool)
 | 0, _, _ => none
 | k + 1, x0, x21 => if x21 = true then (some false) else (spec_IsDocument.l0 k x0 0)
def spec_IsDocument.l0 : Nat → List (S59) → Int → Option (Bool)
 | 0, _, _ => none
 | k + 1, x0, x3 => if x3 < (x0.length : Int) then (if x3 > 0 then (if 0 ≤ (wrap64 (x3 - 1)) then (if (wrap64 (x3 - 1)) < (x0.length : Int) then (if 0 ≤ x3 then (if ((rd_T59 x0 (wrap64 (x3 - 1))).f0) ≥ ((rd_T59 x0 x3).f0) then (spec_IsDocument.j2 k x0 x3 true) else (if x3 ≤ (x0.length : Int) then ((spec_NodeOf.f k (x0.take (x3 : Int).toNat) ((rd_T59 x0 x3).f1)).bind fun t478 => (spec_IsDocument.j2 k x0 x3 (decide (t478 < 0)))) else (none))) else (none)) else (none)) else (none)) else (spec_IsDocument.j2 k x0 x3 false)) else (some true)
def spec_IsDocument.j2 : Nat → List (S59) → Int → Bool → Option (Bool)
 | 0, _, _, _ => none
 | k + 1, x0, x3, x55 => if x55 = true then (some false) else (if 0 ≤ x3 then (if x3 < (x0.length : Int) then ((spec_l1In.f ((rd_T59 x0 x3).f2) 0 9).bind fun t480 => (if t480 = true then ((spec_l1In.f ((rd_T59 x0 x3).f3) 0 999).bind fun t482 => (if t482 = true then ((spec_l1In.f ((rd_T59 x0 x3).f4) 0 5).bind fun t484 => (if t484 = true then (spec_IsDocument.l0 k x0 (wrap64 (x3 + 1))) else (some false))) else (some false))) else (some false))) else (none)) else (none))
end
def spec_IsDocument.f (k : Nat) (l0 : List (S59)) : Option (Bool) := (spec_l1In.f (l0.length : Int) 1 16).bind fun t468 => (if t468 = true then (if 0 < (l0.length : Int) then (if ((rd_T59 l0 0).f0) = 0 then (spec_IsDocument.j0 k l0 (((rd_T59 l0 0).f1) != (-1))) else (spec_IsDocument.j0 k l0 true)) else (none)) else (spec_IsDocument.j0 k l0 true))
theorem spec_IsDocument.mono_l : ∀ k, (∀ y0 y1, LeO (spec_IsDocument.j0 k y0 y1) (spec_IsDocument.j0 (k + 1) y0 y1)) ∧ (∀ y0 y1, LeO (spec_IsDocument.l0 k y0 y1) (spec_IsDocument.l0 (k + 1) y0 y1)) ∧ (∀ y0 y1 y2, LeO (spec_IsDocument.j2 k y0 y1 y2) (spec_IsDocument.j2 (k + 1) y0 y1 y2))
 | 0 => ⟨fun _ _ r h => by simp [spec_IsDocument.j0] at h, fun _ _ r h => by simp [spec_IsDocument.l0] at h, fun _ _ _ r h => by simp [spec_IsDocument.j2] at h⟩
 | k + 1 => by
  obtain ⟨ih0, ih1, ih2⟩ := spec_IsDocument.mono_l k
  refine ⟨?_, ?_, ?_⟩
  ·intro y0 y1
   unfold spec_IsDocument.j0
   repeat' first
   | (with_reducible exact ih0 _ _)
   | (with_reducible exact ih1 _ _)
   | (with_reducible exact ih2 _ _ _)
   | (with_reducible exact spec_NodeOf.mono _ _ _)
   | (with_reducible exact LeO.refl _)
   | (with_reducible exact LeO.none _)
   | (with_reducible refine LeO.ite ?_ ?_)
   | (with_reducible refine LeO.bind ?_ (fun _ => ?_))
   | exact ih0 _ _
   | exact ih1 _ _
   | exact ih2 _ _ _
   | exact spec_NodeOf.mono _ _ _
   | exact LeO.none _
   | refine LeO.ite ?_ ?_
   | refine LeO.bind ?_ (fun _ => ?_)
  ·intro y0 y1
   unfold spec_IsDocument.l0
   repeat' first
   | (with_reducible exact ih0 _ _)
   | (with_reducible exact ih1 _ _)
   | (with_reducible exact ih2 _ _ _)
   | (with_reducible exact spec_NodeOf.mono _ _ _)
   | (with_reducible exact LeO.refl _)
   | (with_reducible exact LeO.none _)
   | (with_reducible refine LeO.ite ?_ ?_)
   | (with_reducible refine LeO.bind ?_ (fun _ => ?_))
   | exact ih0 _ _
   | exact ih1 _ _
   | exact ih2 _ _ _
   | exact spec_NodeOf.mono _ _ _
   | exact LeO.none _
   | refine LeO.ite ?_ ?_
   | refine LeO.bind ?_ (fun _ => ?_)
  ·intro y0 y1 y2
   unfold spec_IsDocument.j2
   repeat' first
   | (with_reducible exact ih0 _ _)
   | (with_reducible exact ih1 _ _)
   | (with_reducible exact ih2 _ _ _)
   | (with_reducible exact spec_NodeOf.mono _ _ _)
   | (with_reducible exact LeO.refl _)
   | (with_reducible exact LeO.none _)
   | (with_reducible refine LeO.ite ?_ ?_)
   | (with_reducible refine LeO.bind ?_ (fun _ => ?_))
   | exact ih0 _ _
   | exact ih1 _ _
   | exact ih2 _ _ _
   | exact spec_NodeOf.mono _ _ _
   | exact LeO.none _
   | refine LeO.ite ?_ ?_
   | refine LeO.bind ?_ (fun _ => ?_)
theorem spec_IsDocument.mono : ∀ a0 k, LeO (spec_IsDocument.f k a0) (spec_IsDocument.f (k + 1) a0) := by
 intro a0 k
 obtain ⟨ih0, ih1, ih2⟩ := spec_IsDocument.mono_l k
 unfold spec_IsDocument.f
 repeat' first
   | (with_reducible exact ih0 _ _)
   | (with_reducible exact ih1 _ _)
   | (with_reducible exact ih2 _ _ _)
   | (with_reducible exact spec_NodeOf.mono _ _ _)
   | (with_reducible exact LeO.refl _)
   | (with_reducible exact LeO.none _)
   | (with_reducible refine LeO.ite ?_ ?_)
   | (with_reducible refine LeO.bind ?_ (fun _ => ?_))
   | exact ih0 _ _
   | exact ih1 _ _
   | exact ih2 _ _ _
   | exact spec_NodeOf.mono _ _ _
   | exact LeO.none _
   | refine LeO.ite ?_ ?_
   | refine LeO.bind ?_ (fun _ => ?_)
set_option maxHeartbeats 8000000 in
set_option maxRecDepth 100000 in
theorem spec_IsDocument.calls (k : Nat) (A0 : Option Addr) (c0 : Nat) (l0 : List (S59)) (r : Bool) (w : World) (hr0 : Kd.C k59 w A0 l0.length l0) (hc0 : l0.length ≤ c0) (h : spec_IsDocument.f k l0 = some r) :
  Calls Try.prog 64 #[.slice A0 l0.length c0] w fun e w' => e = .returned (.bool r) ∧ Drawn0 w w' := by
 have HR0 := am hr0
 have HC0 := am hc0
 clear hr0 hc0
 have H : ((spec_l1In.f (l0.length : Int) 1 16).bind fun t468 => (if t468 = true then (if 0 < (l0.length : Int) then (if ((rd_T59 l0 0).f0) = 0 then (spec_IsDocument.j0 k l0 (((rd_T59 l0 0).f1) != (-1))) else (spec_IsDocument.j0 k l0 true)) else (none)) else (spec_IsDocument.j0 k l0 true))) = some r := h
 clear h
 have HC2 := am H
 clear H
 go_enter Try.func64, Try.ntmps64
 go_upto_region 1 with (fail)
 repeat (go_quiet (fail); go_upto_region 1 with (fail))
 go_cut [21] (fun v21 wc => ∃ (kq : Nat) (x21_1 : Bool), v21 = .bool x21_1 ∧ Aside0 (spec_IsDocument.j0 kq l0 x21_1 = some r) ∧ Aside0 (kq ≤ k) ∧ Drawn0 w wc)
 case first =>
  have H := HC2.out
  clear HC2
  replace H := Option.bind_eq_some_iff.mp H
  obtain ⟨t468, A30, H⟩ := H
  replace H : (if t468 = true then (if 0 < (l0.length : Int) then (if ((rd_T59 l0 0).f0) = 0 then (spec_IsDocument.j0 k l0 (((rd_T59 l0 0).f1) != (-1))) else (spec_IsDocument.j0 k l0 true)) else (none)) else (spec_IsDocument.j0 k l0 true)) = some r := H
  have A3 := am A30
  clear A30
  by_cases c4 : t468 = true
  ·subst c4
   have H1 : (if 0 < (l0.length : Int) then (if ((rd_T59 l0 0).f0) = 0 then (spec_IsDocument.j0 k l0 (((rd_T59 l0 0).f1) != (-1))) else (spec_IsDocument.j0 k l0 true)) else (none)) = some r := by rw [if_pos rfl] at H; exact H
   clear H
   have H := H1
   clear H1
   by_cases c5 : 0 < (l0.length : Int)
   ·rw [if_pos c5] at H
    have c5b0 : decide (0 < (l0.length : Int)) = true := decide_eq_true c5
    have c5b1 : decide (0 < l0.length) = true := decide_eq_true (by omega)
    clear c5
    (first | rw [c5b0] | (simp only [i64_w, i32_w]; rw [c5b0]) | skip)
    by_cases c6 : ((rd_T59 l0 0).f0) = 0
    ·rw [if_pos c6] at H
     have c6b0 : (((rd_T59 l0 0).f0) == 0) = true := beq_iff_eq.mpr c6
     have c6b1 : (((rd_T59 l0 0).f0) != 0) = false := bne_eq_false_iff_eq.mpr c6
     clear c6
     have H' := am H
     clear H
     go_wp2_with (first | (go_at_call 102; (with_reducible refine (spec_l1In.calls (l0.length : Int) 1 16 true _ A3.out).mono ?_); rintro e w' ⟨rfl, ⟨nd, rfl⟩⟩; (try first | exact ⟨rfl, _, World.drewN_drewN _ _ _⟩ | exact ⟨rfl, _, Eq.trans (World.drewN_drewN _ _ _) (congrArg (World.drewN _) (Nat.add_assoc _ _ _))⟩); have p469 : 0 ≤ (0 : Int) := (by omega); have q469 : 0 < (l0.length : Int) := dU; obtain ⟨ad469, e469, hx469_0, hx469_1, hx469_2, hx469_3, hx469_4⟩ := at_T59 HR0.out 0 p469 q469; cases e469; have qi469 : (0 < l0.length) = True := eq_true (by omega); (try rw [show ((0 : Int)).toNat = 0 from rfl] at hx469_0); (try rw [show 0 * 5 = 0 from rfl] at hx469_0); (try rw [Addr.add_zero'] at hx469_0); (try rw [show ((0 : Int)).toNat = 0 from rfl] at hx469_1); (try rw [show 0 * 5 = 0 from rfl] at hx469_1); (try rw [Addr.add_zero'] at hx469_1); (try rw [show ((0 : Int)).toNat = 0 from rfl] at hx469_2); (try rw [show 0 * 5 = 0 from rfl] at hx469_2); (try rw [Addr.add_zero'] at hx469_2); (try rw [show ((0 : Int)).toNat = 0 from rfl] at hx469_3); (try rw [show 0 * 5 = 0 from rfl] at hx469_3); (try rw [Addr.add_zero'] at hx469_3); (try rw [show ((0 : Int)).toNat = 0 from rfl] at hx469_4); (try rw [show 0 * 5 = 0 from rfl] at hx469_4); (try rw [Addr.add_zero'] at hx469_4); replace p469 := eq_true p469; replace q469 := eq_true q469; have p470 : 0 ≤ (0 : Int) := (by omega); have q470 : 0 < (l0.length : Int) := dU; obtain ⟨ad470, e470, hx470_0, hx470_1, hx470_2, hx470_3, hx470_4⟩ := at_T59 HR0.out 0 p470 q470; obtain rfl : ad469 = ad470 := (by injection e470); have qi470 : (0 < l0.length) = True := eq_true (by omega); (try rw [show ((0 : Int)).toNat = 0 from rfl] at hx470_0); (try rw [show 0 * 5 = 0 from rfl] at hx470_0); (try rw [Addr.add_zero'] at hx470_0); (try rw [show ((0 : Int)).toNat = 0 from rfl] at hx470_1); (try rw [show 0 * 5 = 0 from rfl] at hx470_1); (try rw [Addr.add_zero'] at hx470_1); (try rw [show ((0 : Int)).toNat = 0 from rfl] at hx470_2); (try rw [show 0 * 5 = 0 from rfl] at hx470_2); (try rw [Addr.add_zero'] at hx470_2); (try rw [show ((0 : Int)).toNat = 0 from rfl] at hx470_3); (try rw [show 0 * 5 = 0 from rfl] at hx470_3); (try rw [Addr.add_zero'] at hx470_3); (try rw [show ((0 : Int)).toNat = 0 from rfl] at hx470_4); (try rw [show 0 * 5 = 0 from rfl] at hx470_4); (try rw [Addr.add_zero'] at hx470_4); replace p470 := eq_true p470; replace q470 := eq_true q470))
     repeat (go_quiet (first | (go_at_call 102; (with_reducible refine (spec_l1In.calls (l0.length : Int) 1 16 true _ A3.out).mono ?_); rintro e w' ⟨rfl, ⟨nd, rfl⟩⟩; (try first | exact ⟨rfl, _, World.drewN_drewN _ _ _⟩ | exact ⟨rfl, _, Eq.trans (World.drewN_drewN _ _ _) (congrArg (World.drewN _) (Nat.add_assoc _ _ _))⟩); have p469 : 0 ≤ (0 : Int) := (by omega); have q469 : 0 < (l0.length : Int) := dU; obtain ⟨ad469, e469, hx469_0, hx469_1, hx469_2, hx469_3, hx469_4⟩ := at_T59 HR0.out 0 p469 q469; cases e469; have qi469 : (0 < l0.length) = True := eq_true (by omega); (try rw [show ((0 : Int)).toNat = 0 from rfl] at hx469_0); (try rw [show 0 * 5 = 0 from rfl] at hx469_0); (try rw [Addr.add_zero'] at hx469_0); (try rw [show ((0 : Int)).toNat = 0 from rfl] at hx469_1); (try rw [show 0 * 5 = 0 from rfl] at hx469_1); (try rw [Addr.add_zero'] at hx469_1); (try rw [show ((0 : Int)).toNat = 0 from rfl] at hx469_2); (try rw [show 0 * 5 = 0 from rfl] at hx469_2); (try rw [Addr.add_zero'] at hx469_2); (try rw [show ((0 : Int)).toNat = 0 from rfl] at hx469_3); (try rw [show 0 * 5 = 0 from rfl] at hx469_3); (try rw [Addr.add_zero'] at hx469_3); (try rw [show ((0 : Int)).toNat = 0 from rfl] at hx469_4); (try rw [show 0 * 5 = 0 from rfl] at hx469_4); (try rw [Addr.add_zero'] at hx469_4); replace p469 := eq_true p469; replace q469 := eq_true q469; have p470 : 0 ≤ (0 : Int) := (by omega); have q470 : 0 < (l0.length : Int) := dU; obtain ⟨ad470, e470, hx470_0, hx470_1, hx470_2, hx470_3, hx470_4⟩ := at_T59 HR0.out 0 p470 q470; obtain rfl : ad469 = ad470 := (by injection e470); have qi470 : (0 < l0.length) = True := eq_true (by omega); (try rw [show ((0 : Int)).toNat = 0 from rfl] at hx470_0); (try rw [show 0 * 5 = 0 from rfl] at hx470_0); (try rw [Addr.add_zero'] at hx470_0); (try rw [show ((0 : Int)).toNat = 0 from rfl] at hx470_1); (try rw [show 0 * 5 = 0 from rfl] at hx470_1); (try rw [Addr.add_zero'] at hx470_1); (try rw [show ((0 : Int)).toNat = 0 from rfl] at hx470_2); (try rw [show 0 * 5 = 0 from rfl] at hx470_2); (try rw [Addr.add_zero'] at hx470_2); (try rw [show ((0 : Int)).toNat = 0 from rfl] at hx470_3); (try rw [show 0 * 5 = 0 from rfl] at hx470_3); (try rw [Addr.add_zero'] at hx470_3); (try rw [show ((0 : Int)).toNat = 0 from rfl] at hx470_4); (try rw [show 0 * 5 = 0 from rfl] at hx470_4); (try rw [Addr.add_zero'] at hx470_4); replace p470 := eq_true p470; replace q470 := eq_true q470)); try go_wp2_with (first | (go_at_call 102; (with_reducible refine (spec_l1In.calls (l0.length : Int) 1 16 true _ A3.out).mono ?_); rintro e w' ⟨rfl, ⟨nd, rfl⟩⟩; (try first | exact ⟨rfl, _, World.drewN_drewN _ _ _⟩ | exact ⟨rfl, _, Eq.trans (World.drewN_drewN _ _ _) (congrArg (World.drewN _) (Nat.add_assoc _ _ _))⟩); have p469 : 0 ≤ (0 : Int) := (by omega); have q469 : 0 < (l0.length : Int) := dU; obtain ⟨ad469, e469, hx469_0, hx469_1, hx469_2, hx469_3, hx469_4⟩ := at_T59 HR0.out 0 p469 q469; cases e469; have qi469 : (0 < l0.length) = True := eq_true (by omega); (try rw [show ((0 : Int)).toNat = 0 from rfl] at hx469_0); (try rw [show 0 * 5 = 0 from rfl] at hx469_0); (try rw [Addr.add_zero'] at hx469_0); (try rw [show ((0 : Int)).toNat = 0 from rfl] at hx469_1); (try rw [show 0 * 5 = 0 from rfl] at hx469_1); (try rw [Addr.add_zero'] at hx469_1); (try rw [show ((0 : Int)).toNat = 0 from rfl] at hx469_2); (try rw [show 0 * 5 = 0 from rfl] at hx469_2); (try rw [Addr.add_zero'] at hx469_2); (try rw [show ((0 : Int)).toNat = 0 from rfl] at hx469_3); (try rw [show 0 * 5 = 0 from rfl] at hx469_3); (try rw [Addr.add_zero'] at hx469_3); (try rw [show ((0 : Int)).toNat = 0 from rfl] at hx469_4); (try rw [show 0 * 5 = 0 from rfl] at hx469_4); (try rw [Addr.add_zero'] at hx469_4); replace p469 := eq_true p469; replace q469 := eq_true q469; have p470 : 0 ≤ (0 : Int) := (by omega); have q470 : 0 < (l0.length : Int) := dU; obtain ⟨ad470, e470, hx470_0, hx470_1, hx470_2, hx470_3, hx470_4⟩ := at_T59 HR0.out 0 p470 q470; obtain rfl : ad469 = ad470 := (by injection e470); have qi470 : (0 < l0.length) = True := eq_true (by omega); (try rw [show ((0 : Int)).toNat = 0 from rfl] at hx470_0); (try rw [show 0 * 5 = 0 from rfl] at hx470_0); (try rw [Addr.add_zero'] at hx470_0); (try rw [show ((0 : Int)).toNat = 0 from rfl] at hx470_1); (try rw [show 0 * 5 = 0 from rfl] at hx470_1); (try rw [Addr.add_zero'] at hx470_1); (try rw [show ((0 : Int)).toNat = 0 from rfl] at hx470_2); (try rw [show 0 * 5 = 0 from rfl] at hx470_2); (try rw [Addr.add_zero'] at hx470_2); (try rw [show ((0 : Int)).toNat = 0 from rfl] at hx470_3); (try rw [show 0 * 5 = 0 from rfl] at hx470_3); (try rw [Addr.add_zero'] at hx470_3); (try rw [show ((0 : Int)).toNat = 0 from rfl] at hx470_4); (try rw [show 0 * 5 = 0 from rfl] at hx470_4); (try rw [Addr.add_zero'] at hx470_4); replace p470 := eq_true p470; replace q470 := eq_true q470)))
     go_meet
     case rel => exact ⟨_, ((((rd_T59 l0 0).f1) != (-1))), (by first | rfl | (simp; done) | (simp [*]; done)), H', ⟨by first | omega | exact Nat.le_refl _⟩, by repeat (first | exact Drawn0.refl _ | apply Drawn0.step)⟩
    ·rw [if_neg c6] at H
     have c6b0 : (((rd_T59 l0 0).f0) == 0) = false := beq_eq_false_iff_ne.mpr c6
     have c6b1 : (((rd_T59 l0 0).f0) != 0) = true := bne_iff_ne.mpr c6
     have H' := am H
     clear H
     go_wp2_with (first | (go_at_call 102; (with_reducible refine (spec_l1In.calls (l0.length : Int) 1 16 true _ A3.out).mono ?_); rintro e w' ⟨rfl, ⟨nd, rfl⟩⟩; (try first | exact ⟨rfl, _, World.drewN_drewN _ _ _⟩ | exact ⟨rfl, _, Eq.trans (World.drewN_drewN _ _ _) (congrArg (World.drewN _) (Nat.add_assoc _ _ _))⟩); have p469 : 0 ≤ (0 : Int) := (by omega); have q469 : 0 < (l0.length : Int) := dU; obtain ⟨ad469, e469, hx469_0, hx469_1, hx469_2, hx469_3, hx469_4⟩ := at_T59 HR0.out 0 p469 q469; cases e469; have qi469 : (0 < l0.length) = True := eq_true (by omega); (try rw [show ((0 : Int)).toNat = 0 from rfl] at hx469_0); (try rw [show 0 * 5 = 0 from rfl] at hx469_0); (try rw [Addr.add_zero'] at hx469_0); (try rw [show ((0 : Int)).toNat = 0 from rfl] at hx469_1); (try rw [show 0 * 5 = 0 from rfl] at hx469_1); (try rw [Addr.add_zero'] at hx469_1); (try rw [show ((0 : Int)).toNat = 0 from rfl] at hx469_2); (try rw [show 0 * 5 = 0 from rfl] at hx469_2); (try rw [Addr.add_zero'] at hx469_2); (try rw [show ((0 : Int)).toNat = 0 from rfl] at hx469_3); (try rw [show 0 * 5 = 0 from rfl] at hx469_3); (try rw [Addr.add_zero'] at hx469_3); (try rw [show ((0 : Int)).toNat = 0 from rfl] at hx469_4); (try rw [show 0 * 5 = 0 from rfl] at hx469_4); (try rw [Addr.add_zero'] at hx469_4); replace p469 := eq_true p469; replace q469 := eq_true q469))
     repeat (go_quiet (first | (go_at_call 102; (with_reducible refine (spec_l1In.calls (l0.length : Int) 1 16 true _ A3.out).mono ?_); rintro e w' ⟨rfl, ⟨nd, rfl⟩⟩; (try first | exact ⟨rfl, _, World.drewN_drewN _ _ _⟩ | exact ⟨rfl, _, Eq.trans (World.drewN_drewN _ _ _) (congrArg (World.drewN _) (Nat.add_assoc _ _ _))⟩); have p469 : 0 ≤ (0 : Int) := (by omega); have q469 : 0 < (l0.length : Int) := dU; obtain ⟨ad469, e469, hx469_0, hx469_1, hx469_2, hx469_3, hx469_4⟩ := at_T59 HR0.out 0 p469 q469; cases e469; have qi469 : (0 < l0.length) = True := eq_true (by omega); (try rw [show ((0 : Int)).toNat = 0 from rfl] at hx469_0); (try rw [show 0 * 5 = 0 from rfl] at hx469_0); (try rw [Addr.add_zero'] at hx469_0); (try rw [show ((0 : Int)).toNat = 0 from rfl] at hx469_1); (try rw [show 0 * 5 = 0 from rfl] at hx469_1); (try rw [Addr.add_zero'] at hx469_1); (try rw [show ((0 : Int)).toNat = 0 from rfl] at hx469_2); (try rw [show 0 * 5 = 0 from rfl] at hx469_2); (try rw [Addr.add_zero'] at hx469_2); (try rw [show ((0 : Int)).toNat = 0 from rfl] at hx469_3); (try rw [show 0 * 5 = 0 from rfl] at hx469_3); (try rw [Addr.add_zero'] at hx469_3); (try rw [show ((0 : Int)).toNat = 0 from rfl] at hx469_4); (try rw [show 0 * 5 = 0 from rfl] at hx469_4); (try rw [Addr.add_zero'] at hx469_4); replace p469 := eq_true p469; replace q469 := eq_true q469)); try go_wp2_with (first | (go_at_call 102; (with_reducible refine (spec_l1In.calls (l0.length : Int) 1 16 true _ A3.out).mono ?_); rintro e w' ⟨rfl, ⟨nd, rfl⟩⟩; (try first | exact ⟨rfl, _, World.drewN_drewN _ _ _⟩ | exact ⟨rfl, _, Eq.trans (World.drewN_drewN _ _ _) (congrArg (World.drewN _) (Nat.add_assoc _ _ _))⟩); have p469 : 0 ≤ (0 : Int) := (by omega); have q469 : 0 < (l0.length : Int) := dU; obtain ⟨ad469, e469, hx469_0, hx469_1, hx469_2, hx469_3, hx469_4⟩ := at_T59 HR0.out 0 p469 q469; cases e469; have qi469 : (0 < l0.length) = True := eq_true (by omega); (try rw [show ((0 : Int)).toNat = 0 from rfl] at hx469_0); (try rw [show 0 * 5 = 0 from rfl] at hx469_0); (try rw [Addr.add_zero'] at hx469_0); (try rw [show ((0 : Int)).toNat = 0 from rfl] at hx469_1); (try rw [show 0 * 5 = 0 from rfl] at hx469_1); (try rw [Addr.add_zero'] at hx469_1); (try rw [show ((0 : Int)).toNat = 0 from rfl] at hx469_2); (try rw [show 0 * 5 = 0 from rfl] at hx469_2); (try rw [Addr.add_zero'] at hx469_2); (try rw [show ((0 : Int)).toNat = 0 from rfl] at hx469_3); (try rw [show 0 * 5 = 0 from rfl] at hx469_3); (try rw [Addr.add_zero'] at hx469_3); (try rw [show ((0 : Int)).toNat = 0 from rfl] at hx469_4); (try rw [show 0 * 5 = 0 from rfl] at hx469_4); (try rw [Addr.add_zero'] at hx469_4); replace p469 := eq_true p469; replace q469 := eq_true q469)))
     go_meet
     case rel => exact ⟨_, (true), (by first | rfl | (simp; done) | (simp [*]; done)), H', ⟨by first | omega | exact Nat.le_refl _⟩, by repeat (first | exact Drawn0.refl _ | apply Drawn0.step)⟩
   ·rw [if_neg c5] at H
    exact absurd H (by simp)
  ·replace c4 := Bool.eq_false_iff.mpr c4
   subst c4
   have H1 : (spec_IsDocument.j0 k l0 true) = some r := by rw [if_neg (show ¬ (false = true) by decide)] at H; exact H
   clear H
   have H := H1
   clear H1
   have H' := am H
   clear H
   go_wp2_with (first | (go_at_call 102; (with_reducible refine (spec_l1In.calls (l0.length : Int) 1 16 false _ A3.out).mono ?_); rintro e w' ⟨rfl, ⟨nd, rfl⟩⟩; (try first | exact ⟨rfl, _, World.drewN_drewN _ _ _⟩ | exact ⟨rfl, _, Eq.trans (World.drewN_drewN _ _ _) (congrArg (World.drewN _) (Nat.add_assoc _ _ _))⟩)))
   repeat (go_quiet (first | (go_at_call 102; (with_reducible refine (spec_l1In.calls (l0.length : Int) 1 16 false _ A3.out).mono ?_); rintro e w' ⟨rfl, ⟨nd, rfl⟩⟩; (try first | exact ⟨rfl, _, World.drewN_drewN _ _ _⟩ | exact ⟨rfl, _, Eq.trans (World.drewN_drewN _ _ _) (congrArg (World.drewN _) (Nat.add_assoc _ _ _))⟩))); try go_wp2_with (first | (go_at_call 102; (with_reducible refine (spec_l1In.calls (l0.length : Int) 1 16 false _ A3.out).mono ?_); rintro e w' ⟨rfl, ⟨nd, rfl⟩⟩; (try first | exact ⟨rfl, _, World.drewN_drewN _ _ _⟩ | exact ⟨rfl, _, Eq.trans (World.drewN_drewN _ _ _) (congrArg (World.drewN _) (Nat.add_assoc _ _ _))⟩))))
   go_meet
   case rel => exact ⟨_, (true), (by first | rfl | (simp; done) | (simp [*]; done)), H', ⟨by first | omega | exact Nat.le_refl _⟩, by repeat (first | exact Drawn0.refl _ | apply Drawn0.step)⟩
 case rest =>
  clear HC2
  try clear p2
  try clear c4
  try clear p4
  try clear q4
  try clear hx4
  try clear qi4
  try clear c5
  try clear c5b0
  try clear c5b1
  try clear c6
  try clear c6b0
  try clear c6b1
  try clear hx469_0
  try clear hx469_1
  try clear hx469_2
  try clear hx469_3
  try clear hx469_4
  try clear hx470_0
  try clear hx470_1
  try clear hx470_2
  try clear hx470_3
  try clear hx470_4
  try clear p469
  try clear p470
  try clear q469
  try clear q470
  obtain ⟨kq, x21_1, rfl, HA, HJ1, ⟨mc1, rfl⟩⟩ := hcut
  cases kq with
  | zero => exact absurd HA.out (by simp [spec_IsDocument.j0])
  | succ kj1 =>
   have H := HA.out
   clear HA
   simp only [spec_IsDocument.j0] at H
   by_cases c7 : x21_1 = true
   ·subst c7
    have H1 : (some false) = some r := by rw [if_pos rfl] at H; exact H
    clear H
    have H := H1
    clear H1
    obtain rfl := Option.some.inj H
    go_wp2
    repeat (go_quiet (fail); try go_wp2)
    go_ret
    exact ⟨by first | rfl | (simp; done) | (simp [*]; done), by repeat (first | exact Drawn0.refl _ | apply Drawn0.step)⟩
   ·replace c7 := Bool.eq_false_iff.mpr c7
    subst c7
    have H1 : (spec_IsDocument.l0 kj1 l0 0) = some r := by rw [if_neg (show ¬ (false = true) by decide)] at H; exact H
    clear H
    have H := H1
    clear H1
    have H' := am H
    clear H
    go_wp2
    repeat (go_quiet (fail); try go_wp2)
    go_loopg [3] kj1 (fun kq v3 w' => ∃ (x3_2 : Int), v3 = .int .i64 x3_2 ∧ Aside0 (spec_IsDocument.l0 kq l0 x3_2 = some r) ∧ Aside0 (kq ≤ kj1) ∧ Drawn0 w w')
    case atStart => exact ⟨(0), (by first | rfl | (simp; done) | (simp [*]; done)), H', ⟨Nat.le_refl _⟩, by repeat (first | exact Drawn0.refl _ | apply Drawn0.step)⟩
    case round =>
     clear H'
     try clear c1
     try clear p2
     try clear c4
     try clear p4
     try clear q4
     try clear hx4
     try clear qi4
     try clear c5
     try clear c5b0
     try clear c5b1
     try clear c6
     try clear c6b0
     try clear c6b1
     try clear c7
     try clear hx469_0
     try clear hx469_1
     try clear hx469_2
     try clear hx469_3
     try clear hx469_4
     try clear hx470_0
     try clear hx470_1
     try clear hx470_2
     try clear hx470_3
     try clear hx470_4
     try clear p2
     try clear p4
     try clear p469
     try clear p470
     try clear q4
     try clear q469
     try clear q470
     obtain ⟨x3_2, rfl, HA, HK2, ⟨m2, rfl⟩⟩ := hrel
     cases gk with
     | zero => exact absurd HA.out (by simp [spec_IsDocument.l0])
     | succ k2 =>
      have H := HA.out
      clear HA
      simp only [spec_IsDocument.l0] at H
      by_cases c8 : x3_2 < (l0.length : Int)
      ·rw [if_pos c8] at H
       have c8b0 : decide (x3_2 < (l0.length : Int)) = true := decide_eq_true c8
       clear c8
       have HC9 := am H
       clear H
       go_upto_region 6 with (fail)
       repeat (go_quiet (fail); go_upto_region 6 with (fail))
       go_cut [55] (fun v55 wc => ∃ (kq : Nat) (x55_8 : Bool), v55 = .bool x55_8 ∧ Aside0 (spec_IsDocument.j2 kq l0 x3_2 x55_8 = some r) ∧ Aside0 (kq ≤ k2) ∧ Drawn0 w wc)
       case first =>
        have H := HC9.out
        clear HC9
        by_cases c10 : x3_2 > 0
        ·rw [if_pos c10] at H
         have c10b0 : decide (0 < x3_2) = true := decide_eq_true c10
         clear c10
         (first | rw [c10b0] | (simp only [i64_w, i32_w]; rw [c10b0]) | skip)
         obtain ⟨ji11, hji11⟩ : ∃ j_ : Int, (wrap64 (x3_2 - 1)) = j_ := ⟨_, rfl⟩
         replace H : (if 0 ≤ (ji11) then (if (ji11) < (l0.length : Int) then (if 0 ≤ x3_2 then (if ((rd_T59 l0 (ji11)).f0) ≥ ((rd_T59 l0 x3_2).f0) then (spec_IsDocument.j2 k2 l0 x3_2 true) else (if x3_2 ≤ (l0.length : Int) then ((spec_NodeOf.f k2 (l0.take (x3_2 : Int).toNat) ((rd_T59 l0 x3_2).f1)).bind fun t478 => (spec_IsDocument.j2 k2 l0 x3_2 (decide (t478 < 0)))) else (none))) else (none)) else (none)) else (none)) = some r := by first | (rw [hji11] at H; exact H) | (simp only [hji11] at H ⊢; exact H)
         have hji11w : (IntKind.i64.wrap (x3_2 - 1)) = ji11 := (i64_w _).trans hji11
         by_cases c12 : 0 ≤ (ji11)
         ·rw [if_pos c12] at H
          have c12b0 : decide (0 ≤ (ji11)) = true := decide_eq_true c12
          clear c12
          by_cases c13 : (ji11) < (l0.length : Int)
          ·rw [if_pos c13] at H
           have c13b0 : decide ((ji11) < (l0.length : Int)) = true := decide_eq_true c13
           clear c13
           by_cases c14 : 0 ≤ x3_2
           ·rw [if_pos c14] at H
            have c14b0 : decide (0 ≤ x3_2) = true := decide_eq_true c14
            clear c14
            by_cases c15 : ((rd_T59 l0 (ji11)).f0) ≥ ((rd_T59 l0 x3_2).f0)
            ·rw [if_pos c15] at H
             have c15b0 : decide (((rd_T59 l0 x3_2).f0) ≤ ((rd_T59 l0 (ji11)).f0)) = true := decide_eq_true c15
             clear c15
             have H' := am H
             clear H
             have p471 : 0 ≤ ((ji11) : Int) := dU
             have q471 : (ji11) < (l0.length : Int) := dU
             obtain ⟨ad471, e471, hx471_0, hx471_1, hx471_2, hx471_3, hx471_4⟩ := at_T59 HR0.out (ji11) p471 q471
             cases e471
             replace p471 := eq_true p471
             replace q471 := eq_true q471
             have p472 : 0 ≤ (x3_2 : Int) := dU
             have q472 : x3_2 < (l0.length : Int) := dU
             obtain ⟨ad472, e472, hx472_0, hx472_1, hx472_2, hx472_3, hx472_4⟩ := at_T59 HR0.out x3_2 p472 q472
             obtain rfl : ad471 = ad472 := (by injection e472)
             replace p472 := eq_true p472
             replace q472 := eq_true q472
             go_wp2
             repeat (go_quiet (fail); try go_wp2)
             go_meet
             case rel => exact ⟨_, (true), (by first | rfl | (simp; done) | (simp [*]; done)), H', ⟨by have := HJ1.out; have := HK2.out; first | omega | exact Nat.le_refl _⟩, by repeat (first | exact Drawn0.refl _ | apply Drawn0.step)⟩
            ·rw [if_neg c15] at H
             have c15b0 : decide (((rd_T59 l0 x3_2).f0) ≤ ((rd_T59 l0 (ji11)).f0)) = false := decide_eq_false c15
             clear c15
             have c16b0 := eq_true (dU : 0 ≤ x3_2)
             by_cases c17 : x3_2 ≤ (l0.length : Int)
             ·rw [if_pos c17] at H
              have c17b0 := eq_true c17
              have c17b1 : decide (x3_2 ≤ (l0.length : Int)) = true := decide_eq_true c17
              clear c17
              obtain ⟨y473, hy473⟩ : ∃ y_ : List (S59), y_ = (l0.take (x3_2 : Int).toNat) := ⟨_, rfl⟩
              replace H : ((spec_NodeOf.f k2 y473 ((rd_T59 l0 x3_2).f1)).bind fun t478 => (spec_IsDocument.j2 k2 l0 x3_2 (decide (t478 < 0)))) = some r := by first | (rw [hy473]; with_reducible exact H) | (have H2_ := (Option.bind_some _ _).symm.trans H; rw [hy473]; with_reducible exact H2_) | (have H2_ := (Option.bind_some _ _).symm.trans H; with_reducible exact H2_) | with_reducible exact H | (rw [hy473]; exact H) | exact H
              have Ny473 := am hy473
              clear hy473
              replace H := Option.bind_eq_some_iff.mp H
              obtain ⟨t478, A180, H⟩ := H
              replace H : (spec_IsDocument.j2 k2 l0 x3_2 (decide (t478 < 0))) = some r := H
              have A18 := am A180
              clear A180
              have H' := am H
              clear H
              have p471 : 0 ≤ ((ji11) : Int) := dU
              have q471 : (ji11) < (l0.length : Int) := dU
              obtain ⟨ad471, e471, hx471_0, hx471_1, hx471_2, hx471_3, hx471_4⟩ := at_T59 HR0.out (ji11) p471 q471
              cases e471
              replace p471 := eq_true p471
              replace q471 := eq_true q471
              have p472 : 0 ≤ (x3_2 : Int) := dU
              have q472 : x3_2 < (l0.length : Int) := dU
              obtain ⟨ad472, e472, hx472_0, hx472_1, hx472_2, hx472_3, hx472_4⟩ := at_T59 HR0.out x3_2 p472 q472
              obtain rfl : ad471 = ad472 := (by injection e472)
              replace p472 := eq_true p472
              replace q472 := eq_true q472
              have q19 : (x3_2 : Int) ≤ ((l0.length : Int) : Int) := dU
              obtain ⟨i019, hi019, _, hsz19, _⟩ := info_parts info59
              have hroom19 : l0.length ≤ c0 := HC0.out
              have hC19 : Kd.C k59 _ (some ad471) l0.length l0 := HR0.out
              have hcut19 := cut_to (P := Try.prog) 26 59 .i64 Try.underlying26 hi019 (some ad471) l0.length c0 x3_2 (dU) q19 hroom19
              have hr19 := Kd.C_take (m := (x3_2 : Int).toNat) hC19 (by omega)
              have hy19 : y473.length = (x3_2 : Int).toNat := (by rw [Ny473.out, List.length_take]; omega)
              rw [← Ny473.out] at hr19
              rw [← hy19] at hcut19
              have HR476 := am hr19
              have HC476 := am (show y473.length ≤ c0 from by omega)
              clear hr19 hC19 hroom19 hi019 hsz19
              have KY19 := am hy19
              clear hy19
              replace q19 := eq_true q19
              have p477 : 0 ≤ (x3_2 : Int) := dU
              have q477 : x3_2 < (l0.length : Int) := dU
              obtain ⟨ad477, e477, hx477_0, hx477_1, hx477_2, hx477_3, hx477_4⟩ := at_T59 HR0.out x3_2 p477 q477
              obtain rfl : ad471 = ad477 := (by injection e477)
              replace p477 := eq_true p477
              replace q477 := eq_true q477
              go_wp2_with (first | (go_at_call 67; (with_reducible refine (spec_NodeOf.calls k2 _ _ y473 ((rd_T59 l0 x3_2).f1) t478 _ ?side1 ?side2 A18.out).mono ?_); (case side1 => exact cU HR476.out); (case side2 => exact HC476.out); rintro e w' ⟨rfl, ⟨nd, rfl⟩⟩; (try first | exact ⟨rfl, _, World.drewN_drewN _ _ _⟩ | exact ⟨rfl, _, Eq.trans (World.drewN_drewN _ _ _) (congrArg (World.drewN _) (Nat.add_assoc _ _ _))⟩)))
              repeat (go_quiet (first | (go_at_call 67; (with_reducible refine (spec_NodeOf.calls k2 _ _ y473 ((rd_T59 l0 x3_2).f1) t478 _ ?side1 ?side2 A18.out).mono ?_); (case side1 => exact cU HR476.out); (case side2 => exact HC476.out); rintro e w' ⟨rfl, ⟨nd, rfl⟩⟩; (try first | exact ⟨rfl, _, World.drewN_drewN _ _ _⟩ | exact ⟨rfl, _, Eq.trans (World.drewN_drewN _ _ _) (congrArg (World.drewN _) (Nat.add_assoc _ _ _))⟩))); try go_wp2_with (first | (go_at_call 67; (with_reducible refine (spec_NodeOf.calls k2 _ _ y473 ((rd_T59 l0 x3_2).f1) t478 _ ?side1 ?side2 A18.out).mono ?_); (case side1 => exact cU HR476.out); (case side2 => exact HC476.out); rintro e w' ⟨rfl, ⟨nd, rfl⟩⟩; (try first | exact ⟨rfl, _, World.drewN_drewN _ _ _⟩ | exact ⟨rfl, _, Eq.trans (World.drewN_drewN _ _ _) (congrArg (World.drewN _) (Nat.add_assoc _ _ _))⟩))))
              go_meet
              case rel => exact ⟨_, (decide (t478 < 0)), (by first | rfl | (simp; done) | (simp [*]; done)), H', ⟨by have := HJ1.out; have := HK2.out; first | omega | exact Nat.le_refl _⟩, by repeat (first | exact Drawn0.refl _ | apply Drawn0.step)⟩
             ·rw [if_neg c17] at H
              exact absurd H (by simp)
           ·rw [if_neg c14] at H
            exact absurd H (by simp)
          ·rw [if_neg c13] at H
           exact absurd H (by simp)
         ·rw [if_neg c12] at H
          exact absurd H (by simp)
        ·rw [if_neg c10] at H
         have c10b0 : decide (0 < x3_2) = false := decide_eq_false c10
         clear c10
         (first | rw [c10b0] | (simp only [i64_w, i32_w]; rw [c10b0]) | skip)
         have H' := am H
         clear H
         go_wp2
         repeat (go_quiet (fail); try go_wp2)
         go_meet
         case rel => exact ⟨_, (false), (by first | rfl | (simp; done) | (simp [*]; done)), H', ⟨by have := HJ1.out; have := HK2.out; first | omega | exact Nat.le_refl _⟩, by repeat (first | exact Drawn0.refl _ | apply Drawn0.step)⟩
       case rest =>
        clear HC9
        try clear c1
        try clear q1
        try clear p2
        try clear c4
        try clear p4
        try clear q4
        try clear hx4
        try clear qi4
        try clear c5
        try clear c5b0
        try clear c5b1
        try clear c6
        try clear c6b0
        try clear c6b1
        try clear p6
        try clear c7
        try clear c8
        try clear c8b0
        try clear c10
        try clear c10b0
        try clear c12
        try clear c12b0
        try clear c13
        try clear c13b0
        try clear c14
        try clear c14b0
        try clear c15
        try clear c15b0
        try clear c16
        try clear c16b0
        try clear c17
        try clear c17b0
        try clear c17b1
        try clear q19
        try clear hx469_0
        try clear hx469_1
        try clear hx469_2
        try clear hx469_3
        try clear hx469_4
        try clear hx470_0
        try clear hx470_1
        try clear hx470_2
        try clear hx470_3
        try clear hx470_4
        try clear hx471_0
        try clear hx471_1
        try clear hx471_2
        try clear hx471_3
        try clear hx471_4
        try clear hx472_0
        try clear hx472_1
        try clear hx472_2
        try clear hx472_3
        try clear hx472_4
        try clear hx477_0
        try clear hx477_1
        try clear hx477_2
        try clear hx477_3
        try clear hx477_4
        try clear p2
        try clear p4
        try clear p469
        try clear p470
        try clear p471
        try clear p472
        try clear p477
        try clear q19
        try clear q4
        try clear q469
        try clear q470
        try clear q471
        try clear q472
        try clear q477
        obtain ⟨kq, x55_8, rfl, HA, HJ8, ⟨mc8, rfl⟩⟩ := hcut
        cases kq with
        | zero => exact absurd HA.out (by simp [spec_IsDocument.j2])
        | succ kj8 =>
         have H := HA.out
         clear HA
         simp only [spec_IsDocument.j2] at H
         by_cases c20 : x55_8 = true
         ·subst c20
          have H1 : (some false) = some r := by rw [if_pos rfl] at H; exact H
          clear H
          have H := H1
          clear H1
          obtain rfl := Option.some.inj H
          go_wp2
          repeat (go_quiet (fail); try go_wp2)
          go_ret
          exact ⟨by first | rfl | (simp; done) | (simp [*]; done), by repeat (first | exact Drawn0.refl _ | apply Drawn0.step)⟩
         ·replace c20 := Bool.eq_false_iff.mpr c20
          subst c20
          have H1 : (if 0 ≤ x3_2 then (if x3_2 < (l0.length : Int) then ((spec_l1In.f ((rd_T59 l0 x3_2).f2) 0 9).bind fun t480 => (if t480 = true then ((spec_l1In.f ((rd_T59 l0 x3_2).f3) 0 999).bind fun t482 => (if t482 = true then ((spec_l1In.f ((rd_T59 l0 x3_2).f4) 0 5).bind fun t484 => (if t484 = true then (spec_IsDocument.l0 kj8 l0 (wrap64 (x3_2 + 1))) else (some false))) else (some false))) else (some false))) else (none)) else (none)) = some r := by rw [if_neg (show ¬ (false = true) by decide)] at H; exact H
          clear H
          have H := H1
          clear H1
          by_cases c21 : 0 ≤ x3_2
          ·rw [if_pos c21] at H
           have c21b0 : decide (0 ≤ x3_2) = true := decide_eq_true c21
           clear c21
           by_cases c22 : x3_2 < (l0.length : Int)
           ·rw [if_pos c22] at H
            have c22b0 : decide (x3_2 < (l0.length : Int)) = true := decide_eq_true c22
            clear c22
            replace H := Option.bind_eq_some_iff.mp H
            obtain ⟨t480, A230, H⟩ := H
            replace H : (if t480 = true then ((spec_l1In.f ((rd_T59 l0 x3_2).f3) 0 999).bind fun t482 => (if t482 = true then ((spec_l1In.f ((rd_T59 l0 x3_2).f4) 0 5).bind fun t484 => (if t484 = true then (spec_IsDocument.l0 kj8 l0 (wrap64 (x3_2 + 1))) else (some false))) else (some false))) else (some false)) = some r := H
            have A23 := am A230
            clear A230
            by_cases c24 : t480 = true
            ·subst c24
             have H1 : ((spec_l1In.f ((rd_T59 l0 x3_2).f3) 0 999).bind fun t482 => (if t482 = true then ((spec_l1In.f ((rd_T59 l0 x3_2).f4) 0 5).bind fun t484 => (if t484 = true then (spec_IsDocument.l0 kj8 l0 (wrap64 (x3_2 + 1))) else (some false))) else (some false))) = some r := by rw [if_pos rfl] at H; exact H
             clear H
             have H := H1
             clear H1
             replace H := Option.bind_eq_some_iff.mp H
             obtain ⟨t482, A250, H⟩ := H
             replace H : (if t482 = true then ((spec_l1In.f ((rd_T59 l0 x3_2).f4) 0 5).bind fun t484 => (if t484 = true then (spec_IsDocument.l0 kj8 l0 (wrap64 (x3_2 + 1))) else (some false))) else (some false)) = some r := H
             have A25 := am A250
             clear A250
             by_cases c26 : t482 = true
             ·subst c26
              have H1 : ((spec_l1In.f ((rd_T59 l0 x3_2).f4) 0 5).bind fun t484 => (if t484 = true then (spec_IsDocument.l0 kj8 l0 (wrap64 (x3_2 + 1))) else (some false))) = some r := by rw [if_pos rfl] at H; exact H
              clear H
              have H := H1
              clear H1
              replace H := Option.bind_eq_some_iff.mp H
              obtain ⟨t484, A270, H⟩ := H
              replace H : (if t484 = true then (spec_IsDocument.l0 kj8 l0 (wrap64 (x3_2 + 1))) else (some false)) = some r := H
              have A27 := am A270
              clear A270
              by_cases c28 : t484 = true
              ·subst c28
               have H1 : (spec_IsDocument.l0 kj8 l0 (wrap64 (x3_2 + 1))) = some r := by rw [if_pos rfl] at H; exact H
               clear H
               have H := H1
               clear H1
               have H' := am H
               clear H
               have p479 : 0 ≤ (x3_2 : Int) := dU
               have q479 : x3_2 < (l0.length : Int) := dU
               obtain ⟨ad479, e479, hx479_0, hx479_1, hx479_2, hx479_3, hx479_4⟩ := at_T59 HR0.out x3_2 p479 q479
               cases e479
               replace p479 := eq_true p479
               replace q479 := eq_true q479
               go_wp2_with (first | (go_at_call 102; (with_reducible refine (spec_l1In.calls ((rd_T59 l0 x3_2).f2) 0 9 true _ A23.out).mono ?_); rintro e w' ⟨rfl, ⟨nd, rfl⟩⟩; (try first | exact ⟨rfl, _, World.drewN_drewN _ _ _⟩ | exact ⟨rfl, _, Eq.trans (World.drewN_drewN _ _ _) (congrArg (World.drewN _) (Nat.add_assoc _ _ _))⟩); have p481 : 0 ≤ (x3_2 : Int) := dU; have q481 : x3_2 < (l0.length : Int) := dU; obtain ⟨ad481, e481, hx481_0, hx481_1, hx481_2, hx481_3, hx481_4⟩ := at_T59 HR0.out x3_2 p481 q481; obtain rfl : ad479 = ad481 := (by injection e481); replace p481 := eq_true p481; replace q481 := eq_true q481) | (go_at_call 102; (with_reducible refine (spec_l1In.calls ((rd_T59 l0 x3_2).f3) 0 999 true _ A25.out).mono ?_); rintro e w' ⟨rfl, ⟨nd, rfl⟩⟩; (try first | exact ⟨rfl, _, World.drewN_drewN _ _ _⟩ | exact ⟨rfl, _, Eq.trans (World.drewN_drewN _ _ _) (congrArg (World.drewN _) (Nat.add_assoc _ _ _))⟩); have p483 : 0 ≤ (x3_2 : Int) := dU; have q483 : x3_2 < (l0.length : Int) := dU; obtain ⟨ad483, e483, hx483_0, hx483_1, hx483_2, hx483_3, hx483_4⟩ := at_T59 HR0.out x3_2 p483 q483; obtain rfl : ad479 = ad483 := (by injection e483); replace p483 := eq_true p483; replace q483 := eq_true q483) | (go_at_call 102; (with_reducible refine (spec_l1In.calls ((rd_T59 l0 x3_2).f4) 0 5 true _ A27.out).mono ?_); rintro e w' ⟨rfl, ⟨nd, rfl⟩⟩; (try first | exact ⟨rfl, _, World.drewN_drewN _ _ _⟩ | exact ⟨rfl, _, Eq.trans (World.drewN_drewN _ _ _) (congrArg (World.drewN _) (Nat.add_assoc _ _ _))⟩)))
               repeat (go_quiet (first | (go_at_call 102; (with_reducible refine (spec_l1In.calls ((rd_T59 l0 x3_2).f2) 0 9 true _ A23.out).mono ?_); rintro e w' ⟨rfl, ⟨nd, rfl⟩⟩; (try first | exact ⟨rfl, _, World.drewN_drewN _ _ _⟩ | exact ⟨rfl, _, Eq.trans (World.drewN_drewN _ _ _) (congrArg (World.drewN _) (Nat.add_assoc _ _ _))⟩); have p481 : 0 ≤ (x3_2 : Int) := dU; have q481 : x3_2 < (l0.length : Int) := dU; obtain ⟨ad481, e481, hx481_0, hx481_1, hx481_2, hx481_3, hx481_4⟩ := at_T59 HR0.out x3_2 p481 q481; obtain rfl : ad479 = ad481 := (by injection e481); replace p481 := eq_true p481; replace q481 := eq_true q481) | (go_at_call 102; (with_reducible refine (spec_l1In.calls ((rd_T59 l0 x3_2).f3) 0 999 true _ A25.out).mono ?_); rintro e w' ⟨rfl, ⟨nd, rfl⟩⟩; (try first | exact ⟨rfl, _, World.drewN_drewN _ _ _⟩ | exact ⟨rfl, _, Eq.trans (World.drewN_drewN _ _ _) (congrArg (World.drewN _) (Nat.add_assoc _ _ _))⟩); have p483 : 0 ≤ (x3_2 : Int) := dU; have q483 : x3_2 < (l0.length : Int) := dU; obtain ⟨ad483, e483, hx483_0, hx483_1, hx483_2, hx483_3, hx483_4⟩ := at_T59 HR0.out x3_2 p483 q483; obtain rfl : ad479 = ad483 := (by injection e483); replace p483 := eq_true p483; replace q483 := eq_true q483) | (go_at_call 102; (with_reducible refine (spec_l1In.calls ((rd_T59 l0 x3_2).f4) 0 5 true _ A27.out).mono ?_); rintro e w' ⟨rfl, ⟨nd, rfl⟩⟩; (try first | exact ⟨rfl, _, World.drewN_drewN _ _ _⟩ | exact ⟨rfl, _, Eq.trans (World.drewN_drewN _ _ _) (congrArg (World.drewN _) (Nat.add_assoc _ _ _))⟩))); try go_wp2_with (first | (go_at_call 102; (with_reducible refine (spec_l1In.calls ((rd_T59 l0 x3_2).f2) 0 9 true _ A23.out).mono ?_); rintro e w' ⟨rfl, ⟨nd, rfl⟩⟩; (try first | exact ⟨rfl, _, World.drewN_drewN _ _ _⟩ | exact ⟨rfl, _, Eq.trans (World.drewN_drewN _ _ _) (congrArg (World.drewN _) (Nat.add_assoc _ _ _))⟩); have p481 : 0 ≤ (x3_2 : Int) := dU; have q481 : x3_2 < (l0.length : Int) := dU; obtain ⟨ad481, e481, hx481_0, hx481_1, hx481_2, hx481_3, hx481_4⟩ := at_T59 HR0.out x3_2 p481 q481; obtain rfl : ad479 = ad481 := (by injection e481); replace p481 := eq_true p481; replace q481 := eq_true q481) | (go_at_call 102; (with_reducible refine (spec_l1In.calls ((rd_T59 l0 x3_2).f3) 0 999 true _ A25.out).mono ?_); rintro e w' ⟨rfl, ⟨nd, rfl⟩⟩; (try first | exact ⟨rfl, _, World.drewN_drewN _ _ _⟩ | exact ⟨rfl, _, Eq.trans (World.drewN_drewN _ _ _) (congrArg (World.drewN _) (Nat.add_assoc _ _ _))⟩); have p483 : 0 ≤ (x3_2 : Int) := dU; have q483 : x3_2 < (l0.length : Int) := dU; obtain ⟨ad483, e483, hx483_0, hx483_1, hx483_2, hx483_3, hx483_4⟩ := at_T59 HR0.out x3_2 p483 q483; obtain rfl : ad479 = ad483 := (by injection e483); replace p483 := eq_true p483; replace q483 := eq_true q483) | (go_at_call 102; (with_reducible refine (spec_l1In.calls ((rd_T59 l0 x3_2).f4) 0 5 true _ A27.out).mono ?_); rintro e w' ⟨rfl, ⟨nd, rfl⟩⟩; (try first | exact ⟨rfl, _, World.drewN_drewN _ _ _⟩ | exact ⟨rfl, _, Eq.trans (World.drewN_drewN _ _ _) (congrArg (World.drewN _) (Nat.add_assoc _ _ _))⟩))))
               go_roundg kj8
               case measure => have := HJ1.out; have := HK2.out; have := HJ8.out; omega
               case rel => exact ⟨(wrap64 (x3_2 + 1)), (by first | rfl | (simp; done) | (simp [*]; done)), H', ⟨by have := HJ1.out; have := HK2.out; have := HJ8.out; omega⟩, by repeat (first | exact Drawn0.refl _ | apply Drawn0.step)⟩
              ·replace c28 := Bool.eq_false_iff.mpr c28
               subst c28
               have H1 : (some false) = some r := by rw [if_neg (show ¬ (false = true) by decide)] at H; exact H
               clear H
               have H := H1
               clear H1
               obtain rfl := Option.some.inj H
               have p479 : 0 ≤ (x3_2 : Int) := dU
               have q479 : x3_2 < (l0.length : Int) := dU
               obtain ⟨ad479, e479, hx479_0, hx479_1, hx479_2, hx479_3, hx479_4⟩ := at_T59 HR0.out x3_2 p479 q479
               cases e479
               replace p479 := eq_true p479
               replace q479 := eq_true q479
               go_wp2_with (first | (go_at_call 102; (with_reducible refine (spec_l1In.calls ((rd_T59 l0 x3_2).f2) 0 9 true _ A23.out).mono ?_); rintro e w' ⟨rfl, ⟨nd, rfl⟩⟩; (try first | exact ⟨rfl, _, World.drewN_drewN _ _ _⟩ | exact ⟨rfl, _, Eq.trans (World.drewN_drewN _ _ _) (congrArg (World.drewN _) (Nat.add_assoc _ _ _))⟩); have p481 : 0 ≤ (x3_2 : Int) := dU; have q481 : x3_2 < (l0.length : Int) := dU; obtain ⟨ad481, e481, hx481_0, hx481_1, hx481_2, hx481_3, hx481_4⟩ := at_T59 HR0.out x3_2 p481 q481; obtain rfl : ad479 = ad481 := (by injection e481); replace p481 := eq_true p481; replace q481 := eq_true q481) | (go_at_call 102; (with_reducible refine (spec_l1In.calls ((rd_T59 l0 x3_2).f3) 0 999 true _ A25.out).mono ?_); rintro e w' ⟨rfl, ⟨nd, rfl⟩⟩; (try first | exact ⟨rfl, _, World.drewN_drewN _ _ _⟩ | exact ⟨rfl, _, Eq.trans (World.drewN_drewN _ _ _) (congrArg (World.drewN _) (Nat.add_assoc _ _ _))⟩); have p483 : 0 ≤ (x3_2 : Int) := dU; have q483 : x3_2 < (l0.length : Int) := dU; obtain ⟨ad483, e483, hx483_0, hx483_1, hx483_2, hx483_3, hx483_4⟩ := at_T59 HR0.out x3_2 p483 q483; obtain rfl : ad479 = ad483 := (by injection e483); replace p483 := eq_true p483; replace q483 := eq_true q483) | (go_at_call 102; (with_reducible refine (spec_l1In.calls ((rd_T59 l0 x3_2).f4) 0 5 false _ A27.out).mono ?_); rintro e w' ⟨rfl, ⟨nd, rfl⟩⟩; (try first | exact ⟨rfl, _, World.drewN_drewN _ _ _⟩ | exact ⟨rfl, _, Eq.trans (World.drewN_drewN _ _ _) (congrArg (World.drewN _) (Nat.add_assoc _ _ _))⟩)))
               repeat (go_quiet (first | (go_at_call 102; (with_reducible refine (spec_l1In.calls ((rd_T59 l0 x3_2).f2) 0 9 true _ A23.out).mono ?_); rintro e w' ⟨rfl, ⟨nd, rfl⟩⟩; (try first | exact ⟨rfl, _, World.drewN_drewN _ _ _⟩ | exact ⟨rfl, _, Eq.trans (World.drewN_drewN _ _ _) (congrArg (World.drewN _) (Nat.add_assoc _ _ _))⟩); have p481 : 0 ≤ (x3_2 : Int) := dU; have q481 : x3_2 < (l0.length : Int) := dU; obtain ⟨ad481, e481, hx481_0, hx481_1, hx481_2, hx481_3, hx481_4⟩ := at_T59 HR0.out x3_2 p481 q481; obtain rfl : ad479 = ad481 := (by injection e481); replace p481 := eq_true p481; replace q481 := eq_true q481) | (go_at_call 102; (with_reducible refine (spec_l1In.calls ((rd_T59 l0 x3_2).f3) 0 999 true _ A25.out).mono ?_); rintro e w' ⟨rfl, ⟨nd, rfl⟩⟩; (try first | exact ⟨rfl, _, World.drewN_drewN _ _ _⟩ | exact ⟨rfl, _, Eq.trans (World.drewN_drewN _ _ _) (congrArg (World.drewN _) (Nat.add_assoc _ _ _))⟩); have p483 : 0 ≤ (x3_2 : Int) := dU; have q483 : x3_2 < (l0.length : Int) := dU; obtain ⟨ad483, e483, hx483_0, hx483_1, hx483_2, hx483_3, hx483_4⟩ := at_T59 HR0.out x3_2 p483 q483; obtain rfl : ad479 = ad483 := (by injection e483); replace p483 := eq_true p483; replace q483 := eq_true q483) | (go_at_call 102; (with_reducible refine (spec_l1In.calls ((rd_T59 l0 x3_2).f4) 0 5 false _ A27.out).mono ?_); rintro e w' ⟨rfl, ⟨nd, rfl⟩⟩; (try first | exact ⟨rfl, _, World.drewN_drewN _ _ _⟩ | exact ⟨rfl, _, Eq.trans (World.drewN_drewN _ _ _) (congrArg (World.drewN _) (Nat.add_assoc _ _ _))⟩))); try go_wp2_with (first | (go_at_call 102; (with_reducible refine (spec_l1In.calls ((rd_T59 l0 x3_2).f2) 0 9 true _ A23.out).mono ?_); rintro e w' ⟨rfl, ⟨nd, rfl⟩⟩; (try first | exact ⟨rfl, _, World.drewN_drewN _ _ _⟩ | exact ⟨rfl, _, Eq.trans (World.drewN_drewN _ _ _) (congrArg (World.drewN _) (Nat.add_assoc _ _ _))⟩); have p481 : 0 ≤ (x3_2 : Int) := dU; have q481 : x3_2 < (l0.length : Int) := dU; obtain ⟨ad481, e481, hx481_0, hx481_1, hx481_2, hx481_3, hx481_4⟩ := at_T59 HR0.out x3_2 p481 q481; obtain rfl : ad479 = ad481 := (by injection e481); replace p481 := eq_true p481; replace q481 := eq_true q481) | (go_at_call 102; (with_reducible refine (spec_l1In.calls ((rd_T59 l0 x3_2).f3) 0 999 true _ A25.out).mono ?_); rintro e w' ⟨rfl, ⟨nd, rfl⟩⟩; (try first | exact ⟨rfl, _, World.drewN_drewN _ _ _⟩ | exact ⟨rfl, _, Eq.trans (World.drewN_drewN _ _ _) (congrArg (World.drewN _) (Nat.add_assoc _ _ _))⟩); have p483 : 0 ≤ (x3_2 : Int) := dU; have q483 : x3_2 < (l0.length : Int) := dU; obtain ⟨ad483, e483, hx483_0, hx483_1, hx483_2, hx483_3, hx483_4⟩ := at_T59 HR0.out x3_2 p483 q483; obtain rfl : ad479 = ad483 := (by injection e483); replace p483 := eq_true p483; replace q483 := eq_true q483) | (go_at_call 102; (with_reducible refine (spec_l1In.calls ((rd_T59 l0 x3_2).f4) 0 5 false _ A27.out).mono ?_); rintro e w' ⟨rfl, ⟨nd, rfl⟩⟩; (try first | exact ⟨rfl, _, World.drewN_drewN _ _ _⟩ | exact ⟨rfl, _, Eq.trans (World.drewN_drewN _ _ _) (congrArg (World.drewN _) (Nat.add_assoc _ _ _))⟩))))
               go_ret
               exact ⟨by first | rfl | (simp; done) | (simp [*]; done), by repeat (first | exact Drawn0.refl _ | apply Drawn0.step)⟩
             ·replace c26 := Bool.eq_false_iff.mpr c26
              subst c26
              have H1 : (some false) = some r := by rw [if_neg (show ¬ (false = true) by decide)] at H; exact H
              clear H
              have H := H1
              clear H1
              obtain rfl := Option.some.inj H
              have p479 : 0 ≤ (x3_2 : Int) := dU
              have q479 : x3_2 < (l0.length : Int) := dU
              obtain ⟨ad479, e479, hx479_0, hx479_1, hx479_2, hx479_3, hx479_4⟩ := at_T59 HR0.out x3_2 p479 q479
              cases e479
              replace p479 := eq_true p479
              replace q479 := eq_true q479
              go_wp2_with (first | (go_at_call 102; (with_reducible refine (spec_l1In.calls ((rd_T59 l0 x3_2).f2) 0 9 true _ A23.out).mono ?_); rintro e w' ⟨rfl, ⟨nd, rfl⟩⟩; (try first | exact ⟨rfl, _, World.drewN_drewN _ _ _⟩ | exact ⟨rfl, _, Eq.trans (World.drewN_drewN _ _ _) (congrArg (World.drewN _) (Nat.add_assoc _ _ _))⟩); have p481 : 0 ≤ (x3_2 : Int) := dU; have q481 : x3_2 < (l0.length : Int) := dU; obtain ⟨ad481, e481, hx481_0, hx481_1, hx481_2, hx481_3, hx481_4⟩ := at_T59 HR0.out x3_2 p481 q481; obtain rfl : ad479 = ad481 := (by injection e481); replace p481 := eq_true p481; replace q481 := eq_true q481) | (go_at_call 102; (with_reducible refine (spec_l1In.calls ((rd_T59 l0 x3_2).f3) 0 999 false _ A25.out).mono ?_); rintro e w' ⟨rfl, ⟨nd, rfl⟩⟩; (try first | exact ⟨rfl, _, World.drewN_drewN _ _ _⟩ | exact ⟨rfl, _, Eq.trans (World.drewN_drewN _ _ _) (congrArg (World.drewN _) (Nat.add_assoc _ _ _))⟩)))
              repeat (go_quiet (first | (go_at_call 102; (with_reducible refine (spec_l1In.calls ((rd_T59 l0 x3_2).f2) 0 9 true _ A23.out).mono ?_); rintro e w' ⟨rfl, ⟨nd, rfl⟩⟩; (try first | exact ⟨rfl, _, World.drewN_drewN _ _ _⟩ | exact ⟨rfl, _, Eq.trans (World.drewN_drewN _ _ _) (congrArg (World.drewN _) (Nat.add_assoc _ _ _))⟩); have p481 : 0 ≤ (x3_2 : Int) := dU; have q481 : x3_2 < (l0.length : Int) := dU; obtain ⟨ad481, e481, hx481_0, hx481_1, hx481_2, hx481_3, hx481_4⟩ := at_T59 HR0.out x3_2 p481 q481; obtain rfl : ad479 = ad481 := (by injection e481); replace p481 := eq_true p481; replace q481 := eq_true q481) | (go_at_call 102; (with_reducible refine (spec_l1In.calls ((rd_T59 l0 x3_2).f3) 0 999 false _ A25.out).mono ?_); rintro e w' ⟨rfl, ⟨nd, rfl⟩⟩; (try first | exact ⟨rfl, _, World.drewN_drewN _ _ _⟩ | exact ⟨rfl, _, Eq.trans (World.drewN_drewN _ _ _) (congrArg (World.drewN _) (Nat.add_assoc _ _ _))⟩))); try go_wp2_with (first | (go_at_call 102; (with_reducible refine (spec_l1In.calls ((rd_T59 l0 x3_2).f2) 0 9 true _ A23.out).mono ?_); rintro e w' ⟨rfl, ⟨nd, rfl⟩⟩; (try first | exact ⟨rfl, _, World.drewN_drewN _ _ _⟩ | exact ⟨rfl, _, Eq.trans (World.drewN_drewN _ _ _) (congrArg (World.drewN _) (Nat.add_assoc _ _ _))⟩); have p481 : 0 ≤ (x3_2 : Int) := dU; have q481 : x3_2 < (l0.length : Int) := dU; obtain ⟨ad481, e481, hx481_0, hx481_1, hx481_2, hx481_3, hx481_4⟩ := at_T59 HR0.out x3_2 p481 q481; obtain rfl : ad479 = ad481 := (by injection e481); replace p481 := eq_true p481; replace q481 := eq_true q481) | (go_at_call 102; (with_reducible refine (spec_l1In.calls ((rd_T59 l0 x3_2).f3) 0 999 false _ A25.out).mono ?_); rintro e w' ⟨rfl, ⟨nd, rfl⟩⟩; (try first | exact ⟨rfl, _, World.drewN_drewN _ _ _⟩ | exact ⟨rfl, _, Eq.trans (World.drewN_drewN _ _ _) (congrArg (World.drewN _) (Nat.add_assoc _ _ _))⟩))))
              go_ret
              exact ⟨by first | rfl | (simp; done) | (simp [*]; done), by repeat (first | exact Drawn0.refl _ | apply Drawn0.step)⟩
            ·replace c24 := Bool.eq_false_iff.mpr c24
             subst c24
             have H1 : (some false) = some r := by rw [if_neg (show ¬ (false = true) by decide)] at H; exact H
             clear H
             have H := H1
             clear H1
             obtain rfl := Option.some.inj H
             have p479 : 0 ≤ (x3_2 : Int) := dU
             have q479 : x3_2 < (l0.length : Int) := dU
             obtain ⟨ad479, e479, hx479_0, hx479_1, hx479_2, hx479_3, hx479_4⟩ := at_T59 HR0.out x3_2 p479 q479
             cases e479
             replace p479 := eq_true p479
             replace q479 := eq_true q479
             go_wp2_with (first | (go_at_call 102; (with_reducible refine (spec_l1In.calls ((rd_T59 l0 x3_2).f2) 0 9 false _ A23.out).mono ?_); rintro e w' ⟨rfl, ⟨nd, rfl⟩⟩; (try first | exact ⟨rfl, _, World.drewN_drewN _ _ _⟩ | exact ⟨rfl, _, Eq.trans (World.drewN_drewN _ _ _) (congrArg (World.drewN _) (Nat.add_assoc _ _ _))⟩)))
             repeat (go_quiet (first | (go_at_call 102; (with_reducible refine (spec_l1In.calls ((rd_T59 l0 x3_2).f2) 0 9 false _ A23.out).mono ?_); rintro e w' ⟨rfl, ⟨nd, rfl⟩⟩; (try first | exact ⟨rfl, _, World.drewN_drewN _ _ _⟩ | exact ⟨rfl, _, Eq.trans (World.drewN_drewN _ _ _) (congrArg (World.drewN _) (Nat.add_assoc _ _ _))⟩))); try go_wp2_with (first | (go_at_call 102; (with_reducible refine (spec_l1In.calls ((rd_T59 l0 x3_2).f2) 0 9 false _ A23.out).mono ?_); rintro e w' ⟨rfl, ⟨nd, rfl⟩⟩; (try first | exact ⟨rfl, _, World.drewN_drewN _ _ _⟩ | exact ⟨rfl, _, Eq.trans (World.drewN_drewN _ _ _) (congrArg (World.drewN _) (Nat.add_assoc _ _ _))⟩))))
             go_ret
             exact ⟨by first | rfl | (simp; done) | (simp [*]; done), by repeat (first | exact Drawn0.refl _ | apply Drawn0.step)⟩
           ·rw [if_neg c22] at H
            exact absurd H (by simp)
          ·rw [if_neg c21] at H
           exact absurd H (by simp)
      ·rw [if_neg c8] at H
       have c8b0 : decide (x3_2 < (l0.length : Int)) = false := decide_eq_false c8
       clear c8
       obtain rfl := Option.some.inj H
       go_wp2
       repeat (go_quiet (fail); try go_wp2)
       go_ret
       exact ⟨by first | rfl | (simp; done) | (simp [*]; done), by repeat (first | exact Drawn0.refl _ | apply Drawn0.step)⟩
def spec_l7Has.l0 : Nat → List Int → Int → Int → Option (Bool)
 | 0, _, _, _ => none
 | k + 1, x0, x1, x5 => if x5 < (x0.length : Int) then (if 0 ≤ x5 then (if (rd x0 x5) = x1 then (some true) else (spec_l7Has.l0 k x0 x1 (wrap64 (x5 + 1)))) else (none)) else (some false)
def spec_l7Has.f (k : Nat) (l0 : List Int) (a1 : Int) : Option (Bool) := spec_l7Has.l0 k l0 a1 0
theorem spec_l7Has.mono_l : ∀ k, (∀ y0 y1 y2, LeO (spec_l7Has.l0 k y0 y1 y2) (spec_l7Has.l0 (k + 1) y0 y1 y2))
 | 0 => fun _ _ _ r h => by simp [spec_l7Has.l0] at h
 | k + 1 => by
  have ih0 := spec_l7Has.mono_l k
  ·intro y0 y1 y2
   unfold spec_l7Has.l0
   repeat' first
   | (with_reducible exact ih0 _ _ _)
   | (with_reducible exact LeO.refl _)
   | (with_reducible exact LeO.none _)
   | (with_reducible refine LeO.ite ?_ ?_)
   | (with_reducible refine LeO.bind ?_ (fun _ => ?_))
   | exact ih0 _ _ _
   | exact LeO.none _
   | refine LeO.ite ?_ ?_
   | refine LeO.bind ?_ (fun _ => ?_)
theorem spec_l7Has.mono : ∀ a0 a1 k, LeO (spec_l7Has.f k a0 a1) (spec_l7Has.f (k + 1) a0 a1) := by
 intro a0 a1 k
 have ih0 := spec_l7Has.mono_l k
 unfold spec_l7Has.f
 repeat' first
   | (with_reducible exact ih0 _ _ _)
   | (with_reducible exact LeO.refl _)
   | (with_reducible exact LeO.none _)
   | (with_reducible refine LeO.ite ?_ ?_)
   | (with_reducible refine LeO.bind ?_ (fun _ => ?_))
   | exact ih0 _ _ _
   | exact LeO.none _
   | refine LeO.ite ?_ ?_
   | refine LeO.bind ?_ (fun _ => ?_)
set_option maxHeartbeats 8000000 in
set_option maxRecDepth 100000 in
theorem spec_l7Has.calls (k : Nat) (A0 : Option Addr) (c0 : Nat) (l0 : List Int) (a1 : Int) (r : Bool) (w : World) (hr0 : Kd.C (Kd.int .i64) w A0 l0.length l0) (hc0 : l0.length ≤ c0) (h : spec_l7Has.f k l0 a1 = some r) :
  Calls Try.prog 113 #[.slice A0 l0.length c0, .int .i64 a1] w fun e w' => e = .returned (.bool r) ∧ Drawn0 w w' := by
 have HR0 := am hr0
 have HC0 := am hc0
 clear hr0 hc0
 have H : (spec_l7Has.l0 k l0 a1 0) = some r := h
 clear h
 have H' := am H
 clear H
 go_enter Try.func113, Try.ntmps113
 go_wp2
 go_loopg [5] k (fun kq v5 w' => ∃ (x5_1 : Int), v5 = .int .i64 x5_1 ∧ Aside0 (spec_l7Has.l0 kq l0 a1 x5_1 = some r) ∧ Aside0 (kq ≤ k) ∧ Drawn0 w w')
 case atStart => exact ⟨(0), (by first | rfl | (simp; done) | (simp [*]; done)), H', ⟨Nat.le_refl _⟩, by repeat (first | exact Drawn0.refl _ | apply Drawn0.step)⟩
 case round =>
  clear H'
  try clear c1
  try clear p2
  obtain ⟨x5_1, rfl, HA, HK1, ⟨m1, rfl⟩⟩ := hrel
  cases gk with
  | zero => exact absurd HA.out (by simp [spec_l7Has.l0])
  | succ k1 =>
   have H := HA.out
   clear HA
   simp only [spec_l7Has.l0] at H
   by_cases c3 : x5_1 < (l0.length : Int)
   ·rw [if_pos c3] at H
    have c3b0 : decide (x5_1 < (l0.length : Int)) = true := decide_eq_true c3
    clear c3
    by_cases c4 : 0 ≤ x5_1
    ·rw [if_pos c4] at H
     have c4b0 : decide (0 ≤ x5_1) = true := decide_eq_true c4
     clear c4
     by_cases c5 : (rd l0 x5_1) = a1
     ·rw [if_pos c5] at H
      have c5b0 : ((rd l0 x5_1) == a1) = true := beq_iff_eq.mpr c5
      have c5b1 : ((rd l0 x5_1) != a1) = false := bne_eq_false_iff_eq.mpr c5
      clear c5
      obtain rfl := Option.some.inj H
      have p485 : 0 ≤ (x5_1 : Int) := dU
      have q485 : x5_1 < (l0.length : Int) := dU
      obtain ⟨ad485, e485, hx485_0⟩ := Kd.at_int HR0.out x5_1 p485 q485
      cases e485
      replace p485 := eq_true p485
      replace q485 := eq_true q485
      go_wp2
      go_ret
      exact ⟨by first | rfl | (simp; done) | (simp [*]; done), by repeat (first | exact Drawn0.refl _ | apply Drawn0.step)⟩
     ·rw [if_neg c5] at H
      have c5b0 : ((rd l0 x5_1) == a1) = false := beq_eq_false_iff_ne.mpr c5
      have c5b1 : ((rd l0 x5_1) != a1) = true := bne_iff_ne.mpr c5
      have H' := am H
      clear H
      have p485 : 0 ≤ (x5_1 : Int) := dU
      have q485 : x5_1 < (l0.length : Int) := dU
      obtain ⟨ad485, e485, hx485_0⟩ := Kd.at_int HR0.out x5_1 p485 q485
      cases e485
      replace p485 := eq_true p485
      replace q485 := eq_true q485
      go_wp2
      go_roundg k1
      case measure => have := HK1.out; omega
      case rel => exact ⟨(wrap64 (x5_1 + 1)), (by first | rfl | (simp; done) | (simp [*]; done)), H', ⟨by have := HK1.out; omega⟩, by repeat (first | exact Drawn0.refl _ | apply Drawn0.step)⟩
    ·rw [if_neg c4] at H
     exact absurd H (by simp)
   ·rw [if_neg c3] at H
    have c3b0 : decide (x5_1 < (l0.length : Int)) = false := decide_eq_false c3
    clear c3
    obtain rfl := Option.some.inj H
    go_wp2
    go_ret
    exact ⟨by first | rfl | (simp; done) | (simp [*]; done), by repeat (first | exact Drawn0.refl _ | apply Drawn0.step)⟩
end Go.Proofs.Ytiiibfpijmmbfaa.QFnHandles
