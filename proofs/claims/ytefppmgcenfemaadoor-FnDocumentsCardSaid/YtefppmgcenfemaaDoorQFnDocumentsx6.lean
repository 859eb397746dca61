import Derived.Test.YtefppmgcenfemaaDoorUp
import Derived.Test.YtefppmgcenfemaaDoorQFnDocumentsx0
import Derived.Test.YtefppmgcenfemaaDoorQFnDocumentsx2
import Derived.Test.YtefppmgcenfemaaDoorQFnDocumentsx5
namespace Go.Proofs.YtefppmgcenfemaaDoor.QFnDocuments
open Go.RowKit Go.Proofs.YtefppmgcenfemaaDoorW.PrintWords Go.Proofs.YtefppmgcenfemaaDoorW.PrintLast Go.Proofs.YtefppmgcenfemaaDoorW.PrintMore
attribute [local go_sem] max2_int min2_int max_two min_two max_three min_three max_four min_four
set_option linter.unusedVariables false
set_option linter.unusedSimpArgs false
mutual
def spec_IsDocument.j0 : Nat → List (S34) → Bool → Option (Bool)
 | 0, _, _ => none
 | k + 1, x0, x21 => if x21 = true then (some false) else (spec_IsDocument.l0 k x0 0)
def spec_IsDocument.l0 : Nat → List (S34) → Int → Option (Bool)
 | 0, _, _ => none
 | k + 1, x0, x3 => if x3 < (x0.length : Int) then (if x3 > 0 then (if 0 ≤ (wrap64 (x3 - 1)) then (if (wrap64 (x3 - 1)) < (x0.length : Int) then (if 0 ≤ x3 then (if ((rd_T34 x0 (wrap64 (x3 - 1))).f0) ≥ ((rd_T34 x0 x3).f0) then (spec_IsDocument.j2 k x0 x3 true) else (if x3 ≤ (x0.length : Int) then ((spec_NodeOf.f k (x0.take (x3 : Int).toNat) ((rd_T34 x0 x3).f1)).bind fun t241 => (spec_IsDocument.j2 k x0 x3 (decide (t241 < 0)))) else (none))) else (none)) else (none)) else (none)) else (spec_IsDocument.j2 k x0 x3 false)) else (some true)
def spec_IsDocument.j2 : Nat → List (S34) → Int → Bool → Option (Bool)
 | 0, _, _, _ => none
 | k + 1, x0, x3, x55 => if x55 = true then (some false) else (if 0 ≤ x3 then (if x3 < (x0.length : Int) then ((spec_l1In.f ((rd_T34 x0 x3).f2) 0 9).bind fun t243 => (if t243 = true then ((spec_l1In.f ((rd_T34 x0 x3).f3) 0 999).bind fun t245 => (if t245 = true then ((spec_l1In.f ((rd_T34 x0 x3).f4) 0 5).bind fun t247 => (if t247 = true then (spec_IsDocument.l0 k x0 (wrap64 (x3 + 1))) else (some false))) else (some false))) else (some false))) else (none)) else (none))
end
def spec_IsDocument.f (k : Nat) (l0 : List (S34)) : Option (Bool) := (spec_l1In.f (l0.length : Int) 1 16).bind fun t231 => (if t231 = true then (if 0 < (l0.length : Int) then (if ((rd_T34 l0 0).f0) = 0 then (spec_IsDocument.j0 k l0 (((rd_T34 l0 0).f1) != (-1))) else (spec_IsDocument.j0 k l0 true)) else (none)) else (spec_IsDocument.j0 k l0 true))
theorem spec_IsDocument.mono_l : ∀ k, (∀ y0 y1, LeO (spec_IsDocument.j0 k y0 y1) (spec_IsDocument.j0 (k + 1) y0 y1)) ∧ (∀ y0 y1, LeO (spec_IsDocument.l0 k y0 y1) (spec_IsDocument.l0 (k + 1) y0 y1)) ∧ (∀ y0 y1 y2, LeO (spec_IsDocument.j2 k y0 y1 y2) (spec_IsDocument.j2 (k + 1) y0 y1 y2))
 | 0 => ⟨fun _ _ r h => by simp [spec_IsDocument.j0] at h, fun _ _ r h => by simp [spec_IsDocument.l0] at h, fun _ _ _ r h => by simp [spec_IsDocument.j2] at h⟩
 | k + 1 => by
  obtain ⟨ih0, ih1, ih2⟩ := spec_IsDocument.mono_l k
  refine ⟨?_, ?_, ?_⟩
  ·intro y0 y1
   unfold spec_IsDocument.j0
   repeat' first
   | (with_reducible exact ih0 _ _)
   | (with_reducible exact ih1 _ _)
   | (with_reducible exact ih2 _ _ _)
   | (with_reducible exact spec_NodeOf.mono _ _ _)
   | (with_reducible exact LeO.refl _)
   | (with_reducible exact LeO.none _)
   | (with_reducible refine LeO.ite ?_ ?_)
   | (with_reducible refine LeO.bind ?_ (fun _ => ?_))
   | exact ih0 _ _
   | exact ih1 _ _
   | exact ih2 _ _ _
   | exact spec_NodeOf.mono _ _ _
   | exact LeO.none _
   | refine LeO.ite ?_ ?_
   | refine LeO.bind ?_ (fun _ => ?_)
  ·intro y0 y1
   unfold spec_IsDocument.l0
   repeat' first
   | (with_reducible exact ih0 _ _)
   | (with_reducible exact ih1 _ _)
   | (with_reducible exact ih2 _ _ _)
   | (with_reducible exact spec_NodeOf.mono _ _ _)
   | (with_reducible exact LeO.refl _)
   | (with_reducible exact LeO.none _)
   | (with_reducible refine LeO.ite ?_ ?_)
   | (with_reducible refine LeO.bind ?_ (fun _ => ?_))
   | exact ih0 _ _
   | exact ih1 _ _
   | exact ih2 _ _ _
   | exact spec_NodeOf.mono _ _ _
   | exact LeO.none _
   | refine LeO.ite ?_ ?_
   | refine LeO.bind ?_ (fun _ => ?_)
  ·intro y0 y1 y2
   unfold spec_IsDocument.j2
   repeat' first
   | (with_reducible exact ih0 _ _)
   | (with_reducible exact ih1 _ _)
   | (with_reducible exact ih2 _ _ _)
   | (with_reducible exact spec_NodeOf.mono _ _ _)
   | (with_reducible exact LeO.refl _)
   | (with_reducible exact LeO.none _)
   | (with_reducible refine LeO.ite ?_ ?_)
   | (with_reducible refine LeO.bind ?_ (fun _ => ?_))
   | exact ih0 _ _
   | exact ih1 _ _
   | exact ih2 _ _ _
   | exact spec_NodeOf.mono _ _ _
   | exact LeO.none _
   | refine LeO.ite ?_ ?_
   | refine LeO.bind ?_ (fun _ => ?_)
theorem spec_IsDocument.mono : ∀ a0 k, LeO (spec_IsDocument.f k a0) (spec_IsDocument.f (k + 1) a0) := by
 intro a0 k
 obtain ⟨ih0, ih1, ih2⟩ := spec_IsDocument.mono_l k
 unfold spec_IsDocument.f
 repeat' first
   | (with_reducible exact ih0 _ _)
   | (with_reducible exact ih1 _ _)
   | (with_reducible exact ih2 _ _ _)
   | (with_reducible exact spec_NodeOf.mono _ _ _)
   | (with_reducible exact LeO.refl _)
   | (with_reducible exact LeO.none _)
   | (with_reducible refine LeO.ite ?_ ?_)
   | (with_reducible refine LeO.bind ?_ (fun _ => ?_))
   | exact ih0 _ _
   | exact ih1 _ _
   | exact ih2 _ _ _
   | exact spec_NodeOf.mono _ _ _
   | exact LeO.none _
   | refine LeO.ite ?_ ?_
   | refine LeO.bind ?_ (fun _ => ?_)
set_option maxHeartbeats 8000000 in
set_option maxRecDepth 100000 in
theorem spec_IsDocument.calls (k : Nat) (A0 : Option Addr) (c0 : Nat) (l0 : List (S34)) (r : Bool) (w : World) (hr0 : Kd.C k34 w A0 l0.length l0) (hc0 : l0.length ≤ c0) (h : spec_IsDocument.f k l0 = some r) :
  Calls Tryd.prog 9 #[.slice A0 l0.length c0] w fun e w' => e = .returned (.bool r) ∧ Drawn0 w w' := by
 have HR0 := am hr0
 have HC0 := am hc0
 clear hr0 hc0
 have H : ((spec_l1In.f (l0.length : Int) 1 16).bind fun t231 => (if t231 = true then (if 0 < (l0.length : Int) then (if ((rd_T34 l0 0).f0) = 0 then (spec_IsDocument.j0 k l0 (((rd_T34 l0 0).f1) != (-1))) else (spec_IsDocument.j0 k l0 true)) else (none)) else (spec_IsDocument.j0 k l0 true))) = some r := h
 clear h
 have HC2 := am H
 clear H
 go_enter Tryd.func9, Tryd.ntmps9
 go_upto_region 1 with (fail)
 repeat (go_quiet (fail); go_upto_region 1 with (fail))
 go_cut [21] (fun v21 wc => ∃ (kq : Nat) (x21_1 : Bool), v21 = .bool x21_1 ∧ Aside0 (spec_IsDocument.j0 kq l0 x21_1 = some r) ∧ Aside0 (kq ≤ k) ∧ Drawn0 w wc)
 case first =>
  have H := HC2.out
  clear HC2
  replace H := Option.bind_eq_some_iff.mp H
  obtain ⟨t231, A30, H⟩ := H
  replace H : (if t231 = true then (if 0 < (l0.length : Int) then (if ((rd_T34 l0 0).f0) = 0 then (spec_IsDocument.j0 k l0 (((rd_T34 l0 0).f1) != (-1))) else (spec_IsDocument.j0 k l0 true)) else (none)) else (spec_IsDocument.j0 k l0 true)) = some r := H
  have A3 := am A30
  clear A30
  by_cases c4 : t231 = true
  ·subst c4
   have H1 : (if 0 < (l0.length : Int) then (if ((rd_T34 l0 0).f0) = 0 then (spec_IsDocument.j0 k l0 (((rd_T34 l0 0).f1) != (-1))) else (spec_IsDocument.j0 k l0 true)) else (none)) = some r := by rw [if_pos rfl] at H; exact H
   clear H
   have H := H1
   clear H1
   by_cases c5 : 0 < (l0.length : Int)
   ·rw [if_pos c5] at H
    have c5b0 : decide (0 < (l0.length : Int)) = true := decide_eq_true c5
    have c5b1 : decide (0 < l0.length) = true := decide_eq_true (by omega)
    clear c5
    (first | rw [c5b0] | (simp only [i64_w, i32_w]; rw [c5b0]) | skip)
    by_cases c6 : ((rd_T34 l0 0).f0) = 0
    ·rw [if_pos c6] at H
     have c6b0 : (((rd_T34 l0 0).f0) == 0) = true := beq_iff_eq.mpr c6
     have c6b1 : (((rd_T34 l0 0).f0) != 0) = false := bne_eq_false_iff_eq.mpr c6
     clear c6
     have H' := am H
     clear H
     go_wp2_with (first | (go_at_call 27; (with_reducible refine (spec_l1In.calls (l0.length : Int) 1 16 true _ A3.out).mono ?_); rintro e w' ⟨rfl, ⟨nd, rfl⟩⟩; (try first | exact ⟨rfl, _, World.drewN_drewN _ _ _⟩ | exact ⟨rfl, _, Eq.trans (World.drewN_drewN _ _ _) (congrArg (World.drewN _) (Nat.add_assoc _ _ _))⟩); have p232 : 0 ≤ (0 : Int) := (by omega); have q232 : 0 < (l0.length : Int) := dU; obtain ⟨ad232, e232, hx232_0, hx232_1, hx232_2, hx232_3, hx232_4⟩ := at_T34 HR0.out 0 p232 q232; cases e232; have qi232 : (0 < l0.length) = True := eq_true (by omega); (try rw [show ((0 : Int)).toNat = 0 from rfl] at hx232_0); (try rw [show 0 * 5 = 0 from rfl] at hx232_0); (try rw [Addr.add_zero'] at hx232_0); (try rw [show ((0 : Int)).toNat = 0 from rfl] at hx232_1); (try rw [show 0 * 5 = 0 from rfl] at hx232_1); (try rw [Addr.add_zero'] at hx232_1); (try rw [show ((0 : Int)).toNat = 0 from rfl] at hx232_2); (try rw [show 0 * 5 = 0 from rfl] at hx232_2); (try rw [Addr.add_zero'] at hx232_2); (try rw [show ((0 : Int)).toNat = 0 from rfl] at hx232_3); (try rw [show 0 * 5 = 0 from rfl] at hx232_3); (try rw [Addr.add_zero'] at hx232_3); (try rw [show ((0 : Int)).toNat = 0 from rfl] at hx232_4); (try rw [show 0 * 5 = 0 from rfl] at hx232_4); (try rw [Addr.add_zero'] at hx232_4); replace p232 := eq_true p232; replace q232 := eq_true q232; have p233 : 0 ≤ (0 : Int) := (by omega); have q233 : 0 < (l0.length : Int) := dU; obtain ⟨ad233, e233, hx233_0, hx233_1, hx233_2, hx233_3, hx233_4⟩ := at_T34 HR0.out 0 p233 q233; obtain rfl : ad232 = ad233 := (by injection e233); have qi233 : (0 < l0.length) = True := eq_true (by omega); (try rw [show ((0 : Int)).toNat = 0 from rfl] at hx233_0); (try rw [show 0 * 5 = 0 from rfl] at hx233_0); (try rw [Addr.add_zero'] at hx233_0); (try rw [show ((0 : Int)).toNat = 0 from rfl] at hx233_1); (try rw [show 0 * 5 = 0 from rfl] at hx233_1); (try rw [Addr.add_zero'] at hx233_1); (try rw [show ((0 : Int)).toNat = 0 from rfl] at hx233_2); (try rw [show 0 * 5 = 0 from rfl] at hx233_2); (try rw [Addr.add_zero'] at hx233_2); (try rw [show ((0 : Int)).toNat = 0 from rfl] at hx233_3); (try rw [show 0 * 5 = 0 from rfl] at hx233_3); (try rw [Addr.add_zero'] at hx233_3); (try rw [show ((0 : Int)).toNat = 0 from rfl] at hx233_4); (try rw [show 0 * 5 = 0 from rfl] at hx233_4); (try rw [Addr.add_zero'] at hx233_4); replace p233 := eq_true p233; replace q233 := eq_true q233))
     repeat (go_quiet (first | (go_at_call 27; (with_reducible refine (spec_l1In.calls (l0.length : Int) 1 16 true _ A3.out).mono ?_); rintro e w' ⟨rfl, ⟨nd, rfl⟩⟩; (try first | exact ⟨rfl, _, World.drewN_drewN _ _ _⟩ | exact ⟨rfl, _, Eq.trans (World.drewN_drewN _ _ _) (congrArg (World.drewN _) (Nat.add_assoc _ _ _))⟩); have p232 : 0 ≤ (0 : Int) := (by omega); have q232 : 0 < (l0.length : Int) := dU; obtain ⟨ad232, e232, hx232_0, hx232_1, hx232_2, hx232_3, hx232_4⟩ := at_T34 HR0.out 0 p232 q232; cases e232; have qi232 : (0 < l0.length) = True := eq_true (by omega); (try rw [show ((0 : Int)).toNat = 0 from rfl] at hx232_0); (try rw [show 0 * 5 = 0 from rfl] at hx232_0); (try rw [Addr.add_zero'] at hx232_0); (try rw [show ((0 : Int)).toNat = 0 from rfl] at hx232_1); (try rw [show 0 * 5 = 0 from rfl] at hx232_1); (try rw [Addr.add_zero'] at hx232_1); (try rw [show ((0 : Int)).toNat = 0 from rfl] at hx232_2); (try rw [show 0 * 5 = 0 from rfl] at hx232_2); (try rw [Addr.add_zero'] at hx232_2); (try rw [show ((0 : Int)).toNat = 0 from rfl] at hx232_3); (try rw [show 0 * 5 = 0 from rfl] at hx232_3); (try rw [Addr.add_zero'] at hx232_3); (try rw [show ((0 : Int)).toNat = 0 from rfl] at hx232_4); (try rw [show 0 * 5 = 0 from rfl] at hx232_4); (try rw [Addr.add_zero'] at hx232_4); replace p232 := eq_true p232; replace q232 := eq_true q232; have p233 : 0 ≤ (0 : Int) := (by omega); have q233 : 0 < (l0.length : Int) := dU; obtain ⟨ad233, e233, hx233_0, hx233_1, hx233_2, hx233_3, hx233_4⟩ := at_T34 HR0.out 0 p233 q233; obtain rfl : ad232 = ad233 := (by injection e233); have qi233 : (0 < l0.length) = True := eq_true (by omega); (try rw [show ((0 : Int)).toNat = 0 from rfl] at hx233_0); (try rw [show 0 * 5 = 0 from rfl] at hx233_0); (try rw [Addr.add_zero'] at hx233_0); (try rw [show ((0 : Int)).toNat = 0 from rfl] at hx233_1); (try rw [show 0 * 5 = 0 from rfl] at hx233_1); (try rw [Addr.add_zero'] at hx233_1); (try rw [show ((0 : Int)).toNat = 0 from rfl] at hx233_2); (try rw [show 0 * 5 = 0 from rfl] at hx233_2); (try rw [Addr.add_zero'] at hx233_2); (try rw [show ((0 : Int)).toNat = 0 from rfl] at hx233_3); (try rw [show 0 * 5 = 0 from rfl] at hx233_3); (try rw [Addr.add_zero'] at hx233_3); (try rw [show ((0 : Int)).toNat = 0 from rfl] at hx233_4); (try rw [show 0 * 5 = 0 from rfl] at hx233_4); (try rw [Addr.add_zero'] at hx233_4); replace p233 := eq_true p233; replace q233 := eq_true q233)); try go_wp2_with (first | (go_at_call 27; (with_reducible refine (spec_l1In.calls (l0.length : Int) 1 16 true _ A3.out).mono ?_); rintro e w' ⟨rfl, ⟨nd, rfl⟩⟩; (try first | exact ⟨rfl, _, World.drewN_drewN _ _ _⟩ | exact ⟨rfl, _, Eq.trans (World.drewN_drewN _ _ _) (congrArg (World.drewN _) (Nat.add_assoc _ _ _))⟩); have p232 : 0 ≤ (0 : Int) := (by omega); have q232 : 0 < (l0.length : Int) := dU; obtain ⟨ad232, e232, hx232_0, hx232_1, hx232_2, hx232_3, hx232_4⟩ := at_T34 HR0.out 0 p232 q232; cases e232; have qi232 : (0 < l0.length) = True := eq_true (by omega); (try rw [show ((0 : Int)).toNat = 0 from rfl] at hx232_0); (try rw [show 0 * 5 = 0 from rfl] at hx232_0); (try rw [Addr.add_zero'] at hx232_0); (try rw [show ((0 : Int)).toNat = 0 from rfl] at hx232_1); (try rw [show 0 * 5 = 0 from rfl] at hx232_1); (try rw [Addr.add_zero'] at hx232_1); (try rw [show ((0 : Int)).toNat = 0 from rfl] at hx232_2); (try rw [show 0 * 5 = 0 from rfl] at hx232_2); (try rw [Addr.add_zero'] at hx232_2); (try rw [show ((0 : Int)).toNat = 0 from rfl] at hx232_3); (try rw [show 0 * 5 = 0 from rfl] at hx232_3); (try rw [Addr.add_zero'] at hx232_3); (try rw [show ((0 : Int)).toNat = 0 from rfl] at hx232_4); (try rw [show 0 * 5 = 0 from rfl] at hx232_4); (try rw [Addr.add_zero'] at hx232_4); replace p232 := eq_true p232; replace q232 := eq_true q232; have p233 : 0 ≤ (0 : Int) := (by omega); have q233 : 0 < (l0.length : Int) := dU; obtain ⟨ad233, e233, hx233_0, hx233_1, hx233_2, hx233_3, hx233_4⟩ := at_T34 HR0.out 0 p233 q233; obtain rfl : ad232 = ad233 := (by injection e233); have qi233 : (0 < l0.length) = True := eq_true (by omega); (try rw [show ((0 : Int)).toNat = 0 from rfl] at hx233_0); (try rw [show 0 * 5 = 0 from rfl] at hx233_0); (try rw [Addr.add_zero'] at hx233_0); (try rw [show ((0 : Int)).toNat = 0 from rfl] at hx233_1); (try rw [show 0 * 5 = 0 from rfl] at hx233_1); (try rw [Addr.add_zero'] at hx233_1); (try rw [show ((0 : Int)).toNat = 0 from rfl] at hx233_2); (try rw [show 0 * 5 = 0 from rfl] at hx233_2); (try rw [Addr.add_zero'] at hx233_2); (try rw [show ((0 : Int)).toNat = 0 from rfl] at hx233_3); (try rw [show 0 * 5 = 0 from rfl] at hx233_3); (try rw [Addr.add_zero'] at hx233_3); (try rw [show ((0 : Int)).toNat = 0 from rfl] at hx233_4); (try rw [show 0 * 5 = 0 from rfl] at hx233_4); (try rw [Addr.add_zero'] at hx233_4); replace p233 := eq_true p233; replace q233 := eq_true q233)))
     go_meet
     case rel => exact ⟨_, ((((rd_T34 l0 0).f1) != (-1))), (by first | rfl | (simp; done) | (simp [*]; done)), H', ⟨by first | omega | exact Nat.le_refl _⟩, by repeat (first | exact Drawn0.refl _ | apply Drawn0.step)⟩
    ·rw [if_neg c6] at H
     have c6b0 : (((rd_T34 l0 0).f0) == 0) = false := beq_eq_false_iff_ne.mpr c6
     have c6b1 : (((rd_T34 l0 0).f0) != 0) = true := bne_iff_ne.mpr c6
     have H' := am H
     clear H
     go_wp2_with (first | (go_at_call 27; (with_reducible refine (spec_l1In.calls (l0.length : Int) 1 16 true _ A3.out).mono ?_); rintro e w' ⟨rfl, ⟨nd, rfl⟩⟩; (try first | exact ⟨rfl, _, World.drewN_drewN _ _ _⟩ | exact ⟨rfl, _, Eq.trans (World.drewN_drewN _ _ _) (congrArg (World.drewN _) (Nat.add_assoc _ _ _))⟩); have p232 : 0 ≤ (0 : Int) := (by omega); have q232 : 0 < (l0.length : Int) := dU; obtain ⟨ad232, e232, hx232_0, hx232_1, hx232_2, hx232_3, hx232_4⟩ := at_T34 HR0.out 0 p232 q232; cases e232; have qi232 : (0 < l0.length) = True := eq_true (by omega); (try rw [show ((0 : Int)).toNat = 0 from rfl] at hx232_0); (try rw [show 0 * 5 = 0 from rfl] at hx232_0); (try rw [Addr.add_zero'] at hx232_0); (try rw [show ((0 : Int)).toNat = 0 from rfl] at hx232_1); (try rw [show 0 * 5 = 0 from rfl] at hx232_1); (try rw [Addr.add_zero'] at hx232_1); (try rw [show ((0 : Int)).toNat = 0 from rfl] at hx232_2); (try rw [show 0 * 5 = 0 from rfl] at hx232_2); (try rw [Addr.add_zero'] at hx232_2); (try rw [show ((0 : Int)).toNat = 0 from rfl] at hx232_3); (try rw [show 0 * 5 = 0 from rfl] at hx232_3); (try rw [Addr.add_zero'] at hx232_3); (try rw [show ((0 : Int)).toNat = 0 from rfl] at hx232_4); (try rw [show 0 * 5 = 0 from rfl] at hx232_4); (try rw [Addr.add_zero'] at hx232_4); replace p232 := eq_true p232; replace q232 := eq_true q232))
     repeat (go_quiet (first | (go_at_call 27; (with_reducible refine (spec_l1In.calls (l0.length : Int) 1 16 true _ A3.out).mono ?_); rintro e w' ⟨rfl, ⟨nd, rfl⟩⟩; (try first | exact ⟨rfl, _, World.drewN_drewN _ _ _⟩ | exact ⟨rfl, _, Eq.trans (World.drewN_drewN _ _ _) (congrArg (World.drewN _) (Nat.add_assoc _ _ _))⟩); have p232 : 0 ≤ (0 : Int) := (by omega); have q232 : 0 < (l0.length : Int) := dU; obtain ⟨ad232, e232, hx232_0, hx232_1, hx232_2, hx232_3, hx232_4⟩ := at_T34 HR0.out 0 p232 q232; cases e232; have qi232 : (0 < l0.length) = True := eq_true (by omega); (try rw [show ((0 : Int)).toNat = 0 from rfl] at hx232_0); (try rw [show 0 * 5 = 0 from rfl] at hx232_0); (try rw [Addr.add_zero'] at hx232_0); (try rw [show ((0 : Int)).toNat = 0 from rfl] at hx232_1); (try rw [show 0 * 5 = 0 from rfl] at hx232_1); (try rw [Addr.add_zero'] at hx232_1); (try rw [show ((0 : Int)).toNat = 0 from rfl] at hx232_2); (try rw [show 0 * 5 = 0 from rfl] at hx232_2); (try rw [Addr.add_zero'] at hx232_2); (try rw [show ((0 : Int)).toNat = 0 from rfl] at hx232_3); (try rw [show 0 * 5 = 0 from rfl] at hx232_3); (try rw [Addr.add_zero'] at hx232_3); (try rw [show ((0 : Int)).toNat = 0 from rfl] at hx232_4); (try rw [show 0 * 5 = 0 from rfl] at hx232_4); (try rw [Addr.add_zero'] at hx232_4); replace p232 := eq_true p232; replace q232 := eq_true q232)); try go_wp2_with (first | (go_at_call 27; (with_reducible refine (spec_l1In.calls (l0.length : Int) 1 16 true _ A3.out).mono ?_); rintro e w' ⟨rfl, ⟨nd, rfl⟩⟩; (try first | exact ⟨rfl, _, World.drewN_drewN _ _ _⟩ | exact ⟨rfl, _, Eq.trans (World.drewN_drewN _ _ _) (congrArg (World.drewN _) (Nat.add_assoc _ _ _))⟩); have p232 : 0 ≤ (0 : Int) := (by omega); have q232 : 0 < (l0.length : Int) := dU; obtain ⟨ad232, e232, hx232_0, hx232_1, hx232_2, hx232_3, hx232_4⟩ := at_T34 HR0.out 0 p232 q232; cases e232; have qi232 : (0 < l0.length) = True := eq_true (by omega); (try rw [show ((0 : Int)).toNat = 0 from rfl] at hx232_0); (try rw [show 0 * 5 = 0 from rfl] at hx232_0); (try rw [Addr.add_zero'] at hx232_0); (try rw [show ((0 : Int)).toNat = 0 from rfl] at hx232_1); (try rw [show 0 * 5 = 0 from rfl] at hx232_1); (try rw [Addr.add_zero'] at hx232_1); (try rw [show ((0 : Int)).toNat = 0 from rfl] at hx232_2); (try rw [show 0 * 5 = 0 from rfl] at hx232_2); (try rw [Addr.add_zero'] at hx232_2); (try rw [show ((0 : Int)).toNat = 0 from rfl] at hx232_3); (try rw [show 0 * 5 = 0 from rfl] at hx232_3); (try rw [Addr.add_zero'] at hx232_3); (try rw [show ((0 : Int)).toNat = 0 from rfl] at hx232_4); (try rw [show 0 * 5 = 0 from rfl] at hx232_4); (try rw [Addr.add_zero'] at hx232_4); replace p232 := eq_true p232; replace q232 := eq_true q232)))
     go_meet
     case rel => exact ⟨_, (true), (by first | rfl | (simp; done) | (simp [*]; done)), H', ⟨by first | omega | exact Nat.le_refl _⟩, by repeat (first | exact Drawn0.refl _ | apply Drawn0.step)⟩
   ·rw [if_neg c5] at H
    exact absurd H (by simp)
  ·replace c4 := Bool.eq_false_iff.mpr c4
   subst c4
   have H1 : (spec_IsDocument.j0 k l0 true) = some r := by rw [if_neg (show ¬ (false = true) by decide)] at H; exact H
   clear H
   have H := H1
   clear H1
   have H' := am H
   clear H
   go_wp2_with (first | (go_at_call 27; (with_reducible refine (spec_l1In.calls (l0.length : Int) 1 16 false _ A3.out).mono ?_); rintro e w' ⟨rfl, ⟨nd, rfl⟩⟩; (try first | exact ⟨rfl, _, World.drewN_drewN _ _ _⟩ | exact ⟨rfl, _, Eq.trans (World.drewN_drewN _ _ _) (congrArg (World.drewN _) (Nat.add_assoc _ _ _))⟩)))
   repeat (go_quiet (first | (go_at_call 27; (with_reducible refine (spec_l1In.calls (l0.length : Int) 1 16 false _ A3.out).mono ?_); rintro e w' ⟨rfl, ⟨nd, rfl⟩⟩; (try first | exact ⟨rfl, _, World.drewN_drewN _ _ _⟩ | exact ⟨rfl, _, Eq.trans (World.drewN_drewN _ _ _) (congrArg (World.drewN _) (Nat.add_assoc _ _ _))⟩))); try go_wp2_with (first | (go_at_call 27; (with_reducible refine (spec_l1In.calls (l0.length : Int) 1 16 false _ A3.out).mono ?_); rintro e w' ⟨rfl, ⟨nd, rfl⟩⟩; (try first | exact ⟨rfl, _, World.drewN_drewN _ _ _⟩ | exact ⟨rfl, _, Eq.trans (World.drewN_drewN _ _ _) (congrArg (World.drewN _) (Nat.add_assoc _ _ _))⟩))))
   go_meet
   case rel => exact ⟨_, (true), (by first | rfl | (simp; done) | (simp [*]; done)), H', ⟨by first | omega | exact Nat.le_refl _⟩, by repeat (first | exact Drawn0.refl _ | apply Drawn0.step)⟩
 case rest =>
  clear HC2
  try clear p2
  try clear q2
  try clear hx2
  try clear qi2
  try clear c4
  try clear c5
  try clear c5b0
  try clear c5b1
  try clear c6
  try clear c6b0
  try clear c6b1
  try clear hx232_0
  try clear hx232_1
  try clear hx232_2
  try clear hx232_3
  try clear hx232_4
  try clear hx233_0
  try clear hx233_1
  try clear hx233_2
  try clear hx233_3
  try clear hx233_4
  try clear p232
  try clear p233
  try clear q232
  try clear q233
  obtain ⟨kq, x21_1, rfl, HA, HJ1, ⟨mc1, rfl⟩⟩ := hcut
  cases kq with
  | zero => exact absurd HA.out (by simp [spec_IsDocument.j0])
  | succ kj1 =>
   have H := HA.out
   clear HA
   simp only [spec_IsDocument.j0] at H
   by_cases c7 : x21_1 = true
   ·subst c7
    have H1 : (some false) = some r := by rw [if_pos rfl] at H; exact H
    clear H
    have H := H1
    clear H1
    obtain rfl := Option.some.inj H
    go_wp2
    repeat (go_quiet (fail); try go_wp2)
    go_ret
    exact ⟨by first | rfl | (simp; done) | (simp [*]; done), by repeat (first | exact Drawn0.refl _ | apply Drawn0.step)⟩
   ·replace c7 := Bool.eq_false_iff.mpr c7
    subst c7
    have H1 : (spec_IsDocument.l0 kj1 l0 0) = some r := by rw [if_neg (show ¬ (false = true) by decide)] at H; exact H
    clear H
    have H := H1
    clear H1
    have H' := am H
    clear H
    go_wp2
    repeat (go_quiet (fail); try go_wp2)
    go_loopg [3] kj1 (fun kq v3 w' => ∃ (x3_2 : Int), v3 = .int .i64 x3_2 ∧ Aside0 (spec_IsDocument.l0 kq l0 x3_2 = some r) ∧ Aside0 (kq ≤ kj1) ∧ Drawn0 w w')
    case atStart => exact ⟨(0), (by first | rfl | (simp; done) | (simp [*]; done)), H', ⟨Nat.le_refl _⟩, by repeat (first | exact Drawn0.refl _ | apply Drawn0.step)⟩
    case round =>
     clear H'
     try clear c1
     try clear p2
     try clear q2
     try clear hx2
     try clear qi2
     try clear c4
     try clear c5
     try clear c5b0
     try clear c5b1
     try clear c6
     try clear c6b0
     try clear c6b1
     try clear c7
     try clear hx232_0
     try clear hx232_1
     try clear hx232_2
     try clear hx232_3
     try clear hx232_4
     try clear hx233_0
     try clear hx233_1
     try clear hx233_2
     try clear hx233_3
     try clear hx233_4
     try clear p2
     try clear p232
     try clear p233
     try clear q2
     try clear q232
     try clear q233
     obtain ⟨x3_2, rfl, HA, HK2, ⟨m2, rfl⟩⟩ := hrel
     cases gk with
     | zero => exact absurd HA.out (by simp [spec_IsDocument.l0])
     | succ k2 =>
      have H := HA.out
      clear HA
      simp only [spec_IsDocument.l0] at H
      by_cases c8 : x3_2 < (l0.length : Int)
      ·rw [if_pos c8] at H
       have c8b0 : decide (x3_2 < (l0.length : Int)) = true := decide_eq_true c8
       clear c8
       have HC9 := am H
       clear H
       go_upto_region 6 with (fail)
       repeat (go_quiet (fail); go_upto_region 6 with (fail))
       go_cut [55] (fun v55 wc => ∃ (kq : Nat) (x55_8 : Bool), v55 = .bool x55_8 ∧ Aside0 (spec_IsDocument.j2 kq l0 x3_2 x55_8 = some r) ∧ Aside0 (kq ≤ k2) ∧ Drawn0 w wc)
       case first =>
        have H := HC9.out
        clear HC9
        by_cases c10 : x3_2 > 0
        ·rw [if_pos c10] at H
         have c10b0 : decide (0 < x3_2) = true := decide_eq_true c10
         clear c10
         (first | rw [c10b0] | (simp only [i64_w, i32_w]; rw [c10b0]) | skip)
         obtain ⟨ji11, hji11⟩ : ∃ j_ : Int, (wrap64 (x3_2 - 1)) = j_ := ⟨_, rfl⟩
         replace H : (if 0 ≤ (ji11) then (if (ji11) < (l0.length : Int) then (if 0 ≤ x3_2 then (if ((rd_T34 l0 (ji11)).f0) ≥ ((rd_T34 l0 x3_2).f0) then (spec_IsDocument.j2 k2 l0 x3_2 true) else (if x3_2 ≤ (l0.length : Int) then ((spec_NodeOf.f k2 (l0.take (x3_2 : Int).toNat) ((rd_T34 l0 x3_2).f1)).bind fun t241 => (spec_IsDocument.j2 k2 l0 x3_2 (decide (t241 < 0)))) else (none))) else (none)) else (none)) else (none)) = some r := by first | (rw [hji11] at H; exact H) | (simp only [hji11] at H ⊢; exact H)
         have hji11w : (IntKind.i64.wrap (x3_2 - 1)) = ji11 := (i64_w _).trans hji11
         by_cases c12 : 0 ≤ (ji11)
         ·rw [if_pos c12] at H
          have c12b0 : decide (0 ≤ (ji11)) = true := decide_eq_true c12
          clear c12
          by_cases c13 : (ji11) < (l0.length : Int)
          ·rw [if_pos c13] at H
           have c13b0 : decide ((ji11) < (l0.length : Int)) = true := decide_eq_true c13
           clear c13
           by_cases c14 : 0 ≤ x3_2
           ·rw [if_pos c14] at H
            have c14b0 : decide (0 ≤ x3_2) = true := decide_eq_true c14
            clear c14
            by_cases c15 : ((rd_T34 l0 (ji11)).f0) ≥ ((rd_T34 l0 x3_2).f0)
            ·rw [if_pos c15] at H
             have c15b0 : decide (((rd_T34 l0 x3_2).f0) ≤ ((rd_T34 l0 (ji11)).f0)) = true := decide_eq_true c15
             clear c15
             have H' := am H
             clear H
             have p234 : 0 ≤ ((ji11) : Int) := dU
             have q234 : (ji11) < (l0.length : Int) := dU
             obtain ⟨ad234, e234, hx234_0, hx234_1, hx234_2, hx234_3, hx234_4⟩ := at_T34 HR0.out (ji11) p234 q234
             cases e234
             replace p234 := eq_true p234
             replace q234 := eq_true q234
             have p235 : 0 ≤ (x3_2 : Int) := dU
             have q235 : x3_2 < (l0.length : Int) := dU
             obtain ⟨ad235, e235, hx235_0, hx235_1, hx235_2, hx235_3, hx235_4⟩ := at_T34 HR0.out x3_2 p235 q235
             obtain rfl : ad234 = ad235 := (by injection e235)
             replace p235 := eq_true p235
             replace q235 := eq_true q235
             go_wp2
             repeat (go_quiet (fail); try go_wp2)
             go_meet
             case rel => exact ⟨_, (true), (by first | rfl | (simp; done) | (simp [*]; done)), H', ⟨by have := HJ1.out; have := HK2.out; first | omega | exact Nat.le_refl _⟩, by repeat (first | exact Drawn0.refl _ | apply Drawn0.step)⟩
            ·rw [if_neg c15] at H
             have c15b0 : decide (((rd_T34 l0 x3_2).f0) ≤ ((rd_T34 l0 (ji11)).f0)) = false := decide_eq_false c15
             clear c15
             have c16b0 := eq_true (dU : 0 ≤ x3_2)
             by_cases c17 : x3_2 ≤ (l0.length : Int)
             ·rw [if_pos c17] at H
              have c17b0 := eq_true c17
              have c17b1 : decide (x3_2 ≤ (l0.length : Int)) = true := decide_eq_true c17
              clear c17
              obtain ⟨y236, hy236⟩ : ∃ y_ : List (S34), y_ = (l0.take (x3_2 : Int).toNat) := ⟨_, rfl⟩
              replace H : ((spec_NodeOf.f k2 y236 ((rd_T34 l0 x3_2).f1)).bind fun t241 => (spec_IsDocument.j2 k2 l0 x3_2 (decide (t241 < 0)))) = some r := by first | (rw [hy236]; with_reducible exact H) | (have H2_ := (Option.bind_some _ _).symm.trans H; rw [hy236]; with_reducible exact H2_) | (have H2_ := (Option.bind_some _ _).symm.trans H; with_reducible exact H2_) | with_reducible exact H | (rw [hy236]; exact H) | exact H
              have Ny236 := am hy236
              clear hy236
              replace H := Option.bind_eq_some_iff.mp H
              obtain ⟨t241, A180, H⟩ := H
              replace H : (spec_IsDocument.j2 k2 l0 x3_2 (decide (t241 < 0))) = some r := H
              have A18 := am A180
              clear A180
              have H' := am H
              clear H
              have p234 : 0 ≤ ((ji11) : Int) := dU
              have q234 : (ji11) < (l0.length : Int) := dU
              obtain ⟨ad234, e234, hx234_0, hx234_1, hx234_2, hx234_3, hx234_4⟩ := at_T34 HR0.out (ji11) p234 q234
              cases e234
              replace p234 := eq_true p234
              replace q234 := eq_true q234
              have p235 : 0 ≤ (x3_2 : Int) := dU
              have q235 : x3_2 < (l0.length : Int) := dU
              obtain ⟨ad235, e235, hx235_0, hx235_1, hx235_2, hx235_3, hx235_4⟩ := at_T34 HR0.out x3_2 p235 q235
              obtain rfl : ad234 = ad235 := (by injection e235)
              replace p235 := eq_true p235
              replace q235 := eq_true q235
              have q19 : (x3_2 : Int) ≤ ((l0.length : Int) : Int) := dU
              obtain ⟨i019, hi019, _, hsz19, _⟩ := info_parts info34
              have hroom19 : l0.length ≤ c0 := HC0.out
              have hC19 : Kd.C k34 _ (some ad234) l0.length l0 := HR0.out
              have hcut19 := cut_to (P := Tryd.prog) 24 34 .i64 Tryd.underlying24 hi019 (some ad234) l0.length c0 x3_2 (dU) q19 hroom19
              have hr19 := Kd.C_take (m := (x3_2 : Int).toNat) hC19 (by omega)
              have hy19 : y236.length = (x3_2 : Int).toNat := (by rw [Ny236.out, List.length_take]; omega)
              rw [← Ny236.out] at hr19
              rw [← hy19] at hcut19
              have HR239 := am hr19
              have HC239 := am (show y236.length ≤ c0 from by omega)
              clear hr19 hC19 hroom19 hi019 hsz19
              have KY19 := am hy19
              clear hy19
              replace q19 := eq_true q19
              have p240 : 0 ≤ (x3_2 : Int) := dU
              have q240 : x3_2 < (l0.length : Int) := dU
              obtain ⟨ad240, e240, hx240_0, hx240_1, hx240_2, hx240_3, hx240_4⟩ := at_T34 HR0.out x3_2 p240 q240
              obtain rfl : ad234 = ad240 := (by injection e240)
              replace p240 := eq_true p240
              replace q240 := eq_true q240
              go_wp2_with (first | (go_at_call 28; (with_reducible refine (spec_NodeOf.calls k2 _ _ y236 ((rd_T34 l0 x3_2).f1) t241 _ ?side1 ?side2 A18.out).mono ?_); (case side1 => exact cU HR239.out); (case side2 => exact HC239.out); rintro e w' ⟨rfl, ⟨nd, rfl⟩⟩; (try first | exact ⟨rfl, _, World.drewN_drewN _ _ _⟩ | exact ⟨rfl, _, Eq.trans (World.drewN_drewN _ _ _) (congrArg (World.drewN _) (Nat.add_assoc _ _ _))⟩)))
              repeat (go_quiet (first | (go_at_call 28; (with_reducible refine (spec_NodeOf.calls k2 _ _ y236 ((rd_T34 l0 x3_2).f1) t241 _ ?side1 ?side2 A18.out).mono ?_); (case side1 => exact cU HR239.out); (case side2 => exact HC239.out); rintro e w' ⟨rfl, ⟨nd, rfl⟩⟩; (try first | exact ⟨rfl, _, World.drewN_drewN _ _ _⟩ | exact ⟨rfl, _, Eq.trans (World.drewN_drewN _ _ _) (congrArg (World.drewN _) (Nat.add_assoc _ _ _))⟩))); try go_wp2_with (first | (go_at_call 28; (with_reducible refine (spec_NodeOf.calls k2 _ _ y236 ((rd_T34 l0 x3_2).f1) t241 _ ?side1 ?side2 A18.out).mono ?_); (case side1 => exact cU HR239.out); (case side2 => exact HC239.out); rintro e w' ⟨rfl, ⟨nd, rfl⟩⟩; (try first | exact ⟨rfl, _, World.drewN_drewN _ _ _⟩ | exact ⟨rfl, _, Eq.trans (World.drewN_drewN _ _ _) (congrArg (World.drewN _) (Nat.add_assoc _ _ _))⟩))))
              go_meet
              case rel => exact ⟨_, (decide (t241 < 0)), (by first | rfl | (simp; done) | (simp [*]; done)), H', ⟨by have := HJ1.out; have := HK2.out; first | omega | exact Nat.le_refl _⟩, by repeat (first | exact Drawn0.refl _ | apply Drawn0.step)⟩
             ·rw [if_neg c17] at H
              exact absurd H (by simp)
           ·rw [if_neg c14] at H
            exact absurd H (by simp)
          ·rw [if_neg c13] at H
           exact absurd H (by simp)
         ·rw [if_neg c12] at H
          exact absurd H (by simp)
        ·rw [if_neg c10] at H
         have c10b0 : decide (0 < x3_2) = false := decide_eq_false c10
         clear c10
         (first | rw [c10b0] | (simp only [i64_w, i32_w]; rw [c10b0]) | skip)
         have H' := am H
         clear H
         go_wp2
         repeat (go_quiet (fail); try go_wp2)
         go_meet
         case rel => exact ⟨_, (false), (by first | rfl | (simp; done) | (simp [*]; done)), H', ⟨by have := HJ1.out; have := HK2.out; first | omega | exact Nat.le_refl _⟩, by repeat (first | exact Drawn0.refl _ | apply Drawn0.step)⟩
       case rest =>
        clear HC9
        try clear c1
        try clear q1
        try clear p2
        try clear q2
        try clear hx2
        try clear qi2
        try clear c4
        try clear c5
        try clear c5b0
        try clear c5b1
        try clear c6
        try clear c6b0
        try clear c6b1
        try clear p6
        try clear c7
        try clear c8
        try clear c8b0
        try clear c9
        try clear c10
        try clear c10b0
        try clear c12
        try clear c12b0
        try clear c13
        try clear c13b0
        try clear c14
        try clear c14b0
        try clear c15
        try clear c15b0
        try clear c16
        try clear c16b0
        try clear c17
        try clear c17b0
        try clear c17b1
        try clear q19
        try clear hx232_0
        try clear hx232_1
        try clear hx232_2
        try clear hx232_3
        try clear hx232_4
        try clear hx233_0
        try clear hx233_1
        try clear hx233_2
        try clear hx233_3
        try clear hx233_4
        try clear hx234_0
        try clear hx234_1
        try clear hx234_2
        try clear hx234_3
        try clear hx234_4
        try clear hx235_0
        try clear hx235_1
        try clear hx235_2
        try clear hx235_3
        try clear hx235_4
        try clear hx240_0
        try clear hx240_1
        try clear hx240_2
        try clear hx240_3
        try clear hx240_4
        try clear p2
        try clear p232
        try clear p233
        try clear p234
        try clear p235
        try clear p240
        try clear q19
        try clear q2
        try clear q232
        try clear q233
        try clear q234
        try clear q235
        try clear q240
        obtain ⟨kq, x55_8, rfl, HA, HJ8, ⟨mc8, rfl⟩⟩ := hcut
        cases kq with
        | zero => exact absurd HA.out (by simp [spec_IsDocument.j2])
        | succ kj8 =>
         have H := HA.out
         clear HA
         simp only [spec_IsDocument.j2] at H
         by_cases c20 : x55_8 = true
         ·subst c20
          have H1 : (some false) = some r := by rw [if_pos rfl] at H; exact H
          clear H
          have H := H1
          clear H1
          obtain rfl := Option.some.inj H
          go_wp2
          repeat (go_quiet (fail); try go_wp2)
          go_ret
          exact ⟨by first | rfl | (simp; done) | (simp [*]; done), by repeat (first | exact Drawn0.refl _ | apply Drawn0.step)⟩
         ·replace c20 := Bool.eq_false_iff.mpr c20
          subst c20
          have H1 : (if 0 ≤ x3_2 then (if x3_2 < (l0.length : Int) then ((spec_l1In.f ((rd_T34 l0 x3_2).f2) 0 9).bind fun t243 => (if t243 = true then ((spec_l1In.f ((rd_T34 l0 x3_2).f3) 0 999).bind fun t245 => (if t245 = true then ((spec_l1In.f ((rd_T34 l0 x3_2).f4) 0 5).bind fun t247 => (if t247 = true then (spec_IsDocument.l0 kj8 l0 (wrap64 (x3_2 + 1))) else (some false))) else (some false))) else (some false))) else (none)) else (none)) = some r := by rw [if_neg (show ¬ (false = true) by decide)] at H; exact H
          clear H
          have H := H1
          clear H1
          by_cases c21 : 0 ≤ x3_2
          ·rw [if_pos c21] at H
           have c21b0 : decide (0 ≤ x3_2) = true := decide_eq_true c21
           clear c21
           by_cases c22 : x3_2 < (l0.length : Int)
           ·rw [if_pos c22] at H
            have c22b0 : decide (x3_2 < (l0.length : Int)) = true := decide_eq_true c22
            clear c22
            replace H := Option.bind_eq_some_iff.mp H
            obtain ⟨t243, A230, H⟩ := H
            replace H : (if t243 = true then ((spec_l1In.f ((rd_T34 l0 x3_2).f3) 0 999).bind fun t245 => (if t245 = true then ((spec_l1In.f ((rd_T34 l0 x3_2).f4) 0 5).bind fun t247 => (if t247 = true then (spec_IsDocument.l0 kj8 l0 (wrap64 (x3_2 + 1))) else (some false))) else (some false))) else (some false)) = some r := H
            have A23 := am A230
            clear A230
            by_cases c24 : t243 = true
            ·subst c24
             have H1 : ((spec_l1In.f ((rd_T34 l0 x3_2).f3) 0 999).bind fun t245 => (if t245 = true then ((spec_l1In.f ((rd_T34 l0 x3_2).f4) 0 5).bind fun t247 => (if t247 = true then (spec_IsDocument.l0 kj8 l0 (wrap64 (x3_2 + 1))) else (some false))) else (some false))) = some r := by rw [if_pos rfl] at H; exact H
             clear H
             have H := H1
             clear H1
             replace H := Option.bind_eq_some_iff.mp H
             obtain ⟨t245, A250, H⟩ := H
             replace H : (if t245 = true then ((spec_l1In.f ((rd_T34 l0 x3_2).f4) 0 5).bind fun t247 => (if t247 = true then (spec_IsDocument.l0 kj8 l0 (wrap64 (x3_2 + 1))) else (some false))) else (some false)) = some r := H
             have A25 := am A250
             clear A250
             by_cases c26 : t245 = true
             ·subst c26
              have H1 : ((spec_l1In.f ((rd_T34 l0 x3_2).f4) 0 5).bind fun t247 => (if t247 = true then (spec_IsDocument.l0 kj8 l0 (wrap64 (x3_2 + 1))) else (some false))) = some r := by rw [if_pos rfl] at H; exact H
              clear H
              have H := H1
              clear H1
              replace H := Option.bind_eq_some_iff.mp H
              obtain ⟨t247, A270, H⟩ := H
              replace H : (if t247 = true then (spec_IsDocument.l0 kj8 l0 (wrap64 (x3_2 + 1))) else (some false)) = some r := H
              have A27 := am A270
              clear A270
              by_cases c28 : t247 = true
              ·subst c28
               have H1 : (spec_IsDocument.l0 kj8 l0 (wrap64 (x3_2 + 1))) = some r := by rw [if_pos rfl] at H; exact H
               clear H
               have H := H1
               clear H1
               have H' := am H
               clear H
               have p242 : 0 ≤ (x3_2 : Int) := dU
               have q242 : x3_2 < (l0.length : Int) := dU
               obtain ⟨ad242, e242, hx242_0, hx242_1, hx242_2, hx242_3, hx242_4⟩ := at_T34 HR0.out x3_2 p242 q242
               cases e242
               replace p242 := eq_true p242
               replace q242 := eq_true q242
               go_wp2_with (first | (go_at_call 27; (with_reducible refine (spec_l1In.calls ((rd_T34 l0 x3_2).f2) 0 9 true _ A23.out).mono ?_); rintro e w' ⟨rfl, ⟨nd, rfl⟩⟩; (try first | exact ⟨rfl, _, World.drewN_drewN _ _ _⟩ | exact ⟨rfl, _, Eq.trans (World.drewN_drewN _ _ _) (congrArg (World.drewN _) (Nat.add_assoc _ _ _))⟩); have p244 : 0 ≤ (x3_2 : Int) := dU; have q244 : x3_2 < (l0.length : Int) := dU; obtain ⟨ad244, e244, hx244_0, hx244_1, hx244_2, hx244_3, hx244_4⟩ := at_T34 HR0.out x3_2 p244 q244; obtain rfl : ad242 = ad244 := (by injection e244); replace p244 := eq_true p244; replace q244 := eq_true q244) | (go_at_call 27; (with_reducible refine (spec_l1In.calls ((rd_T34 l0 x3_2).f3) 0 999 true _ A25.out).mono ?_); rintro e w' ⟨rfl, ⟨nd, rfl⟩⟩; (try first | exact ⟨rfl, _, World.drewN_drewN _ _ _⟩ | exact ⟨rfl, _, Eq.trans (World.drewN_drewN _ _ _) (congrArg (World.drewN _) (Nat.add_assoc _ _ _))⟩); have p246 : 0 ≤ (x3_2 : Int) := dU; have q246 : x3_2 < (l0.length : Int) := dU; obtain ⟨ad246, e246, hx246_0, hx246_1, hx246_2, hx246_3, hx246_4⟩ := at_T34 HR0.out x3_2 p246 q246; obtain rfl : ad242 = ad246 := (by injection e246); replace p246 := eq_true p246; replace q246 := eq_true q246) | (go_at_call 27; (with_reducible refine (spec_l1In.calls ((rd_T34 l0 x3_2).f4) 0 5 true _ A27.out).mono ?_); rintro e w' ⟨rfl, ⟨nd, rfl⟩⟩; (try first | exact ⟨rfl, _, World.drewN_drewN _ _ _⟩ | exact ⟨rfl, _, Eq.trans (World.drewN_drewN _ _ _) (congrArg (World.drewN _) (Nat.add_assoc _ _ _))⟩)))
               repeat (go_quiet (first | (go_at_call 27; (with_reducible refine (spec_l1In.calls ((rd_T34 l0 x3_2).f2) 0 9 true _ A23.out).mono ?_); rintro e w' ⟨rfl, ⟨nd, rfl⟩⟩; (try first | exact ⟨rfl, _, World.drewN_drewN _ _ _⟩ | exact ⟨rfl, _, Eq.trans (World.drewN_drewN _ _ _) (congrArg (World.drewN _) (Nat.add_assoc _ _ _))⟩); have p244 : 0 ≤ (x3_2 : Int) := dU; have q244 : x3_2 < (l0.length : Int) := dU; obtain ⟨ad244, e244, hx244_0, hx244_1, hx244_2, hx244_3, hx244_4⟩ := at_T34 HR0.out x3_2 p244 q244; obtain rfl : ad242 = ad244 := (by injection e244); replace p244 := eq_true p244; replace q244 := eq_true q244) | (go_at_call 27; (with_reducible refine (spec_l1In.calls ((rd_T34 l0 x3_2).f3) 0 999 true _ A25.out).mono ?_); rintro e w' ⟨rfl, ⟨nd, rfl⟩⟩; (try first | exact ⟨rfl, _, World.drewN_drewN _ _ _⟩ | exact ⟨rfl, _, Eq.trans (World.drewN_drewN _ _ _) (congrArg (World.drewN _) (Nat.add_assoc _ _ _))⟩); have p246 : 0 ≤ (x3_2 : Int) := dU; have q246 : x3_2 < (l0.length : Int) := dU; obtain ⟨ad246, e246, hx246_0, hx246_1, hx246_2, hx246_3, hx246_4⟩ := at_T34 HR0.out x3_2 p246 q246; obtain rfl : ad242 = ad246 := (by injection e246); replace p246 := eq_true p246; replace q246 := eq_true q246) | (go_at_call 27; (with_reducible refine (spec_l1In.calls ((rd_T34 l0 x3_2).f4) 0 5 true _ A27.out).mono ?_); rintro e w' ⟨rfl, ⟨nd, rfl⟩⟩; (try first | exact ⟨rfl, _, World.drewN_drewN _ _ _⟩ | exact ⟨rfl, _, Eq.trans (World.drewN_drewN _ _ _) (congrArg (World.drewN _) (Nat.add_assoc _ _ _))⟩))); try go_wp2_with (first | (go_at_call 27; (with_reducible refine (spec_l1In.calls ((rd_T34 l0 x3_2).f2) 0 9 true _ A23.out).mono ?_); rintro e w' ⟨rfl, ⟨nd, rfl⟩⟩; (try first | exact ⟨rfl, _, World.drewN_drewN _ _ _⟩ | exact ⟨rfl, _, Eq.trans (World.drewN_drewN _ _ _) (congrArg (World.drewN _) (Nat.add_assoc _ _ _))⟩); have p244 : 0 ≤ (x3_2 : Int) := dU; have q244 : x3_2 < (l0.length : Int) := dU; obtain ⟨ad244, e244, hx244_0, hx244_1, hx244_2, hx244_3, hx244_4⟩ := at_T34 HR0.out x3_2 p244 q244; obtain rfl : ad242 = ad244 := (by injection e244); replace p244 := eq_true p244; replace q244 := eq_true q244) | (go_at_call 27; (with_reducible refine (spec_l1In.calls ((rd_T34 l0 x3_2).f3) 0 999 true _ A25.out).mono ?_); rintro e w' ⟨rfl, ⟨nd, rfl⟩⟩; (try first | exact ⟨rfl, _, World.drewN_drewN _ _ _⟩ | exact ⟨rfl, _, Eq.trans (World.drewN_drewN _ _ _) (congrArg (World.drewN _) (Nat.add_assoc _ _ _))⟩); have p246 : 0 ≤ (x3_2 : Int) := dU; have q246 : x3_2 < (l0.length : Int) := dU; obtain ⟨ad246, e246, hx246_0, hx246_1, hx246_2, hx246_3, hx246_4⟩ := at_T34 HR0.out x3_2 p246 q246; obtain rfl : ad242 = ad246 := (by injection e246); replace p246 := eq_true p246; replace q246 := eq_true q246) | (go_at_call 27; (with_reducible refine (spec_l1In.calls ((rd_T34 l0 x3_2).f4) 0 5 true _ A27.out).mono ?_); rintro e w' ⟨rfl, ⟨nd, rfl⟩⟩; (try first | exact ⟨rfl, _, World.drewN_drewN _ _ _⟩ | exact ⟨rfl, _, Eq.trans (World.drewN_drewN _ _ _) (congrArg (World.drewN _) (Nat.add_assoc _ _ _))⟩))))
               go_roundg kj8
               case measure => have := HJ1.out; have := HK2.out; have := HJ8.out; omega
               case rel => exact ⟨(wrap64 (x3_2 + 1)), (by first | rfl | (simp; done) | (simp [*]; done)), H', ⟨by have := HJ1.out; have := HK2.out; have := HJ8.out; omega⟩, by repeat (first | exact Drawn0.refl _ | apply Drawn0.step)⟩
              ·replace c28 := Bool.eq_false_iff.mpr c28
               subst c28
               have H1 : (some false) = some r := by rw [if_neg (show ¬ (false = true) by decide)] at H; exact H
               clear H
               have H := H1
               clear H1
               obtain rfl := Option.some.inj H
               have p242 : 0 ≤ (x3_2 : Int) := dU
               have q242 : x3_2 < (l0.length : Int) := dU
               obtain ⟨ad242, e242, hx242_0, hx242_1, hx242_2, hx242_3, hx242_4⟩ := at_T34 HR0.out x3_2 p242 q242
               cases e242
               replace p242 := eq_true p242
               replace q242 := eq_true q242
               go_wp2_with (first | (go_at_call 27; (with_reducible refine (spec_l1In.calls ((rd_T34 l0 x3_2).f2) 0 9 true _ A23.out).mono ?_); rintro e w' ⟨rfl, ⟨nd, rfl⟩⟩; (try first | exact ⟨rfl, _, World.drewN_drewN _ _ _⟩ | exact ⟨rfl, _, Eq.trans (World.drewN_drewN _ _ _) (congrArg (World.drewN _) (Nat.add_assoc _ _ _))⟩); have p244 : 0 ≤ (x3_2 : Int) := dU; have q244 : x3_2 < (l0.length : Int) := dU; obtain ⟨ad244, e244, hx244_0, hx244_1, hx244_2, hx244_3, hx244_4⟩ := at_T34 HR0.out x3_2 p244 q244; obtain rfl : ad242 = ad244 := (by injection e244); replace p244 := eq_true p244; replace q244 := eq_true q244) | (go_at_call 27; (with_reducible refine (spec_l1In.calls ((rd_T34 l0 x3_2).f3) 0 999 true _ A25.out).mono ?_); rintro e w' ⟨rfl, ⟨nd, rfl⟩⟩; (try first | exact ⟨rfl, _, World.drewN_drewN _ _ _⟩ | exact ⟨rfl, _, Eq.trans (World.drewN_drewN _ _ _) (congrArg (World.drewN _) (Nat.add_assoc _ _ _))⟩); have p246 : 0 ≤ (x3_2 : Int) := dU; have q246 : x3_2 < (l0.length : Int) := dU; obtain ⟨ad246, e246, hx246_0, hx246_1, hx246_2, hx246_3, hx246_4⟩ := at_T34 HR0.out x3_2 p246 q246; obtain rfl : ad242 = ad246 := (by injection e246); replace p246 := eq_true p246; replace q246 := eq_true q246) | (go_at_call 27; (with_reducible refine (spec_l1In.calls ((rd_T34 l0 x3_2).f4) 0 5 false _ A27.out).mono ?_); rintro e w' ⟨rfl, ⟨nd, rfl⟩⟩; (try first | exact ⟨rfl, _, World.drewN_drewN _ _ _⟩ | exact ⟨rfl, _, Eq.trans (World.drewN_drewN _ _ _) (congrArg (World.drewN _) (Nat.add_assoc _ _ _))⟩)))
               repeat (go_quiet (first | (go_at_call 27; (with_reducible refine (spec_l1In.calls ((rd_T34 l0 x3_2).f2) 0 9 true _ A23.out).mono ?_); rintro e w' ⟨rfl, ⟨nd, rfl⟩⟩; (try first | exact ⟨rfl, _, World.drewN_drewN _ _ _⟩ | exact ⟨rfl, _, Eq.trans (World.drewN_drewN _ _ _) (congrArg (World.drewN _) (Nat.add_assoc _ _ _))⟩); have p244 : 0 ≤ (x3_2 : Int) := dU; have q244 : x3_2 < (l0.length : Int) := dU; obtain ⟨ad244, e244, hx244_0, hx244_1, hx244_2, hx244_3, hx244_4⟩ := at_T34 HR0.out x3_2 p244 q244; obtain rfl : ad242 = ad244 := (by injection e244); replace p244 := eq_true p244; replace q244 := eq_true q244) | (go_at_call 27; (with_reducible refine (spec_l1In.calls ((rd_T34 l0 x3_2).f3) 0 999 true _ A25.out).mono ?_); rintro e w' ⟨rfl, ⟨nd, rfl⟩⟩; (try first | exact ⟨rfl, _, World.drewN_drewN _ _ _⟩ | exact ⟨rfl, _, Eq.trans (World.drewN_drewN _ _ _) (congrArg (World.drewN _) (Nat.add_assoc _ _ _))⟩); have p246 : 0 ≤ (x3_2 : Int) := dU; have q246 : x3_2 < (l0.length : Int) := dU; obtain ⟨ad246, e246, hx246_0, hx246_1, hx246_2, hx246_3, hx246_4⟩ := at_T34 HR0.out x3_2 p246 q246; obtain rfl : ad242 = ad246 := (by injection e246); replace p246 := eq_true p246; replace q246 := eq_true q246) | (go_at_call 27; (with_reducible refine (spec_l1In.calls ((rd_T34 l0 x3_2).f4) 0 5 false _ A27.out).mono ?_); rintro e w' ⟨rfl, ⟨nd, rfl⟩⟩; (try first | exact ⟨rfl, _, World.drewN_drewN _ _ _⟩ | exact ⟨rfl, _, Eq.trans (World.drewN_drewN _ _ _) (congrArg (World.drewN _) (Nat.add_assoc _ _ _))⟩))); try go_wp2_with (first | (go_at_call 27; (with_reducible refine (spec_l1In.calls ((rd_T34 l0 x3_2).f2) 0 9 true _ A23.out).mono ?_); rintro e w' ⟨rfl, ⟨nd, rfl⟩⟩; (try first | exact ⟨rfl, _, World.drewN_drewN _ _ _⟩ | exact ⟨rfl, _, Eq.trans (World.drewN_drewN _ _ _) (congrArg (World.drewN _) (Nat.add_assoc _ _ _))⟩); have p244 : 0 ≤ (x3_2 : Int) := dU; have q244 : x3_2 < (l0.length : Int) := dU; obtain ⟨ad244, e244, hx244_0, hx244_1, hx244_2, hx244_3, hx244_4⟩ := at_T34 HR0.out x3_2 p244 q244; obtain rfl : ad242 = ad244 := (by injection e244); replace p244 := eq_true p244; replace q244 := eq_true q244) | (go_at_call 27; (with_reducible refine (spec_l1In.calls ((rd_T34 l0 x3_2).f3) 0 999 true _ A25.out).mono ?_); rintro e w' ⟨rfl, ⟨nd, rfl⟩⟩; (try first | exact ⟨rfl, _, World.drewN_drewN _ _ _⟩ | exact ⟨rfl, _, Eq.trans (World.drewN_drewN _ _ _) (congrArg (World.drewN _) (Nat.add_assoc _ _ _))⟩); have p246 : 0 ≤ (x3_2 : Int) := dU; have q246 : x3_2 < (l0.length : Int) := dU; obtain ⟨ad246, e246, hx246_0, hx246_1, hx246_2, hx246_3, hx246_4⟩ := at_T34 HR0.out x3_2 p246 q246; obtain rfl : ad242 = ad246 := (by injection e246); replace p246 := eq_true p246; replace q246 := eq_true q246) | (go_at_call 27; (with_reducible refine (spec_l1In.calls ((rd_T34 l0 x3_2).f4) 0 5 false _ A27.out).mono ?_); rintro e w' ⟨rfl, ⟨nd, rfl⟩⟩; (try first | exact ⟨rfl, _, World.drewN_drewN _ _ _⟩ | exact ⟨rfl, _, Eq.trans (World.drewN_drewN _ _ _) (congrArg (World.drewN _) (Nat.add_assoc _ _ _))⟩))))
               go_ret
               exact ⟨by first | rfl | (simp; done) | (simp [*]; done), by repeat (first | exact Drawn0.refl _ | apply Drawn0.step)⟩
             ·replace c26 := Bool.eq_false_iff.mpr c26
              subst c26
              have H1 : (some false) = some r := by rw [if_neg (show ¬ (false = true) by decide)] at H; exact H
              clear H
              have H := H1
              clear H1
              obtain rfl := Option.some.inj H
              have p242 : 0 ≤ (x3_2 : Int) := dU
              have q242 : x3_2 < (l0.length : Int) := dU
              obtain ⟨ad242, e242, hx242_0, hx242_1, hx242_2, hx242_3, hx242_4⟩ := at_T34 HR0.out x3_2 p242 q242
              cases e242
              replace p242 := eq_true p242
              replace q242 := eq_true q242
              go_wp2_with (first | (go_at_call 27; (with_reducible refine (spec_l1In.calls ((rd_T34 l0 x3_2).f2) 0 9 true _ A23.out).mono ?_); rintro e w' ⟨rfl, ⟨nd, rfl⟩⟩; (try first | exact ⟨rfl, _, World.drewN_drewN _ _ _⟩ | exact ⟨rfl, _, Eq.trans (World.drewN_drewN _ _ _) (congrArg (World.drewN _) (Nat.add_assoc _ _ _))⟩); have p244 : 0 ≤ (x3_2 : Int) := dU; have q244 : x3_2 < (l0.length : Int) := dU; obtain ⟨ad244, e244, hx244_0, hx244_1, hx244_2, hx244_3, hx244_4⟩ := at_T34 HR0.out x3_2 p244 q244; obtain rfl : ad242 = ad244 := (by injection e244); replace p244 := eq_true p244; replace q244 := eq_true q244) | (go_at_call 27; (with_reducible refine (spec_l1In.calls ((rd_T34 l0 x3_2).f3) 0 999 false _ A25.out).mono ?_); rintro e w' ⟨rfl, ⟨nd, rfl⟩⟩; (try first | exact ⟨rfl, _, World.drewN_drewN _ _ _⟩ | exact ⟨rfl, _, Eq.trans (World.drewN_drewN _ _ _) (congrArg (World.drewN _) (Nat.add_assoc _ _ _))⟩)))
              repeat (go_quiet (first | (go_at_call 27; (with_reducible refine (spec_l1In.calls ((rd_T34 l0 x3_2).f2) 0 9 true _ A23.out).mono ?_); rintro e w' ⟨rfl, ⟨nd, rfl⟩⟩; (try first | exact ⟨rfl, _, World.drewN_drewN _ _ _⟩ | exact ⟨rfl, _, Eq.trans (World.drewN_drewN _ _ _) (congrArg (World.drewN _) (Nat.add_assoc _ _ _))⟩); have p244 : 0 ≤ (x3_2 : Int) := dU; have q244 : x3_2 < (l0.length : Int) := dU; obtain ⟨ad244, e244, hx244_0, hx244_1, hx244_2, hx244_3, hx244_4⟩ := at_T34 HR0.out x3_2 p244 q244; obtain rfl : ad242 = ad244 := (by injection e244); replace p244 := eq_true p244; replace q244 := eq_true q244) | (go_at_call 27; (with_reducible refine (spec_l1In.calls ((rd_T34 l0 x3_2).f3) 0 999 false _ A25.out).mono ?_); rintro e w' ⟨rfl, ⟨nd, rfl⟩⟩; (try first | exact ⟨rfl, _, World.drewN_drewN _ _ _⟩ | exact ⟨rfl, _, Eq.trans (World.drewN_drewN _ _ _) (congrArg (World.drewN _) (Nat.add_assoc _ _ _))⟩))); try go_wp2_with (first | (go_at_call 27; (with_reducible refine (spec_l1In.calls ((rd_T34 l0 x3_2).f2) 0 9 true _ A23.out).mono ?_); rintro e w' ⟨rfl, ⟨nd, rfl⟩⟩; (try first | exact ⟨rfl, _, World.drewN_drewN _ _ _⟩ | exact ⟨rfl, _, Eq.trans (World.drewN_drewN _ _ _) (congrArg (World.drewN _) (Nat.add_assoc _ _ _))⟩); have p244 : 0 ≤ (x3_2 : Int) := dU; have q244 : x3_2 < (l0.length : Int) := dU; obtain ⟨ad244, e244, hx244_0, hx244_1, hx244_2, hx244_3, hx244_4⟩ := at_T34 HR0.out x3_2 p244 q244; obtain rfl : ad242 = ad244 := (by injection e244); replace p244 := eq_true p244; replace q244 := eq_true q244) | (go_at_call 27; (with_reducible refine (spec_l1In.calls ((rd_T34 l0 x3_2).f3) 0 999 false _ A25.out).mono ?_); rintro e w' ⟨rfl, ⟨nd, rfl⟩⟩; (try first | exact ⟨rfl, _, World.drewN_drewN _ _ _⟩ | exact ⟨rfl, _, Eq.trans (World.drewN_drewN _ _ _) (congrArg (World.drewN _) (Nat.add_assoc _ _ _))⟩))))
              go_ret
              exact ⟨by first | rfl | (simp; done) | (simp [*]; done), by repeat (first | exact Drawn0.refl _ | apply Drawn0.step)⟩
            ·replace c24 := Bool.eq_false_iff.mpr c24
             subst c24
             have H1 : (some false) = some r := by rw [if_neg (show ¬ (false = true) by decide)] at H; exact H
             clear H
             have H := H1
             clear H1
             obtain rfl := Option.some.inj H
             have p242 : 0 ≤ (x3_2 : Int) := dU
             have q242 : x3_2 < (l0.length : Int) := dU
             obtain ⟨ad242, e242, hx242_0, hx242_1, hx242_2, hx242_3, hx242_4⟩ := at_T34 HR0.out x3_2 p242 q242
             cases e242
             replace p242 := eq_true p242
             replace q242 := eq_true q242
             go_wp2_with (first | (go_at_call 27; (with_reducible refine (spec_l1In.calls ((rd_T34 l0 x3_2).f2) 0 9 false _ A23.out).mono ?_); rintro e w' ⟨rfl, ⟨nd, rfl⟩⟩; (try first | exact ⟨rfl, _, World.drewN_drewN _ _ _⟩ | exact ⟨rfl, _, Eq.trans (World.drewN_drewN _ _ _) (congrArg (World.drewN _) (Nat.add_assoc _ _ _))⟩)))
             repeat (go_quiet (first | (go_at_call 27; (with_reducible refine (spec_l1In.calls ((rd_T34 l0 x3_2).f2) 0 9 false _ A23.out).mono ?_); rintro e w' ⟨rfl, ⟨nd, rfl⟩⟩; (try first | exact ⟨rfl, _, World.drewN_drewN _ _ _⟩ | exact ⟨rfl, _, Eq.trans (World.drewN_drewN _ _ _) (congrArg (World.drewN _) (Nat.add_assoc _ _ _))⟩))); try go_wp2_with (first | (go_at_call 27; (with_reducible refine (spec_l1In.calls ((rd_T34 l0 x3_2).f2) 0 9 false _ A23.out).mono ?_); rintro e w' ⟨rfl, ⟨nd, rfl⟩⟩; (try first | exact ⟨rfl, _, World.drewN_drewN _ _ _⟩ | exact ⟨rfl, _, Eq.trans (World.drewN_drewN _ _ _) (congrArg (World.drewN _) (Nat.add_assoc _ _ _))⟩))))
             go_ret
             exact ⟨by first | rfl | (simp; done) | (simp [*]; done), by repeat (first | exact Drawn0.refl _ | apply Drawn0.step)⟩
           ·rw [if_neg c22] at H
            exact absurd H (by simp)
          ·rw [if_neg c21] at H
           exact absurd H (by simp)
      ·rw [if_neg c8] at H
       have c8b0 : decide (x3_2 < (l0.length : Int)) = false := decide_eq_false c8
       clear c8
       obtain rfl := Option.some.inj H
       go_wp2
       repeat (go_quiet (fail); try go_wp2)
       go_ret
       exact ⟨by first | rfl | (simp; done) | (simp [*]; done), by repeat (first | exact Drawn0.refl _ | apply Drawn0.step)⟩
def laws_contains.l0 : Nat → List Int → Int → Int → Option (Bool)
 | 0, _, _, _ => none
 | k + 1, x0, x1, x5 => if x5 < (x0.length : Int) then (if 0 ≤ x5 then (if (rd x0 x5) = x1 then (some true) else (laws_contains.l0 k x0 x1 (wrap64 (x5 + 1)))) else (none)) else (some false)
def laws_contains.f (k : Nat) (l0 : List Int) (a1 : Int) : Option (Bool) := laws_contains.l0 k l0 a1 0
theorem laws_contains.mono_l : ∀ k, (∀ y0 y1 y2, LeO (laws_contains.l0 k y0 y1 y2) (laws_contains.l0 (k + 1) y0 y1 y2))
 | 0 => fun _ _ _ r h => by simp [laws_contains.l0] at h
 | k + 1 => by
  have ih0 := laws_contains.mono_l k
  ·intro y0 y1 y2
   unfold laws_contains.l0
   repeat' first
   | (with_reducible exact ih0 _ _ _)
   | (with_reducible exact LeO.refl _)
   | (with_reducible exact LeO.none _)
   | (with_reducible refine LeO.ite ?_ ?_)
   | (with_reducible refine LeO.bind ?_ (fun _ => ?_))
   | exact ih0 _ _ _
   | exact LeO.none _
   | refine LeO.ite ?_ ?_
   | refine LeO.bind ?_ (fun _ => ?_)
theorem laws_contains.mono : ∀ a0 a1 k, LeO (laws_contains.f k a0 a1) (laws_contains.f (k + 1) a0 a1) := by
 intro a0 a1 k
 have ih0 := laws_contains.mono_l k
 unfold laws_contains.f
 repeat' first
   | (with_reducible exact ih0 _ _ _)
   | (with_reducible exact LeO.refl _)
   | (with_reducible exact LeO.none _)
   | (with_reducible refine LeO.ite ?_ ?_)
   | (with_reducible refine LeO.bind ?_ (fun _ => ?_))
   | exact ih0 _ _ _
   | exact LeO.none _
   | refine LeO.ite ?_ ?_
   | refine LeO.bind ?_ (fun _ => ?_)
set_option maxHeartbeats 8000000 in
set_option maxRecDepth 100000 in
theorem laws_contains.calls (k : Nat) (A0 : Option Addr) (c0 : Nat) (l0 : List Int) (a1 : Int) (r : Bool) (w : World) (hr0 : Kd.C (Kd.int .i64) w A0 l0.length l0) (hc0 : l0.length ≤ c0) (h : laws_contains.f k l0 a1 = some r) :
  Calls Tryd.prog 11 #[.slice A0 l0.length c0, .int .i64 a1] w fun e w' => e = .returned (.bool r) ∧ Drawn0 w w' := by
 have HR0 := am hr0
 have HC0 := am hc0
 clear hr0 hc0
 have H : (laws_contains.l0 k l0 a1 0) = some r := h
 clear h
 have H' := am H
 clear H
 go_enter Tryd.func11, Tryd.ntmps11
 go_wp2
 go_loopg [5] k (fun kq v5 w' => ∃ (x5_1 : Int), v5 = .int .i64 x5_1 ∧ Aside0 (laws_contains.l0 kq l0 a1 x5_1 = some r) ∧ Aside0 (kq ≤ k) ∧ Drawn0 w w')
 case atStart => exact ⟨(0), (by first | rfl | (simp; done) | (simp [*]; done)), H', ⟨Nat.le_refl _⟩, by repeat (first | exact Drawn0.refl _ | apply Drawn0.step)⟩
 case round =>
  clear H'
  try clear c1
  try clear p2
  obtain ⟨x5_1, rfl, HA, HK1, ⟨m1, rfl⟩⟩ := hrel
  cases gk with
  | zero => exact absurd HA.out (by simp [laws_contains.l0])
  | succ k1 =>
   have H := HA.out
   clear HA
   simp only [laws_contains.l0] at H
   by_cases c3 : x5_1 < (l0.length : Int)
   ·rw [if_pos c3] at H
    have c3b0 : decide (x5_1 < (l0.length : Int)) = true := decide_eq_true c3
    clear c3
    by_cases c4 : 0 ≤ x5_1
    ·rw [if_pos c4] at H
     have c4b0 : decide (0 ≤ x5_1) = true := decide_eq_true c4
     clear c4
     by_cases c5 : (rd l0 x5_1) = a1
     ·rw [if_pos c5] at H
      have c5b0 : ((rd l0 x5_1) == a1) = true := beq_iff_eq.mpr c5
      have c5b1 : ((rd l0 x5_1) != a1) = false := bne_eq_false_iff_eq.mpr c5
      clear c5
      obtain rfl := Option.some.inj H
      have p248 : 0 ≤ (x5_1 : Int) := dU
      have q248 : x5_1 < (l0.length : Int) := dU
      obtain ⟨ad248, e248, hx248_0⟩ := Kd.at_int HR0.out x5_1 p248 q248
      cases e248
      replace p248 := eq_true p248
      replace q248 := eq_true q248
      go_wp2
      go_ret
      exact ⟨by first | rfl | (simp; done) | (simp [*]; done), by repeat (first | exact Drawn0.refl _ | apply Drawn0.step)⟩
     ·rw [if_neg c5] at H
      have c5b0 : ((rd l0 x5_1) == a1) = false := beq_eq_false_iff_ne.mpr c5
      have c5b1 : ((rd l0 x5_1) != a1) = true := bne_iff_ne.mpr c5
      have H' := am H
      clear H
      have p248 : 0 ≤ (x5_1 : Int) := dU
      have q248 : x5_1 < (l0.length : Int) := dU
      obtain ⟨ad248, e248, hx248_0⟩ := Kd.at_int HR0.out x5_1 p248 q248
      cases e248
      replace p248 := eq_true p248
      replace q248 := eq_true q248
      go_wp2
      go_roundg k1
      case measure => have := HK1.out; omega
      case rel => exact ⟨(wrap64 (x5_1 + 1)), (by first | rfl | (simp; done) | (simp [*]; done)), H', ⟨by have := HK1.out; omega⟩, by repeat (first | exact Drawn0.refl _ | apply Drawn0.step)⟩
    ·rw [if_neg c4] at H
     exact absurd H (by simp)
   ·rw [if_neg c3] at H
    have c3b0 : decide (x5_1 < (l0.length : Int)) = false := decide_eq_false c3
    clear c3
    obtain rfl := Option.some.inj H
    go_wp2
    go_ret
    exact ⟨by first | rfl | (simp; done) | (simp [*]; done), by repeat (first | exact Drawn0.refl _ | apply Drawn0.step)⟩
def impl_ChildrenOf.l0 : Nat → Int → List Int → List (S34) → Int → Int → Option (List Int)
 | 0, _, _, _, _, _ => none
 | k + 1, x1, x5, x9, x10, x11 => if x11 < x10 then (if 0 ≤ x11 then (if x11 < (x9.length : Int) then (if ((rd_T34 x9 x11).f1) = x1 then (if x5.length < 17592186044416 then (impl_ChildrenOf.l0 k x1 (x5 ++ [(rd_T34 x9 x11).f0]) x9 x10 (wrap64 (x11 + 1))) else (none)) else (impl_ChildrenOf.l0 k x1 x5 x9 x10 (wrap64 (x11 + 1)))) else (none)) else (none)) else (some x5)
def impl_ChildrenOf.f (k : Nat) (l0 : List (S34)) (a1 : Int) : Option (List Int) := impl_ChildrenOf.l0 k a1 (([] : List Int)) l0 (l0.length : Int) 0
theorem impl_ChildrenOf.mono_l : ∀ k, (∀ y0 y1 y2 y3 y4, LeO (impl_ChildrenOf.l0 k y0 y1 y2 y3 y4) (impl_ChildrenOf.l0 (k + 1) y0 y1 y2 y3 y4))
 | 0 => fun _ _ _ _ _ r h => by simp [impl_ChildrenOf.l0] at h
 | k + 1 => by
  have ih0 := impl_ChildrenOf.mono_l k
  ·intro y0 y1 y2 y3 y4
   unfold impl_ChildrenOf.l0
   repeat' first
   | (with_reducible exact ih0 _ _ _ _ _)
   | (with_reducible exact LeO.refl _)
   | (with_reducible exact LeO.none _)
   | (with_reducible refine LeO.ite ?_ ?_)
   | (with_reducible refine LeO.bind ?_ (fun _ => ?_))
   | exact ih0 _ _ _ _ _
   | exact LeO.none _
   | refine LeO.ite ?_ ?_
   | refine LeO.bind ?_ (fun _ => ?_)
theorem impl_ChildrenOf.mono : ∀ a0 a1 k, LeO (impl_ChildrenOf.f k a0 a1) (impl_ChildrenOf.f (k + 1) a0 a1) := by
 intro a0 a1 k
 have ih0 := impl_ChildrenOf.mono_l k
 unfold impl_ChildrenOf.f
 repeat' first
   | (with_reducible exact ih0 _ _ _ _ _)
   | (with_reducible exact LeO.refl _)
   | (with_reducible exact LeO.none _)
   | (with_reducible refine LeO.ite ?_ ?_)
   | (with_reducible refine LeO.bind ?_ (fun _ => ?_))
   | exact ih0 _ _ _ _ _
   | exact LeO.none _
   | refine LeO.ite ?_ ?_
   | refine LeO.bind ?_ (fun _ => ?_)
set_option maxHeartbeats 8000000 in
set_option maxRecDepth 100000 in
theorem impl_ChildrenOf.calls (k : Nat) (A0 : Option Addr) (c0 : Nat) (l0 : List (S34)) (a1 : Int) (r : List Int) (w : World) (hr0 : Kd.C k34 w A0 l0.length l0) (hc0 : l0.length ≤ c0) (h : impl_ChildrenOf.f k l0 a1 = some r) :
  Calls Tryd.prog 12 #[.slice A0 l0.length c0, .int .i64 a1] w fun e w' => ∃ v0_ : Value, e = .returned (v0_) ∧ Kd.R (Kd.int .i64) 3 w' w.heap.size (fun _ => True) v0_ r ∧ Below w.heap.size w w' := by
 have hu34 := Tryd.underlying34
 have HR0 := am hr0
 have HC0 := am hc0
 clear hr0 hc0
 have HB := am (Below.refl w.heap.size w)
 have H : (impl_ChildrenOf.l0 k a1 (([] : List Int)) l0 (l0.length : Int) 0) = some r := h
 clear h
 obtain ⟨y249, hy249⟩ : ∃ y_ : List Int, y_ = (([] : List Int)) := ⟨_, rfl⟩
 replace H : (impl_ChildrenOf.l0 k a1 y249 l0 (l0.length : Int) 0) = some r := by first | (rw [hy249]; with_reducible exact H) | (have H2_ := (Option.bind_some _ _).symm.trans H; rw [hy249]; with_reducible exact H2_) | (have H2_ := (Option.bind_some _ _).symm.trans H; with_reducible exact H2_) | with_reducible exact H | (rw [hy249]; exact H) | exact H
 have Ny249 := am hy249
 clear hy249
 have H' := am H
 clear H
 go_enter Tryd.func12, Tryd.ntmps12
 go_wp2_with (first | ((with_reducible refine gate_dst (N := 8) rfl ?_); refine Kd.R_lit (Kd.int .i64) _ 3 ?hg (N := 8) ?hd (xs := ([] : List Int)) (inner := []) (ok := fun _ => True) (okp := fun _ => True) ?hr ?hp (fun _ hk => hk) trivial (Below.refl _ _) (Nat.le_refl _) (by simp) ?_; (case hd => rfl); (case hg => rfl); (case hr => first | (go_simp; done) | (go_simp; rfl)); (case hp => exact (Reps.none _ _)); intro v250 w3 ho4 hb hg_ hnew_; clear hg_ hnew_; (first | rw [← Ny249.out] at ho4 | (simp only [Int.reduceToNat] at ho4; rw [← Ny249.out] at ho4)); have n0_ := am (Kd.R_lower ho4 (below_size (bU HB.out))); have n1_ := am (below_step (bU HB.out) hb); clear HB; have HO251 := n0_; have HB := n1_; clear n0_ n1_; clear hb ho4))
 go_loopg [5, 11] k (fun kq v5 v11 w' => ∃ (x5_1 : List Int) (x11_1 : Int), v11 = .int .i64 x11_1 ∧ Aside0 (impl_ChildrenOf.l0 kq a1 x5_1 l0 (l0.length : Int) x11_1 = some r) ∧ Aside0 (kq ≤ k) ∧ Aside0 (Kd.R (Kd.int .i64) 3 w' w.heap.size (fun _ => True) v5 x5_1) ∧ Aside0 (Below w.heap.size w w'))
 case atStart => exact ⟨(y249), (0), (by first | rfl | (simp; done) | (simp [*]; done)), H', ⟨Nat.le_refl _⟩, ⟨rU HO251.out⟩, ⟨bU HB.out⟩⟩
 case round =>
  clear H'
  try clear c1
  try clear p2
  obtain ⟨x5_1, x11_1, rfl, HA, HK1, HO_5, HB⟩ := hrel
  cases gk with
  | zero => exact absurd HA.out (by simp [impl_ChildrenOf.l0])
  | succ k1 =>
   have H := HA.out
   clear HA
   simp only [impl_ChildrenOf.l0] at H
   by_cases c5 : x11_1 < (l0.length : Int)
   ·rw [if_pos c5] at H
    have c5b0 : decide (x11_1 < (l0.length : Int)) = true := decide_eq_true c5
    clear c5
    by_cases c6 : 0 ≤ x11_1
    ·rw [if_pos c6] at H
     have c6b0 : decide (0 ≤ x11_1) = true := decide_eq_true c6
     clear c6
     by_cases c7 : x11_1 < (l0.length : Int)
     ·rw [if_pos c7] at H
      have c7b0 : decide (x11_1 < (l0.length : Int)) = true := decide_eq_true c7
      clear c7
      by_cases c8 : ((rd_T34 l0 x11_1).f1) = a1
      ·rw [if_pos c8] at H
       have c8b0 : (((rd_T34 l0 x11_1).f1) == a1) = true := beq_iff_eq.mpr c8
       have c8b1 : (((rd_T34 l0 x11_1).f1) != a1) = false := bne_eq_false_iff_eq.mpr c8
       clear c8
       by_cases c9 : x5_1.length < 17592186044416
       ·rw [if_pos c9] at H
        have LMc9 := am c9
        clear c9
        obtain ⟨y254, hy254⟩ : ∃ y_ : List Int, y_ = (x5_1 ++ [(rd_T34 l0 x11_1).f0]) := ⟨_, rfl⟩
        replace H : (impl_ChildrenOf.l0 k1 a1 y254 l0 (l0.length : Int) (wrap64 (x11_1 + 1))) = some r := by first | (rw [hy254]; with_reducible exact H) | (have H2_ := (Option.bind_some _ _).symm.trans H; rw [hy254]; with_reducible exact H2_) | (have H2_ := (Option.bind_some _ _).symm.trans H; with_reducible exact H2_) | with_reducible exact H | (rw [hy254]; exact H) | exact H
        have Ny254 := am hy254
        clear hy254
        have H' := am H
        clear H
        have p252 : 0 ≤ (x11_1 : Int) := dU
        have q252 : x11_1 < (l0.length : Int) := dU
        obtain ⟨ad252, e252, hx252_0, hx252_1, hx252_2, hx252_3, hx252_4⟩ := at_T34 HR0.out x11_1 p252 q252
        cases e252
        replace hx252_0 := cB HB.out hx252_0
        replace hx252_1 := cB HB.out hx252_1
        replace hx252_2 := cB HB.out hx252_2
        replace hx252_3 := cB HB.out hx252_3
        replace hx252_4 := cB HB.out hx252_4
        replace p252 := eq_true p252
        replace q252 := eq_true q252
        go_wp2_with (first | ((with_reducible refine gate_dst (N := 7) rfl ?_); refine box_event ?hg (N := 7) ?hd (cs := #[.int .i64 0, .int .i64 0, .int .i64 0, .int .i64 0, .int .i64 0]) (t := 34) ?hr ?_; (case hd => rfl); (case hg => rfl); (case hr => first | (go_simp; done) | (go_simp; rfl)); intro gb253 hg w10 hbox hb; have n0_ := am (Kd.R_below (rU HO_5.out) hb); have n1_ := am (below_step (bU HB.out) hb); have n2_ := am (hbox); have n3_ := am ((by rw [hg]; exact (below_size (bU HB.out)) : w.heap.size ≤ gb253)); have n4_ := am ((by rw [hg]; exact (below_size (bU HB.out)) : w.heap.size ≤ gb253)); clear HO_5; clear HB; have HO_5 := n0_; have HB := n1_; have BK253 := n2_; have GW253 := n3_; have GE253 := n4_; clear n0_ n1_ n2_ n3_ n4_; clear hb hbox hg; obtain ⟨hcz11_0, hcz11_1, hcz11_2, hcz11_3, hcz11_4⟩ := bc5 BK253.out; obtain ⟨hfz11_0, hfz11_1, hfz11_2, hfz11_3, hfz11_4⟩ := bf5 BK253.out) | ((with_reducible refine gate_builtin (b := .append) (xs := #[.tmp 19, .tmp 22]) rfl ?_); at_builtin; refine Kd.R_append (Kd.int .i64) (w0 := w) w.heap.size rfl (.tmp 19) (.tmp 22) 31 3 (.int .i64 0) 8 rfl Tryd.underlying31 info3 rfl (by decide) (by omega) u5 x5_1 ((rd_T34 l0 x11_1).f0) [.int .i64 ((rd_T34 l0 x11_1).f0)] (fun _ => True) (fun _ => False) rfl (by first | (go_simp; done) | (go_simp; rfl)) ?aP (fun _ hk => hk.elim) ?aF ?aO ?aB ?aS ?aL ?_; (case aP => exact rfl); (case aB => exact bS HB.out GE253.out); (case aF => exact (fun _ _ => trivial)); (case aO => exact (by (with_reducible repeat (first | apply Kd.R_alloc | apply Kd.R_drewN | apply Kd.R_drew)); exact Kd.R_mono (Kd.R_far (p := ⟨gb253, 4, none⟩) (Kd.R_far (p := ⟨gb253, 3, none⟩) (Kd.R_far (p := ⟨gb253, 2, none⟩) (Kd.R_far (p := ⟨gb253, 1, none⟩) (Kd.R_far (p := ⟨gb253, 0, none⟩) (Kd.R_types HO_5.out BK253.out (by decide)) (fun _ hk => hk.2) (.int .i64 ((rd_T34 l0 x11_1).f0))) (fun _ hk => hk.2) (.int .i64 ((rd_T34 l0 x11_1).f1))) (fun _ hk => hk.2) (.int .i64 ((rd_T34 l0 x11_1).f2))) (fun _ hk => hk.2) (.int .i64 ((rd_T34 l0 x11_1).f3))) (fun _ hk => hk.2) (.int .i64 ((rd_T34 l0 x11_1).f4))) (fun _ hk => trivial))); (case aS => exact (below_size (bS HB.out GE253.out))); (case aL => have := LMc9.out; omega); intro v255 w12 ho hb hg hat; rw [← Ny254.out] at ho; have n0_ := am (blk_grown (g := gb253) (o := .cells #[.int .i64 ((rd_T34 l0 x11_1).f0), .int .i64 ((rd_T34 l0 x11_1).f1), .int .i64 ((rd_T34 l0 x11_1).f2), .int .i64 ((rd_T34 l0 x11_1).f3), .int .i64 ((rd_T34 l0 x11_1).f4)] 34 (0, 0)) (by (with_reducible repeat (first | refine blk_drewN ?_ _ | refine blk_drew ?_ | refine blk_alloc ?_ _)); refine blk_put (cs := #[.int .i64 ((rd_T34 l0 x11_1).f0), .int .i64 ((rd_T34 l0 x11_1).f1), .int .i64 ((rd_T34 l0 x11_1).f2), .int .i64 ((rd_T34 l0 x11_1).f3), .int .i64 0]) ?_ 4 _ rfl; (with_reducible repeat (first | refine blk_drewN ?_ _ | refine blk_drew ?_ | refine blk_alloc ?_ _)); refine blk_put (cs := #[.int .i64 ((rd_T34 l0 x11_1).f0), .int .i64 ((rd_T34 l0 x11_1).f1), .int .i64 ((rd_T34 l0 x11_1).f2), .int .i64 0, .int .i64 0]) ?_ 3 _ rfl; (with_reducible repeat (first | refine blk_drewN ?_ _ | refine blk_drew ?_ | refine blk_alloc ?_ _)); refine blk_put (cs := #[.int .i64 ((rd_T34 l0 x11_1).f0), .int .i64 ((rd_T34 l0 x11_1).f1), .int .i64 0, .int .i64 0, .int .i64 0]) ?_ 2 _ rfl; (with_reducible repeat (first | refine blk_drewN ?_ _ | refine blk_drew ?_ | refine blk_alloc ?_ _)); refine blk_put (cs := #[.int .i64 ((rd_T34 l0 x11_1).f0), .int .i64 0, .int .i64 0, .int .i64 0, .int .i64 0]) ?_ 1 _ rfl; (with_reducible repeat (first | refine blk_drewN ?_ _ | refine blk_drew ?_ | refine blk_alloc ?_ _)); refine blk_put (cs := #[.int .i64 0, .int .i64 0, .int .i64 0, .int .i64 0, .int .i64 0]) ?_ 0 _ rfl; exact kU BK253.out) hg (Kd.R_ne HO_5.out BK253.out (by decide))); have n1_ := am (hb); have n2_ := am (ho); clear BK253; clear HB; clear HO_5; have BK253 := n0_; have HB := n1_; have HO256 := n2_; clear n0_ n1_ n2_; clear ho hb hg hat))
        go_roundg k1
        case measure => have := HK1.out; omega
        case rel => exact ⟨(y254), (wrap64 (x11_1 + 1)), (by first | rfl | (simp; done) | (simp [*]; done)), H', ⟨by have := HK1.out; omega⟩, ⟨rU HO256.out⟩, ⟨bS HB.out GE253.out⟩⟩
       ·rw [if_neg c9] at H
        exact absurd H (by simp)
      ·rw [if_neg c8] at H
       have c8b0 : (((rd_T34 l0 x11_1).f1) == a1) = false := beq_eq_false_iff_ne.mpr c8
       have c8b1 : (((rd_T34 l0 x11_1).f1) != a1) = true := bne_iff_ne.mpr c8
       have H' := am H
       clear H
       have p252 : 0 ≤ (x11_1 : Int) := dU
       have q252 : x11_1 < (l0.length : Int) := dU
       obtain ⟨ad252, e252, hx252_0, hx252_1, hx252_2, hx252_3, hx252_4⟩ := at_T34 HR0.out x11_1 p252 q252
       cases e252
       replace hx252_0 := cB HB.out hx252_0
       replace hx252_1 := cB HB.out hx252_1
       replace hx252_2 := cB HB.out hx252_2
       replace hx252_3 := cB HB.out hx252_3
       replace hx252_4 := cB HB.out hx252_4
       replace p252 := eq_true p252
       replace q252 := eq_true q252
       go_wp2_with (first | ((with_reducible refine gate_dst (N := 7) rfl ?_); refine box_event ?hg (N := 7) ?hd (cs := #[.int .i64 0, .int .i64 0, .int .i64 0, .int .i64 0, .int .i64 0]) (t := 34) ?hr ?_; (case hd => rfl); (case hg => rfl); (case hr => first | (go_simp; done) | (go_simp; rfl)); intro gb253 hg w13 hbox hb; have n0_ := am (Kd.R_below (rU HO_5.out) hb); have n1_ := am (below_step (bU HB.out) hb); have n2_ := am (hbox); have n3_ := am ((by rw [hg]; exact (below_size (bU HB.out)) : w.heap.size ≤ gb253)); have n4_ := am ((by rw [hg]; exact (below_size (bU HB.out)) : w.heap.size ≤ gb253)); clear HO_5; clear HB; have HO_5 := n0_; have HB := n1_; have BK253 := n2_; have GW253 := n3_; have GE253 := n4_; clear n0_ n1_ n2_ n3_ n4_; clear hb hbox hg; obtain ⟨hcz14_0, hcz14_1, hcz14_2, hcz14_3, hcz14_4⟩ := bc5 BK253.out; obtain ⟨hfz14_0, hfz14_1, hfz14_2, hfz14_3, hfz14_4⟩ := bf5 BK253.out))
       go_roundg k1
       case measure => have := HK1.out; omega
       case rel => exact ⟨(x5_1), (wrap64 (x11_1 + 1)), (by first | rfl | (simp; done) | (simp [*]; done)), H', ⟨by have := HK1.out; omega⟩, ⟨by (with_reducible repeat (first | apply Kd.R_alloc | apply Kd.R_drewN | apply Kd.R_drew)); exact Kd.R_mono (Kd.R_far (p := ⟨gb253, 4, none⟩) (Kd.R_far (p := ⟨gb253, 3, none⟩) (Kd.R_far (p := ⟨gb253, 2, none⟩) (Kd.R_far (p := ⟨gb253, 1, none⟩) (Kd.R_far (p := ⟨gb253, 0, none⟩) (Kd.R_types HO_5.out BK253.out (by decide)) (fun _ hk => hk.2) (.int .i64 ((rd_T34 l0 x11_1).f0))) (fun _ hk => hk.2) (.int .i64 ((rd_T34 l0 x11_1).f1))) (fun _ hk => hk.2) (.int .i64 ((rd_T34 l0 x11_1).f2))) (fun _ hk => hk.2) (.int .i64 ((rd_T34 l0 x11_1).f3))) (fun _ hk => hk.2) (.int .i64 ((rd_T34 l0 x11_1).f4))) (fun _ hk => trivial)⟩, ⟨bS HB.out GE253.out⟩⟩
     ·rw [if_neg c7] at H
      exact absurd H (by simp)
    ·rw [if_neg c6] at H
     exact absurd H (by simp)
   ·rw [if_neg c5] at H
    have c5b0 : decide (x11_1 < (l0.length : Int)) = false := decide_eq_false c5
    clear c5
    obtain rfl := Option.some.inj H
    go_wp2
    go_ret
    exact ⟨_, eU, rU HO_5.out, bU HB.out⟩
def spec_l1Once.f (s0_0 : List Int) (s0_1 : Int) (s0_2 : Int) (a1 : Int) : Option (Bool × Int × Int) := (spec_l1Below.f s0_0 s0_1 s0_2 a1).bind fun bt257 => (some ((bt257.1 == 0), bt257.2.1, bt257.2.2))
set_option maxHeartbeats 8000000 in
set_option maxRecDepth 100000 in
theorem spec_l1Once.calls (g : Nat) (s0_0 : List Int) (s0_1 : Int) (s0_2 : Int) (a1 : Int) (r1 : Bool) (r2 : Int) (r3 : Int) (w0 w : World) (hI : IsS65 w0 w g s0_0 s0_1 s0_2) (hB : Below w0.heap.size w0 w) (h : spec_l1Once.f s0_0 s0_1 s0_2 a1 = some (r1, r2, r3)) :
  Calls Tryd.prog 29 #[.pointer (some ⟨g, 0, none⟩), .int .i64 a1] w fun e w' => e = .returned (.bool r1) ∧ IsS65 w0 w' g s0_0 r2 r3 ∧ Below w0.heap.size w0 w' ∧ KeepBut w w' g none := by
 have HI0 := am hI
 have HK := am (KeepBut.refl w g none)
 have HL := am hB.size
 clear hI
 have HW0 := am hB.size
 have HB := am hB
 clear hB
 have H : ((spec_l1Below.f s0_0 s0_1 s0_2 a1).bind fun bt257 => (some ((bt257.1 == 0), bt257.2.1, bt257.2.2))) = some (r1, r2, r3) := h
 clear h
 replace H := Option.bind_eq_some_iff.mp H
 obtain ⟨⟨t257, t258, t259⟩, A30, H⟩ := H
 replace H : (some ((t257 == 0), t258, t259)) = some (r1, r2, r3) := H
 have A3 := am A30
 clear A30
 simp only [Option.some.injEq, Prod.mk.injEq] at H
 obtain ⟨rfl, rfl, rfl⟩ := H
 go_enter Tryd.func29, Tryd.ntmps29
 go_wp2_with (first | ((with_reducible refine gate_callee (f := 24) rfl ?_); refine goesL_ (some 7) rfl rfl Tryd.func24 (by kernel_rfl) rfl #[.pointer (some ⟨g, 0, none⟩), .int .i64 a1] rfl mU ?_; (with_reducible refine (spec_l1Below.calls g s0_0 s0_1 s0_2 a1 t257 t258 t259 w0 _ ?side1 ?side2 A3.out).mono ?_); (case side1 => repeat (first | (with_reducible first | exact HI0.out | apply IsS65.alloc | apply IsS65.drewN | apply IsS65.drew | apply IsS65.set_1 | apply IsS65.set_2) | exact HI0.out)); (case side2 => repeat (first | (with_reducible first | exact HB.out | apply below_alloc | apply pw_below_drewN | apply below_drew1 | refine below_set ?_ (IsS65.ge HI0.out)) | exact HB.out)); rintro e w4 ⟨rfl, hi, hb, hk⟩; refine ⟨_, rfl, ?_⟩; have n0_ := am (KeepBut.trans (by repeat (first | (with_reducible first | exact HK.out | apply KeepBut.set_ | apply keep_drewN | apply keep_drew | apply keep_alloc) | exact HK.out)) hk (.inl rfl)); have n1_ := am (hb); have n2_ := am (hi); clear HK; clear HB; clear HI0; have HK := n0_; have HB := n1_; have HI0 := n2_; clear n0_ n1_ n2_; (try clear hb); (try clear hb2); (try clear hk); (try clear hi)))
 go_ret
 exact ⟨eU, by repeat (first | (with_reducible first | exact HI0.out | apply IsS65.alloc | apply IsS65.drewN | apply IsS65.drew | apply IsS65.set_1 | apply IsS65.set_2) | exact HI0.out), by repeat (first | (with_reducible first | exact HB.out | apply below_alloc | apply pw_below_drewN | apply below_drew1 | refine below_set ?_ (IsS65.ge HI0.out)) | exact HB.out), by repeat (first | (with_reducible first | exact HK.out | apply KeepBut.set_ | apply keep_drewN | apply keep_drew | apply keep_alloc) | exact HK.out)⟩
end Go.Proofs.YtefppmgcenfemaaDoor.QFnDocuments
