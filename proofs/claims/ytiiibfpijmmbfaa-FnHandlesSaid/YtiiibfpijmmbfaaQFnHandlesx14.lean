import Derived.Test.YtiiibfpijmmbfaaUp
import Derived.Test.YtiiibfpijmmbfaaQFnHandlesx0
import Derived.Test.YtiiibfpijmmbfaaQFnHandlesx8
import Derived.Test.YtiiibfpijmmbfaaQFnHandlesx9
import Derived.Test.YtiiibfpijmmbfaaQFnHandlesx12
import Derived.Test.YtiiibfpijmmbfaaQFnHandlesx13
namespace Go.Proofs.Ytiiibfpijmmbfaa.QFnHandles
open Go.RowKit Go.Proofs.YtiiibfpijmmbfaaW.PrintWords Go.Proofs.YtiiibfpijmmbfaaW.PrintLast Go.Proofs.YtiiibfpijmmbfaaW.PrintMore
attribute [local go_sem] max2_int min2_int max_two min_two max_three min_three max_four min_four
set_option linter.unusedVariables false
set_option linter.unusedSimpArgs false
def spec_l7Sees.l0 : Nat → List (S59) → List Int → Int → Int → Option (Bool)
 | 0, _, _, _, _ => none
 | k + 1, x0, x1, x2, x3 => if x3 ≥ 0 then (if 0 ≤ x3 then (if x3 < (x0.length : Int) then ((spec_l7Has.f k x1 ((rd_T59 x0 x3).f2)).bind fun t487 => (if t487 = true then (if ((rd_T59 x0 x3).f4) = x2 then (if x3 ≤ (x0.length : Int) then ((spec_NodeOf.f k (x0.take (x3 : Int).toNat) ((rd_T59 x0 x3).f1)).bind fun t494 => (spec_l7Sees.l0 k x0 x1 x2 t494)) else (none)) else (some false)) else (if x3 ≤ (x0.length : Int) then ((spec_NodeOf.f k (x0.take (x3 : Int).toNat) ((rd_T59 x0 x3).f1)).bind fun t500 => (spec_l7Sees.l0 k x0 x1 x2 t500)) else (none)))) else (none)) else (none)) else (some true)
def spec_l7Sees.f (k : Nat) (l0 : List (S59)) (l1 : List Int) (a2 : Int) (a3 : Int) : Option (Bool) := spec_l7Sees.l0 k l0 l1 a2 a3
theorem spec_l7Sees.mono_l : ∀ k, (∀ y0 y1 y2 y3, LeO (spec_l7Sees.l0 k y0 y1 y2 y3) (spec_l7Sees.l0 (k + 1) y0 y1 y2 y3))
 | 0 => fun _ _ _ _ r h => by simp [spec_l7Sees.l0] at h
 | k + 1 => by
  have ih0 := spec_l7Sees.mono_l k
  ·intro y0 y1 y2 y3
   unfold spec_l7Sees.l0
   repeat' first
   | (with_reducible exact ih0 _ _ _ _)
   | (with_reducible exact spec_NodeOf.mono _ _ _)
   | (with_reducible exact spec_l7Has.mono _ _ _)
   | (with_reducible exact LeO.refl _)
   | (with_reducible exact LeO.none _)
   | (with_reducible refine LeO.ite ?_ ?_)
   | (with_reducible refine LeO.bind ?_ (fun _ => ?_))
   | exact ih0 _ _ _ _
   | exact spec_NodeOf.mono _ _ _
   | exact spec_l7Has.mono _ _ _
   | exact LeO.none _
   | refine LeO.ite ?_ ?_
   | refine LeO.bind ?_ (fun _ => ?_)
theorem spec_l7Sees.mono : ∀ a0 a1 a2 a3 k, LeO (spec_l7Sees.f k a0 a1 a2 a3) (spec_l7Sees.f (k + 1) a0 a1 a2 a3) := by
 intro a0 a1 a2 a3 k
 have ih0 := spec_l7Sees.mono_l k
 unfold spec_l7Sees.f
 repeat' first
   | (with_reducible exact ih0 _ _ _ _)
   | (with_reducible exact spec_NodeOf.mono _ _ _)
   | (with_reducible exact spec_l7Has.mono _ _ _)
   | (with_reducible exact LeO.refl _)
   | (with_reducible exact LeO.none _)
   | (with_reducible refine LeO.ite ?_ ?_)
   | (with_reducible refine LeO.bind ?_ (fun _ => ?_))
   | exact ih0 _ _ _ _
   | exact spec_NodeOf.mono _ _ _
   | exact spec_l7Has.mono _ _ _
   | exact LeO.none _
   | refine LeO.ite ?_ ?_
   | refine LeO.bind ?_ (fun _ => ?_)
set_option maxHeartbeats 8000000 in
set_option maxRecDepth 100000 in
theorem spec_l7Sees.calls (k : Nat) (A0 : Option Addr) (c0 : Nat) (l0 : List (S59)) (A1 : Option Addr) (c1 : Nat) (l1 : List Int) (a2 : Int) (a3 : Int) (r : Bool) (w : World) (hr0 : Kd.C k59 w A0 l0.length l0) (hc0 : l0.length ≤ c0) (hr1 : Kd.C (Kd.int .i64) w A1 l1.length l1) (hc1 : l1.length ≤ c1) (h : spec_l7Sees.f k l0 l1 a2 a3 = some r) :
  Calls Try.prog 95 #[.slice A0 l0.length c0, .slice A1 l1.length c1, .int .i64 a2, .int .i64 a3] w fun e w' => e = .returned (.bool r) ∧ Drawn0 w w' := by
 have HR0 := am hr0
 have HC0 := am hc0
 clear hr0 hc0
 have HR1 := am hr1
 have HC1 := am hc1
 clear hr1 hc1
 have H : (spec_l7Sees.l0 k l0 l1 a2 a3) = some r := h
 clear h
 have H' := am H
 clear H
 go_enter Try.func95, Try.ntmps95
 go_wp2
 repeat (go_quiet (fail); try go_wp2)
 go_loopg [3] k (fun kq v3 w' => ∃ (x3_1 : Int), v3 = .int .i64 x3_1 ∧ Aside0 (spec_l7Sees.l0 kq l0 l1 a2 x3_1 = some r) ∧ Aside0 (kq ≤ k) ∧ Drawn0 w w')
 case atStart => exact ⟨(a3), (by first | rfl | (simp; done) | (simp [*]; done)), H', ⟨Nat.le_refl _⟩, by repeat (first | exact Drawn0.refl _ | apply Drawn0.step)⟩
 case round =>
  clear H'
  try clear c1
  try clear p2
  obtain ⟨x3_1, rfl, HA, HK1, ⟨m1, rfl⟩⟩ := hrel
  cases gk with
  | zero => exact absurd HA.out (by simp [spec_l7Sees.l0])
  | succ k1 =>
   have H := HA.out
   clear HA
   simp only [spec_l7Sees.l0] at H
   by_cases c5 : x3_1 ≥ 0
   ·rw [if_pos c5] at H
    have c5b0 : decide (0 ≤ x3_1) = true := decide_eq_true c5
    clear c5
    by_cases c6 : 0 ≤ x3_1
    ·rw [if_pos c6] at H
     have c6b0 : decide (0 ≤ x3_1) = true := decide_eq_true c6
     clear c6
     by_cases c7 : x3_1 < (l0.length : Int)
     ·rw [if_pos c7] at H
      have c7b0 : decide (x3_1 < (l0.length : Int)) = true := decide_eq_true c7
      clear c7
      replace H := Option.bind_eq_some_iff.mp H
      obtain ⟨t487, A80, H⟩ := H
      replace H : (if t487 = true then (if ((rd_T59 l0 x3_1).f4) = a2 then (if x3_1 ≤ (l0.length : Int) then ((spec_NodeOf.f k1 (l0.take (x3_1 : Int).toNat) ((rd_T59 l0 x3_1).f1)).bind fun t494 => (spec_l7Sees.l0 k1 l0 l1 a2 t494)) else (none)) else (some false)) else (if x3_1 ≤ (l0.length : Int) then ((spec_NodeOf.f k1 (l0.take (x3_1 : Int).toNat) ((rd_T59 l0 x3_1).f1)).bind fun t500 => (spec_l7Sees.l0 k1 l0 l1 a2 t500)) else (none))) = some r := H
      have A8 := am A80
      clear A80
      by_cases c9 : t487 = true
      ·subst c9
       have H1 : (if ((rd_T59 l0 x3_1).f4) = a2 then (if x3_1 ≤ (l0.length : Int) then ((spec_NodeOf.f k1 (l0.take (x3_1 : Int).toNat) ((rd_T59 l0 x3_1).f1)).bind fun t494 => (spec_l7Sees.l0 k1 l0 l1 a2 t494)) else (none)) else (some false)) = some r := by rw [if_pos rfl] at H; exact H
       clear H
       have H := H1
       clear H1
       by_cases c10 : ((rd_T59 l0 x3_1).f4) = a2
       ·rw [if_pos c10] at H
        have c10b0 : (((rd_T59 l0 x3_1).f4) == a2) = true := beq_iff_eq.mpr c10
        have c10b1 : (((rd_T59 l0 x3_1).f4) != a2) = false := bne_eq_false_iff_eq.mpr c10
        clear c10
        have c11b0 := eq_true (dU : 0 ≤ x3_1)
        by_cases c12 : x3_1 ≤ (l0.length : Int)
        ·rw [if_pos c12] at H
         have c12b0 := eq_true c12
         have c12b1 : decide (x3_1 ≤ (l0.length : Int)) = true := decide_eq_true c12
         clear c12
         obtain ⟨y489, hy489⟩ : ∃ y_ : List (S59), y_ = (l0.take (x3_1 : Int).toNat) := ⟨_, rfl⟩
         replace H : ((spec_NodeOf.f k1 y489 ((rd_T59 l0 x3_1).f1)).bind fun t494 => (spec_l7Sees.l0 k1 l0 l1 a2 t494)) = some r := by first | (rw [hy489]; with_reducible exact H) | (have H2_ := (Option.bind_some _ _).symm.trans H; rw [hy489]; with_reducible exact H2_) | (have H2_ := (Option.bind_some _ _).symm.trans H; with_reducible exact H2_) | with_reducible exact H | (rw [hy489]; exact H) | exact H
         have Ny489 := am hy489
         clear hy489
         replace H := Option.bind_eq_some_iff.mp H
         obtain ⟨t494, A130, H⟩ := H
         replace H : (spec_l7Sees.l0 k1 l0 l1 a2 t494) = some r := H
         have A13 := am A130
         clear A130
         have H' := am H
         clear H
         have p486 : 0 ≤ (x3_1 : Int) := dU
         have q486 : x3_1 < (l0.length : Int) := dU
         obtain ⟨ad486, e486, hx486_0, hx486_1, hx486_2, hx486_3, hx486_4⟩ := at_T59 HR0.out x3_1 p486 q486
         cases e486
         replace p486 := eq_true p486
         replace q486 := eq_true q486
         go_wp2_with (first | (go_at_call 113; (with_reducible refine (spec_l7Has.calls k1 _ _ l1 ((rd_T59 l0 x3_1).f2) true _ ?side1 ?side2 A8.out).mono ?_); (case side1 => exact cU HR1.out); (case side2 => exact HC1.out); rintro e w' ⟨rfl, ⟨nd, rfl⟩⟩; (try first | exact ⟨rfl, _, World.drewN_drewN _ _ _⟩ | exact ⟨rfl, _, Eq.trans (World.drewN_drewN _ _ _) (congrArg (World.drewN _) (Nat.add_assoc _ _ _))⟩); have p488 : 0 ≤ (x3_1 : Int) := dU; have q488 : x3_1 < (l0.length : Int) := dU; obtain ⟨ad488, e488, hx488_0, hx488_1, hx488_2, hx488_3, hx488_4⟩ := at_T59 HR0.out x3_1 p488 q488; obtain rfl : ad486 = ad488 := (by injection e488); replace p488 := eq_true p488; replace q488 := eq_true q488; have q14 : (x3_1 : Int) ≤ ((l0.length : Int) : Int) := dU; obtain ⟨i014, hi014, _, hsz14, _⟩ := info_parts info59; have hroom14 : l0.length ≤ c0 := HC0.out; have hC14 : Kd.C k59 _ (some ad486) l0.length l0 := HR0.out; have hcut14 := cut_to (P := Try.prog) 26 59 .i64 Try.underlying26 hi014 (some ad486) l0.length c0 x3_1 (dU) q14 hroom14; have hr14 := Kd.C_take (m := (x3_1 : Int).toNat) hC14 (by omega); have hy14 : y489.length = (x3_1 : Int).toNat := (by rw [Ny489.out, List.length_take]; omega); rw [← Ny489.out] at hr14; rw [← hy14] at hcut14; have HR492 := am hr14; have HC492 := am (show y489.length ≤ c0 from by omega); clear hr14 hC14 hroom14 hi014 hsz14; have KY14 := am hy14; clear hy14; replace q14 := eq_true q14; have p493 : 0 ≤ (x3_1 : Int) := dU; have q493 : x3_1 < (l0.length : Int) := dU; obtain ⟨ad493, e493, hx493_0, hx493_1, hx493_2, hx493_3, hx493_4⟩ := at_T59 HR0.out x3_1 p493 q493; obtain rfl : ad486 = ad493 := (by injection e493); replace p493 := eq_true p493; replace q493 := eq_true q493) | (go_at_call 67; (with_reducible refine (spec_NodeOf.calls k1 _ _ y489 ((rd_T59 l0 x3_1).f1) t494 _ ?side1 ?side2 A13.out).mono ?_); (case side1 => exact cU HR492.out); (case side2 => exact HC492.out); rintro e w' ⟨rfl, ⟨nd, rfl⟩⟩; (try first | exact ⟨rfl, _, World.drewN_drewN _ _ _⟩ | exact ⟨rfl, _, Eq.trans (World.drewN_drewN _ _ _) (congrArg (World.drewN _) (Nat.add_assoc _ _ _))⟩)))
         repeat (go_quiet (first | (go_at_call 113; (with_reducible refine (spec_l7Has.calls k1 _ _ l1 ((rd_T59 l0 x3_1).f2) true _ ?side1 ?side2 A8.out).mono ?_); (case side1 => exact cU HR1.out); (case side2 => exact HC1.out); rintro e w' ⟨rfl, ⟨nd, rfl⟩⟩; (try first | exact ⟨rfl, _, World.drewN_drewN _ _ _⟩ | exact ⟨rfl, _, Eq.trans (World.drewN_drewN _ _ _) (congrArg (World.drewN _) (Nat.add_assoc _ _ _))⟩); have p488 : 0 ≤ (x3_1 : Int) := dU; have q488 : x3_1 < (l0.length : Int) := dU; obtain ⟨ad488, e488, hx488_0, hx488_1, hx488_2, hx488_3, hx488_4⟩ := at_T59 HR0.out x3_1 p488 q488; obtain rfl : ad486 = ad488 := (by injection e488); replace p488 := eq_true p488; replace q488 := eq_true q488; have q14 : (x3_1 : Int) ≤ ((l0.length : Int) : Int) := dU; obtain ⟨i014, hi014, _, hsz14, _⟩ := info_parts info59; have hroom14 : l0.length ≤ c0 := HC0.out; have hC14 : Kd.C k59 _ (some ad486) l0.length l0 := HR0.out; have hcut14 := cut_to (P := Try.prog) 26 59 .i64 Try.underlying26 hi014 (some ad486) l0.length c0 x3_1 (dU) q14 hroom14; have hr14 := Kd.C_take (m := (x3_1 : Int).toNat) hC14 (by omega); have hy14 : y489.length = (x3_1 : Int).toNat := (by rw [Ny489.out, List.length_take]; omega); rw [← Ny489.out] at hr14; rw [← hy14] at hcut14; have HR492 := am hr14; have HC492 := am (show y489.length ≤ c0 from by omega); clear hr14 hC14 hroom14 hi014 hsz14; have KY14 := am hy14; clear hy14; replace q14 := eq_true q14; have p493 : 0 ≤ (x3_1 : Int) := dU; have q493 : x3_1 < (l0.length : Int) := dU; obtain ⟨ad493, e493, hx493_0, hx493_1, hx493_2, hx493_3, hx493_4⟩ := at_T59 HR0.out x3_1 p493 q493; obtain rfl : ad486 = ad493 := (by injection e493); replace p493 := eq_true p493; replace q493 := eq_true q493) | (go_at_call 67; (with_reducible refine (spec_NodeOf.calls k1 _ _ y489 ((rd_T59 l0 x3_1).f1) t494 _ ?side1 ?side2 A13.out).mono ?_); (case side1 => exact cU HR492.out); (case side2 => exact HC492.out); rintro e w' ⟨rfl, ⟨nd, rfl⟩⟩; (try first | exact ⟨rfl, _, World.drewN_drewN _ _ _⟩ | exact ⟨rfl, _, Eq.trans (World.drewN_drewN _ _ _) (congrArg (World.drewN _) (Nat.add_assoc _ _ _))⟩))); try go_wp2_with (first | (go_at_call 113; (with_reducible refine (spec_l7Has.calls k1 _ _ l1 ((rd_T59 l0 x3_1).f2) true _ ?side1 ?side2 A8.out).mono ?_); (case side1 => exact cU HR1.out); (case side2 => exact HC1.out); rintro e w' ⟨rfl, ⟨nd, rfl⟩⟩; (try first | exact ⟨rfl, _, World.drewN_drewN _ _ _⟩ | exact ⟨rfl, _, Eq.trans (World.drewN_drewN _ _ _) (congrArg (World.drewN _) (Nat.add_assoc _ _ _))⟩); have p488 : 0 ≤ (x3_1 : Int) := dU; have q488 : x3_1 < (l0.length : Int) := dU; obtain ⟨ad488, e488, hx488_0, hx488_1, hx488_2, hx488_3, hx488_4⟩ := at_T59 HR0.out x3_1 p488 q488; obtain rfl : ad486 = ad488 := (by injection e488); replace p488 := eq_true p488; replace q488 := eq_true q488; have q14 : (x3_1 : Int) ≤ ((l0.length : Int) : Int) := dU; obtain ⟨i014, hi014, _, hsz14, _⟩ := info_parts info59; have hroom14 : l0.length ≤ c0 := HC0.out; have hC14 : Kd.C k59 _ (some ad486) l0.length l0 := HR0.out; have hcut14 := cut_to (P := Try.prog) 26 59 .i64 Try.underlying26 hi014 (some ad486) l0.length c0 x3_1 (dU) q14 hroom14; have hr14 := Kd.C_take (m := (x3_1 : Int).toNat) hC14 (by omega); have hy14 : y489.length = (x3_1 : Int).toNat := (by rw [Ny489.out, List.length_take]; omega); rw [← Ny489.out] at hr14; rw [← hy14] at hcut14; have HR492 := am hr14; have HC492 := am (show y489.length ≤ c0 from by omega); clear hr14 hC14 hroom14 hi014 hsz14; have KY14 := am hy14; clear hy14; replace q14 := eq_true q14; have p493 : 0 ≤ (x3_1 : Int) := dU; have q493 : x3_1 < (l0.length : Int) := dU; obtain ⟨ad493, e493, hx493_0, hx493_1, hx493_2, hx493_3, hx493_4⟩ := at_T59 HR0.out x3_1 p493 q493; obtain rfl : ad486 = ad493 := (by injection e493); replace p493 := eq_true p493; replace q493 := eq_true q493) | (go_at_call 67; (with_reducible refine (spec_NodeOf.calls k1 _ _ y489 ((rd_T59 l0 x3_1).f1) t494 _ ?side1 ?side2 A13.out).mono ?_); (case side1 => exact cU HR492.out); (case side2 => exact HC492.out); rintro e w' ⟨rfl, ⟨nd, rfl⟩⟩; (try first | exact ⟨rfl, _, World.drewN_drewN _ _ _⟩ | exact ⟨rfl, _, Eq.trans (World.drewN_drewN _ _ _) (congrArg (World.drewN _) (Nat.add_assoc _ _ _))⟩))))
         go_roundg k1
         case measure => have := HK1.out; omega
         case rel => exact ⟨(t494), (by first | rfl | (simp; done) | (simp [*]; done)), H', ⟨by have := HK1.out; omega⟩, by repeat (first | exact Drawn0.refl _ | apply Drawn0.step)⟩
        ·rw [if_neg c12] at H
         exact absurd H (by simp)
       ·rw [if_neg c10] at H
        have c10b0 : (((rd_T59 l0 x3_1).f4) == a2) = false := beq_eq_false_iff_ne.mpr c10
        have c10b1 : (((rd_T59 l0 x3_1).f4) != a2) = true := bne_iff_ne.mpr c10
        obtain rfl := Option.some.inj H
        have p486 : 0 ≤ (x3_1 : Int) := dU
        have q486 : x3_1 < (l0.length : Int) := dU
        obtain ⟨ad486, e486, hx486_0, hx486_1, hx486_2, hx486_3, hx486_4⟩ := at_T59 HR0.out x3_1 p486 q486
        cases e486
        replace p486 := eq_true p486
        replace q486 := eq_true q486
        go_wp2_with (first | (go_at_call 113; (with_reducible refine (spec_l7Has.calls k1 _ _ l1 ((rd_T59 l0 x3_1).f2) true _ ?side1 ?side2 A8.out).mono ?_); (case side1 => exact cU HR1.out); (case side2 => exact HC1.out); rintro e w' ⟨rfl, ⟨nd, rfl⟩⟩; (try first | exact ⟨rfl, _, World.drewN_drewN _ _ _⟩ | exact ⟨rfl, _, Eq.trans (World.drewN_drewN _ _ _) (congrArg (World.drewN _) (Nat.add_assoc _ _ _))⟩); have p488 : 0 ≤ (x3_1 : Int) := dU; have q488 : x3_1 < (l0.length : Int) := dU; obtain ⟨ad488, e488, hx488_0, hx488_1, hx488_2, hx488_3, hx488_4⟩ := at_T59 HR0.out x3_1 p488 q488; obtain rfl : ad486 = ad488 := (by injection e488); replace p488 := eq_true p488; replace q488 := eq_true q488))
        repeat (go_quiet (first | (go_at_call 113; (with_reducible refine (spec_l7Has.calls k1 _ _ l1 ((rd_T59 l0 x3_1).f2) true _ ?side1 ?side2 A8.out).mono ?_); (case side1 => exact cU HR1.out); (case side2 => exact HC1.out); rintro e w' ⟨rfl, ⟨nd, rfl⟩⟩; (try first | exact ⟨rfl, _, World.drewN_drewN _ _ _⟩ | exact ⟨rfl, _, Eq.trans (World.drewN_drewN _ _ _) (congrArg (World.drewN _) (Nat.add_assoc _ _ _))⟩); have p488 : 0 ≤ (x3_1 : Int) := dU; have q488 : x3_1 < (l0.length : Int) := dU; obtain ⟨ad488, e488, hx488_0, hx488_1, hx488_2, hx488_3, hx488_4⟩ := at_T59 HR0.out x3_1 p488 q488; obtain rfl : ad486 = ad488 := (by injection e488); replace p488 := eq_true p488; replace q488 := eq_true q488)); try go_wp2_with (first | (go_at_call 113; (with_reducible refine (spec_l7Has.calls k1 _ _ l1 ((rd_T59 l0 x3_1).f2) true _ ?side1 ?side2 A8.out).mono ?_); (case side1 => exact cU HR1.out); (case side2 => exact HC1.out); rintro e w' ⟨rfl, ⟨nd, rfl⟩⟩; (try first | exact ⟨rfl, _, World.drewN_drewN _ _ _⟩ | exact ⟨rfl, _, Eq.trans (World.drewN_drewN _ _ _) (congrArg (World.drewN _) (Nat.add_assoc _ _ _))⟩); have p488 : 0 ≤ (x3_1 : Int) := dU; have q488 : x3_1 < (l0.length : Int) := dU; obtain ⟨ad488, e488, hx488_0, hx488_1, hx488_2, hx488_3, hx488_4⟩ := at_T59 HR0.out x3_1 p488 q488; obtain rfl : ad486 = ad488 := (by injection e488); replace p488 := eq_true p488; replace q488 := eq_true q488)))
        go_ret
        exact ⟨by first | rfl | (simp; done) | (simp [*]; done), by repeat (first | exact Drawn0.refl _ | apply Drawn0.step)⟩
      ·replace c9 := Bool.eq_false_iff.mpr c9
       subst c9
       have H1 : (if x3_1 ≤ (l0.length : Int) then ((spec_NodeOf.f k1 (l0.take (x3_1 : Int).toNat) ((rd_T59 l0 x3_1).f1)).bind fun t500 => (spec_l7Sees.l0 k1 l0 l1 a2 t500)) else (none)) = some r := by rw [if_neg (show ¬ (false = true) by decide)] at H; exact H
       clear H
       have H := H1
       clear H1
       have c15b0 := eq_true (dU : 0 ≤ x3_1)
       by_cases c16 : x3_1 ≤ (l0.length : Int)
       ·rw [if_pos c16] at H
        have c16b0 := eq_true c16
        have c16b1 : decide (x3_1 ≤ (l0.length : Int)) = true := decide_eq_true c16
        clear c16
        obtain ⟨y495, hy495⟩ : ∃ y_ : List (S59), y_ = (l0.take (x3_1 : Int).toNat) := ⟨_, rfl⟩
        replace H : ((spec_NodeOf.f k1 y495 ((rd_T59 l0 x3_1).f1)).bind fun t500 => (spec_l7Sees.l0 k1 l0 l1 a2 t500)) = some r := by first | (rw [hy495]; with_reducible exact H) | (have H2_ := (Option.bind_some _ _).symm.trans H; rw [hy495]; with_reducible exact H2_) | (have H2_ := (Option.bind_some _ _).symm.trans H; with_reducible exact H2_) | with_reducible exact H | (rw [hy495]; exact H) | exact H
        have Ny495 := am hy495
        clear hy495
        replace H := Option.bind_eq_some_iff.mp H
        obtain ⟨t500, A170, H⟩ := H
        replace H : (spec_l7Sees.l0 k1 l0 l1 a2 t500) = some r := H
        have A17 := am A170
        clear A170
        have H' := am H
        clear H
        have p486 : 0 ≤ (x3_1 : Int) := dU
        have q486 : x3_1 < (l0.length : Int) := dU
        obtain ⟨ad486, e486, hx486_0, hx486_1, hx486_2, hx486_3, hx486_4⟩ := at_T59 HR0.out x3_1 p486 q486
        cases e486
        replace p486 := eq_true p486
        replace q486 := eq_true q486
        go_wp2_with (first | (go_at_call 113; (with_reducible refine (spec_l7Has.calls k1 _ _ l1 ((rd_T59 l0 x3_1).f2) false _ ?side1 ?side2 A8.out).mono ?_); (case side1 => exact cU HR1.out); (case side2 => exact HC1.out); rintro e w' ⟨rfl, ⟨nd, rfl⟩⟩; (try first | exact ⟨rfl, _, World.drewN_drewN _ _ _⟩ | exact ⟨rfl, _, Eq.trans (World.drewN_drewN _ _ _) (congrArg (World.drewN _) (Nat.add_assoc _ _ _))⟩); have q18 : (x3_1 : Int) ≤ ((l0.length : Int) : Int) := dU; obtain ⟨i018, hi018, _, hsz18, _⟩ := info_parts info59; have hroom18 : l0.length ≤ c0 := HC0.out; have hC18 : Kd.C k59 _ (some ad486) l0.length l0 := HR0.out; have hcut18 := cut_to (P := Try.prog) 26 59 .i64 Try.underlying26 hi018 (some ad486) l0.length c0 x3_1 (dU) q18 hroom18; have hr18 := Kd.C_take (m := (x3_1 : Int).toNat) hC18 (by omega); have hy18 : y495.length = (x3_1 : Int).toNat := (by rw [Ny495.out, List.length_take]; omega); rw [← Ny495.out] at hr18; rw [← hy18] at hcut18; have HR498 := am hr18; have HC498 := am (show y495.length ≤ c0 from by omega); clear hr18 hC18 hroom18 hi018 hsz18; have KY18 := am hy18; clear hy18; replace q18 := eq_true q18; have p499 : 0 ≤ (x3_1 : Int) := dU; have q499 : x3_1 < (l0.length : Int) := dU; obtain ⟨ad499, e499, hx499_0, hx499_1, hx499_2, hx499_3, hx499_4⟩ := at_T59 HR0.out x3_1 p499 q499; obtain rfl : ad486 = ad499 := (by injection e499); replace p499 := eq_true p499; replace q499 := eq_true q499) | (go_at_call 67; (with_reducible refine (spec_NodeOf.calls k1 _ _ y495 ((rd_T59 l0 x3_1).f1) t500 _ ?side1 ?side2 A17.out).mono ?_); (case side1 => exact cU HR498.out); (case side2 => exact HC498.out); rintro e w' ⟨rfl, ⟨nd, rfl⟩⟩; (try first | exact ⟨rfl, _, World.drewN_drewN _ _ _⟩ | exact ⟨rfl, _, Eq.trans (World.drewN_drewN _ _ _) (congrArg (World.drewN _) (Nat.add_assoc _ _ _))⟩)))
        repeat (go_quiet (first | (go_at_call 113; (with_reducible refine (spec_l7Has.calls k1 _ _ l1 ((rd_T59 l0 x3_1).f2) false _ ?side1 ?side2 A8.out).mono ?_); (case side1 => exact cU HR1.out); (case side2 => exact HC1.out); rintro e w' ⟨rfl, ⟨nd, rfl⟩⟩; (try first | exact ⟨rfl, _, World.drewN_drewN _ _ _⟩ | exact ⟨rfl, _, Eq.trans (World.drewN_drewN _ _ _) (congrArg (World.drewN _) (Nat.add_assoc _ _ _))⟩); have q18 : (x3_1 : Int) ≤ ((l0.length : Int) : Int) := dU; obtain ⟨i018, hi018, _, hsz18, _⟩ := info_parts info59; have hroom18 : l0.length ≤ c0 := HC0.out; have hC18 : Kd.C k59 _ (some ad486) l0.length l0 := HR0.out; have hcut18 := cut_to (P := Try.prog) 26 59 .i64 Try.underlying26 hi018 (some ad486) l0.length c0 x3_1 (dU) q18 hroom18; have hr18 := Kd.C_take (m := (x3_1 : Int).toNat) hC18 (by omega); have hy18 : y495.length = (x3_1 : Int).toNat := (by rw [Ny495.out, List.length_take]; omega); rw [← Ny495.out] at hr18; rw [← hy18] at hcut18; have HR498 := am hr18; have HC498 := am (show y495.length ≤ c0 from by omega); clear hr18 hC18 hroom18 hi018 hsz18; have KY18 := am hy18; clear hy18; replace q18 := eq_true q18; have p499 : 0 ≤ (x3_1 : Int) := dU; have q499 : x3_1 < (l0.length : Int) := dU; obtain ⟨ad499, e499, hx499_0, hx499_1, hx499_2, hx499_3, hx499_4⟩ := at_T59 HR0.out x3_1 p499 q499; obtain rfl : ad486 = ad499 := (by injection e499); replace p499 := eq_true p499; replace q499 := eq_true q499) | (go_at_call 67; (with_reducible refine (spec_NodeOf.calls k1 _ _ y495 ((rd_T59 l0 x3_1).f1) t500 _ ?side1 ?side2 A17.out).mono ?_); (case side1 => exact cU HR498.out); (case side2 => exact HC498.out); rintro e w' ⟨rfl, ⟨nd, rfl⟩⟩; (try first | exact ⟨rfl, _, World.drewN_drewN _ _ _⟩ | exact ⟨rfl, _, Eq.trans (World.drewN_drewN _ _ _) (congrArg (World.drewN _) (Nat.add_assoc _ _ _))⟩))); try go_wp2_with (first | (go_at_call 113; (with_reducible refine (spec_l7Has.calls k1 _ _ l1 ((rd_T59 l0 x3_1).f2) false _ ?side1 ?side2 A8.out).mono ?_); (case side1 => exact cU HR1.out); (case side2 => exact HC1.out); rintro e w' ⟨rfl, ⟨nd, rfl⟩⟩; (try first | exact ⟨rfl, _, World.drewN_drewN _ _ _⟩ | exact ⟨rfl, _, Eq.trans (World.drewN_drewN _ _ _) (congrArg (World.drewN _) (Nat.add_assoc _ _ _))⟩); have q18 : (x3_1 : Int) ≤ ((l0.length : Int) : Int) := dU; obtain ⟨i018, hi018, _, hsz18, _⟩ := info_parts info59; have hroom18 : l0.length ≤ c0 := HC0.out; have hC18 : Kd.C k59 _ (some ad486) l0.length l0 := HR0.out; have hcut18 := cut_to (P := Try.prog) 26 59 .i64 Try.underlying26 hi018 (some ad486) l0.length c0 x3_1 (dU) q18 hroom18; have hr18 := Kd.C_take (m := (x3_1 : Int).toNat) hC18 (by omega); have hy18 : y495.length = (x3_1 : Int).toNat := (by rw [Ny495.out, List.length_take]; omega); rw [← Ny495.out] at hr18; rw [← hy18] at hcut18; have HR498 := am hr18; have HC498 := am (show y495.length ≤ c0 from by omega); clear hr18 hC18 hroom18 hi018 hsz18; have KY18 := am hy18; clear hy18; replace q18 := eq_true q18; have p499 : 0 ≤ (x3_1 : Int) := dU; have q499 : x3_1 < (l0.length : Int) := dU; obtain ⟨ad499, e499, hx499_0, hx499_1, hx499_2, hx499_3, hx499_4⟩ := at_T59 HR0.out x3_1 p499 q499; obtain rfl : ad486 = ad499 := (by injection e499); replace p499 := eq_true p499; replace q499 := eq_true q499) | (go_at_call 67; (with_reducible refine (spec_NodeOf.calls k1 _ _ y495 ((rd_T59 l0 x3_1).f1) t500 _ ?side1 ?side2 A17.out).mono ?_); (case side1 => exact cU HR498.out); (case side2 => exact HC498.out); rintro e w' ⟨rfl, ⟨nd, rfl⟩⟩; (try first | exact ⟨rfl, _, World.drewN_drewN _ _ _⟩ | exact ⟨rfl, _, Eq.trans (World.drewN_drewN _ _ _) (congrArg (World.drewN _) (Nat.add_assoc _ _ _))⟩))))
        go_roundg k1
        case measure => have := HK1.out; omega
        case rel => exact ⟨(t500), (by first | rfl | (simp; done) | (simp [*]; done)), H', ⟨by have := HK1.out; omega⟩, by repeat (first | exact Drawn0.refl _ | apply Drawn0.step)⟩
       ·rw [if_neg c16] at H
        exact absurd H (by simp)
     ·rw [if_neg c7] at H
      exact absurd H (by simp)
    ·rw [if_neg c6] at H
     exact absurd H (by simp)
   ·rw [if_neg c5] at H
    have c5b0 : decide (0 ≤ x3_1) = false := decide_eq_false c5
    clear c5
    obtain rfl := Option.some.inj H
    go_wp2
    repeat (go_quiet (fail); try go_wp2)
    go_ret
    exact ⟨by first | rfl | (simp; done) | (simp [*]; done), by repeat (first | exact Drawn0.refl _ | apply Drawn0.step)⟩
mutual
def spec_SeenBy.l0 : Nat → List (S59) → List Int → Int → List (S59) → Int → Option ((List (S59)))
 | 0, _, _, _, _, _ => none
 | k + 1, x0, x1, x2, x7, x8 => if x8 < (x0.length : Int) then ((spec_IsDocument.f k x0).bind fun t504 => (spec_SeenBy.j1 k x0 x1 x2 x7 x8 t504)) else (spec_SeenBy.j1 k x0 x1 x2 x7 x8 false)
def spec_SeenBy.j1 : Nat → List (S59) → List Int → Int → List (S59) → Int → Bool → Option ((List (S59)))
 | 0, _, _, _, _, _, _ => none
 | k + 1, x0, x1, x2, x7, x8, x17 => if x17 = true then ((spec_l7Sees.f k x0 x1 x2 x8).bind fun t505 => (if t505 = true then (if 0 ≤ x8 then (if x8 < (x0.length : Int) then (if x7.length < 3518437208883 then (spec_SeenBy.l0 k x0 x1 x2 (x7 ++ [(⟨(rd_T59 x0 x8).f0, (rd_T59 x0 x8).f1, (rd_T59 x0 x8).f2, (rd_T59 x0 x8).f3, (rd_T59 x0 x8).f4⟩ : S59)]) (wrap64 (x8 + 1))) else (none)) else (none)) else (none)) else (spec_SeenBy.l0 k x0 x1 x2 x7 (wrap64 (x8 + 1))))) else (some x7)
end
def spec_SeenBy.f (k : Nat) (l0 : List (S59)) (l1 : List Int) (a2 : Int) : Option ((List (S59))) := spec_SeenBy.l0 k l0 l1 a2 (([] : List (S59))) 0
theorem spec_SeenBy.mono_l : ∀ k, (∀ y0 y1 y2 y3 y4, LeO (spec_SeenBy.l0 k y0 y1 y2 y3 y4) (spec_SeenBy.l0 (k + 1) y0 y1 y2 y3 y4)) ∧ (∀ y0 y1 y2 y3 y4 y5, LeO (spec_SeenBy.j1 k y0 y1 y2 y3 y4 y5) (spec_SeenBy.j1 (k + 1) y0 y1 y2 y3 y4 y5))
 | 0 => ⟨fun _ _ _ _ _ r h => by simp [spec_SeenBy.l0] at h, fun _ _ _ _ _ _ r h => by simp [spec_SeenBy.j1] at h⟩
 | k + 1 => by
  obtain ⟨ih0, ih1⟩ := spec_SeenBy.mono_l k
  refine ⟨?_, ?_⟩
  ·intro y0 y1 y2 y3 y4
   unfold spec_SeenBy.l0
   repeat' first
   | (with_reducible exact ih0 _ _ _ _ _)
   | (with_reducible exact ih1 _ _ _ _ _ _)
   | (with_reducible exact spec_IsDocument.mono _ _)
   | (with_reducible exact spec_l7Sees.mono _ _ _ _ _)
   | (with_reducible exact LeO.refl _)
   | (with_reducible exact LeO.none _)
   | (with_reducible refine LeO.ite ?_ ?_)
   | (with_reducible refine LeO.bind ?_ (fun _ => ?_))
   | exact ih0 _ _ _ _ _
   | exact ih1 _ _ _ _ _ _
   | exact spec_IsDocument.mono _ _
   | exact spec_l7Sees.mono _ _ _ _ _
   | exact LeO.none _
   | refine LeO.ite ?_ ?_
   | refine LeO.bind ?_ (fun _ => ?_)
  ·intro y0 y1 y2 y3 y4 y5
   unfold spec_SeenBy.j1
   repeat' first
   | (with_reducible exact ih0 _ _ _ _ _)
   | (with_reducible exact ih1 _ _ _ _ _ _)
   | (with_reducible exact spec_IsDocument.mono _ _)
   | (with_reducible exact spec_l7Sees.mono _ _ _ _ _)
   | (with_reducible exact LeO.refl _)
   | (with_reducible exact LeO.none _)
   | (with_reducible refine LeO.ite ?_ ?_)
   | (with_reducible refine LeO.bind ?_ (fun _ => ?_))
   | exact ih0 _ _ _ _ _
   | exact ih1 _ _ _ _ _ _
   | exact spec_IsDocument.mono _ _
   | exact spec_l7Sees.mono _ _ _ _ _
   | exact LeO.none _
   | refine LeO.ite ?_ ?_
   | refine LeO.bind ?_ (fun _ => ?_)
theorem spec_SeenBy.mono : ∀ a0 a1 a2 k, LeO (spec_SeenBy.f k a0 a1 a2) (spec_SeenBy.f (k + 1) a0 a1 a2) := by
 intro a0 a1 a2 k
 obtain ⟨ih0, ih1⟩ := spec_SeenBy.mono_l k
 unfold spec_SeenBy.f
 repeat' first
   | (with_reducible exact ih0 _ _ _ _ _)
   | (with_reducible exact ih1 _ _ _ _ _ _)
   | (with_reducible exact spec_IsDocument.mono _ _)
   | (with_reducible exact spec_l7Sees.mono _ _ _ _ _)
   | (with_reducible exact LeO.refl _)
   | (with_reducible exact LeO.none _)
   | (with_reducible refine LeO.ite ?_ ?_)
   | (with_reducible refine LeO.bind ?_ (fun _ => ?_))
   | exact ih0 _ _ _ _ _
   | exact ih1 _ _ _ _ _ _
   | exact spec_IsDocument.mono _ _
   | exact spec_l7Sees.mono _ _ _ _ _
   | exact LeO.none _
   | refine LeO.ite ?_ ?_
   | refine LeO.bind ?_ (fun _ => ?_)
set_option maxHeartbeats 8000000 in
set_option maxRecDepth 100000 in
theorem spec_SeenBy.calls (k : Nat) (A0 : Option Addr) (c0 : Nat) (l0 : List (S59)) (A1 : Option Addr) (c1 : Nat) (l1 : List Int) (a2 : Int) (r : List (S59)) (w : World) (hr0 : Kd.C k59 w A0 l0.length l0) (hc0 : l0.length ≤ c0) (hr1 : Kd.C (Kd.int .i64) w A1 l1.length l1) (hc1 : l1.length ≤ c1) (h : spec_SeenBy.f k l0 l1 a2 = some r) :
  Calls Try.prog 51 #[.slice A0 l0.length c0, .slice A1 l1.length c1, .int .i64 a2] w fun e w' => ∃ v0_ : Value, e = .returned (v0_) ∧ Kd.R k59 59 w' w.heap.size (fun _ => True) v0_ r ∧ Below w.heap.size w w' := by
 have hu59 := Try.underlying59
 have HR0 := am hr0
 have HC0 := am hc0
 clear hr0 hc0
 have HR1 := am hr1
 have HC1 := am hc1
 clear hr1 hc1
 have HB := am (Below.refl w.heap.size w)
 have H : (spec_SeenBy.l0 k l0 l1 a2 (([] : List (S59))) 0) = some r := h
 clear h
 obtain ⟨y501, hy501⟩ : ∃ y_ : List (S59), y_ = (([] : List (S59))) := ⟨_, rfl⟩
 replace H : (spec_SeenBy.l0 k l0 l1 a2 y501 0) = some r := by first | (rw [hy501]; with_reducible exact H) | (have H2_ := (Option.bind_some _ _).symm.trans H; rw [hy501]; with_reducible exact H2_) | (have H2_ := (Option.bind_some _ _).symm.trans H; with_reducible exact H2_) | with_reducible exact H | (rw [hy501]; exact H) | exact H
 have Ny501 := am hy501
 clear hy501
 have H' := am H
 clear H
 go_enter Try.func51, Try.ntmps51
 go_wp2_with (first | ((with_reducible refine gate_dst (N := 9) rfl ?_); refine Kd.R_lit k59 _ 59 ?hg (N := 9) ?hd (xs := ([] : List (S59))) (inner := []) (ok := fun _ => True) (okp := fun _ => True) ?hr ?hp (fun _ hk => hk) trivial (Below.refl _ _) (Nat.le_refl _) (by simp) ?_; (case hd => rfl); (case hg => rfl); (case hr => first | (go_simp; done) | (go_simp; rfl)); (case hp => exact (Reps.none _ _)); intro v502 w4 ho5 hb hg_ hnew_; clear hg_ hnew_; (first | rw [← Ny501.out] at ho5 | (simp only [Int.reduceToNat] at ho5; rw [← Ny501.out] at ho5)); have n0_ := am (Kd.R_lower ho5 (below_size (bU HB.out))); have n1_ := am (below_step (bU HB.out) hb); clear HB; have HO503 := n0_; have HB := n1_; clear n0_ n1_; clear hb ho5))
 go_loopg [7, 8] k (fun kq v7 v8 w' => ∃ (x7_1 : List (S59)) (x8_1 : Int), v8 = .int .i64 x8_1 ∧ Aside0 (spec_SeenBy.l0 kq l0 l1 a2 x7_1 x8_1 = some r) ∧ Aside0 (kq ≤ k) ∧ Aside0 (Kd.R k59 59 w' w.heap.size (fun _ => True) v7 x7_1) ∧ Aside0 (Below w.heap.size w w'))
 case atStart => exact ⟨(y501), (0), (by first | rfl | (simp; done) | (simp [*]; done)), H', ⟨Nat.le_refl _⟩, ⟨rU HO503.out⟩, ⟨bU HB.out⟩⟩
 case round =>
  clear H'
  try clear c1
  try clear p2
  try clear c5
  obtain ⟨x7_1, x8_1, rfl, HA, HK1, HO_7, HB⟩ := hrel
  cases gk with
  | zero => exact absurd HA.out (by simp [spec_SeenBy.l0])
  | succ k1 =>
   have H := HA.out
   clear HA
   simp only [spec_SeenBy.l0] at H
   have HC6 := am H
   clear H
   go_upto_region 3 with (fail)
   go_cut [17] (fun v17 wc => ∃ (kq : Nat) (x17_5 : Bool), v17 = .bool x17_5 ∧ Aside0 (spec_SeenBy.j1 kq l0 l1 a2 x7_1 x8_1 x17_5 = some r) ∧ Aside0 (kq ≤ k1) ∧ Aside0 (Kd.R k59 59 wc w.heap.size (fun _ => True) u7 x7_1) ∧ Aside0 (Below w.heap.size w wc))
   case first =>
    have H := HC6.out
    clear HC6
    by_cases c7 : x8_1 < (l0.length : Int)
    ·rw [if_pos c7] at H
     have c7b0 : decide (x8_1 < (l0.length : Int)) = true := decide_eq_true c7
     clear c7
     (first | rw [c7b0] | (simp only [i64_w, i32_w]; rw [c7b0]) | skip)
     replace H := Option.bind_eq_some_iff.mp H
     obtain ⟨t504, A80, H⟩ := H
     replace H : (spec_SeenBy.j1 k1 l0 l1 a2 x7_1 x8_1 t504) = some r := H
     have A8 := am A80
     clear A80
     have H' := am H
     clear H
     go_wp2_with (first | (go_at_call 64; (with_reducible refine (spec_IsDocument.calls k1 _ _ l0 t504 _ ?side1 ?side2 A8.out).mono ?_); (case side1 => exact cU (Kd.C_below HR0.out HB.out)); (case side2 => exact HC0.out); rintro e w' ⟨rfl, ⟨nd, rfl⟩⟩))
     go_meet
     case rel => exact ⟨_, (t504), (by first | rfl | (simp; done) | (simp [*]; done)), H', ⟨by have := HK1.out; first | omega | exact Nat.le_refl _⟩, ⟨rU HO_7.out⟩, ⟨bU HB.out⟩⟩
    ·rw [if_neg c7] at H
     have c7b0 : decide (x8_1 < (l0.length : Int)) = false := decide_eq_false c7
     clear c7
     (first | rw [c7b0] | (simp only [i64_w, i32_w]; rw [c7b0]) | skip)
     have H' := am H
     clear H
     go_wp2
     go_meet
     case rel => exact ⟨_, (false), (by first | rfl | (simp; done) | (simp [*]; done)), H', ⟨by have := HK1.out; first | omega | exact Nat.le_refl _⟩, ⟨rU HO_7.out⟩, ⟨bU HB.out⟩⟩
   case rest =>
    clear HC6
    try clear c1
    try clear p2
    try clear c5
    try clear c7
    try clear c7b0
    try clear p2
    obtain ⟨kq, x17_5, rfl, HA, HJ5, HO_7, HB⟩ := hcut
    cases kq with
    | zero => exact absurd HA.out (by simp [spec_SeenBy.j1])
    | succ kj5 =>
     have H := HA.out
     clear HA
     simp only [spec_SeenBy.j1] at H
     by_cases c9 : x17_5 = true
     ·subst c9
      have H1 : ((spec_l7Sees.f kj5 l0 l1 a2 x8_1).bind fun t505 => (if t505 = true then (if 0 ≤ x8_1 then (if x8_1 < (l0.length : Int) then (if x7_1.length < 3518437208883 then (spec_SeenBy.l0 kj5 l0 l1 a2 (x7_1 ++ [(⟨(rd_T59 l0 x8_1).f0, (rd_T59 l0 x8_1).f1, (rd_T59 l0 x8_1).f2, (rd_T59 l0 x8_1).f3, (rd_T59 l0 x8_1).f4⟩ : S59)]) (wrap64 (x8_1 + 1))) else (none)) else (none)) else (none)) else (spec_SeenBy.l0 kj5 l0 l1 a2 x7_1 (wrap64 (x8_1 + 1))))) = some r := by rw [if_pos rfl] at H; exact H
      clear H
      have H := H1
      clear H1
      replace H := Option.bind_eq_some_iff.mp H
      obtain ⟨t505, A100, H⟩ := H
      replace H : (if t505 = true then (if 0 ≤ x8_1 then (if x8_1 < (l0.length : Int) then (if x7_1.length < 3518437208883 then (spec_SeenBy.l0 kj5 l0 l1 a2 (x7_1 ++ [(⟨(rd_T59 l0 x8_1).f0, (rd_T59 l0 x8_1).f1, (rd_T59 l0 x8_1).f2, (rd_T59 l0 x8_1).f3, (rd_T59 l0 x8_1).f4⟩ : S59)]) (wrap64 (x8_1 + 1))) else (none)) else (none)) else (none)) else (spec_SeenBy.l0 kj5 l0 l1 a2 x7_1 (wrap64 (x8_1 + 1)))) = some r := H
      have A10 := am A100
      clear A100
      by_cases c11 : t505 = true
      ·subst c11
       have H1 : (if 0 ≤ x8_1 then (if x8_1 < (l0.length : Int) then (if x7_1.length < 3518437208883 then (spec_SeenBy.l0 kj5 l0 l1 a2 (x7_1 ++ [(⟨(rd_T59 l0 x8_1).f0, (rd_T59 l0 x8_1).f1, (rd_T59 l0 x8_1).f2, (rd_T59 l0 x8_1).f3, (rd_T59 l0 x8_1).f4⟩ : S59)]) (wrap64 (x8_1 + 1))) else (none)) else (none)) else (none)) = some r := by rw [if_pos rfl] at H; exact H
       clear H
       have H := H1
       clear H1
       by_cases c12 : 0 ≤ x8_1
       ·rw [if_pos c12] at H
        have c12b0 : decide (0 ≤ x8_1) = true := decide_eq_true c12
        clear c12
        by_cases c13 : x8_1 < (l0.length : Int)
        ·rw [if_pos c13] at H
         have c13b0 : decide (x8_1 < (l0.length : Int)) = true := decide_eq_true c13
         clear c13
         by_cases c14 : x7_1.length < 3518437208883
         ·rw [if_pos c14] at H
          have LMc14 := am c14
          clear c14
          obtain ⟨y507, hy507⟩ : ∃ y_ : List (S59), y_ = (x7_1 ++ [(⟨(rd_T59 l0 x8_1).f0, (rd_T59 l0 x8_1).f1, (rd_T59 l0 x8_1).f2, (rd_T59 l0 x8_1).f3, (rd_T59 l0 x8_1).f4⟩ : S59)]) := ⟨_, rfl⟩
          replace H : (spec_SeenBy.l0 kj5 l0 l1 a2 y507 (wrap64 (x8_1 + 1))) = some r := by first | (rw [hy507]; with_reducible exact H) | (have H2_ := (Option.bind_some _ _).symm.trans H; rw [hy507]; with_reducible exact H2_) | (have H2_ := (Option.bind_some _ _).symm.trans H; with_reducible exact H2_) | with_reducible exact H | (rw [hy507]; exact H) | exact H
          have Ny507 := am hy507
          clear hy507
          have H' := am H
          clear H
          go_wp2_with (first | ((with_reducible refine gate_callee (f := 95) rfl ?_); refine goesL_ (some 24) rfl rfl Try.func95 (by kernel_rfl) rfl #[.slice A0 l0.length c0, .slice A1 l1.length c1, .int .i64 a2, .int .i64 x8_1] rfl mU ?_; (with_reducible refine (spec_l7Sees.calls kj5 _ _ l0 _ _ l1 a2 x8_1 true _ ?side1 ?side2 ?side3 ?side4 A10.out).mono ?_); (case side1 => exact cU (Kd.C_below HR0.out HB.out)); (case side2 => exact HC0.out); (case side3 => exact cU (Kd.C_below HR1.out HB.out)); (case side4 => exact HC1.out); rintro e w' ⟨rfl, ⟨nd, rfl⟩⟩; refine ⟨_, rfl, ?_⟩; have p506 : 0 ≤ (x8_1 : Int) := dU; have q506 : x8_1 < (l0.length : Int) := dU; obtain ⟨ad506, e506, hx506_0, hx506_1, hx506_2, hx506_3, hx506_4⟩ := at_T59 HR0.out x8_1 p506 q506; cases e506; replace hx506_0 := cB HB.out hx506_0; replace hx506_1 := cB HB.out hx506_1; replace hx506_2 := cB HB.out hx506_2; replace hx506_3 := cB HB.out hx506_3; replace hx506_4 := cB HB.out hx506_4; replace p506 := eq_true p506; replace q506 := eq_true q506) | ((with_reducible refine gate_builtin (b := .append) (xs := #[.tmp 25, .tmp 30]) rfl ?_); at_builtin; refine Kd.R_append k59 (w0 := w) w.heap.size rfl (.tmp 25) (.tmp 30) 26 59 (.agg #[(.int .i64 0), (.int .i64 0), (.int .i64 0), (.int .i64 0), (.int .i64 0)]) 40 rfl Try.underlying26 info59 rfl (by decide) (by omega) u7 x7_1 (⟨(rd_T59 l0 x8_1).f0, (rd_T59 l0 x8_1).f1, (rd_T59 l0 x8_1).f2, (rd_T59 l0 x8_1).f3, (rd_T59 l0 x8_1).f4⟩ : S59) [.int .i64 ((rd_T59 l0 x8_1).f0), .int .i64 ((rd_T59 l0 x8_1).f1), .int .i64 ((rd_T59 l0 x8_1).f2), .int .i64 ((rd_T59 l0 x8_1).f3), .int .i64 ((rd_T59 l0 x8_1).f4)] (fun _ => True) (fun _ => False) rfl rfl ?aP (fun _ hk => hk.elim) ?aF ?aO ?aB ?aS ?aL ?_; (case aP => exact k59_mkM _ _ _ (⟨(rd_T59 l0 x8_1).f0, (rd_T59 l0 x8_1).f1, (rd_T59 l0 x8_1).f2, (rd_T59 l0 x8_1).f3, (rd_T59 l0 x8_1).f4⟩ : S59)); (case aB => exact bU HB.out); (case aF => exact (fun _ _ => trivial)); (case aO => exact rU HO_7.out); (case aS => exact (below_size (bU HB.out))); (case aL => have := LMc14.out; omega); intro v508 w15 ho hb hg hat; rw [← Ny507.out] at ho; have n0_ := am (hb); have n1_ := am (ho); clear HB; clear HO_7; have HB := n0_; have HO509 := n1_; clear n0_ n1_; clear ho hb hg hat))
          go_roundg kj5
          case measure => have := HK1.out; have := HJ5.out; omega
          case rel => exact ⟨(y507), (wrap64 (x8_1 + 1)), (by first | rfl | (simp; done) | (simp [*]; done)), H', ⟨by have := HK1.out; have := HJ5.out; omega⟩, ⟨rU HO509.out⟩, ⟨bU HB.out⟩⟩
         ·rw [if_neg c14] at H
          exact absurd H (by simp)
        ·rw [if_neg c13] at H
         exact absurd H (by simp)
       ·rw [if_neg c12] at H
        exact absurd H (by simp)
      ·replace c11 := Bool.eq_false_iff.mpr c11
       subst c11
       have H1 : (spec_SeenBy.l0 kj5 l0 l1 a2 x7_1 (wrap64 (x8_1 + 1))) = some r := by rw [if_neg (show ¬ (false = true) by decide)] at H; exact H
       clear H
       have H := H1
       clear H1
       have H' := am H
       clear H
       go_wp2_with (first | ((with_reducible refine gate_callee (f := 95) rfl ?_); refine goesL_ (some 24) rfl rfl Try.func95 (by kernel_rfl) rfl #[.slice A0 l0.length c0, .slice A1 l1.length c1, .int .i64 a2, .int .i64 x8_1] rfl mU ?_; (with_reducible refine (spec_l7Sees.calls kj5 _ _ l0 _ _ l1 a2 x8_1 false _ ?side1 ?side2 ?side3 ?side4 A10.out).mono ?_); (case side1 => exact cU (Kd.C_below HR0.out HB.out)); (case side2 => exact HC0.out); (case side3 => exact cU (Kd.C_below HR1.out HB.out)); (case side4 => exact HC1.out); rintro e w' ⟨rfl, ⟨nd, rfl⟩⟩; refine ⟨_, rfl, ?_⟩))
       go_roundg kj5
       case measure => have := HK1.out; have := HJ5.out; omega
       case rel => exact ⟨(x7_1), (wrap64 (x8_1 + 1)), (by first | rfl | (simp; done) | (simp [*]; done)), H', ⟨by have := HK1.out; have := HJ5.out; omega⟩, ⟨rU HO_7.out⟩, ⟨bU HB.out⟩⟩
     ·replace c9 := Bool.eq_false_iff.mpr c9
      subst c9
      have H1 : (some x7_1) = some r := by rw [if_neg (show ¬ (false = true) by decide)] at H; exact H
      clear H
      have H := H1
      clear H1
      obtain rfl := Option.some.inj H
      go_wp2
      go_ret
      exact ⟨_, eU, rU HO_7.out, bU HB.out⟩
def impl_ForeignHandles.l0 : Nat → List (S59) → List Int → Int → Int → Int → List Int → Int → Int → Option (Int)
 | 0, _, _, _, _, _, _, _, _ => none
 | k + 1, x0, x1, x2, x3, x11, x14, x15, x16 => if x16 < x15 then (if 0 ≤ x16 then (if x16 < (x14.length : Int) then ((impl_ResolveHandle.f k x0 x1 x2 x3 (rd x14 x16)).bind fun t511 => (if t511 < 0 then (impl_ForeignHandles.l0 k x0 x1 x2 x3 (wrap64 (x11 + 1)) x14 x15 (wrap64 (x16 + 1))) else (impl_ForeignHandles.l0 k x0 x1 x2 x3 x11 x14 x15 (wrap64 (x16 + 1))))) else (none)) else (none)) else (some x11)
def impl_ForeignHandles.f (k : Nat) (l0 : List (S59)) (l1 : List Int) (a2 : Int) (a3 : Int) (l4 : List Int) : Option (Int) := impl_ForeignHandles.l0 k l0 l1 a2 a3 0 l4 (l4.length : Int) 0
theorem impl_ForeignHandles.mono_l : ∀ k, (∀ y0 y1 y2 y3 y4 y5 y6 y7, LeO (impl_ForeignHandles.l0 k y0 y1 y2 y3 y4 y5 y6 y7) (impl_ForeignHandles.l0 (k + 1) y0 y1 y2 y3 y4 y5 y6 y7))
 | 0 => fun _ _ _ _ _ _ _ _ r h => by simp [impl_ForeignHandles.l0] at h
 | k + 1 => by
  have ih0 := impl_ForeignHandles.mono_l k
  ·intro y0 y1 y2 y3 y4 y5 y6 y7
   unfold impl_ForeignHandles.l0
   repeat' first
   | (with_reducible exact ih0 _ _ _ _ _ _ _ _)
   | (with_reducible exact impl_ResolveHandle.mono _ _ _ _ _ _)
   | (with_reducible exact LeO.refl _)
   | (with_reducible exact LeO.none _)
   | (with_reducible refine LeO.ite ?_ ?_)
   | (with_reducible refine LeO.bind ?_ (fun _ => ?_))
   | exact ih0 _ _ _ _ _ _ _ _
   | exact impl_ResolveHandle.mono _ _ _ _ _ _
   | exact LeO.none _
   | refine LeO.ite ?_ ?_
   | refine LeO.bind ?_ (fun _ => ?_)
theorem impl_ForeignHandles.mono : ∀ a0 a1 a2 a3 a4 k, LeO (impl_ForeignHandles.f k a0 a1 a2 a3 a4) (impl_ForeignHandles.f (k + 1) a0 a1 a2 a3 a4) := by
 intro a0 a1 a2 a3 a4 k
 have ih0 := impl_ForeignHandles.mono_l k
 unfold impl_ForeignHandles.f
 repeat' first
   | (with_reducible exact ih0 _ _ _ _ _ _ _ _)
   | (with_reducible exact impl_ResolveHandle.mono _ _ _ _ _ _)
   | (with_reducible exact LeO.refl _)
   | (with_reducible exact LeO.none _)
   | (with_reducible refine LeO.ite ?_ ?_)
   | (with_reducible refine LeO.bind ?_ (fun _ => ?_))
   | exact ih0 _ _ _ _ _ _ _ _
   | exact impl_ResolveHandle.mono _ _ _ _ _ _
   | exact LeO.none _
   | refine LeO.ite ?_ ?_
   | refine LeO.bind ?_ (fun _ => ?_)
set_option maxHeartbeats 8000000 in
set_option maxRecDepth 100000 in
theorem impl_ForeignHandles.calls (k : Nat) (A0 : Option Addr) (c0 : Nat) (l0 : List (S59)) (A1 : Option Addr) (c1 : Nat) (l1 : List Int) (a2 : Int) (a3 : Int) (A4 : Option Addr) (c4 : Nat) (l4 : List Int) (r : Int) (w : World) (hr0 : Kd.C k59 w A0 l0.length l0) (hc0 : l0.length ≤ c0) (hr1 : Kd.C (Kd.int .i64) w A1 l1.length l1) (hc1 : l1.length ≤ c1) (hr4 : Kd.C (Kd.int .i64) w A4 l4.length l4) (hc4 : l4.length ≤ c4) (h : impl_ForeignHandles.f k l0 l1 a2 a3 l4 = some r) :
  Calls Try.prog 52 #[.slice A0 l0.length c0, .slice A1 l1.length c1, .int .i64 a2, .int .i64 a3, .slice A4 l4.length c4] w fun e w' => e = .returned (.int .i64 r) ∧ Below w.heap.size w w' := by
 have HR0 := am hr0
 have HC0 := am hc0
 clear hr0 hc0
 have HR1 := am hr1
 have HC1 := am hc1
 clear hr1 hc1
 have HR4 := am hr4
 have HC4 := am hc4
 clear hr4 hc4
 have HB := am (Below.refl w.heap.size w)
 have H : (impl_ForeignHandles.l0 k l0 l1 a2 a3 0 l4 (l4.length : Int) 0) = some r := h
 clear h
 have H' := am H
 clear H
 go_enter Try.func52, Try.ntmps52
 go_wp2
 go_loopg [11, 16] k (fun kq v11 v16 w' => ∃ (x11_1 : Int) (x16_1 : Int), v11 = .int .i64 x11_1 ∧ v16 = .int .i64 x16_1 ∧ Aside0 (impl_ForeignHandles.l0 kq l0 l1 a2 a3 x11_1 l4 (l4.length : Int) x16_1 = some r) ∧ Aside0 (kq ≤ k) ∧ Aside0 (Below w.heap.size w w'))
 case atStart => exact ⟨(0), (0), (by first | rfl | (simp; done) | (simp [*]; done)), (by first | rfl | (simp; done) | (simp [*]; done)), H', ⟨Nat.le_refl _⟩, ⟨bU HB.out⟩⟩
 case round =>
  clear H'
  try clear c1
  try clear p2
  try clear c4
  try clear c5
  obtain ⟨x11_1, x16_1, rfl, rfl, HA, HK1, HB⟩ := hrel
  cases gk with
  | zero => exact absurd HA.out (by simp [impl_ForeignHandles.l0])
  | succ k1 =>
   have H := HA.out
   clear HA
   simp only [impl_ForeignHandles.l0] at H
   by_cases c6 : x16_1 < (l4.length : Int)
   ·rw [if_pos c6] at H
    have c6b0 : decide (x16_1 < (l4.length : Int)) = true := decide_eq_true c6
    clear c6
    by_cases c7 : 0 ≤ x16_1
    ·rw [if_pos c7] at H
     have c7b0 : decide (0 ≤ x16_1) = true := decide_eq_true c7
     clear c7
     by_cases c8 : x16_1 < (l4.length : Int)
     ·rw [if_pos c8] at H
      have c8b0 : decide (x16_1 < (l4.length : Int)) = true := decide_eq_true c8
      clear c8
      replace H := Option.bind_eq_some_iff.mp H
      obtain ⟨t511, A90, H⟩ := H
      replace H : (if t511 < 0 then (impl_ForeignHandles.l0 k1 l0 l1 a2 a3 (wrap64 (x11_1 + 1)) l4 (l4.length : Int) (wrap64 (x16_1 + 1))) else (impl_ForeignHandles.l0 k1 l0 l1 a2 a3 x11_1 l4 (l4.length : Int) (wrap64 (x16_1 + 1)))) = some r := H
      have A9 := am A90
      clear A90
      by_cases c10 : t511 < 0
      ·rw [if_pos c10] at H
       have c10b0 : decide (t511 < 0) = true := decide_eq_true c10
       clear c10
       have H' := am H
       clear H
       have p510 : 0 ≤ (x16_1 : Int) := dU
       have q510 : x16_1 < (l4.length : Int) := dU
       obtain ⟨ad510, e510, hx510_0⟩ := Kd.at_int HR4.out x16_1 p510 q510
       cases e510
       replace hx510_0 := cB HB.out hx510_0
       replace p510 := eq_true p510
       replace q510 := eq_true q510
       go_wp2_with (first | ((with_reducible refine gate_callee (f := 48) rfl ?_); refine goesL_ (some 25) rfl rfl Try.func48 (by kernel_rfl) rfl #[.slice A0 l0.length c0, .slice A1 l1.length c1, .int .i64 a2, .int .i64 a3, .int .i64 (rd l4 x16_1)] rfl mU ?_; (with_reducible refine (impl_ResolveHandle.calls k1 _ _ l0 _ _ l1 a2 a3 (rd l4 x16_1) t511 _ ?side1 ?side2 ?side3 ?side4 A9.out).mono ?_); (case side1 => exact cU (Kd.C_below HR0.out HB.out)); (case side2 => exact HC0.out); (case side3 => exact cU (Kd.C_below HR1.out HB.out)); (case side4 => exact HC1.out); rintro e w11 ⟨rfl, hb⟩; refine ⟨_, rfl, ?_⟩; have n0_ := am (below_step (bU HB.out) hb); clear HB; have HB := n0_; clear n0_; (try clear hb); (try clear hb2); (try clear hk); (try clear hi)))
       go_roundg k1
       case measure => have := HK1.out; omega
       case rel => exact ⟨(wrap64 (x11_1 + 1)), (wrap64 (x16_1 + 1)), (by first | rfl | (simp; done) | (simp [*]; done)), (by first | rfl | (simp; done) | (simp [*]; done)), H', ⟨by have := HK1.out; omega⟩, ⟨bU HB.out⟩⟩
      ·rw [if_neg c10] at H
       have c10b0 : decide (t511 < 0) = false := decide_eq_false c10
       clear c10
       have H' := am H
       clear H
       have p510 : 0 ≤ (x16_1 : Int) := dU
       have q510 : x16_1 < (l4.length : Int) := dU
       obtain ⟨ad510, e510, hx510_0⟩ := Kd.at_int HR4.out x16_1 p510 q510
       cases e510
       replace hx510_0 := cB HB.out hx510_0
       replace p510 := eq_true p510
       replace q510 := eq_true q510
       go_wp2_with (first | ((with_reducible refine gate_callee (f := 48) rfl ?_); refine goesL_ (some 25) rfl rfl Try.func48 (by kernel_rfl) rfl #[.slice A0 l0.length c0, .slice A1 l1.length c1, .int .i64 a2, .int .i64 a3, .int .i64 (rd l4 x16_1)] rfl mU ?_; (with_reducible refine (impl_ResolveHandle.calls k1 _ _ l0 _ _ l1 a2 a3 (rd l4 x16_1) t511 _ ?side1 ?side2 ?side3 ?side4 A9.out).mono ?_); (case side1 => exact cU (Kd.C_below HR0.out HB.out)); (case side2 => exact HC0.out); (case side3 => exact cU (Kd.C_below HR1.out HB.out)); (case side4 => exact HC1.out); rintro e w12 ⟨rfl, hb⟩; refine ⟨_, rfl, ?_⟩; have n0_ := am (below_step (bU HB.out) hb); clear HB; have HB := n0_; clear n0_; (try clear hb); (try clear hb2); (try clear hk); (try clear hi)))
       go_roundg k1
       case measure => have := HK1.out; omega
       case rel => exact ⟨(x11_1), (wrap64 (x16_1 + 1)), (by first | rfl | (simp; done) | (simp [*]; done)), (by first | rfl | (simp; done) | (simp [*]; done)), H', ⟨by have := HK1.out; omega⟩, ⟨bU HB.out⟩⟩
     ·rw [if_neg c8] at H
      exact absurd H (by simp)
    ·rw [if_neg c7] at H
     exact absurd H (by simp)
   ·rw [if_neg c6] at H
    have c6b0 : decide (x16_1 < (l4.length : Int)) = false := decide_eq_false c6
    clear c6
    obtain rfl := Option.some.inj H
    go_wp2
    go_ret
    exact ⟨eU, bU HB.out⟩
def spec_DrawEditByHandle.f (k : Nat) (l0 : List Int) : Option ((List (S59)) × List Int × Int × Int × Int × Int) := (spec_DrawResolveHandle.f k l0).bind fun bt512 => ((spec_l1New.f k l0).bind fun bt521 => ((spec_l1Int.f bt521.1 bt521.2.1 bt521.2.2 (([5, 999, 1000] : List Int))).bind fun bt528 => (some (bt512.1, bt512.2.1, bt512.2.2.1, bt512.2.2.2.2, bt528.1, bt512.2.2.2.1))))
theorem spec_DrawEditByHandle.mono : ∀ a0 k, LeO (spec_DrawEditByHandle.f k a0) (spec_DrawEditByHandle.f (k + 1) a0) := by
 intro a0 k
 unfold spec_DrawEditByHandle.f
 repeat' first
   | (with_reducible exact spec_DrawResolveHandle.mono _ _)
   | (with_reducible exact spec_l1New.mono _ _)
   | (with_reducible exact LeO.refl _)
   | (with_reducible exact LeO.none _)
   | (with_reducible refine LeO.ite ?_ ?_)
   | (with_reducible refine LeO.bind ?_ (fun _ => ?_))
   | exact spec_DrawResolveHandle.mono _ _
   | exact spec_l1New.mono _ _
   | exact LeO.none _
   | refine LeO.ite ?_ ?_
   | refine LeO.bind ?_ (fun _ => ?_)
set_option maxHeartbeats 8000000 in
set_option maxRecDepth 100000 in
theorem spec_DrawEditByHandle.calls (k : Nat) (A0 : Option Addr) (c0 : Nat) (l0 : List Int) (r1 : List (S59)) (r2 : List Int) (r3 : Int) (r4 : Int) (r5 : Int) (r6 : Int) (w : World) (hr0 : Kd.C (Kd.int .u8) w A0 l0.length l0) (hc0 : l0.length ≤ c0) (h : spec_DrawEditByHandle.f k l0 = some (r1, r2, r3, r4, r5, r6)) :
  Calls Try.prog 53 #[.slice A0 l0.length c0] w fun e w' => ∃ v0_ v1_ : Value, e = .returned (.tuple #[v0_, v1_, .int .i64 r3, .int .i64 r4, .int .i64 r5, .int .i64 r6]) ∧ Kd.R k59 59 w' w.heap.size (fun _ => True) v0_ r1 ∧ Kd.R (Kd.int .i64) 3 w' w.heap.size (fun _ => True) v1_ r2 ∧ Below w.heap.size w w' := by
 have HR0 := am hr0
 have HC0 := am hc0
 clear hr0 hc0
 have HB := am (Below.refl w.heap.size w)
 have H : ((spec_DrawResolveHandle.f k l0).bind fun bt512 => ((spec_l1New.f k l0).bind fun bt521 => ((spec_l1Int.f bt521.1 bt521.2.1 bt521.2.2 (([5, 999, 1000] : List Int))).bind fun bt528 => (some (bt512.1, bt512.2.1, bt512.2.2.1, bt512.2.2.2.2, bt528.1, bt512.2.2.2.1))))) = some (r1, r2, r3, r4, r5, r6) := h
 clear h
 replace H := Option.bind_eq_some_iff.mp H
 obtain ⟨⟨t512, t513, t514, t515, t516⟩, A20, H⟩ := H
 replace H : ((spec_l1New.f k l0).bind fun bt521 => ((spec_l1Int.f bt521.1 bt521.2.1 bt521.2.2 (([5, 999, 1000] : List Int))).bind fun bt528 => (some (t512, t513, t514, t516, bt528.1, t515)))) = some (r1, r2, r3, r4, r5, r6) := H
 have A2 := am A20
 clear A20
 replace H := Option.bind_eq_some_iff.mp H
 obtain ⟨⟨t521, t522, t523⟩, A30, H⟩ := H
 replace H : ((spec_l1Int.f t521 t522 t523 (([5, 999, 1000] : List Int))).bind fun bt528 => (some (t512, t513, t514, t516, bt528.1, t515))) = some (r1, r2, r3, r4, r5, r6) := H
 have A3 := am A30
 clear A30
 obtain ⟨y525, hy525⟩ : ∃ y_ : List Int, y_ = (([5, 999, 1000] : List Int)) := ⟨_, rfl⟩
 replace H : ((spec_l1Int.f t521 t522 t523 y525).bind fun bt528 => (some (t512, t513, t514, t516, bt528.1, t515))) = some (r1, r2, r3, r4, r5, r6) := by first | (rw [hy525]; with_reducible exact H) | (have H2_ := (Option.bind_some _ _).symm.trans H; rw [hy525]; with_reducible exact H2_) | (have H2_ := (Option.bind_some _ _).symm.trans H; with_reducible exact H2_) | with_reducible exact H | (rw [hy525]; exact H) | exact H
 have Ny525 := am hy525
 clear hy525
 replace H := Option.bind_eq_some_iff.mp H
 obtain ⟨⟨t528, t529, t530⟩, A40, H⟩ := H
 replace H : (some (t512, t513, t514, t516, t528, t515)) = some (r1, r2, r3, r4, r5, r6) := H
 have A4 := am A40
 clear A40
 simp only [Option.some.injEq, Prod.mk.injEq] at H
 obtain ⟨rfl, rfl, rfl, rfl, rfl, rfl⟩ := H
 go_enter Try.func53, Try.ntmps53
 go_wp2_with (first | ((with_reducible refine gate_callee (f := 47) rfl ?_); refine goesL_ (some 16) rfl rfl Try.func47 (by kernel_rfl) rfl #[.slice A0 l0.length c0] rfl mU ?_; (with_reducible refine (spec_DrawResolveHandle.calls k _ _ l0 t512 t513 t514 t515 t516 _ ?side1 ?side2 A2.out).mono ?_); (case side1 => exact cU HR0.out); (case side2 => exact HC0.out); rintro e w5 ⟨v517, v519, rfl, ho0, ho1, hb⟩; refine ⟨_, rfl, ?_⟩; have n0_ := am (Kd.R_lower ho0 (below_size (bU HB.out))); have n1_ := am (Kd.R_lower ho1 (below_size (bU HB.out))); have n2_ := am (below_step (bU HB.out) hb); clear HB; have HO518 := n0_; have HO520 := n1_; have HB := n2_; clear n0_ n1_ n2_; (try clear hb); (try clear hb2); (try clear hk); (try clear hi); (try clear ho0); (try clear ho1)) | ((with_reducible refine gate_callee (f := 81) rfl ?_); refine goesL_ (some 23) rfl rfl Try.func81 (by kernel_rfl) rfl #[.slice A0 l0.length c0] rfl mU ?_; (with_reducible refine (spec_l1New.calls k _ _ l0 t521 t522 t523 w _ ?side1 ?side2 ?side3 A3.out).mono ?_); (case side1 => exact bU HB.out); (case side2 => exact HR0.out); (case side3 => exact HC0.out); rintro e w6 ⟨g524, rfl, hi, hb, hb2⟩; refine ⟨_, rfl, ?_⟩; have n0_ := am (Kd.R_below (rU HO518.out) hb2); have n1_ := am (Kd.R_below (rU HO520.out) hb2); have n2_ := am (hb); have n3_ := am (hi); clear HO518; clear HO520; clear HB; have HO518 := n0_; have HO520 := n1_; have HB := n2_; have HI524 := n3_; clear n0_ n1_ n2_ n3_; (try clear hb); (try clear hb2); (try clear hk); (try clear hi)) | ((with_reducible refine gate_dst (N := 29) rfl ?_); refine Kd.R_lit (Kd.int .i64) _ 3 ?hg (N := 29) ?hd (xs := ([5, 999, 1000] : List Int)) (inner := [.int .i64 5, .int .i64 999, .int .i64 1000]) (ok := fun _ => True) (okp := fun _ => True) ?hr ?hp (fun _ hk => hk) trivial (Below.refl _ _) (Nat.le_refl _) (by simp) ?_; (case hd => rfl); (case hg => rfl); (case hr => first | (go_simp; done) | (go_simp; rfl)); (case hp => exact (Reps.one (show Kd.M (Kd.int .i64) _ _ _ 5 [.int .i64 5] from rfl) (Reps.one (show Kd.M (Kd.int .i64) _ _ _ 999 [.int .i64 999] from rfl) (Reps.one (show Kd.M (Kd.int .i64) _ _ _ 1000 [.int .i64 1000] from rfl) (Reps.none _ _))))); intro v526 w7 ho8 hb hg_ hnew_; clear hg_ hnew_; (first | rw [← Ny525.out] at ho8 | (simp only [Int.reduceToNat] at ho8; rw [← Ny525.out] at ho8)); have n0_ := am (Kd.R_below (rU HO518.out) hb); have n1_ := am (Kd.R_elder' (rU HO520.out) (Kd.R_base ho8) hb); have n2_ := am (Kd.R_lower (Kd.R_new' ho8 (Kd.R_lt (rU HO520.out))) (below_size (by repeat (first | (with_reducible first | exact HB.out | apply below_alloc | apply pw_below_drewN | apply below_drew1 | refine below_set ?_ (IsS110.ge HI524.out)) | exact HB.out)))); have n3_ := am (IsS110.below (by repeat (first | (with_reducible first | exact HI524.out | apply IsS110.alloc | apply IsS110.drewN | apply IsS110.drew | apply IsS110.set_1 | apply IsS110.set_2) | exact HI524.out)) hb); have n4_ := am (below_step (by repeat (first | (with_reducible first | exact HB.out | apply below_alloc | apply pw_below_drewN | apply below_drew1 | refine below_set ?_ (IsS110.ge HI524.out)) | exact HB.out)) hb); clear HO518; clear HO520; clear HI524; clear HB; have HO518 := n0_; have HO520 := n1_; have HO527 := n2_; have HI524 := n3_; have HB := n4_; clear n0_ n1_ n2_ n3_ n4_; clear hb ho8; obtain ⟨Ao9, co9, eo9⟩ := Kd.R_slice HO527.out; subst eo9) | ((with_reducible refine gate_callee (f := 96) rfl ?_); refine goesL_ (some 30) rfl rfl Try.func96 (by kernel_rfl) rfl #[.pointer (some ⟨g524, 0, none⟩), .slice Ao9 y525.length co9] rfl mU ?_; (with_reducible refine (spec_l1Int.calls g524 t521 t522 t523 _ _ y525 t528 t529 t530 w _ ?side1 ?side2 ?side3 ?side4 ?side5 A4.out).mono ?_); (case side1 => repeat (first | (with_reducible first | exact HI524.out | apply IsS110.alloc | apply IsS110.drewN | apply IsS110.drew | apply IsS110.set_1 | apply IsS110.set_2) | exact HI524.out)); (case side2 => repeat (first | (with_reducible first | exact HB.out | apply below_alloc | apply pw_below_drewN | apply below_drew1 | refine below_set ?_ (IsS110.ge HI524.out)) | exact HB.out)); (case side3 => exact cU (Kd.R_reads' HO527.out).2.2); (case side4 => exact (Kd.R_reads' HO527.out).2.1); (case side5 => exact far_slice (IsS110.own_ne HI524.out HO527.out (by decide))); rintro e w10 ⟨rfl, hi, hb, hk⟩; refine ⟨_, rfl, ?_⟩; have n0_ := am (Kd.R_mono (Kd.R_keep (IsS110.apart (show IsS110 w _ g524 t521 t522 t523 from by repeat (first | (with_reducible first | exact HI524.out | apply IsS110.alloc | apply IsS110.drewN | apply IsS110.drew | apply IsS110.set_1 | apply IsS110.set_2) | exact HI524.out)) (rU HO518.out) (by decide)) hk (fun _ h => h.2)) (fun _ h => h.1)); have n1_ := am (Kd.R_mono (Kd.R_keep (IsS110.apart (show IsS110 w _ g524 t521 t522 t523 from by repeat (first | (with_reducible first | exact HI524.out | apply IsS110.alloc | apply IsS110.drewN | apply IsS110.drew | apply IsS110.set_1 | apply IsS110.set_2) | exact HI524.out)) (rU HO520.out) (by decide)) hk (fun _ h => h.2)) (fun _ h => h.1)); have n2_ := am (Kd.R_mono (Kd.R_keep (IsS110.apart (show IsS110 w _ g524 t521 t522 t523 from by repeat (first | (with_reducible first | exact HI524.out | apply IsS110.alloc | apply IsS110.drewN | apply IsS110.drew | apply IsS110.set_1 | apply IsS110.set_2) | exact HI524.out)) (rU HO527.out) (by decide)) hk (fun _ h => h.2)) (fun _ h => h.1)); have n3_ := am (hb); have n4_ := am (hi); clear HO518; clear HO520; clear HO527; clear HB; clear HI524; have HO518 := n0_; have HO520 := n1_; have HO527 := n2_; have HB := n3_; have HI524 := n4_; clear n0_ n1_ n2_ n3_ n4_; (try clear hb); (try clear hb2); (try clear hk); (try clear hi)))
 refine bodyPost_ret (results_list (rs := [.tmp 2, .tmp 3, .tmp 4, .tmp 5, .tmp 6, .tmp 7]) rfl (by simp) (.tmp (.tmp (.tmp (.tmp (.tmp (.tmp .nil))))))) rfl ?_
 exact ⟨_, _, eU, rU HO518.out, by (with_reducible repeat (first | apply Kd.R_alloc | apply Kd.R_drewN | apply Kd.R_drew)); exact Kd.R_mono HO520.out (fun _ hk => trivial), by repeat (first | (with_reducible first | exact HB.out | apply below_alloc | apply pw_below_drewN | apply below_drew1 | refine below_set ?_ (IsS110.ge HI524.out)) | exact HB.out)⟩
end Go.Proofs.Ytiiibfpijmmbfaa.QFnHandles
