import Derived.Test.YtiiibfpijmmbfaaUp
import Derived.Test.YtiiibfpijmmbfaaQFnExactEditByHandlex0
import Derived.Test.YtiiibfpijmmbfaaQFnExactEditByHandlex2
import Derived.Test.YtiiibfpijmmbfaaQFnExactEditByHandlex3
import Derived.Test.YtiiibfpijmmbfaaQFnExactEditByHandlex6
namespace Go.Proofs.Ytiiibfpijmmbfaa.QFnExactEditByHandle
open Go.RowKit Go.Proofs.YtiiibfpijmmbfaaW.PrintWords Go.Proofs.YtiiibfpijmmbfaaW.PrintLast Go.Proofs.YtiiibfpijmmbfaaW.PrintMore
attribute [local go_sem] max2_int min2_int max_two min_two max_three min_three max_four min_four
set_option linter.unusedVariables false
set_option linter.unusedSimpArgs false
def spec_l7Sees.l0 : Nat → List (S59) → List Int → Int → Int → Option (Bool)
 | 0, _, _, _, _ => none
 | k + 1, x0, x1, x2, x3 => if x3 ≥ 0 then (if 0 ≤ x3 then (if x3 < (x0.length : Int) then ((spec_l7Has.f k x1 ((rd_T59 x0 x3).f2)).bind fun t260 => (if t260 = true then (if ((rd_T59 x0 x3).f4) = x2 then (if x3 ≤ (x0.length : Int) then ((spec_NodeOf.f k (x0.take (x3 : Int).toNat) ((rd_T59 x0 x3).f1)).bind fun t267 => (spec_l7Sees.l0 k x0 x1 x2 t267)) else (none)) else (some false)) else (if x3 ≤ (x0.length : Int) then ((spec_NodeOf.f k (x0.take (x3 : Int).toNat) ((rd_T59 x0 x3).f1)).bind fun t273 => (spec_l7Sees.l0 k x0 x1 x2 t273)) else (none)))) else (none)) else (none)) else (some true)
def spec_l7Sees.f (k : Nat) (l0 : List (S59)) (l1 : List Int) (a2 : Int) (a3 : Int) : Option (Bool) := spec_l7Sees.l0 k l0 l1 a2 a3
theorem spec_l7Sees.mono_l : ∀ k, (∀ y0 y1 y2 y3, LeO (spec_l7Sees.l0 k y0 y1 y2 y3) (spec_l7Sees.l0 (k + 1) y0 y1 y2 y3))
 | 0 => fun _ _ _ _ r h => by simp [spec_l7Sees.l0] at h
 | k + 1 => by
  have ih0 := spec_l7Sees.mono_l k
  ·intro y0 y1 y2 y3
   unfold spec_l7Sees.l0
   repeat' first
   | (with_reducible exact ih0 _ _ _ _)
   | (with_reducible exact spec_NodeOf.mono _ _ _)
   | (with_reducible exact spec_l7Has.mono _ _ _)
   | (with_reducible exact LeO.refl _)
   | (with_reducible exact LeO.none _)
   | (with_reducible refine LeO.ite ?_ ?_)
   | (with_reducible refine LeO.bind ?_ (fun _ => ?_))
   | exact ih0 _ _ _ _
   | exact spec_NodeOf.mono _ _ _
   | exact spec_l7Has.mono _ _ _
   | exact LeO.none _
   | refine LeO.ite ?_ ?_
   | refine LeO.bind ?_ (fun _ => ?_)
theorem spec_l7Sees.mono : ∀ a0 a1 a2 a3 k, LeO (spec_l7Sees.f k a0 a1 a2 a3) (spec_l7Sees.f (k + 1) a0 a1 a2 a3) := by
 intro a0 a1 a2 a3 k
 have ih0 := spec_l7Sees.mono_l k
 unfold spec_l7Sees.f
 repeat' first
   | (with_reducible exact ih0 _ _ _ _)
   | (with_reducible exact spec_NodeOf.mono _ _ _)
   | (with_reducible exact spec_l7Has.mono _ _ _)
   | (with_reducible exact LeO.refl _)
   | (with_reducible exact LeO.none _)
   | (with_reducible refine LeO.ite ?_ ?_)
   | (with_reducible refine LeO.bind ?_ (fun _ => ?_))
   | exact ih0 _ _ _ _
   | exact spec_NodeOf.mono _ _ _
   | exact spec_l7Has.mono _ _ _
   | exact LeO.none _
   | refine LeO.ite ?_ ?_
   | refine LeO.bind ?_ (fun _ => ?_)
set_option maxHeartbeats 8000000 in
set_option maxRecDepth 100000 in
theorem spec_l7Sees.calls (k : Nat) (A0 : Option Addr) (c0 : Nat) (l0 : List (S59)) (A1 : Option Addr) (c1 : Nat) (l1 : List Int) (a2 : Int) (a3 : Int) (r : Bool) (w : World) (hr0 : Kd.C k59 w A0 l0.length l0) (hc0 : l0.length ≤ c0) (hr1 : Kd.C (Kd.int .i64) w A1 l1.length l1) (hc1 : l1.length ≤ c1) (h : spec_l7Sees.f k l0 l1 a2 a3 = some r) :
  Calls Try.prog 95 #[.slice A0 l0.length c0, .slice A1 l1.length c1, .int .i64 a2, .int .i64 a3] w fun e w' => e = .returned (.bool r) ∧ Drawn0 w w' := by
 have HR0 := am hr0
 have HC0 := am hc0
 clear hr0 hc0
 have HR1 := am hr1
 have HC1 := am hc1
 clear hr1 hc1
 have H : (spec_l7Sees.l0 k l0 l1 a2 a3) = some r := h
 clear h
 have H' := am H
 clear H
 go_enter Try.func95, Try.ntmps95
 go_wp2
 repeat (go_quiet (fail); try go_wp2)
 go_loopg [3] k (fun kq v3 w' => ∃ (x3_1 : Int), v3 = .int .i64 x3_1 ∧ Aside0 (spec_l7Sees.l0 kq l0 l1 a2 x3_1 = some r) ∧ Aside0 (kq ≤ k) ∧ Drawn0 w w')
 case atStart => exact ⟨(a3), (by first | rfl | (simp; done) | (simp [*]; done)), H', ⟨Nat.le_refl _⟩, by repeat (first | exact Drawn0.refl _ | apply Drawn0.step)⟩
 case round =>
  clear H'
  try clear c1
  try clear p2
  obtain ⟨x3_1, rfl, HA, HK1, ⟨m1, rfl⟩⟩ := hrel
  cases gk with
  | zero => exact absurd HA.out (by simp [spec_l7Sees.l0])
  | succ k1 =>
   have H := HA.out
   clear HA
   simp only [spec_l7Sees.l0] at H
   by_cases c5 : x3_1 ≥ 0
   ·rw [if_pos c5] at H
    have c5b0 : decide (0 ≤ x3_1) = true := decide_eq_true c5
    clear c5
    by_cases c6 : 0 ≤ x3_1
    ·rw [if_pos c6] at H
     have c6b0 : decide (0 ≤ x3_1) = true := decide_eq_true c6
     clear c6
     by_cases c7 : x3_1 < (l0.length : Int)
     ·rw [if_pos c7] at H
      have c7b0 : decide (x3_1 < (l0.length : Int)) = true := decide_eq_true c7
      clear c7
      replace H := Option.bind_eq_some_iff.mp H
      obtain ⟨t260, A80, H⟩ := H
      replace H : (if t260 = true then (if ((rd_T59 l0 x3_1).f4) = a2 then (if x3_1 ≤ (l0.length : Int) then ((spec_NodeOf.f k1 (l0.take (x3_1 : Int).toNat) ((rd_T59 l0 x3_1).f1)).bind fun t267 => (spec_l7Sees.l0 k1 l0 l1 a2 t267)) else (none)) else (some false)) else (if x3_1 ≤ (l0.length : Int) then ((spec_NodeOf.f k1 (l0.take (x3_1 : Int).toNat) ((rd_T59 l0 x3_1).f1)).bind fun t273 => (spec_l7Sees.l0 k1 l0 l1 a2 t273)) else (none))) = some r := H
      have A8 := am A80
      clear A80
      by_cases c9 : t260 = true
      ·subst c9
       have H1 : (if ((rd_T59 l0 x3_1).f4) = a2 then (if x3_1 ≤ (l0.length : Int) then ((spec_NodeOf.f k1 (l0.take (x3_1 : Int).toNat) ((rd_T59 l0 x3_1).f1)).bind fun t267 => (spec_l7Sees.l0 k1 l0 l1 a2 t267)) else (none)) else (some false)) = some r := by rw [if_pos rfl] at H; exact H
       clear H
       have H := H1
       clear H1
       by_cases c10 : ((rd_T59 l0 x3_1).f4) = a2
       ·rw [if_pos c10] at H
        have c10b0 : (((rd_T59 l0 x3_1).f4) == a2) = true := beq_iff_eq.mpr c10
        have c10b1 : (((rd_T59 l0 x3_1).f4) != a2) = false := bne_eq_false_iff_eq.mpr c10
        clear c10
        have c11b0 := eq_true (dU : 0 ≤ x3_1)
        by_cases c12 : x3_1 ≤ (l0.length : Int)
        ·rw [if_pos c12] at H
         have c12b0 := eq_true c12
         have c12b1 : decide (x3_1 ≤ (l0.length : Int)) = true := decide_eq_true c12
         clear c12
         obtain ⟨y262, hy262⟩ : ∃ y_ : List (S59), y_ = (l0.take (x3_1 : Int).toNat) := ⟨_, rfl⟩
         replace H : ((spec_NodeOf.f k1 y262 ((rd_T59 l0 x3_1).f1)).bind fun t267 => (spec_l7Sees.l0 k1 l0 l1 a2 t267)) = some r := by first | (rw [hy262]; with_reducible exact H) | (have H2_ := (Option.bind_some _ _).symm.trans H; rw [hy262]; with_reducible exact H2_) | (have H2_ := (Option.bind_some _ _).symm.trans H; with_reducible exact H2_) | with_reducible exact H | (rw [hy262]; exact H) | exact H
         have Ny262 := am hy262
         clear hy262
         replace H := Option.bind_eq_some_iff.mp H
         obtain ⟨t267, A130, H⟩ := H
         replace H : (spec_l7Sees.l0 k1 l0 l1 a2 t267) = some r := H
         have A13 := am A130
         clear A130
         have H' := am H
         clear H
         have p259 : 0 ≤ (x3_1 : Int) := dU
         have q259 : x3_1 < (l0.length : Int) := dU
         obtain ⟨ad259, e259, hx259_0, hx259_1, hx259_2, hx259_3, hx259_4⟩ := at_T59 HR0.out x3_1 p259 q259
         cases e259
         replace p259 := eq_true p259
         replace q259 := eq_true q259
         go_wp2_with (first | (go_at_call 113; (with_reducible refine (spec_l7Has.calls k1 _ _ l1 ((rd_T59 l0 x3_1).f2) true _ ?side1 ?side2 A8.out).mono ?_); (case side1 => exact cU HR1.out); (case side2 => exact HC1.out); rintro e w' ⟨rfl, ⟨nd, rfl⟩⟩; (try first | exact ⟨rfl, _, World.drewN_drewN _ _ _⟩ | exact ⟨rfl, _, Eq.trans (World.drewN_drewN _ _ _) (congrArg (World.drewN _) (Nat.add_assoc _ _ _))⟩); have p261 : 0 ≤ (x3_1 : Int) := dU; have q261 : x3_1 < (l0.length : Int) := dU; obtain ⟨ad261, e261, hx261_0, hx261_1, hx261_2, hx261_3, hx261_4⟩ := at_T59 HR0.out x3_1 p261 q261; obtain rfl : ad259 = ad261 := (by injection e261); replace p261 := eq_true p261; replace q261 := eq_true q261; have q14 : (x3_1 : Int) ≤ ((l0.length : Int) : Int) := dU; obtain ⟨i014, hi014, _, hsz14, _⟩ := info_parts info59; have hroom14 : l0.length ≤ c0 := HC0.out; have hC14 : Kd.C k59 _ (some ad259) l0.length l0 := HR0.out; have hcut14 := cut_to (P := Try.prog) 26 59 .i64 Try.underlying26 hi014 (some ad259) l0.length c0 x3_1 (dU) q14 hroom14; have hr14 := Kd.C_take (m := (x3_1 : Int).toNat) hC14 (by omega); have hy14 : y262.length = (x3_1 : Int).toNat := (by rw [Ny262.out, List.length_take]; omega); rw [← Ny262.out] at hr14; rw [← hy14] at hcut14; have HR265 := am hr14; have HC265 := am (show y262.length ≤ c0 from by omega); clear hr14 hC14 hroom14 hi014 hsz14; have KY14 := am hy14; clear hy14; replace q14 := eq_true q14; have p266 : 0 ≤ (x3_1 : Int) := dU; have q266 : x3_1 < (l0.length : Int) := dU; obtain ⟨ad266, e266, hx266_0, hx266_1, hx266_2, hx266_3, hx266_4⟩ := at_T59 HR0.out x3_1 p266 q266; obtain rfl : ad259 = ad266 := (by injection e266); replace p266 := eq_true p266; replace q266 := eq_true q266) | (go_at_call 67; (with_reducible refine (spec_NodeOf.calls k1 _ _ y262 ((rd_T59 l0 x3_1).f1) t267 _ ?side1 ?side2 A13.out).mono ?_); (case side1 => exact cU HR265.out); (case side2 => exact HC265.out); rintro e w' ⟨rfl, ⟨nd, rfl⟩⟩; (try first | exact ⟨rfl, _, World.drewN_drewN _ _ _⟩ | exact ⟨rfl, _, Eq.trans (World.drewN_drewN _ _ _) (congrArg (World.drewN _) (Nat.add_assoc _ _ _))⟩)))
         repeat (go_quiet (first | (go_at_call 113; (with_reducible refine (spec_l7Has.calls k1 _ _ l1 ((rd_T59 l0 x3_1).f2) true _ ?side1 ?side2 A8.out).mono ?_); (case side1 => exact cU HR1.out); (case side2 => exact HC1.out); rintro e w' ⟨rfl, ⟨nd, rfl⟩⟩; (try first | exact ⟨rfl, _, World.drewN_drewN _ _ _⟩ | exact ⟨rfl, _, Eq.trans (World.drewN_drewN _ _ _) (congrArg (World.drewN _) (Nat.add_assoc _ _ _))⟩); have p261 : 0 ≤ (x3_1 : Int) := dU; have q261 : x3_1 < (l0.length : Int) := dU; obtain ⟨ad261, e261, hx261_0, hx261_1, hx261_2, hx261_3, hx261_4⟩ := at_T59 HR0.out x3_1 p261 q261; obtain rfl : ad259 = ad261 := (by injection e261); replace p261 := eq_true p261; replace q261 := eq_true q261; have q14 : (x3_1 : Int) ≤ ((l0.length : Int) : Int) := dU; obtain ⟨i014, hi014, _, hsz14, _⟩ := info_parts info59; have hroom14 : l0.length ≤ c0 := HC0.out; have hC14 : Kd.C k59 _ (some ad259) l0.length l0 := HR0.out; have hcut14 := cut_to (P := Try.prog) 26 59 .i64 Try.underlying26 hi014 (some ad259) l0.length c0 x3_1 (dU) q14 hroom14; have hr14 := Kd.C_take (m := (x3_1 : Int).toNat) hC14 (by omega); have hy14 : y262.length = (x3_1 : Int).toNat := (by rw [Ny262.out, List.length_take]; omega); rw [← Ny262.out] at hr14; rw [← hy14] at hcut14; have HR265 := am hr14; have HC265 := am (show y262.length ≤ c0 from by omega); clear hr14 hC14 hroom14 hi014 hsz14; have KY14 := am hy14; clear hy14; replace q14 := eq_true q14; have p266 : 0 ≤ (x3_1 : Int) := dU; have q266 : x3_1 < (l0.length : Int) := dU; obtain ⟨ad266, e266, hx266_0, hx266_1, hx266_2, hx266_3, hx266_4⟩ := at_T59 HR0.out x3_1 p266 q266; obtain rfl : ad259 = ad266 := (by injection e266); replace p266 := eq_true p266; replace q266 := eq_true q266) | (go_at_call 67; (with_reducible refine (spec_NodeOf.calls k1 _ _ y262 ((rd_T59 l0 x3_1).f1) t267 _ ?side1 ?side2 A13.out).mono ?_); (case side1 => exact cU HR265.out); (case side2 => exact HC265.out); rintro e w' ⟨rfl, ⟨nd, rfl⟩⟩; (try first | exact ⟨rfl, _, World.drewN_drewN _ _ _⟩ | exact ⟨rfl, _, Eq.trans (World.drewN_drewN _ _ _) (congrArg (World.drewN _) (Nat.add_assoc _ _ _))⟩))); try go_wp2_with (first | (go_at_call 113; (with_reducible refine (spec_l7Has.calls k1 _ _ l1 ((rd_T59 l0 x3_1).f2) true _ ?side1 ?side2 A8.out).mono ?_); (case side1 => exact cU HR1.out); (case side2 => exact HC1.out); rintro e w' ⟨rfl, ⟨nd, rfl⟩⟩; (try first | exact ⟨rfl, _, World.drewN_drewN _ _ _⟩ | exact ⟨rfl, _, Eq.trans (World.drewN_drewN _ _ _) (congrArg (World.drewN _) (Nat.add_assoc _ _ _))⟩); have p261 : 0 ≤ (x3_1 : Int) := dU; have q261 : x3_1 < (l0.length : Int) := dU; obtain ⟨ad261, e261, hx261_0, hx261_1, hx261_2, hx261_3, hx261_4⟩ := at_T59 HR0.out x3_1 p261 q261; obtain rfl : ad259 = ad261 := (by injection e261); replace p261 := eq_true p261; replace q261 := eq_true q261; have q14 : (x3_1 : Int) ≤ ((l0.length : Int) : Int) := dU; obtain ⟨i014, hi014, _, hsz14, _⟩ := info_parts info59; have hroom14 : l0.length ≤ c0 := HC0.out; have hC14 : Kd.C k59 _ (some ad259) l0.length l0 := HR0.out; have hcut14 := cut_to (P := Try.prog) 26 59 .i64 Try.underlying26 hi014 (some ad259) l0.length c0 x3_1 (dU) q14 hroom14; have hr14 := Kd.C_take (m := (x3_1 : Int).toNat) hC14 (by omega); have hy14 : y262.length = (x3_1 : Int).toNat := (by rw [Ny262.out, List.length_take]; omega); rw [← Ny262.out] at hr14; rw [← hy14] at hcut14; have HR265 := am hr14; have HC265 := am (show y262.length ≤ c0 from by omega); clear hr14 hC14 hroom14 hi014 hsz14; have KY14 := am hy14; clear hy14; replace q14 := eq_true q14; have p266 : 0 ≤ (x3_1 : Int) := dU; have q266 : x3_1 < (l0.length : Int) := dU; obtain ⟨ad266, e266, hx266_0, hx266_1, hx266_2, hx266_3, hx266_4⟩ := at_T59 HR0.out x3_1 p266 q266; obtain rfl : ad259 = ad266 := (by injection e266); replace p266 := eq_true p266; replace q266 := eq_true q266) | (go_at_call 67; (with_reducible refine (spec_NodeOf.calls k1 _ _ y262 ((rd_T59 l0 x3_1).f1) t267 _ ?side1 ?side2 A13.out).mono ?_); (case side1 => exact cU HR265.out); (case side2 => exact HC265.out); rintro e w' ⟨rfl, ⟨nd, rfl⟩⟩; (try first | exact ⟨rfl, _, World.drewN_drewN _ _ _⟩ | exact ⟨rfl, _, Eq.trans (World.drewN_drewN _ _ _) (congrArg (World.drewN _) (Nat.add_assoc _ _ _))⟩))))
         go_roundg k1
         case measure => have := HK1.out; omega
         case rel => exact ⟨(t267), (by first | rfl | (simp; done) | (simp [*]; done)), H', ⟨by have := HK1.out; omega⟩, by repeat (first | exact Drawn0.refl _ | apply Drawn0.step)⟩
        ·rw [if_neg c12] at H
         exact absurd H (by simp)
       ·rw [if_neg c10] at H
        have c10b0 : (((rd_T59 l0 x3_1).f4) == a2) = false := beq_eq_false_iff_ne.mpr c10
        have c10b1 : (((rd_T59 l0 x3_1).f4) != a2) = true := bne_iff_ne.mpr c10
        obtain rfl := Option.some.inj H
        have p259 : 0 ≤ (x3_1 : Int) := dU
        have q259 : x3_1 < (l0.length : Int) := dU
        obtain ⟨ad259, e259, hx259_0, hx259_1, hx259_2, hx259_3, hx259_4⟩ := at_T59 HR0.out x3_1 p259 q259
        cases e259
        replace p259 := eq_true p259
        replace q259 := eq_true q259
        go_wp2_with (first | (go_at_call 113; (with_reducible refine (spec_l7Has.calls k1 _ _ l1 ((rd_T59 l0 x3_1).f2) true _ ?side1 ?side2 A8.out).mono ?_); (case side1 => exact cU HR1.out); (case side2 => exact HC1.out); rintro e w' ⟨rfl, ⟨nd, rfl⟩⟩; (try first | exact ⟨rfl, _, World.drewN_drewN _ _ _⟩ | exact ⟨rfl, _, Eq.trans (World.drewN_drewN _ _ _) (congrArg (World.drewN _) (Nat.add_assoc _ _ _))⟩); have p261 : 0 ≤ (x3_1 : Int) := dU; have q261 : x3_1 < (l0.length : Int) := dU; obtain ⟨ad261, e261, hx261_0, hx261_1, hx261_2, hx261_3, hx261_4⟩ := at_T59 HR0.out x3_1 p261 q261; obtain rfl : ad259 = ad261 := (by injection e261); replace p261 := eq_true p261; replace q261 := eq_true q261))
        repeat (go_quiet (first | (go_at_call 113; (with_reducible refine (spec_l7Has.calls k1 _ _ l1 ((rd_T59 l0 x3_1).f2) true _ ?side1 ?side2 A8.out).mono ?_); (case side1 => exact cU HR1.out); (case side2 => exact HC1.out); rintro e w' ⟨rfl, ⟨nd, rfl⟩⟩; (try first | exact ⟨rfl, _, World.drewN_drewN _ _ _⟩ | exact ⟨rfl, _, Eq.trans (World.drewN_drewN _ _ _) (congrArg (World.drewN _) (Nat.add_assoc _ _ _))⟩); have p261 : 0 ≤ (x3_1 : Int) := dU; have q261 : x3_1 < (l0.length : Int) := dU; obtain ⟨ad261, e261, hx261_0, hx261_1, hx261_2, hx261_3, hx261_4⟩ := at_T59 HR0.out x3_1 p261 q261; obtain rfl : ad259 = ad261 := (by injection e261); replace p261 := eq_true p261; replace q261 := eq_true q261)); try go_wp2_with (first | (go_at_call 113; (with_reducible refine (spec_l7Has.calls k1 _ _ l1 ((rd_T59 l0 x3_1).f2) true _ ?side1 ?side2 A8.out).mono ?_); (case side1 => exact cU HR1.out); (case side2 => exact HC1.out); rintro e w' ⟨rfl, ⟨nd, rfl⟩⟩; (try first | exact ⟨rfl, _, World.drewN_drewN _ _ _⟩ | exact ⟨rfl, _, Eq.trans (World.drewN_drewN _ _ _) (congrArg (World.drewN _) (Nat.add_assoc _ _ _))⟩); have p261 : 0 ≤ (x3_1 : Int) := dU; have q261 : x3_1 < (l0.length : Int) := dU; obtain ⟨ad261, e261, hx261_0, hx261_1, hx261_2, hx261_3, hx261_4⟩ := at_T59 HR0.out x3_1 p261 q261; obtain rfl : ad259 = ad261 := (by injection e261); replace p261 := eq_true p261; replace q261 := eq_true q261)))
        go_ret
        exact ⟨by first | rfl | (simp; done) | (simp [*]; done), by repeat (first | exact Drawn0.refl _ | apply Drawn0.step)⟩
      ·replace c9 := Bool.eq_false_iff.mpr c9
       subst c9
       have H1 : (if x3_1 ≤ (l0.length : Int) then ((spec_NodeOf.f k1 (l0.take (x3_1 : Int).toNat) ((rd_T59 l0 x3_1).f1)).bind fun t273 => (spec_l7Sees.l0 k1 l0 l1 a2 t273)) else (none)) = some r := by rw [if_neg (show ¬ (false = true) by decide)] at H; exact H
       clear H
       have H := H1
       clear H1
       have c15b0 := eq_true (dU : 0 ≤ x3_1)
       by_cases c16 : x3_1 ≤ (l0.length : Int)
       ·rw [if_pos c16] at H
        have c16b0 := eq_true c16
        have c16b1 : decide (x3_1 ≤ (l0.length : Int)) = true := decide_eq_true c16
        clear c16
        obtain ⟨y268, hy268⟩ : ∃ y_ : List (S59), y_ = (l0.take (x3_1 : Int).toNat) := ⟨_, rfl⟩
        replace H : ((spec_NodeOf.f k1 y268 ((rd_T59 l0 x3_1).f1)).bind fun t273 => (spec_l7Sees.l0 k1 l0 l1 a2 t273)) = some r := by first | (rw [hy268]; with_reducible exact H) | (have H2_ := (Option.bind_some _ _).symm.trans H; rw [hy268]; with_reducible exact H2_) | (have H2_ := (Option.bind_some _ _).symm.trans H; with_reducible exact H2_) | with_reducible exact H | (rw [hy268]; exact H) | exact H
        have Ny268 := am hy268
        clear hy268
        replace H := Option.bind_eq_some_iff.mp H
        obtain ⟨t273, A170, H⟩ := H
        replace H : (spec_l7Sees.l0 k1 l0 l1 a2 t273) = some r := H
        have A17 := am A170
        clear A170
        have H' := am H
        clear H
        have p259 : 0 ≤ (x3_1 : Int) := dU
        have q259 : x3_1 < (l0.length : Int) := dU
        obtain ⟨ad259, e259, hx259_0, hx259_1, hx259_2, hx259_3, hx259_4⟩ := at_T59 HR0.out x3_1 p259 q259
        cases e259
        replace p259 := eq_true p259
        replace q259 := eq_true q259
        go_wp2_with (first | (go_at_call 113; (with_reducible refine (spec_l7Has.calls k1 _ _ l1 ((rd_T59 l0 x3_1).f2) false _ ?side1 ?side2 A8.out).mono ?_); (case side1 => exact cU HR1.out); (case side2 => exact HC1.out); rintro e w' ⟨rfl, ⟨nd, rfl⟩⟩; (try first | exact ⟨rfl, _, World.drewN_drewN _ _ _⟩ | exact ⟨rfl, _, Eq.trans (World.drewN_drewN _ _ _) (congrArg (World.drewN _) (Nat.add_assoc _ _ _))⟩); have q18 : (x3_1 : Int) ≤ ((l0.length : Int) : Int) := dU; obtain ⟨i018, hi018, _, hsz18, _⟩ := info_parts info59; have hroom18 : l0.length ≤ c0 := HC0.out; have hC18 : Kd.C k59 _ (some ad259) l0.length l0 := HR0.out; have hcut18 := cut_to (P := Try.prog) 26 59 .i64 Try.underlying26 hi018 (some ad259) l0.length c0 x3_1 (dU) q18 hroom18; have hr18 := Kd.C_take (m := (x3_1 : Int).toNat) hC18 (by omega); have hy18 : y268.length = (x3_1 : Int).toNat := (by rw [Ny268.out, List.length_take]; omega); rw [← Ny268.out] at hr18; rw [← hy18] at hcut18; have HR271 := am hr18; have HC271 := am (show y268.length ≤ c0 from by omega); clear hr18 hC18 hroom18 hi018 hsz18; have KY18 := am hy18; clear hy18; replace q18 := eq_true q18; have p272 : 0 ≤ (x3_1 : Int) := dU; have q272 : x3_1 < (l0.length : Int) := dU; obtain ⟨ad272, e272, hx272_0, hx272_1, hx272_2, hx272_3, hx272_4⟩ := at_T59 HR0.out x3_1 p272 q272; obtain rfl : ad259 = ad272 := (by injection e272); replace p272 := eq_true p272; replace q272 := eq_true q272) | (go_at_call 67; (with_reducible refine (spec_NodeOf.calls k1 _ _ y268 ((rd_T59 l0 x3_1).f1) t273 _ ?side1 ?side2 A17.out).mono ?_); (case side1 => exact cU HR271.out); (case side2 => exact HC271.out); rintro e w' ⟨rfl, ⟨nd, rfl⟩⟩; (try first | exact ⟨rfl, _, World.drewN_drewN _ _ _⟩ | exact ⟨rfl, _, Eq.trans (World.drewN_drewN _ _ _) (congrArg (World.drewN _) (Nat.add_assoc _ _ _))⟩)))
        repeat (go_quiet (first | (go_at_call 113; (with_reducible refine (spec_l7Has.calls k1 _ _ l1 ((rd_T59 l0 x3_1).f2) false _ ?side1 ?side2 A8.out).mono ?_); (case side1 => exact cU HR1.out); (case side2 => exact HC1.out); rintro e w' ⟨rfl, ⟨nd, rfl⟩⟩; (try first | exact ⟨rfl, _, World.drewN_drewN _ _ _⟩ | exact ⟨rfl, _, Eq.trans (World.drewN_drewN _ _ _) (congrArg (World.drewN _) (Nat.add_assoc _ _ _))⟩); have q18 : (x3_1 : Int) ≤ ((l0.length : Int) : Int) := dU; obtain ⟨i018, hi018, _, hsz18, _⟩ := info_parts info59; have hroom18 : l0.length ≤ c0 := HC0.out; have hC18 : Kd.C k59 _ (some ad259) l0.length l0 := HR0.out; have hcut18 := cut_to (P := Try.prog) 26 59 .i64 Try.underlying26 hi018 (some ad259) l0.length c0 x3_1 (dU) q18 hroom18; have hr18 := Kd.C_take (m := (x3_1 : Int).toNat) hC18 (by omega); have hy18 : y268.length = (x3_1 : Int).toNat := (by rw [Ny268.out, List.length_take]; omega); rw [← Ny268.out] at hr18; rw [← hy18] at hcut18; have HR271 := am hr18; have HC271 := am (show y268.length ≤ c0 from by omega); clear hr18 hC18 hroom18 hi018 hsz18; have KY18 := am hy18; clear hy18; replace q18 := eq_true q18; have p272 : 0 ≤ (x3_1 : Int) := dU; have q272 : x3_1 < (l0.length : Int) := dU; obtain ⟨ad272, e272, hx272_0, hx272_1, hx272_2, hx272_3, hx272_4⟩ := at_T59 HR0.out x3_1 p272 q272; obtain rfl : ad259 = ad272 := (by injection e272); replace p272 := eq_true p272; replace q272 := eq_true q272) | (go_at_call 67; (with_reducible refine (spec_NodeOf.calls k1 _ _ y268 ((rd_T59 l0 x3_1).f1) t273 _ ?side1 ?side2 A17.out).mono ?_); (case side1 => exact cU HR271.out); (case side2 => exact HC271.out); rintro e w' ⟨rfl, ⟨nd, rfl⟩⟩; (try first | exact ⟨rfl, _, World.drewN_drewN _ _ _⟩ | exact ⟨rfl, _, Eq.trans (World.drewN_drewN _ _ _) (congrArg (World.drewN _) (Nat.add_assoc _ _ _))⟩))); try go_wp2_with (first | (go_at_call 113; (with_reducible refine (spec_l7Has.calls k1 _ _ l1 ((rd_T59 l0 x3_1).f2) false _ ?side1 ?side2 A8.out).mono ?_); (case side1 => exact cU HR1.out); (case side2 => exact HC1.out); rintro e w' ⟨rfl, ⟨nd, rfl⟩⟩; (try first | exact ⟨rfl, _, World.drewN_drewN _ _ _⟩ | exact ⟨rfl, _, Eq.trans (World.drewN_drewN _ _ _) (congrArg (World.drewN _) (Nat.add_assoc _ _ _))⟩); have q18 : (x3_1 : Int) ≤ ((l0.length : Int) : Int) := dU; obtain ⟨i018, hi018, _, hsz18, _⟩ := info_parts info59; have hroom18 : l0.length ≤ c0 := HC0.out; have hC18 : Kd.C k59 _ (some ad259) l0.length l0 := HR0.out; have hcut18 := cut_to (P := Try.prog) 26 59 .i64 Try.underlying26 hi018 (some ad259) l0.length c0 x3_1 (dU) q18 hroom18; have hr18 := Kd.C_take (m := (x3_1 : Int).toNat) hC18 (by omega); have hy18 : y268.length = (x3_1 : Int).toNat := (by rw [Ny268.out, List.length_take]; omega); rw [← Ny268.out] at hr18; rw [← hy18] at hcut18; have HR271 := am hr18; have HC271 := am (show y268.length ≤ c0 from by omega); clear hr18 hC18 hroom18 hi018 hsz18; have KY18 := am hy18; clear hy18; replace q18 := eq_true q18; have p272 : 0 ≤ (x3_1 : Int) := dU; have q272 : x3_1 < (l0.length : Int) := dU; obtain ⟨ad272, e272, hx272_0, hx272_1, hx272_2, hx272_3, hx272_4⟩ := at_T59 HR0.out x3_1 p272 q272; obtain rfl : ad259 = ad272 := (by injection e272); replace p272 := eq_true p272; replace q272 := eq_true q272) | (go_at_call 67; (with_reducible refine (spec_NodeOf.calls k1 _ _ y268 ((rd_T59 l0 x3_1).f1) t273 _ ?side1 ?side2 A17.out).mono ?_); (case side1 => exact cU HR271.out); (case side2 => exact HC271.out); rintro e w' ⟨rfl, ⟨nd, rfl⟩⟩; (try first | exact ⟨rfl, _, World.drewN_drewN _ _ _⟩ | exact ⟨rfl, _, Eq.trans (World.drewN_drewN _ _ _) (congrArg (World.drewN _) (Nat.add_assoc _ _ _))⟩))))
        go_roundg k1
        case measure => have := HK1.out; omega
        case rel => exact ⟨(t273), (by first | rfl | (simp; done) | (simp [*]; done)), H', ⟨by have := HK1.out; omega⟩, by repeat (first | exact Drawn0.refl _ | apply Drawn0.step)⟩
       ·rw [if_neg c16] at H
        exact absurd H (by simp)
     ·rw [if_neg c7] at H
      exact absurd H (by simp)
    ·rw [if_neg c6] at H
     exact absurd H (by simp)
   ·rw [if_neg c5] at H
    have c5b0 : decide (0 ≤ x3_1) = false := decide_eq_false c5
    clear c5
    obtain rfl := Option.some.inj H
    go_wp2
    repeat (go_quiet (fail); try go_wp2)
    go_ret
    exact ⟨by first | rfl | (simp; done) | (simp [*]; done), by repeat (first | exact Drawn0.refl _ | apply Drawn0.step)⟩
mutual
def spec_SeenBy.l0 : Nat → List (S59) → List Int → Int → List (S59) → Int → Option ((List (S59)))
 | 0, _, _, _, _, _ => none
 | k + 1, x0, x1, x2, x7, x8 => if x8 < (x0.length : Int) then ((spec_IsDocument.f k x0).bind fun t277 => (spec_SeenBy.j1 k x0 x1 x2 x7 x8 t277)) else (spec_SeenBy.j1 k x0 x1 x2 x7 x8 false)
def spec_SeenBy.j1 : Nat → List (S59) → List Int → Int → List (S59) → Int → Bool → Option ((List (S59)))
 | 0, _, _, _, _, _, _ => none
 | k + 1, x0, x1, x2, x7, x8, x17 => if x17 = true then ((spec_l7Sees.f k x0 x1 x2 x8).bind fun t278 => (if t278 = true then (if 0 ≤ x8 then (if x8 < (x0.length : Int) then (if x7.length < 3518437208883 then (spec_SeenBy.l0 k x0 x1 x2 (x7 ++ [(⟨(rd_T59 x0 x8).f0, (rd_T59 x0 x8).f1, (rd_T59 x0 x8).f2, (rd_T59 x0 x8).f3, (rd_T59 x0 x8).f4⟩ : S59)]) (wrap64 (x8 + 1))) else (none)) else (none)) else (none)) else (spec_SeenBy.l0 k x0 x1 x2 x7 (wrap64 (x8 + 1))))) else (some x7)
end
def spec_SeenBy.f (k : Nat) (l0 : List (S59)) (l1 : List Int) (a2 : Int) : Option ((List (S59))) := spec_SeenBy.l0 k l0 l1 a2 (([] : List (S59))) 0
theorem spec_SeenBy.mono_l : ∀ k, (∀ y0 y1 y2 y3 y4, LeO (spec_SeenBy.l0 k y0 y1 y2 y3 y4) (spec_SeenBy.l0 (k + 1) y0 y1 y2 y3 y4)) ∧ (∀ y0 y1 y2 y3 y4 y5, LeO (spec_SeenBy.j1 k y0 y1 y2 y3 y4 y5) (spec_SeenBy.j1 (k + 1) y0 y1 y2 y3 y4 y5))
 | 0 => ⟨fun _ _ _ _ _ r h => by simp [spec_SeenBy.l0] at h, fun _ _ _ _ _ _ r h => by simp [spec_SeenBy.j1] at h⟩
 | k + 1 => by
  obtain ⟨ih0, ih1⟩ := spec_SeenBy.mono_l k
  refine ⟨?_, ?_⟩
  ·intro y0 y1 y2 y3 y4
   unfold spec_SeenBy.l0
   repeat' first
   | (with_reducible exact ih0 _ _ _ _ _)
   | (with_reducible exact ih1 _ _ _ _ _ _)
   | (with_reducible exact spec_IsDocument.mono _ _)
   | (with_reducible exact spec_l7Sees.mono _ _ _ _ _)
   | (with_reducible exact LeO.refl _)
   | (with_reducible exact LeO.none _)
   | (with_reducible refine LeO.ite ?_ ?_)
   | (with_reducible refine LeO.bind ?_ (fun _ => ?_))
   | exact ih0 _ _ _ _ _
   | exact ih1 _ _ _ _ _ _
   | exact spec_IsDocument.mono _ _
   | exact spec_l7Sees.mono _ _ _ _ _
   | exact LeO.none _
   | refine LeO.ite ?_ ?_
   | refine LeO.bind ?_ (fun _ => ?_)
  ·intro y0 y1 y2 y3 y4 y5
   unfold spec_SeenBy.j1
   repeat' first
   | (with_reducible exact ih0 _ _ _ _ _)
   | (with_reducible exact ih1 _ _ _ _ _ _)
   | (with_reducible exact spec_IsDocument.mono _ _)
   | (with_reducible exact spec_l7Sees.mono _ _ _ _ _)
   | (with_reducible exact LeO.refl _)
   | (with_reducible exact LeO.none _)
   | (with_reducible refine LeO.ite ?_ ?_)
   | (with_reducible refine LeO.bind ?_ (fun _ => ?_))
   | exact ih0 _ _ _ _ _
   | exact ih1 _ _ _ _ _ _
   | exact spec_IsDocument.mono _ _
   | exact spec_l7Sees.mono _ _ _ _ _
   | exact LeO.none _
   | refine LeO.ite ?_ ?_
   | refine LeO.bind ?_ (fun _ => ?_)
theorem spec_SeenBy.mono : ∀ a0 a1 a2 k, LeO (spec_SeenBy.f k a0 a1 a2) (spec_SeenBy.f (k + 1) a0 a1 a2) := by
 intro a0 a1 a2 k
 obtain ⟨ih0, ih1⟩ := spec_SeenBy.mono_l k
 unfold spec_SeenBy.f
 repeat' first
   | (with_reducible exact ih0 _ _ _ _ _)
   | (with_reducible exact ih1 _ _ _ _ _ _)
   | (with_reducible exact spec_IsDocument.mono _ _)
   | (with_reducible exact spec_l7Sees.mono _ _ _ _ _)
   | (with_reducible exact LeO.refl _)
   | (with_reducible exact LeO.none _)
   | (with_reducible refine LeO.ite ?_ ?_)
   | (with_reducible refine LeO.bind ?_ (fun _ => ?_))
   | exact ih0 _ _ _ _ _
   | exact ih1 _ _ _ _ _ _
   | exact spec_IsDocument.mono _ _
   | exact spec_l7Sees.mono _ _ _ _ _
   | exact LeO.none _
   | refine LeO.ite ?_ ?_
   | refine LeO.bind ?_ (fun _ => ?_)
set_option maxHeartbeats 8000000 in
set_option maxRecDepth 100000 in
theorem spec_SeenBy.calls (k : Nat) (A0 : Option Addr) (c0 : Nat) (l0 : List (S59)) (A1 : Option Addr) (c1 : Nat) (l1 : List Int) (a2 : Int) (r : List (S59)) (w : World) (hr0 : Kd.C k59 w A0 l0.length l0) (hc0 : l0.length ≤ c0) (hr1 : Kd.C (Kd.int .i64) w A1 l1.length l1) (hc1 : l1.length ≤ c1) (h : spec_SeenBy.f k l0 l1 a2 = some r) :
  Calls Try.prog 51 #[.slice A0 l0.length c0, .slice A1 l1.length c1, .int .i64 a2] w fun e w' => ∃ v0_ : Value, e = .returned (v0_) ∧ Kd.R k59 59 w' w.heap.size (fun _ => True) v0_ r ∧ Below w.heap.size w w' := by
 have hu59 := Try.underlying59
 have HR0 := am hr0
 have HC0 := am hc0
 clear hr0 hc0
 have HR1 := am hr1
 have HC1 := am hc1
 clear hr1 hc1
 have HB := am (Below.refl w.heap.size w)
 have H : (spec_SeenBy.l0 k l0 l1 a2 (([] : List (S59))) 0) = some r := h
 clear h
 obtain ⟨y274, hy274⟩ : ∃ y_ : List (S59), y_ = (([] : List (S59))) := ⟨_, rfl⟩
 replace H : (spec_SeenBy.l0 k l0 l1 a2 y274 0) = some r := by first | (rw [hy274]; with_reducible exact H) | (have H2_ := (Option.bind_some _ _).symm.trans H; rw [hy274]; with_reducible exact H2_) | (have H2_ := (Option.bind_some _ _).symm.trans H; with_reducible exact H2_) | with_reducible exact H | (rw [hy274]; exact H) | exact H
 have Ny274 := am hy274
 clear hy274
 have H' := am H
 clear H
 go_enter Try.func51, Try.ntmps51
 go_wp2_with (first | ((with_reducible refine gate_dst (N := 9) rfl ?_); refine Kd.R_lit k59 _ 59 ?hg (N := 9) ?hd (xs := ([] : List (S59))) (inner := []) (ok := fun _ => True) (okp := fun _ => True) ?hr ?hp (fun _ hk => hk) trivial (Below.refl _ _) (Nat.le_refl _) (by simp) ?_; (case hd => rfl); (case hg => rfl); (case hr => first | (go_simp; done) | (go_simp; rfl)); (case hp => exact (Reps.none _ _)); intro v275 w4 ho5 hb hg_ hnew_; clear hg_ hnew_; (first | rw [← Ny274.out] at ho5 | (simp only [Int.reduceToNat] at ho5; rw [← Ny274.out] at ho5)); have n0_ := am (Kd.R_lower ho5 (below_size (bU HB.out))); have n1_ := am (below_step (bU HB.out) hb); clear HB; have HO276 := n0_; have HB := n1_; clear n0_ n1_; clear hb ho5))
 go_loopg [7, 8] k (fun kq v7 v8 w' => ∃ (x7_1 : List (S59)) (x8_1 : Int), v8 = .int .i64 x8_1 ∧ Aside0 (spec_SeenBy.l0 kq l0 l1 a2 x7_1 x8_1 = some r) ∧ Aside0 (kq ≤ k) ∧ Aside0 (Kd.R k59 59 w' w.heap.size (fun _ => True) v7 x7_1) ∧ Aside0 (Below w.heap.size w w'))
 case atStart => exact ⟨(y274), (0), (by first | rfl | (simp; done) | (simp [*]; done)), H', ⟨Nat.le_refl _⟩, ⟨rU HO276.out⟩, ⟨bU HB.out⟩⟩
 case round =>
  clear H'
  try clear c1
  try clear p2
  try clear c5
  obtain ⟨x7_1, x8_1, rfl, HA, HK1, HO_7, HB⟩ := hrel
  cases gk with
  | zero => exact absurd HA.out (by simp [spec_SeenBy.l0])
  | succ k1 =>
   have H := HA.out
   clear HA
   simp only [spec_SeenBy.l0] at H
   have HC6 := am H
   clear H
   go_upto_region 3 with (fail)
   go_cut [17] (fun v17 wc => ∃ (kq : Nat) (x17_5 : Bool), v17 = .bool x17_5 ∧ Aside0 (spec_SeenBy.j1 kq l0 l1 a2 x7_1 x8_1 x17_5 = some r) ∧ Aside0 (kq ≤ k1) ∧ Aside0 (Kd.R k59 59 wc w.heap.size (fun _ => True) u7 x7_1) ∧ Aside0 (Below w.heap.size w wc))
   case first =>
    have H := HC6.out
    clear HC6
    by_cases c7 : x8_1 < (l0.length : Int)
    ·rw [if_pos c7] at H
     have c7b0 : decide (x8_1 < (l0.length : Int)) = true := decide_eq_true c7
     clear c7
     (first | rw [c7b0] | (simp only [i64_w, i32_w]; rw [c7b0]) | skip)
     replace H := Option.bind_eq_some_iff.mp H
     obtain ⟨t277, A80, H⟩ := H
     replace H : (spec_SeenBy.j1 k1 l0 l1 a2 x7_1 x8_1 t277) = some r := H
     have A8 := am A80
     clear A80
     have H' := am H
     clear H
     go_wp2_with (first | (go_at_call 64; (with_reducible refine (spec_IsDocument.calls k1 _ _ l0 t277 _ ?side1 ?side2 A8.out).mono ?_); (case side1 => exact cU (Kd.C_below HR0.out HB.out)); (case side2 => exact HC0.out); rintro e w' ⟨rfl, ⟨nd, rfl⟩⟩))
     go_meet
     case rel => exact ⟨_, (t277), (by first | rfl | (simp; done) | (simp [*]; done)), H', ⟨by have := HK1.out; first | omega | exact Nat.le_refl _⟩, ⟨rU HO_7.out⟩, ⟨bU HB.out⟩⟩
    ·rw [if_neg c7] at H
     have c7b0 : decide (x8_1 < (l0.length : Int)) = false := decide_eq_false c7
     clear c7
     (first | rw [c7b0] | (simp only [i64_w, i32_w]; rw [c7b0]) | skip)
     have H' := am H
     clear H
     go_wp2
     go_meet
     case rel => exact ⟨_, (false), (by first | rfl | (simp; done) | (simp [*]; done)), H', ⟨by have := HK1.out; first | omega | exact Nat.le_refl _⟩, ⟨rU HO_7.out⟩, ⟨bU HB.out⟩⟩
   case rest =>
    clear HC6
    try clear c1
    try clear p2
    try clear c5
    try clear c7
    try clear c7b0
    try clear p2
    obtain ⟨kq, x17_5, rfl, HA, HJ5, HO_7, HB⟩ := hcut
    cases kq with
    | zero => exact absurd HA.out (by simp [spec_SeenBy.j1])
    | succ kj5 =>
     have H := HA.out
     clear HA
     simp only [spec_SeenBy.j1] at H
     by_cases c9 : x17_5 = true
     ·subst c9
      have H1 : ((spec_l7Sees.f kj5 l0 l1 a2 x8_1).bind fun t278 => (if t278 = true then (if 0 ≤ x8_1 then (if x8_1 < (l0.length : Int) then (if x7_1.length < 3518437208883 then (spec_SeenBy.l0 kj5 l0 l1 a2 (x7_1 ++ [(⟨(rd_T59 l0 x8_1).f0, (rd_T59 l0 x8_1).f1, (rd_T59 l0 x8_1).f2, (rd_T59 l0 x8_1).f3, (rd_T59 l0 x8_1).f4⟩ : S59)]) (wrap64 (x8_1 + 1))) else (none)) else (none)) else (none)) else (spec_SeenBy.l0 kj5 l0 l1 a2 x7_1 (wrap64 (x8_1 + 1))))) = some r := by rw [if_pos rfl] at H; exact H
      clear H
      have H := H1
      clear H1
      replace H := Option.bind_eq_some_iff.mp H
      obtain ⟨t278, A100, H⟩ := H
      replace H : (if t278 = true then (if 0 ≤ x8_1 then (if x8_1 < (l0.length : Int) then (if x7_1.length < 3518437208883 then (spec_SeenBy.l0 kj5 l0 l1 a2 (x7_1 ++ [(⟨(rd_T59 l0 x8_1).f0, (rd_T59 l0 x8_1).f1, (rd_T59 l0 x8_1).f2, (rd_T59 l0 x8_1).f3, (rd_T59 l0 x8_1).f4⟩ : S59)]) (wrap64 (x8_1 + 1))) else (none)) else (none)) else (none)) else (spec_SeenBy.l0 kj5 l0 l1 a2 x7_1 (wrap64 (x8_1 + 1)))) = some r := H
      have A10 := am A100
      clear A100
      by_cases c11 : t278 = true
      ·subst c11
       have H1 : (if 0 ≤ x8_1 then (if x8_1 < (l0.length : Int) then (if x7_1.length < 3518437208883 then (spec_SeenBy.l0 kj5 l0 l1 a2 (x7_1 ++ [(⟨(rd_T59 l0 x8_1).f0, (rd_T59 l0 x8_1).f1, (rd_T59 l0 x8_1).f2, (rd_T59 l0 x8_1).f3, (rd_T59 l0 x8_1).f4⟩ : S59)]) (wrap64 (x8_1 + 1))) else (none)) else (none)) else (none)) = some r := by rw [if_pos rfl] at H; exact H
       clear H
       have H := H1
       clear H1
       by_cases c12 : 0 ≤ x8_1
       ·rw [if_pos c12] at H
        have c12b0 : decide (0 ≤ x8_1) = true := decide_eq_true c12
        clear c12
        by_cases c13 : x8_1 < (l0.length : Int)
        ·rw [if_pos c13] at H
         have c13b0 : decide (x8_1 < (l0.length : Int)) = true := decide_eq_true c13
         clear c13
         by_cases c14 : x7_1.length < 3518437208883
         ·rw [if_pos c14] at H
          have LMc14 := am c14
          clear c14
          obtain ⟨y280, hy280⟩ : ∃ y_ : List (S59), y_ = (x7_1 ++ [(⟨(rd_T59 l0 x8_1).f0, (rd_T59 l0 x8_1).f1, (rd_T59 l0 x8_1).f2, (rd_T59 l0 x8_1).f3, (rd_T59 l0 x8_1).f4⟩ : S59)]) := ⟨_, rfl⟩
          replace H : (spec_SeenBy.l0 kj5 l0 l1 a2 y280 (wrap64 (x8_1 + 1))) = some r := by first | (rw [hy280]; with_reducible exact H) | (have H2_ := (Option.bind_some _ _).symm.trans H; rw [hy280]; with_reducible exact H2_) | (have H2_ := (Option.bind_some _ _).symm.trans H; with_reducible exact H2_) | with_reducible exact H | (rw [hy280]; exact H) | exact H
          have Ny280 := am hy280
          clear hy280
          have H' := am H
          clear H
          go_wp2_with (first | ((with_reducible refine gate_callee (f := 95) rfl ?_); refine goesL_ (some 24) rfl rfl Try.func95 (by kernel_rfl) rfl #[.slice A0 l0.length c0, .slice A1 l1.length c1, .int .i64 a2, .int .i64 x8_1] rfl mU ?_; (with_reducible refine (spec_l7Sees.calls kj5 _ _ l0 _ _ l1 a2 x8_1 true _ ?side1 ?side2 ?side3 ?side4 A10.out).mono ?_); (case side1 => exact cU (Kd.C_below HR0.out HB.out)); (case side2 => exact HC0.out); (case side3 => exact cU (Kd.C_below HR1.out HB.out)); (case side4 => exact HC1.out); rintro e w' ⟨rfl, ⟨nd, rfl⟩⟩; refine ⟨_, rfl, ?_⟩; have p279 : 0 ≤ (x8_1 : Int) := dU; have q279 : x8_1 < (l0.length : Int) := dU; obtain ⟨ad279, e279, hx279_0, hx279_1, hx279_2, hx279_3, hx279_4⟩ := at_T59 HR0.out x8_1 p279 q279; cases e279; replace hx279_0 := cB HB.out hx279_0; replace hx279_1 := cB HB.out hx279_1; replace hx279_2 := cB HB.out hx279_2; replace hx279_3 := cB HB.out hx279_3; replace hx279_4 := cB HB.out hx279_4; replace p279 := eq_true p279; replace q279 := eq_true q279) | ((with_reducible refine gate_builtin (b := .append) (xs := #[.tmp 25, .tmp 30]) rfl ?_); at_builtin; refine Kd.R_append k59 (w0 := w) w.heap.size rfl (.tmp 25) (.tmp 30) 26 59 (.agg #[(.int .i64 0), (.int .i64 0), (.int .i64 0), (.int .i64 0), (.int .i64 0)]) 40 rfl Try.underlying26 info59 rfl (by decide) (by omega) u7 x7_1 (⟨(rd_T59 l0 x8_1).f0, (rd_T59 l0 x8_1).f1, (rd_T59 l0 x8_1).f2, (rd_T59 l0 x8_1).f3, (rd_T59 l0 x8_1).f4⟩ : S59) [.int .i64 ((rd_T59 l0 x8_1).f0), .int .i64 ((rd_T59 l0 x8_1).f1), .int .i64 ((rd_T59 l0 x8_1).f2), .int .i64 ((rd_T59 l0 x8_1).f3), .int .i64 ((rd_T59 l0 x8_1).f4)] (fun _ => True) (fun _ => False) rfl rfl ?aP (fun _ hk => hk.elim) ?aF ?aO ?aB ?aS ?aL ?_; (case aP => exact k59_mkM _ _ _ (⟨(rd_T59 l0 x8_1).f0, (rd_T59 l0 x8_1).f1, (rd_T59 l0 x8_1).f2, (rd_T59 l0 x8_1).f3, (rd_T59 l0 x8_1).f4⟩ : S59)); (case aB => exact bU HB.out); (case aF => exact (fun _ _ => trivial)); (case aO => exact rU HO_7.out); (case aS => exact (below_size (bU HB.out))); (case aL => have := LMc14.out; omega); intro v281 w15 ho hb hg hat; rw [← Ny280.out] at ho; have n0_ := am (hb); have n1_ := am (ho); clear HB; clear HO_7; have HB := n0_; have HO282 := n1_; clear n0_ n1_; clear ho hb hg hat))
          go_roundg kj5
          case measure => have := HK1.out; have := HJ5.out; omega
          case rel => exact ⟨(y280), (wrap64 (x8_1 + 1)), (by first | rfl | (simp; done) | (simp [*]; done)), H', ⟨by have := HK1.out; have := HJ5.out; omega⟩, ⟨rU HO282.out⟩, ⟨bU HB.out⟩⟩
         ·rw [if_neg c14] at H
          exact absurd H (by simp)
        ·rw [if_neg c13] at H
         exact absurd H (by simp)
       ·rw [if_neg c12] at H
        exact absurd H (by simp)
      ·replace c11 := Bool.eq_false_iff.mpr c11
       subst c11
       have H1 : (spec_SeenBy.l0 kj5 l0 l1 a2 x7_1 (wrap64 (x8_1 + 1))) = some r := by rw [if_neg (show ¬ (false = true) by decide)] at H; exact H
       clear H
       have H := H1
       clear H1
       have H' := am H
       clear H
       go_wp2_with (first | ((with_reducible refine gate_callee (f := 95) rfl ?_); refine goesL_ (some 24) rfl rfl Try.func95 (by kernel_rfl) rfl #[.slice A0 l0.length c0, .slice A1 l1.length c1, .int .i64 a2, .int .i64 x8_1] rfl mU ?_; (with_reducible refine (spec_l7Sees.calls kj5 _ _ l0 _ _ l1 a2 x8_1 false _ ?side1 ?side2 ?side3 ?side4 A10.out).mono ?_); (case side1 => exact cU (Kd.C_below HR0.out HB.out)); (case side2 => exact HC0.out); (case side3 => exact cU (Kd.C_below HR1.out HB.out)); (case side4 => exact HC1.out); rintro e w' ⟨rfl, ⟨nd, rfl⟩⟩; refine ⟨_, rfl, ?_⟩))
       go_roundg kj5
       case measure => have := HK1.out; have := HJ5.out; omega
       case rel => exact ⟨(x7_1), (wrap64 (x8_1 + 1)), (by first | rfl | (simp; done) | (simp [*]; done)), H', ⟨by have := HK1.out; have := HJ5.out; omega⟩, ⟨rU HO_7.out⟩, ⟨bU HB.out⟩⟩
     ·replace c9 := Bool.eq_false_iff.mpr c9
      subst c9
      have H1 : (some x7_1) = some r := by rw [if_neg (show ¬ (false = true) by decide)] at H; exact H
      clear H
      have H := H1
      clear H1
      obtain rfl := Option.some.inj H
      go_wp2
      go_ret
      exact ⟨_, eU, rU HO_7.out, bU HB.out⟩
def spec_SeesNode.f (k : Nat) (l0 : List (S59)) (l1 : List Int) (a2 : Int) (a3 : Int) : Option (Bool) := (spec_SeenBy.f k l0 l1 a2).bind fun t283 => ((spec_NodeOf.f k t283 a3).bind fun t286 => (some (decide (t286 ≥ 0))))
theorem spec_SeesNode.mono : ∀ a0 a1 a2 a3 k, LeO (spec_SeesNode.f k a0 a1 a2 a3) (spec_SeesNode.f (k + 1) a0 a1 a2 a3) := by
 intro a0 a1 a2 a3 k
 unfold spec_SeesNode.f
 repeat' first
   | (with_reducible exact spec_NodeOf.mono _ _ _)
   | (with_reducible exact spec_SeenBy.mono _ _ _ _)
   | (with_reducible exact LeO.refl _)
   | (with_reducible exact LeO.none _)
   | (with_reducible refine LeO.ite ?_ ?_)
   | (with_reducible refine LeO.bind ?_ (fun _ => ?_))
   | exact spec_NodeOf.mono _ _ _
   | exact spec_SeenBy.mono _ _ _ _
   | exact LeO.none _
   | refine LeO.ite ?_ ?_
   | refine LeO.bind ?_ (fun _ => ?_)
set_option maxHeartbeats 8000000 in
set_option maxRecDepth 100000 in
theorem spec_SeesNode.calls (k : Nat) (A0 : Option Addr) (c0 : Nat) (l0 : List (S59)) (A1 : Option Addr) (c1 : Nat) (l1 : List Int) (a2 : Int) (a3 : Int) (r : Bool) (w : World) (hr0 : Kd.C k59 w A0 l0.length l0) (hc0 : l0.length ≤ c0) (hr1 : Kd.C (Kd.int .i64) w A1 l1.length l1) (hc1 : l1.length ≤ c1) (h : spec_SeesNode.f k l0 l1 a2 a3 = some r) :
  Calls Try.prog 106 #[.slice A0 l0.length c0, .slice A1 l1.length c1, .int .i64 a2, .int .i64 a3] w fun e w' => e = .returned (.bool r) ∧ Below w.heap.size w w' := by
 have HR0 := am hr0
 have HC0 := am hc0
 clear hr0 hc0
 have HR1 := am hr1
 have HC1 := am hc1
 clear hr1 hc1
 have HB := am (Below.refl w.heap.size w)
 have H : ((spec_SeenBy.f k l0 l1 a2).bind fun t283 => ((spec_NodeOf.f k t283 a3).bind fun t286 => (some (decide (t286 ≥ 0))))) = some r := h
 clear h
 replace H := Option.bind_eq_some_iff.mp H
 obtain ⟨t283, A50, H⟩ := H
 replace H : ((spec_NodeOf.f k t283 a3).bind fun t286 => (some (decide (t286 ≥ 0)))) = some r := H
 have A5 := am A50
 clear A50
 replace H := Option.bind_eq_some_iff.mp H
 obtain ⟨t286, A60, H⟩ := H
 replace H : (some (decide (t286 ≥ 0))) = some r := H
 have A6 := am A60
 clear A60
 obtain rfl := Option.some.inj H
 go_enter Try.func106, Try.ntmps106
 go_wp2_with (first | ((with_reducible refine gate_callee (f := 51) rfl ?_); refine goesL_ (some 12) rfl rfl Try.func51 (by kernel_rfl) rfl #[.slice A0 l0.length c0, .slice A1 l1.length c1, .int .i64 a2] rfl mU ?_; (with_reducible refine (spec_SeenBy.calls k _ _ l0 _ _ l1 a2 t283 _ ?side1 ?side2 ?side3 ?side4 A5.out).mono ?_); (case side1 => exact cU HR0.out); (case side2 => exact HC0.out); (case side3 => exact cU HR1.out); (case side4 => exact HC1.out); rintro e w7 ⟨v284, rfl, ho0, hb⟩; refine ⟨_, rfl, ?_⟩; have n0_ := am (Kd.R_lower ho0 (below_size (bU HB.out))); have n1_ := am (below_step (bU HB.out) hb); clear HB; have HO285 := n0_; have HB := n1_; clear n0_ n1_; (try clear hb); (try clear hb2); (try clear hk); (try clear hi); (try clear ho0); obtain ⟨Ao8, co8, eo8⟩ := Kd.R_slice HO285.out; subst eo8) | ((with_reducible refine gate_callee (f := 67) rfl ?_); refine goesL_ (some 14) rfl rfl Try.func67 (by kernel_rfl) rfl #[.slice Ao8 t283.length co8, .int .i64 a3] rfl mU ?_; (with_reducible refine (spec_NodeOf.calls k _ _ t283 a3 t286 _ ?side1 ?side2 A6.out).mono ?_); (case side1 => exact cU (Kd.R_reads' HO285.out).2.2); (case side2 => exact (Kd.R_reads' HO285.out).2.1); rintro e w' ⟨rfl, ⟨nd, rfl⟩⟩; refine ⟨_, rfl, ?_⟩))
 go_ret
 exact ⟨eU, bU HB.out⟩
end Go.Proofs.Ytiiibfpijmmbfaa.QFnExactEditByHandle
