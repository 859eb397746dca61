import Derived.Test.YtiiibfpijmmbfaaUp
import Derived.Test.YtiiibfpijmmbfaaQFnExactEditByHandlex0
import Derived.Test.YtiiibfpijmmbfaaQFnExactEditByHandlex2
import Derived.Test.YtiiibfpijmmbfaaQFnExactEditByHandlex3
namespace Go.Proofs.Ytiiibfpijmmbfaa.QFnExactEditByHandle
open Go.RowKit Go.Proofs.YtiiibfpijmmbfaaW.PrintWords Go.Proofs.YtiiibfpijmmbfaaW.PrintLast Go.Proofs.YtiiibfpijmmbfaaW.PrintMore
attribute [local go_sem] max2_int min2_int max_two min_two max_three min_three max_four min_four
set_option linter.unusedVariables false
set_option linter.unusedSimpArgs false
mutual
def spec_IsUnder.j0 : Nat → List (S59) → Int → Int → Bool → Option (Bool)
 | 0, _, _, _, _ => none
 | k + 1, x0, x1, x2, x21 => if x21 = true then (some false) else (spec_IsUnder.l0 k x0 x1 x2)
def spec_IsUnder.l0 : Nat → List (S59) → Int → Int → Option (Bool)
 | 0, _, _, _ => none
 | k + 1, x0, x1, x2 => if x1 = x2 then (some (x1 == x2)) else (if x1 > 0 then ((spec_NodeOf.f k x0 x1).bind fun t220 => (if 0 ≤ t220 then (if t220 < (x0.length : Int) then (spec_IsUnder.l0 k x0 ((rd_T59 x0 t220).f1) x2) else (none)) else (none))) else (some (x1 == x2)))
end
def spec_IsUnder.f (k : Nat) (l0 : List (S59)) (a1 : Int) (a2 : Int) : Option (Bool) := (spec_IsDocument.f k l0).bind fun t217 => (if t217 = true then ((spec_NodeOf.f k l0 a1).bind fun t218 => (if t218 < 0 then (spec_IsUnder.j0 k l0 a1 a2 true) else ((spec_NodeOf.f k l0 a2).bind fun t219 => (spec_IsUnder.j0 k l0 a1 a2 (decide (t219 < 0)))))) else (spec_IsUnder.j0 k l0 a1 a2 true))
theorem spec_IsUnder.mono_l : ∀ k, (∀ y0 y1 y2 y3, LeO (spec_IsUnder.j0 k y0 y1 y2 y3) (spec_IsUnder.j0 (k + 1) y0 y1 y2 y3)) ∧ (∀ y0 y1 y2, LeO (spec_IsUnder.l0 k y0 y1 y2) (spec_IsUnder.l0 (k + 1) y0 y1 y2))
 | 0 => ⟨fun _ _ _ _ r h => by simp [spec_IsUnder.j0] at h, fun _ _ _ r h => by simp [spec_IsUnder.l0] at h⟩
 | k + 1 => by
  obtain ⟨ih0, ih1⟩ := spec_IsUnder.mono_l k
  refine ⟨?_, ?_⟩
  ·intro y0 y1 y2 y3
   unfold spec_IsUnder.j0
   repeat' first
   | (with_reducible exact ih0 _ _ _ _)
   | (with_reducible exact ih1 _ _ _)
   | (with_reducible exact spec_IsDocument.mono _ _)
   | (with_reducible exact spec_NodeOf.mono _ _ _)
   | (with_reducible exact LeO.refl _)
   | (with_reducible exact LeO.none _)
   | (with_reducible refine LeO.ite ?_ ?_)
   | (with_reducible refine LeO.bind ?_ (fun _ => ?_))
   | exact ih0 _ _ _ _
   | exact ih1 _ _ _
   | exact spec_IsDocument.mono _ _
   | exact spec_NodeOf.mono _ _ _
   | exact LeO.none _
   | refine LeO.ite ?_ ?_
   | refine LeO.bind ?_ (fun _ => ?_)
  ·intro y0 y1 y2
   unfold spec_IsUnder.l0
   repeat' first
   | (with_reducible exact ih0 _ _ _ _)
   | (with_reducible exact ih1 _ _ _)
   | (with_reducible exact spec_IsDocument.mono _ _)
   | (with_reducible exact spec_NodeOf.mono _ _ _)
   | (with_reducible exact LeO.refl _)
   | (with_reducible exact LeO.none _)
   | (with_reducible refine LeO.ite ?_ ?_)
   | (with_reducible refine LeO.bind ?_ (fun _ => ?_))
   | exact ih0 _ _ _ _
   | exact ih1 _ _ _
   | exact spec_IsDocument.mono _ _
   | exact spec_NodeOf.mono _ _ _
   | exact LeO.none _
   | refine LeO.ite ?_ ?_
   | refine LeO.bind ?_ (fun _ => ?_)
theorem spec_IsUnder.mono : ∀ a0 a1 a2 k, LeO (spec_IsUnder.f k a0 a1 a2) (spec_IsUnder.f (k + 1) a0 a1 a2) := by
 intro a0 a1 a2 k
 obtain ⟨ih0, ih1⟩ := spec_IsUnder.mono_l k
 unfold spec_IsUnder.f
 repeat' first
   | (with_reducible exact ih0 _ _ _ _)
   | (with_reducible exact ih1 _ _ _)
   | (with_reducible exact spec_IsDocument.mono _ _)
   | (with_reducible exact spec_NodeOf.mono _ _ _)
   | (with_reducible exact LeO.refl _)
   | (with_reducible exact LeO.none _)
   | (with_reducible refine LeO.ite ?_ ?_)
   | (with_reducible refine LeO.bind ?_ (fun _ => ?_))
   | exact ih0 _ _ _ _
   | exact ih1 _ _ _
   | exact spec_IsDocument.mono _ _
   | exact spec_NodeOf.mono _ _ _
   | exact LeO.none _
   | refine LeO.ite ?_ ?_
   | refine LeO.bind ?_ (fun _ => ?_)
set_option maxHeartbeats 8000000 in
set_option maxRecDepth 100000 in
theorem spec_IsUnder.calls (k : Nat) (A0 : Option Addr) (c0 : Nat) (l0 : List (S59)) (a1 : Int) (a2 : Int) (r : Bool) (w : World) (hr0 : Kd.C k59 w A0 l0.length l0) (hc0 : l0.length ≤ c0) (h : spec_IsUnder.f k l0 a1 a2 = some r) :
  Calls Try.prog 103 #[.slice A0 l0.length c0, .int .i64 a1, .int .i64 a2] w fun e w' => e = .returned (.bool r) ∧ Drawn0 w w' := by
 have HR0 := am hr0
 have HC0 := am hc0
 clear hr0 hc0
 have H : ((spec_IsDocument.f k l0).bind fun t217 => (if t217 = true then ((spec_NodeOf.f k l0 a1).bind fun t218 => (if t218 < 0 then (spec_IsUnder.j0 k l0 a1 a2 true) else ((spec_NodeOf.f k l0 a2).bind fun t219 => (spec_IsUnder.j0 k l0 a1 a2 (decide (t219 < 0)))))) else (spec_IsUnder.j0 k l0 a1 a2 true))) = some r := h
 clear h
 have HC4 := am H
 clear H
 go_enter Try.func103, Try.ntmps103
 go_upto_region 1 with (fail)
 go_cut [21] (fun v21 wc => ∃ (kq : Nat) (x21_3 : Bool), v21 = .bool x21_3 ∧ Aside0 (spec_IsUnder.j0 kq l0 a1 a2 x21_3 = some r) ∧ Aside0 (kq ≤ k) ∧ Drawn0 w wc)
 case first =>
  have H := HC4.out
  clear HC4
  replace H := Option.bind_eq_some_iff.mp H
  obtain ⟨t217, A50, H⟩ := H
  replace H : (if t217 = true then ((spec_NodeOf.f k l0 a1).bind fun t218 => (if t218 < 0 then (spec_IsUnder.j0 k l0 a1 a2 true) else ((spec_NodeOf.f k l0 a2).bind fun t219 => (spec_IsUnder.j0 k l0 a1 a2 (decide (t219 < 0)))))) else (spec_IsUnder.j0 k l0 a1 a2 true)) = some r := H
  have A5 := am A50
  clear A50
  by_cases c6 : t217 = true
  ·subst c6
   have H1 : ((spec_NodeOf.f k l0 a1).bind fun t218 => (if t218 < 0 then (spec_IsUnder.j0 k l0 a1 a2 true) else ((spec_NodeOf.f k l0 a2).bind fun t219 => (spec_IsUnder.j0 k l0 a1 a2 (decide (t219 < 0)))))) = some r := by rw [if_pos rfl] at H; exact H
   clear H
   have H := H1
   clear H1
   replace H := Option.bind_eq_some_iff.mp H
   obtain ⟨t218, A70, H⟩ := H
   replace H : (if t218 < 0 then (spec_IsUnder.j0 k l0 a1 a2 true) else ((spec_NodeOf.f k l0 a2).bind fun t219 => (spec_IsUnder.j0 k l0 a1 a2 (decide (t219 < 0))))) = some r := H
   have A7 := am A70
   clear A70
   by_cases c8 : t218 < 0
   ·rw [if_pos c8] at H
    have c8b0 : decide (t218 < 0) = true := decide_eq_true c8
    clear c8
    (first | rw [c8b0] | (simp only [i64_w, i32_w]; rw [c8b0]) | skip)
    have H' := am H
    clear H
    go_wp2_with (first | ((with_reducible refine gate_callee (f := 64) rfl ?_); refine goesL_ (some 8) rfl rfl Try.func64 (by kernel_rfl) rfl #[.slice A0 l0.length c0] rfl mU ?_; (with_reducible refine (spec_IsDocument.calls k _ _ l0 true _ ?side1 ?side2 A5.out).mono ?_); (case side1 => exact cU HR0.out); (case side2 => exact HC0.out); rintro e w' ⟨rfl, ⟨nd, rfl⟩⟩; refine ⟨_, rfl, ?_⟩) | (go_at_call 67; (with_reducible refine (spec_NodeOf.calls k _ _ l0 a1 t218 _ ?side1 ?side2 A7.out).mono ?_); (case side1 => exact cU HR0.out); (case side2 => exact HC0.out); rintro e w' ⟨rfl, ⟨nd, rfl⟩⟩))
    go_meet
    case rel => exact ⟨_, (true), (by first | rfl | (simp; done) | (simp [*]; done)), H', ⟨by first | omega | exact Nat.le_refl _⟩, by repeat (first | exact Drawn0.refl _ | apply Drawn0.step)⟩
   ·rw [if_neg c8] at H
    have c8b0 : decide (t218 < 0) = false := decide_eq_false c8
    clear c8
    (first | rw [c8b0] | (simp only [i64_w, i32_w]; rw [c8b0]) | skip)
    replace H := Option.bind_eq_some_iff.mp H
    obtain ⟨t219, A90, H⟩ := H
    replace H : (spec_IsUnder.j0 k l0 a1 a2 (decide (t219 < 0))) = some r := H
    have A9 := am A90
    clear A90
    have H' := am H
    clear H
    go_wp2_with (first | ((with_reducible refine gate_callee (f := 64) rfl ?_); refine goesL_ (some 8) rfl rfl Try.func64 (by kernel_rfl) rfl #[.slice A0 l0.length c0] rfl mU ?_; (with_reducible refine (spec_IsDocument.calls k _ _ l0 true _ ?side1 ?side2 A5.out).mono ?_); (case side1 => exact cU HR0.out); (case side2 => exact HC0.out); rintro e w' ⟨rfl, ⟨nd, rfl⟩⟩; refine ⟨_, rfl, ?_⟩) | (go_at_call 67; (with_reducible refine (spec_NodeOf.calls k _ _ l0 a1 t218 _ ?side1 ?side2 A7.out).mono ?_); (case side1 => exact cU HR0.out); (case side2 => exact HC0.out); rintro e w' ⟨rfl, ⟨nd, rfl⟩⟩) | (go_at_call 67; (with_reducible refine (spec_NodeOf.calls k _ _ l0 a2 t219 _ ?side1 ?side2 A9.out).mono ?_); (case side1 => exact cU HR0.out); (case side2 => exact HC0.out); rintro e w' ⟨rfl, ⟨nd, rfl⟩⟩))
    go_meet
    case rel => exact ⟨_, (decide (t219 < 0)), (by first | rfl | (simp; done) | (simp [*]; done)), H', ⟨by first | omega | exact Nat.le_refl _⟩, by repeat (first | exact Drawn0.refl _ | apply Drawn0.step)⟩
  ·replace c6 := Bool.eq_false_iff.mpr c6
   subst c6
   have H1 : (spec_IsUnder.j0 k l0 a1 a2 true) = some r := by rw [if_neg (show ¬ (false = true) by decide)] at H; exact H
   clear H
   have H := H1
   clear H1
   have H' := am H
   clear H
   go_wp2_with (first | ((with_reducible refine gate_callee (f := 64) rfl ?_); refine goesL_ (some 8) rfl rfl Try.func64 (by kernel_rfl) rfl #[.slice A0 l0.length c0] rfl mU ?_; (with_reducible refine (spec_IsDocument.calls k _ _ l0 false _ ?side1 ?side2 A5.out).mono ?_); (case side1 => exact cU HR0.out); (case side2 => exact HC0.out); rintro e w' ⟨rfl, ⟨nd, rfl⟩⟩; refine ⟨_, rfl, ?_⟩))
   go_meet
   case rel => exact ⟨_, (true), (by first | rfl | (simp; done) | (simp [*]; done)), H', ⟨by first | omega | exact Nat.le_refl _⟩, by repeat (first | exact Drawn0.refl _ | apply Drawn0.step)⟩
 case rest =>
  clear HC4
  try clear c1
  try clear p2
  try clear c6
  try clear c8
  try clear c8b0
  obtain ⟨kq, x21_3, rfl, HA, HJ3, ⟨mc3, rfl⟩⟩ := hcut
  cases kq with
  | zero => exact absurd HA.out (by simp [spec_IsUnder.j0])
  | succ kj3 =>
   have H := HA.out
   clear HA
   simp only [spec_IsUnder.j0] at H
   by_cases c10 : x21_3 = true
   ·subst c10
    have H1 : (some false) = some r := by rw [if_pos rfl] at H; exact H
    clear H
    have H := H1
    clear H1
    obtain rfl := Option.some.inj H
    go_wp2
    go_ret
    exact ⟨by first | rfl | (simp; done) | (simp [*]; done), by repeat (first | exact Drawn0.refl _ | apply Drawn0.step)⟩
   ·replace c10 := Bool.eq_false_iff.mpr c10
    subst c10
    have H1 : (spec_IsUnder.l0 kj3 l0 a1 a2) = some r := by rw [if_neg (show ¬ (false = true) by decide)] at H; exact H
    clear H
    have H := H1
    clear H1
    have H' := am H
    clear H
    go_wp2
    go_loopg [1] kj3 (fun kq v1 w' => ∃ (x1_2 : Int), v1 = .int .i64 x1_2 ∧ Aside0 (spec_IsUnder.l0 kq l0 x1_2 a2 = some r) ∧ Aside0 (kq ≤ kj3) ∧ Drawn0 w w')
    case atStart => exact ⟨(a1), (by first | rfl | (simp; done) | (simp [*]; done)), H', ⟨Nat.le_refl _⟩, by repeat (first | exact Drawn0.refl _ | apply Drawn0.step)⟩
    case round =>
     clear H'
     try clear c1
     try clear p2
     try clear c3
     try clear c6
     try clear c8
     try clear c8b0
     try clear c10
     try clear p2
     obtain ⟨x1_2, rfl, HA, HK2, ⟨m2, rfl⟩⟩ := hrel
     cases gk with
     | zero => exact absurd HA.out (by simp [spec_IsUnder.l0])
     | succ k2 =>
      have H := HA.out
      clear HA
      simp only [spec_IsUnder.l0] at H
      by_cases c11 : x1_2 = a2
      ·rw [if_pos c11] at H
       have c11b0 : (x1_2 == a2) = true := beq_iff_eq.mpr c11
       have c11b1 : (x1_2 != a2) = false := bne_eq_false_iff_eq.mpr c11
       clear c11
       obtain rfl := Option.some.inj H
       go_wp2
       go_ret
       exact ⟨by first | rfl | (simp; done) | (simp [*]; done), by repeat (first | exact Drawn0.refl _ | apply Drawn0.step)⟩
      ·rw [if_neg c11] at H
       have c11b0 : (x1_2 == a2) = false := beq_eq_false_iff_ne.mpr c11
       have c11b1 : (x1_2 != a2) = true := bne_iff_ne.mpr c11
       by_cases c12 : x1_2 > 0
       ·rw [if_pos c12] at H
        have c12b0 : decide (0 < x1_2) = true := decide_eq_true c12
        clear c12
        replace H := Option.bind_eq_some_iff.mp H
        obtain ⟨t220, A130, H⟩ := H
        replace H : (if 0 ≤ t220 then (if t220 < (l0.length : Int) then (spec_IsUnder.l0 k2 l0 ((rd_T59 l0 t220).f1) a2) else (none)) else (none)) = some r := H
        have A13 := am A130
        clear A130
        by_cases c14 : 0 ≤ t220
        ·rw [if_pos c14] at H
         have c14b0 : decide (0 ≤ t220) = true := decide_eq_true c14
         clear c14
         by_cases c15 : t220 < (l0.length : Int)
         ·rw [if_pos c15] at H
          have c15b0 : decide (t220 < (l0.length : Int)) = true := decide_eq_true c15
          clear c15
          have H' := am H
          clear H
          go_wp2_with (first | ((with_reducible refine gate_callee (f := 67) rfl ?_); refine goesL_ (some 32) rfl rfl Try.func67 (by kernel_rfl) rfl #[.slice A0 l0.length c0, .int .i64 x1_2] rfl mU ?_; (with_reducible refine (spec_NodeOf.calls k2 _ _ l0 x1_2 t220 _ ?side1 ?side2 A13.out).mono ?_); (case side1 => exact cU HR0.out); (case side2 => exact HC0.out); rintro e w' ⟨rfl, ⟨nd, rfl⟩⟩; refine ⟨_, rfl, ?_⟩; have p221 : 0 ≤ (t220 : Int) := dU; have q221 : t220 < (l0.length : Int) := dU; obtain ⟨ad221, e221, hx221_0, hx221_1, hx221_2, hx221_3, hx221_4⟩ := at_T59 HR0.out t220 p221 q221; cases e221; replace p221 := eq_true p221; replace q221 := eq_true q221))
          go_roundg k2
          case measure => have := HJ3.out; have := HK2.out; omega
          case rel => exact ⟨((rd_T59 l0 t220).f1), (by first | rfl | (simp; done) | (simp [*]; done)), H', ⟨by have := HJ3.out; have := HK2.out; omega⟩, by repeat (first | exact Drawn0.refl _ | apply Drawn0.step)⟩
         ·rw [if_neg c15] at H
          exact absurd H (by simp)
        ·rw [if_neg c14] at H
         exact absurd H (by simp)
       ·rw [if_neg c12] at H
        have c12b0 : decide (0 < x1_2) = false := decide_eq_false c12
        clear c12
        obtain rfl := Option.some.inj H
        go_wp2
        go_ret
        exact ⟨by first | rfl | (simp; done) | (simp [*]; done), by repeat (first | exact Drawn0.refl _ | apply Drawn0.step)⟩
def spec_l5Drop.l0 : Nat → List (S59) → Int → List (S59) → Int → Option ((List (S59)) × Bool)
 | 0, _, _, _, _ => none
 | k + 1, x0, x1, x6, x7 => if x7 < (x0.length : Int) then (if 0 ≤ x7 then ((spec_IsUnder.f k x0 ((rd_T59 x0 x7).f0) x1).bind fun t230 => (if t230 = true then (spec_l5Drop.l0 k x0 x1 x6 (wrap64 (x7 + 1))) else (if x6.length < 3518437208883 then (spec_l5Drop.l0 k x0 x1 (x6 ++ [(⟨(rd_T59 x0 x7).f0, (rd_T59 x0 x7).f1, (rd_T59 x0 x7).f2, (rd_T59 x0 x7).f3, (rd_T59 x0 x7).f4⟩ : S59)]) (wrap64 (x7 + 1))) else (none)))) else (none)) else (some (x6, true))
def spec_l5Drop.f (k : Nat) (l0 : List (S59)) (a1 : Int) : Option ((List (S59)) × Bool) := (spec_NodeOf.f k l0 a1).bind fun t222 => (if t222 < 0 then ((spec_l5Copy.f l0).bind fun t223 => (some (t223, false))) else (spec_l5Drop.l0 k l0 a1 (([] : List (S59))) 0))
theorem spec_l5Drop.mono_l : ∀ k, (∀ y0 y1 y2 y3, LeO (spec_l5Drop.l0 k y0 y1 y2 y3) (spec_l5Drop.l0 (k + 1) y0 y1 y2 y3))
 | 0 => fun _ _ _ _ r h => by simp [spec_l5Drop.l0] at h
 | k + 1 => by
  have ih0 := spec_l5Drop.mono_l k
  ·intro y0 y1 y2 y3
   unfold spec_l5Drop.l0
   repeat' first
   | (with_reducible exact ih0 _ _ _ _)
   | (with_reducible exact spec_IsUnder.mono _ _ _ _)
   | (with_reducible exact spec_NodeOf.mono _ _ _)
   | (with_reducible exact LeO.refl _)
   | (with_reducible exact LeO.none _)
   | (with_reducible refine LeO.ite ?_ ?_)
   | (with_reducible refine LeO.bind ?_ (fun _ => ?_))
   | exact ih0 _ _ _ _
   | exact spec_IsUnder.mono _ _ _ _
   | exact spec_NodeOf.mono _ _ _
   | exact LeO.none _
   | refine LeO.ite ?_ ?_
   | refine LeO.bind ?_ (fun _ => ?_)
theorem spec_l5Drop.mono : ∀ a0 a1 k, LeO (spec_l5Drop.f k a0 a1) (spec_l5Drop.f (k + 1) a0 a1) := by
 intro a0 a1 k
 have ih0 := spec_l5Drop.mono_l k
 unfold spec_l5Drop.f
 repeat' first
   | (with_reducible exact ih0 _ _ _ _)
   | (with_reducible exact spec_IsUnder.mono _ _ _ _)
   | (with_reducible exact spec_NodeOf.mono _ _ _)
   | (with_reducible exact LeO.refl _)
   | (with_reducible exact LeO.none _)
   | (with_reducible refine LeO.ite ?_ ?_)
   | (with_reducible refine LeO.bind ?_ (fun _ => ?_))
   | exact ih0 _ _ _ _
   | exact spec_IsUnder.mono _ _ _ _
   | exact spec_NodeOf.mono _ _ _
   | exact LeO.none _
   | refine LeO.ite ?_ ?_
   | refine LeO.bind ?_ (fun _ => ?_)
set_option maxHeartbeats 8000000 in
set_option maxRecDepth 100000 in
theorem spec_l5Drop.calls (k : Nat) (A0 : Option Addr) (c0 : Nat) (l0 : List (S59)) (a1 : Int) (r1 : List (S59)) (r2 : Bool) (w : World) (hr0 : Kd.C k59 w A0 l0.length l0) (hc0 : l0.length ≤ c0) (h : spec_l5Drop.f k l0 a1 = some (r1, r2)) :
  Calls Try.prog 69 #[.slice A0 l0.length c0, .int .i64 a1] w fun e w' => ∃ v0_ : Value, e = .returned (.tuple #[v0_, .bool r2]) ∧ Kd.R k59 59 w' w.heap.size (fun _ => True) v0_ r1 ∧ Below w.heap.size w w' := by
 have hu59 := Try.underlying59
 have HR0 := am hr0
 have HC0 := am hc0
 clear hr0 hc0
 have HB := am (Below.refl w.heap.size w)
 have H : ((spec_NodeOf.f k l0 a1).bind fun t222 => (if t222 < 0 then ((spec_l5Copy.f l0).bind fun t223 => (some (t223, false))) else (spec_l5Drop.l0 k l0 a1 (([] : List (S59))) 0))) = some (r1, r2) := h
 clear h
 replace H := Option.bind_eq_some_iff.mp H
 obtain ⟨t222, A30, H⟩ := H
 replace H : (if t222 < 0 then ((spec_l5Copy.f l0).bind fun t223 => (some (t223, false))) else (spec_l5Drop.l0 k l0 a1 (([] : List (S59))) 0)) = some (r1, r2) := H
 have A3 := am A30
 clear A30
 by_cases c4 : t222 < 0
 ·rw [if_pos c4] at H
  have c4b0 : decide (t222 < 0) = true := decide_eq_true c4
  clear c4
  replace H := Option.bind_eq_some_iff.mp H
  obtain ⟨t223, A50, H⟩ := H
  replace H : (some (t223, false)) = some (r1, r2) := H
  have A5 := am A50
  clear A50
  simp only [Option.some.injEq, Prod.mk.injEq] at H
  obtain ⟨rfl, rfl⟩ := H
  go_enter Try.func69, Try.ntmps69
  go_wp2_with (first | ((with_reducible refine gate_callee (f := 67) rfl ?_); refine goesL_ (some 10) rfl rfl Try.func67 (by kernel_rfl) rfl #[.slice A0 l0.length c0, .int .i64 a1] rfl mU ?_; (with_reducible refine (spec_NodeOf.calls k _ _ l0 a1 t222 _ ?side1 ?side2 A3.out).mono ?_); (case side1 => exact cU HR0.out); (case side2 => exact HC0.out); rintro e w' ⟨rfl, ⟨nd, rfl⟩⟩; refine ⟨_, rfl, ?_⟩) | ((with_reducible refine gate_callee (f := 66) rfl ?_); refine goesL_ (some 13) rfl rfl Try.func66 (by kernel_rfl) rfl #[.slice A0 l0.length c0] rfl mU ?_; (with_reducible refine (spec_l5Copy.calls _ _ l0 t223 _ ?side1 ?side2 A5.out).mono ?_); (case side1 => exact cU HR0.out); (case side2 => exact HC0.out); rintro e w6 ⟨v224, rfl, ho0, hb⟩; refine ⟨_, rfl, ?_⟩; have n0_ := am (Kd.R_lower ho0 (below_size (bU HB.out))); have n1_ := am (below_step (bU HB.out) hb); clear HB; have HO225 := n0_; have HB := n1_; clear n0_ n1_; (try clear hb); (try clear hb2); (try clear hk); (try clear hi); (try clear ho0)))
  go_ret2
  exact ⟨_, eU, rU HO225.out, bU HB.out⟩
 ·rw [if_neg c4] at H
  have c4b0 : decide (t222 < 0) = false := decide_eq_false c4
  clear c4
  obtain ⟨y226, hy226⟩ : ∃ y_ : List (S59), y_ = (([] : List (S59))) := ⟨_, rfl⟩
  replace H : (spec_l5Drop.l0 k l0 a1 y226 0) = some (r1, r2) := by first | (rw [hy226]; with_reducible exact H) | (have H2_ := (Option.bind_some _ _).symm.trans H; rw [hy226]; with_reducible exact H2_) | (have H2_ := (Option.bind_some _ _).symm.trans H; with_reducible exact H2_) | with_reducible exact H | (rw [hy226]; exact H) | exact H
  have Ny226 := am hy226
  clear hy226
  have H' := am H
  clear H
  go_enter Try.func69, Try.ntmps69
  go_wp2_with (first | ((with_reducible refine gate_callee (f := 67) rfl ?_); refine goesL_ (some 10) rfl rfl Try.func67 (by kernel_rfl) rfl #[.slice A0 l0.length c0, .int .i64 a1] rfl mU ?_; (with_reducible refine (spec_NodeOf.calls k _ _ l0 a1 t222 _ ?side1 ?side2 A3.out).mono ?_); (case side1 => exact cU HR0.out); (case side2 => exact HC0.out); rintro e w' ⟨rfl, ⟨nd, rfl⟩⟩; refine ⟨_, rfl, ?_⟩) | ((with_reducible refine gate_dst (N := 14) rfl ?_); refine Kd.R_lit k59 _ 59 ?hg (N := 14) ?hd (xs := ([] : List (S59))) (inner := []) (ok := fun _ => True) (okp := fun _ => True) ?hr ?hp (fun _ hk => hk) trivial (Below.refl _ _) (Nat.le_refl _) (by simp) ?_; (case hd => rfl); (case hg => rfl); (case hr => first | (go_simp; done) | (go_simp; rfl)); (case hp => exact (Reps.none _ _)); intro v227 w7 ho8 hb hg_ hnew_; clear hg_ hnew_; (first | rw [← Ny226.out] at ho8 | (simp only [Int.reduceToNat] at ho8; rw [← Ny226.out] at ho8)); have n0_ := am (Kd.R_lower ho8 (below_size (bU HB.out))); have n1_ := am (below_step (bU HB.out) hb); clear HB; have HO228 := n0_; have HB := n1_; clear n0_ n1_; clear hb ho8))
  go_loopg [6, 7] k (fun kq v6 v7 w' => ∃ (x6_1 : List (S59)) (x7_1 : Int), v7 = .int .i64 x7_1 ∧ Aside0 (spec_l5Drop.l0 kq l0 a1 x6_1 x7_1 = some (r1, r2)) ∧ Aside0 (kq ≤ k) ∧ Aside0 (Kd.R k59 59 w' w.heap.size (fun _ => True) v6 x6_1) ∧ Aside0 (Below w.heap.size w w'))
  case atStart => exact ⟨(y226), (0), (by first | rfl | (simp; done) | (simp [*]; done)), H', ⟨Nat.le_refl _⟩, ⟨rU HO228.out⟩, ⟨bU HB.out⟩⟩
  case round =>
   clear H'
   try clear p2
   try clear c4
   try clear c4b0
   try clear c6
   obtain ⟨x6_1, x7_1, rfl, HA, HK1, HO_6, HB⟩ := hrel
   cases gk with
   | zero => exact absurd HA.out (by simp [spec_l5Drop.l0])
   | succ k1 =>
    have H := HA.out
    clear HA
    simp only [spec_l5Drop.l0] at H
    by_cases c9 : x7_1 < (l0.length : Int)
    ·rw [if_pos c9] at H
     have c9b0 : decide (x7_1 < (l0.length : Int)) = true := decide_eq_true c9
     clear c9
     by_cases c10 : 0 ≤ x7_1
     ·rw [if_pos c10] at H
      have c10b0 : decide (0 ≤ x7_1) = true := decide_eq_true c10
      clear c10
      replace H := Option.bind_eq_some_iff.mp H
      obtain ⟨t230, A110, H⟩ := H
      replace H : (if t230 = true then (spec_l5Drop.l0 k1 l0 a1 x6_1 (wrap64 (x7_1 + 1))) else (if x6_1.length < 3518437208883 then (spec_l5Drop.l0 k1 l0 a1 (x6_1 ++ [(⟨(rd_T59 l0 x7_1).f0, (rd_T59 l0 x7_1).f1, (rd_T59 l0 x7_1).f2, (rd_T59 l0 x7_1).f3, (rd_T59 l0 x7_1).f4⟩ : S59)]) (wrap64 (x7_1 + 1))) else (none))) = some (r1, r2) := H
      have A11 := am A110
      clear A110
      by_cases c12 : t230 = true
      ·subst c12
       have H1 : (spec_l5Drop.l0 k1 l0 a1 x6_1 (wrap64 (x7_1 + 1))) = some (r1, r2) := by rw [if_pos rfl] at H; exact H
       clear H
       have H := H1
       clear H1
       have H' := am H
       clear H
       have p229 : 0 ≤ (x7_1 : Int) := dU
       have q229 : x7_1 < (l0.length : Int) := dU
       obtain ⟨ad229, e229, hx229_0, hx229_1, hx229_2, hx229_3, hx229_4⟩ := at_T59 HR0.out x7_1 p229 q229
       cases e229
       replace hx229_0 := cB HB.out hx229_0
       replace hx229_1 := cB HB.out hx229_1
       replace hx229_2 := cB HB.out hx229_2
       replace hx229_3 := cB HB.out hx229_3
       replace hx229_4 := cB HB.out hx229_4
       replace p229 := eq_true p229
       replace q229 := eq_true q229
       go_wp2_with (first | ((with_reducible refine gate_callee (f := 103) rfl ?_); refine goesL_ (some 28) rfl rfl Try.func103 (by kernel_rfl) rfl #[.slice (some ad229) l0.length c0, .int .i64 ((rd_T59 l0 x7_1).f0), .int .i64 a1] rfl mU ?_; (with_reducible refine (spec_IsUnder.calls k1 _ _ l0 ((rd_T59 l0 x7_1).f0) a1 true _ ?side1 ?side2 A11.out).mono ?_); (case side1 => exact cU (Kd.C_below HR0.out HB.out)); (case side2 => exact HC0.out); rintro e w' ⟨rfl, ⟨nd, rfl⟩⟩; refine ⟨_, rfl, ?_⟩))
       go_roundg k1
       case measure => have := HK1.out; omega
       case rel => exact ⟨(x6_1), (wrap64 (x7_1 + 1)), (by first | rfl | (simp; done) | (simp [*]; done)), H', ⟨by have := HK1.out; omega⟩, ⟨rU HO_6.out⟩, ⟨bU HB.out⟩⟩
      ·replace c12 := Bool.eq_false_iff.mpr c12
       subst c12
       have H1 : (if x6_1.length < 3518437208883 then (spec_l5Drop.l0 k1 l0 a1 (x6_1 ++ [(⟨(rd_T59 l0 x7_1).f0, (rd_T59 l0 x7_1).f1, (rd_T59 l0 x7_1).f2, (rd_T59 l0 x7_1).f3, (rd_T59 l0 x7_1).f4⟩ : S59)]) (wrap64 (x7_1 + 1))) else (none)) = some (r1, r2) := by rw [if_neg (show ¬ (false = true) by decide)] at H; exact H
       clear H
       have H := H1
       clear H1
       by_cases c13 : x6_1.length < 3518437208883
       ·rw [if_pos c13] at H
        have LMc13 := am c13
        clear c13
        obtain ⟨y232, hy232⟩ : ∃ y_ : List (S59), y_ = (x6_1 ++ [(⟨(rd_T59 l0 x7_1).f0, (rd_T59 l0 x7_1).f1, (rd_T59 l0 x7_1).f2, (rd_T59 l0 x7_1).f3, (rd_T59 l0 x7_1).f4⟩ : S59)]) := ⟨_, rfl⟩
        replace H : (spec_l5Drop.l0 k1 l0 a1 y232 (wrap64 (x7_1 + 1))) = some (r1, r2) := by first | (rw [hy232]; with_reducible exact H) | (have H2_ := (Option.bind_some _ _).symm.trans H; rw [hy232]; with_reducible exact H2_) | (have H2_ := (Option.bind_some _ _).symm.trans H; with_reducible exact H2_) | with_reducible exact H | (rw [hy232]; exact H) | exact H
        have Ny232 := am hy232
        clear hy232
        have H' := am H
        clear H
        have p229 : 0 ≤ (x7_1 : Int) := dU
        have q229 : x7_1 < (l0.length : Int) := dU
        obtain ⟨ad229, e229, hx229_0, hx229_1, hx229_2, hx229_3, hx229_4⟩ := at_T59 HR0.out x7_1 p229 q229
        cases e229
        replace hx229_0 := cB HB.out hx229_0
        replace hx229_1 := cB HB.out hx229_1
        replace hx229_2 := cB HB.out hx229_2
        replace hx229_3 := cB HB.out hx229_3
        replace hx229_4 := cB HB.out hx229_4
        replace p229 := eq_true p229
        replace q229 := eq_true q229
        go_wp2_with (first | ((with_reducible refine gate_callee (f := 103) rfl ?_); refine goesL_ (some 28) rfl rfl Try.func103 (by kernel_rfl) rfl #[.slice (some ad229) l0.length c0, .int .i64 ((rd_T59 l0 x7_1).f0), .int .i64 a1] rfl mU ?_; (with_reducible refine (spec_IsUnder.calls k1 _ _ l0 ((rd_T59 l0 x7_1).f0) a1 false _ ?side1 ?side2 A11.out).mono ?_); (case side1 => exact cU (Kd.C_below HR0.out HB.out)); (case side2 => exact HC0.out); rintro e w' ⟨rfl, ⟨nd, rfl⟩⟩; refine ⟨_, rfl, ?_⟩; have p231 : 0 ≤ (x7_1 : Int) := dU; have q231 : x7_1 < (l0.length : Int) := dU; obtain ⟨ad231, e231, hx231_0, hx231_1, hx231_2, hx231_3, hx231_4⟩ := at_T59 HR0.out x7_1 p231 q231; obtain rfl : ad229 = ad231 := (by injection e231); replace hx231_0 := cB HB.out hx231_0; replace hx231_1 := cB HB.out hx231_1; replace hx231_2 := cB HB.out hx231_2; replace hx231_3 := cB HB.out hx231_3; replace hx231_4 := cB HB.out hx231_4; replace p231 := eq_true p231; replace q231 := eq_true q231) | ((with_reducible refine gate_builtin (b := .append) (xs := #[.tmp 30, .tmp 35]) rfl ?_); at_builtin; refine Kd.R_append k59 (w0 := w) w.heap.size rfl (.tmp 30) (.tmp 35) 26 59 (.agg #[(.int .i64 0), (.int .i64 0), (.int .i64 0), (.int .i64 0), (.int .i64 0)]) 40 rfl Try.underlying26 info59 rfl (by decide) (by omega) u6 x6_1 (⟨(rd_T59 l0 x7_1).f0, (rd_T59 l0 x7_1).f1, (rd_T59 l0 x7_1).f2, (rd_T59 l0 x7_1).f3, (rd_T59 l0 x7_1).f4⟩ : S59) [.int .i64 ((rd_T59 l0 x7_1).f0), .int .i64 ((rd_T59 l0 x7_1).f1), .int .i64 ((rd_T59 l0 x7_1).f2), .int .i64 ((rd_T59 l0 x7_1).f3), .int .i64 ((rd_T59 l0 x7_1).f4)] (fun _ => True) (fun _ => False) rfl rfl ?aP (fun _ hk => hk.elim) ?aF ?aO ?aB ?aS ?aL ?_; (case aP => exact k59_mkM _ _ _ (⟨(rd_T59 l0 x7_1).f0, (rd_T59 l0 x7_1).f1, (rd_T59 l0 x7_1).f2, (rd_T59 l0 x7_1).f3, (rd_T59 l0 x7_1).f4⟩ : S59)); (case aB => exact bU HB.out); (case aF => exact (fun _ _ => trivial)); (case aO => exact rU HO_6.out); (case aS => exact (below_size (bU HB.out))); (case aL => have := LMc13.out; omega); intro v233 w14 ho hb hg hat; rw [← Ny232.out] at ho; have n0_ := am (hb); have n1_ := am (ho); clear HB; clear HO_6; have HB := n0_; have HO234 := n1_; clear n0_ n1_; clear ho hb hg hat))
        go_roundg k1
        case measure => have := HK1.out; omega
        case rel => exact ⟨(y232), (wrap64 (x7_1 + 1)), (by first | rfl | (simp; done) | (simp [*]; done)), H', ⟨by have := HK1.out; omega⟩, ⟨rU HO234.out⟩, ⟨bU HB.out⟩⟩
       ·rw [if_neg c13] at H
        exact absurd H (by simp)
     ·rw [if_neg c10] at H
      exact absurd H (by simp)
    ·rw [if_neg c9] at H
     have c9b0 : decide (x7_1 < (l0.length : Int)) = false := decide_eq_false c9
     clear c9
     simp only [Option.some.injEq, Prod.mk.injEq] at H
     obtain ⟨rfl, rfl⟩ := H
     go_wp2
     go_ret2
     exact ⟨_, eU, rU HO_6.out, bU HB.out⟩
end Go.Proofs.Ytiiibfpijmmbfaa.QFnExactEditByHandle
