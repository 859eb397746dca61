import Derived.Test.YtiiibfpijmmbfaaUp
import Derived.Test.YtiiibfpijmmbfaaQFnHandlesx0
import Derived.Test.YtiiibfpijmmbfaaQFnHandlesx2
import Derived.Test.YtiiibfpijmmbfaaQFnHandlesx3
namespace Go.Proofs.Ytiiibfpijmmbfaa.QFnHandles
open Go.RowKit Go.Proofs.YtiiibfpijmmbfaaW.PrintWords Go.Proofs.YtiiibfpijmmbfaaW.PrintLast Go.Proofs.YtiiibfpijmmbfaaW.PrintMore
attribute [local go_sem] max2_int min2_int max_two min_two max_three min_three max_four min_four
set_option linter.unusedVariables false
set_option linter.unusedSimpArgs false
def slices_Index_int_int.l0 : Nat → List Int → Int → Int → Int → Option (Int)
 | 0, _, _, _, _ => none
 | k + 1, x0, x1, x7, x8 => if x8 < x7 then (if 0 ≤ x8 then (if x8 < (x0.length : Int) then (if x1 = (rd x0 x8) then (some x8) else (slices_Index_int_int.l0 k x0 x1 x7 (wrap64 (x8 + 1)))) else (none)) else (none)) else (some (-1))
def slices_Index_int_int.f (k : Nat) (l0 : List Int) (a1 : Int) : Option (Int) := slices_Index_int_int.l0 k l0 a1 (l0.length : Int) 0
theorem slices_Index_int_int.mono_l : ∀ k, (∀ y0 y1 y2 y3, LeO (slices_Index_int_int.l0 k y0 y1 y2 y3) (slices_Index_int_int.l0 (k + 1) y0 y1 y2 y3))
 | 0 => fun _ _ _ _ r h => by simp [slices_Index_int_int.l0] at h
 | k + 1 => by
  have ih0 := slices_Index_int_int.mono_l k
  ·intro y0 y1 y2 y3
   unfold slices_Index_int_int.l0
   repeat' first
   | (with_reducible exact ih0 _ _ _ _)
   | (with_reducible exact LeO.refl _)
   | (with_reducible exact LeO.none _)
   | (with_reducible refine LeO.ite ?_ ?_)
   | (with_reducible refine LeO.bind ?_ (fun _ => ?_))
   | exact ih0 _ _ _ _
   | exact LeO.none _
   | refine LeO.ite ?_ ?_
   | refine LeO.bind ?_ (fun _ => ?_)
theorem slices_Index_int_int.mono : ∀ a0 a1 k, LeO (slices_Index_int_int.f k a0 a1) (slices_Index_int_int.f (k + 1) a0 a1) := by
 intro a0 a1 k
 have ih0 := slices_Index_int_int.mono_l k
 unfold slices_Index_int_int.f
 repeat' first
   | (with_reducible exact ih0 _ _ _ _)
   | (with_reducible exact LeO.refl _)
   | (with_reducible exact LeO.none _)
   | (with_reducible refine LeO.ite ?_ ?_)
   | (with_reducible refine LeO.bind ?_ (fun _ => ?_))
   | exact ih0 _ _ _ _
   | exact LeO.none _
   | refine LeO.ite ?_ ?_
   | refine LeO.bind ?_ (fun _ => ?_)
set_option maxHeartbeats 8000000 in
set_option maxRecDepth 100000 in
theorem slices_Index_int_int.calls (k : Nat) (A0 : Option Addr) (c0 : Nat) (l0 : List Int) (a1 : Int) (r : Int) (w : World) (hr0 : Kd.C (Kd.int .i64) w A0 l0.length l0) (hc0 : l0.length ≤ c0) (h : slices_Index_int_int.f k l0 a1 = some r) :
  Calls Try.prog 108 #[.slice A0 l0.length c0, .int .i64 a1] w fun e w' => e = .returned (.int .i64 r) ∧ Drawn0 w w' := by
 have HR0 := am hr0
 have HC0 := am hc0
 clear hr0 hc0
 have H : (slices_Index_int_int.l0 k l0 a1 (l0.length : Int) 0) = some r := h
 clear h
 have H' := am H
 clear H
 go_enter Try.func108, Try.ntmps108
 go_wp2
 go_loopg [8] k (fun kq v8 w' => ∃ (x8_1 : Int), v8 = .int .i64 x8_1 ∧ Aside0 (slices_Index_int_int.l0 kq l0 a1 (l0.length : Int) x8_1 = some r) ∧ Aside0 (kq ≤ k) ∧ Drawn0 w w')
 case atStart => exact ⟨(0), (by first | rfl | (simp; done) | (simp [*]; done)), H', ⟨Nat.le_refl _⟩, by repeat (first | exact Drawn0.refl _ | apply Drawn0.step)⟩
 case round =>
  clear H'
  try clear c1
  try clear p2
  obtain ⟨x8_1, rfl, HA, HK1, ⟨m1, rfl⟩⟩ := hrel
  cases gk with
  | zero => exact absurd HA.out (by simp [slices_Index_int_int.l0])
  | succ k1 =>
   have H := HA.out
   clear HA
   simp only [slices_Index_int_int.l0] at H
   by_cases c3 : x8_1 < (l0.length : Int)
   ·rw [if_pos c3] at H
    have c3b0 : decide (x8_1 < (l0.length : Int)) = true := decide_eq_true c3
    clear c3
    by_cases c4 : 0 ≤ x8_1
    ·rw [if_pos c4] at H
     have c4b0 : decide (0 ≤ x8_1) = true := decide_eq_true c4
     clear c4
     by_cases c5 : x8_1 < (l0.length : Int)
     ·rw [if_pos c5] at H
      have c5b0 : decide (x8_1 < (l0.length : Int)) = true := decide_eq_true c5
      clear c5
      by_cases c6 : a1 = (rd l0 x8_1)
      ·rw [if_pos c6] at H
       have c6b0 : (a1 == (rd l0 x8_1)) = true := beq_iff_eq.mpr c6
       have c6b1 : (a1 != (rd l0 x8_1)) = false := bne_eq_false_iff_eq.mpr c6
       clear c6
       obtain rfl := Option.some.inj H
       have p152 : 0 ≤ (x8_1 : Int) := dU
       have q152 : x8_1 < (l0.length : Int) := dU
       obtain ⟨ad152, e152, hx152_0⟩ := Kd.at_int HR0.out x8_1 p152 q152
       cases e152
       replace p152 := eq_true p152
       replace q152 := eq_true q152
       go_wp2
       go_ret
       exact ⟨by first | rfl | (simp; done) | (simp [*]; done), by repeat (first | exact Drawn0.refl _ | apply Drawn0.step)⟩
      ·rw [if_neg c6] at H
       have c6b0 : (a1 == (rd l0 x8_1)) = false := beq_eq_false_iff_ne.mpr c6
       have c6b1 : (a1 != (rd l0 x8_1)) = true := bne_iff_ne.mpr c6
       have H' := am H
       clear H
       have p152 : 0 ≤ (x8_1 : Int) := dU
       have q152 : x8_1 < (l0.length : Int) := dU
       obtain ⟨ad152, e152, hx152_0⟩ := Kd.at_int HR0.out x8_1 p152 q152
       cases e152
       replace p152 := eq_true p152
       replace q152 := eq_true q152
       go_wp2
       go_roundg k1
       case measure => have := HK1.out; omega
       case rel => exact ⟨(wrap64 (x8_1 + 1)), (by first | rfl | (simp; done) | (simp [*]; done)), H', ⟨by have := HK1.out; omega⟩, by repeat (first | exact Drawn0.refl _ | apply Drawn0.step)⟩
     ·rw [if_neg c5] at H
      exact absurd H (by simp)
    ·rw [if_neg c4] at H
     exact absurd H (by simp)
   ·rw [if_neg c3] at H
    have c3b0 : decide (x8_1 < (l0.length : Int)) = false := decide_eq_false c3
    clear c3
    obtain rfl := Option.some.inj H
    go_wp2
    go_ret
    exact ⟨by first | rfl | (simp; done) | (simp [*]; done), by repeat (first | exact Drawn0.refl _ | apply Drawn0.step)⟩
def slices_Contains_int_int.f (k : Nat) (l0 : List Int) (a1 : Int) : Option (Bool) := (slices_Index_int_int.f k l0 a1).bind fun t153 => (some (decide (t153 ≥ 0)))
theorem slices_Contains_int_int.mono : ∀ a0 a1 k, LeO (slices_Contains_int_int.f k a0 a1) (slices_Contains_int_int.f (k + 1) a0 a1) := by
 intro a0 a1 k
 unfold slices_Contains_int_int.f
 repeat' first
   | (with_reducible exact slices_Index_int_int.mono _ _ _)
   | (with_reducible exact LeO.refl _)
   | (with_reducible exact LeO.none _)
   | (with_reducible refine LeO.ite ?_ ?_)
   | (with_reducible refine LeO.bind ?_ (fun _ => ?_))
   | exact slices_Index_int_int.mono _ _ _
   | exact LeO.none _
   | refine LeO.ite ?_ ?_
   | refine LeO.bind ?_ (fun _ => ?_)
set_option maxHeartbeats 8000000 in
set_option maxRecDepth 100000 in
theorem slices_Contains_int_int.calls (k : Nat) (A0 : Option Addr) (c0 : Nat) (l0 : List Int) (a1 : Int) (r : Bool) (w : World) (hr0 : Kd.C (Kd.int .i64) w A0 l0.length l0) (hc0 : l0.length ≤ c0) (h : slices_Contains_int_int.f k l0 a1 = some r) :
  Calls Try.prog 85 #[.slice A0 l0.length c0, .int .i64 a1] w fun e w' => e = .returned (.bool r) ∧ Drawn0 w w' := by
 have HR0 := am hr0
 have HC0 := am hc0
 clear hr0 hc0
 have H : ((slices_Index_int_int.f k l0 a1).bind fun t153 => (some (decide (t153 ≥ 0)))) = some r := h
 clear h
 replace H := Option.bind_eq_some_iff.mp H
 obtain ⟨t153, A30, H⟩ := H
 replace H : (some (decide (t153 ≥ 0))) = some r := H
 have A3 := am A30
 clear A30
 obtain rfl := Option.some.inj H
 go_enter Try.func85, Try.ntmps85
 go_wp2_with (first | ((with_reducible refine gate_callee (f := 108) rfl ?_); refine goesL_ (some 7) rfl rfl Try.func108 (by kernel_rfl) rfl #[.slice A0 l0.length c0, .int .i64 a1] rfl mU ?_; (with_reducible refine (slices_Index_int_int.calls k _ _ l0 a1 t153 _ ?side1 ?side2 A3.out).mono ?_); (case side1 => exact cU HR0.out); (case side2 => exact HC0.out); rintro e w' ⟨rfl, ⟨nd, rfl⟩⟩; refine ⟨_, rfl, ?_⟩))
 go_ret
 exact ⟨by first | rfl | (simp; done) | (simp [*]; done), by repeat (first | exact Drawn0.refl _ | apply Drawn0.step)⟩
mutual
def impl_SeenBy.l0 : Nat → List (S59) → List Int → Int → List (S59) → List Bool → List (S59) → Int → Int → Option ((List (S59)))
 | 0, _, _, _, _, _, _, _, _ => none
 | k + 1, x0, x1, x2, x7, x8, x19, x20, x21 => if x21 < x20 then (if 0 ≤ x21 then (if x21 < (x19.length : Int) then (if ((rd_T59 x19 x21).f4) = x2 then (if x21 < (x8.length : Int) then (impl_SeenBy.j1 k x0 x1 x2 x7 (x8.set (x21 : Int).toNat true) x21 x19 x20 x21 ((rd_T59 x19 x21).f0) ((rd_T59 x19 x21).f1) ((rd_T59 x19 x21).f2) ((rd_T59 x19 x21).f3) ((rd_T59 x19 x21).f4)) else (none)) else ((slices_Contains_int_int.f k x1 ((rd_T59 x19 x21).f2)).bind fun t164 => (if x21 < (x8.length : Int) then (impl_SeenBy.j1 k x0 x1 x2 x7 (x8.set (x21 : Int).toNat (!t164)) x21 x19 x20 x21 ((rd_T59 x19 x21).f0) ((rd_T59 x19 x21).f1) ((rd_T59 x19 x21).f2) ((rd_T59 x19 x21).f3) ((rd_T59 x19 x21).f4)) else (none)))) else (none)) else (none)) else (some x7)
def impl_SeenBy.j1 : Nat → List (S59) → List Int → Int → List (S59) → List Bool → Int → List (S59) → Int → Int → Int → Int → Int → Int → Int → Option ((List (S59)))
 | 0, _, _, _, _, _, _, _, _, _, _, _, _, _, _ => none
 | k + 1, x0, x1, x2, x7, x8, x9, x19, x20, x21, x163000, x163001, x163002, x163003, x163004 => if x9 > 0 then ((impl_NodeOf.f k x0 x163001).bind fun t166 => (if 0 ≤ t166 then (if t166 < (x8.length : Int) then (impl_SeenBy.j2 k x0 x1 x2 x7 x8 x9 x19 x20 x21 (!(rdOf false x8 t166)) x163000 x163001 x163002 x163003 x163004) else (none)) else (none))) else (impl_SeenBy.j2 k x0 x1 x2 x7 x8 x9 x19 x20 x21 false x163000 x163001 x163002 x163003 x163004)
def impl_SeenBy.j2 : Nat → List (S59) → List Int → Int → List (S59) → List Bool → Int → List (S59) → Int → Int → Bool → Int → Int → Int → Int → Int → Option ((List (S59)))
 | 0, _, _, _, _, _, _, _, _, _, _, _, _, _, _, _ => none
 | k + 1, x0, x1, x2, x7, x8, x9, x19, x20, x21, x51, x163000, x163001, x163002, x163003, x163004 => if x51 = true then (if 0 ≤ x9 then (if x9 < (x8.length : Int) then ((some (x8.set (x9 : Int).toNat false : List Bool)).bind fun y168 => (if rdOf false y168 x9 = true then (if x7.length < 3518437208883 then (impl_SeenBy.l0 k x0 x1 x2 (x7 ++ [(⟨x163000, x163001, x163002, x163003, x163004⟩ : S59)]) y168 x19 x20 (wrap64 (x21 + 1))) else (none)) else (impl_SeenBy.l0 k x0 x1 x2 x7 y168 x19 x20 (wrap64 (x21 + 1))))) else (none)) else (none)) else (if 0 ≤ x9 then (if x9 < (x8.length : Int) then (if rdOf false x8 x9 = true then (if x7.length < 3518437208883 then (impl_SeenBy.l0 k x0 x1 x2 (x7 ++ [(⟨x163000, x163001, x163002, x163003, x163004⟩ : S59)]) x8 x19 x20 (wrap64 (x21 + 1))) else (none)) else (impl_SeenBy.l0 k x0 x1 x2 x7 x8 x19 x20 (wrap64 (x21 + 1)))) else (none)) else (none))
end
def impl_SeenBy.f (k : Nat) (l0 : List (S59)) (l1 : List Int) (a2 : Int) : Option ((List (S59))) := (some (([] : List (S59)) : List (S59))).bind fun y154 => ((impl_IsDocument.f k l0).bind fun t157 => (if t157 = true then (if 0 ≤ (l0.length : Int) then (if ((l0.length : Int) : Int).toNat ≤ 281474976710656 then (impl_SeenBy.l0 k l0 l1 a2 y154 (List.replicate ((l0.length : Int) : Int).toNat false) l0 (l0.length : Int) 0) else (none)) else (none)) else (some y154)))
theorem impl_SeenBy.mono_l : ∀ k, (∀ y0 y1 y2 y3 y4 y5 y6 y7, LeO (impl_SeenBy.l0 k y0 y1 y2 y3 y4 y5 y6 y7) (impl_SeenBy.l0 (k + 1) y0 y1 y2 y3 y4 y5 y6 y7)) ∧ (∀ y0 y1 y2 y3 y4 y5 y6 y7 y8 y9 y10 y11 y12 y13, LeO (impl_SeenBy.j1 k y0 y1 y2 y3 y4 y5 y6 y7 y8 y9 y10 y11 y12 y13) (impl_SeenBy.j1 (k + 1) y0 y1 y2 y3 y4 y5 y6 y7 y8 y9 y10 y11 y12 y13)) ∧ (∀ y0 y1 y2 y3 y4 y5 y6 y7 y8 y9 y10 y11 y12 y13 y14, LeO (impl_SeenBy.j2 k y0 y1 y2 y3 y4 y5 y6 y7 y8 y9 y10 y11 y12 y13 y14) (impl_SeenBy.j2 (k + 1) y0 y1 y2 y3 y4 y5 y6 y7 y8 y9 y10 y11 y12 y13 y14))
 | 0 => ⟨fun _ _ _ _ _ _ _ _ r h => by simp [impl_SeenBy.l0] at h, fun _ _ _ _ _ _ _ _ _ _ _ _ _ _ r h => by simp [impl_SeenBy.j1] at h, fun _ _ _ _ _ _ _ _ _ _ _ _ _ _ _ r h => by simp [impl_SeenBy.j2] at h⟩
 | k + 1 => by
  obtain ⟨ih0, ih1, ih2⟩ := impl_SeenBy.mono_l k
  refine ⟨?_, ?_, ?_⟩
  ·intro y0 y1 y2 y3 y4 y5 y6 y7
   unfold impl_SeenBy.l0
   repeat' first
   | (with_reducible exact ih0 _ _ _ _ _ _ _ _)
   | (with_reducible exact ih1 _ _ _ _ _ _ _ _ _ _ _ _ _ _)
   | (with_reducible exact ih2 _ _ _ _ _ _ _ _ _ _ _ _ _ _ _)
   | (with_reducible exact impl_IsDocument.mono _ _)
   | (with_reducible exact impl_NodeOf.mono _ _ _)
   | (with_reducible exact slices_Contains_int_int.mono _ _ _)
   | (with_reducible exact LeO.refl _)
   | (with_reducible exact LeO.none _)
   | (with_reducible refine LeO.ite ?_ ?_)
   | (with_reducible refine LeO.bind ?_ (fun _ => ?_))
   | exact ih0 _ _ _ _ _ _ _ _
   | exact ih1 _ _ _ _ _ _ _ _ _ _ _ _ _ _
   | exact ih2 _ _ _ _ _ _ _ _ _ _ _ _ _ _ _
   | exact impl_IsDocument.mono _ _
   | exact impl_NodeOf.mono _ _ _
   | exact slices_Contains_int_int.mono _ _ _
   | exact LeO.none _
   | refine LeO.ite ?_ ?_
   | refine LeO.bind ?_ (fun _ => ?_)
  ·intro y0 y1 y2 y3 y4 y5 y6 y7 y8 y9 y10 y11 y12 y13
   unfold impl_SeenBy.j1
   repeat' first
   | (with_reducible exact ih0 _ _ _ _ _ _ _ _)
   | (with_reducible exact ih1 _ _ _ _ _ _ _ _ _ _ _ _ _ _)
   | (with_reducible exact ih2 _ _ _ _ _ _ _ _ _ _ _ _ _ _ _)
   | (with_reducible exact impl_IsDocument.mono _ _)
   | (with_reducible exact impl_NodeOf.mono _ _ _)
   | (with_reducible exact slices_Contains_int_int.mono _ _ _)
   | (with_reducible exact LeO.refl _)
   | (with_reducible exact LeO.none _)
   | (with_reducible refine LeO.ite ?_ ?_)
   | (with_reducible refine LeO.bind ?_ (fun _ => ?_))
   | exact ih0 _ _ _ _ _ _ _ _
   | exact ih1 _ _ _ _ _ _ _ _ _ _ _ _ _ _
   | exact ih2 _ _ _ _ _ _ _ _ _ _ _ _ _ _ _
   | exact impl_IsDocument.mono _ _
   | exact impl_NodeOf.mono _ _ _
   | exact slices_Contains_int_int.mono _ _ _
   | exact LeO.none _
   | refine LeO.ite ?_ ?_
   | refine LeO.bind ?_ (fun _ => ?_)
  ·intro y0 y1 y2 y3 y4 y5 y6 y7 y8 y9 y10 y11 y12 y13 y14
   unfold impl_SeenBy.j2
   repeat' first
   | (with_reducible exact ih0 _ _ _ _ _ _ _ _)
   | (with_reducible exact ih1 _ _ _ _ _ _ _ _ _ _ _ _ _ _)
   | (with_reducible exact ih2 _ _ _ _ _ _ _ _ _ _ _ _ _ _ _)
   | (with_reducible exact impl_IsDocument.mono _ _)
   | (with_reducible exact impl_NodeOf.mono _ _ _)
   | (with_reducible exact slices_Contains_int_int.mono _ _ _)
   | (with_reducible exact LeO.refl _)
   | (with_reducible exact LeO.none _)
   | (with_reducible refine LeO.ite ?_ ?_)
   | (with_reducible refine LeO.bind ?_ (fun _ => ?_))
   | exact ih0 _ _ _ _ _ _ _ _
   | exact ih1 _ _ _ _ _ _ _ _ _ _ _ _ _ _
   | exact ih2 _ _ _ _ _ _ _ _ _ _ _ _ _ _ _
   | exact impl_IsDocument.mono _ _
   | exact impl_NodeOf.mono _ _ _
   | exact slices_Contains_int_int.mono _ _ _
   | exact LeO.none _
   | refine LeO.ite ?_ ?_
   | refine LeO.bind ?_ (fun _ => ?_)
theorem impl_SeenBy.mono : ∀ a0 a1 a2 k, LeO (impl_SeenBy.f k a0 a1 a2) (impl_SeenBy.f (k + 1) a0 a1 a2) := by
 intro a0 a1 a2 k
 obtain ⟨ih0, ih1, ih2⟩ := impl_SeenBy.mono_l k
 unfold impl_SeenBy.f
 repeat' first
   | (with_reducible exact ih0 _ _ _ _ _ _ _ _)
   | (with_reducible exact ih1 _ _ _ _ _ _ _ _ _ _ _ _ _ _)
   | (with_reducible exact ih2 _ _ _ _ _ _ _ _ _ _ _ _ _ _ _)
   | (with_reducible exact impl_IsDocument.mono _ _)
   | (with_reducible exact impl_NodeOf.mono _ _ _)
   | (with_reducible exact slices_Contains_int_int.mono _ _ _)
   | (with_reducible exact LeO.refl _)
   | (with_reducible exact LeO.none _)
   | (with_reducible refine LeO.ite ?_ ?_)
   | (with_reducible refine LeO.bind ?_ (fun _ => ?_))
   | exact ih0 _ _ _ _ _ _ _ _
   | exact ih1 _ _ _ _ _ _ _ _ _ _ _ _ _ _
   | exact ih2 _ _ _ _ _ _ _ _ _ _ _ _ _ _ _
   | exact impl_IsDocument.mono _ _
   | exact impl_NodeOf.mono _ _ _
   | exact slices_Contains_int_int.mono _ _ _
   | exact LeO.none _
   | refine LeO.ite ?_ ?_
   | refine LeO.bind ?_ (fun _ => ?_)
set_option maxHeartbeats 8000000 in
set_option maxRecDepth 100000 in
theorem impl_SeenBy.calls (k : Nat) (A0 : Option Addr) (c0 : Nat) (l0 : List (S59)) (A1 : Option Addr) (c1 : Nat) (l1 : List Int) (a2 : Int) (r : List (S59)) (w : World) (hr0 : Kd.C k59 w A0 l0.length l0) (hc0 : l0.length ≤ c0) (hr1 : Kd.C (Kd.int .i64) w A1 l1.length l1) (hc1 : l1.length ≤ c1) (h : impl_SeenBy.f k l0 l1 a2 = some r) :
  Calls Try.prog 39 #[.slice A0 l0.length c0, .slice A1 l1.length c1, .int .i64 a2] w fun e w' => ∃ v0_ : Value, e = .returned (v0_) ∧ Kd.R k59 59 w' w.heap.size (fun _ => True) v0_ r ∧ Below w.heap.size w w' := by
 have hu59 := Try.underlying59
 have HR0 := am hr0
 have HC0 := am hc0
 clear hr0 hc0
 have HR1 := am hr1
 have HC1 := am hc1
 clear hr1 hc1
 have HB := am (Below.refl w.heap.size w)
 have H : ((some (([] : List (S59)) : List (S59))).bind fun y154 => ((impl_IsDocument.f k l0).bind fun t157 => (if t157 = true then (if 0 ≤ (l0.length : Int) then (if ((l0.length : Int) : Int).toNat ≤ 281474976710656 then (impl_SeenBy.l0 k l0 l1 a2 y154 (List.replicate ((l0.length : Int) : Int).toNat false) l0 (l0.length : Int) 0) else (none)) else (none)) else (some y154)))) = some r := h
 clear h
 obtain ⟨y154, hy154⟩ : ∃ y_ : List (S59), y_ = (([] : List (S59))) := ⟨_, rfl⟩
 replace H : ((impl_IsDocument.f k l0).bind fun t157 => (if t157 = true then (if 0 ≤ (l0.length : Int) then (if ((l0.length : Int) : Int).toNat ≤ 281474976710656 then (impl_SeenBy.l0 k l0 l1 a2 y154 (List.replicate ((l0.length : Int) : Int).toNat false) l0 (l0.length : Int) 0) else (none)) else (none)) else (some y154))) = some r := by first | (rw [hy154]; with_reducible exact H) | (have H2_ := (Option.bind_some _ _).symm.trans H; rw [hy154]; with_reducible exact H2_) | (have H2_ := (Option.bind_some _ _).symm.trans H; with_reducible exact H2_) | with_reducible exact H | (rw [hy154]; exact H) | exact H
 have Ny154 := am hy154
 clear hy154
 replace H := Option.bind_eq_some_iff.mp H
 obtain ⟨t157, A40, H⟩ := H
 replace H : (if t157 = true then (if 0 ≤ (l0.length : Int) then (if ((l0.length : Int) : Int).toNat ≤ 281474976710656 then (impl_SeenBy.l0 k l0 l1 a2 y154 (List.replicate ((l0.length : Int) : Int).toNat false) l0 (l0.length : Int) 0) else (none)) else (none)) else (some y154)) = some r := H
 have A4 := am A40
 clear A40
 by_cases c5 : t157 = true
 ·subst c5
  have H1 : (if 0 ≤ (l0.length : Int) then (if ((l0.length : Int) : Int).toNat ≤ 281474976710656 then (impl_SeenBy.l0 k l0 l1 a2 y154 (List.replicate ((l0.length : Int) : Int).toNat false) l0 (l0.length : Int) 0) else (none)) else (none)) = some r := by rw [if_pos rfl] at H; exact H
  clear H
  have H := H1
  clear H1
  by_cases c6 : 0 ≤ (l0.length : Int)
  ·rw [if_pos c6] at H
   have c6b0 := eq_true c6
   have c6b1 : decide (0 ≤ (l0.length : Int)) = true := decide_eq_true c6
   clear c6
   by_cases c7 : ((l0.length : Int) : Int).toNat ≤ 281474976710656
   ·rw [if_pos c7] at H
    have c7b0 := eq_true c7
    have c7b1 : decide (((l0.length : Int) : Int).toNat ≤ 281474976710656) = true := decide_eq_true c7
    clear c7
    obtain ⟨y158, hy158⟩ : ∃ y_ : List Bool, y_ = (List.replicate ((l0.length : Int) : Int).toNat false) := ⟨_, rfl⟩
    replace H : (impl_SeenBy.l0 k l0 l1 a2 y154 y158 l0 (l0.length : Int) 0) = some r := by first | (rw [hy158]; with_reducible exact H) | (have H2_ := (Option.bind_some _ _).symm.trans H; rw [hy158]; with_reducible exact H2_) | (have H2_ := (Option.bind_some _ _).symm.trans H; with_reducible exact H2_) | with_reducible exact H | (rw [hy158]; exact H) | exact H
    have Ny158 := am hy158
    clear hy158
    have H' := am H
    clear H
    go_enter Try.func39, Try.ntmps39
    go_wp2_with (first | ((with_reducible refine gate_dst (N := 11) rfl ?_); refine Kd.R_lit k59 _ 59 ?hg (N := 11) ?hd (xs := ([] : List (S59))) (inner := []) (ok := fun _ => True) (okp := fun _ => True) ?hr ?hp (fun _ hk => hk) trivial (Below.refl _ _) (Nat.le_refl _) (by simp) ?_; (case hd => rfl); (case hg => rfl); (case hr => first | (go_simp; done) | (go_simp; rfl)); (case hp => exact (Reps.none _ _)); intro v155 w8 ho9 hb hg_ hnew_; clear hg_ hnew_; (first | rw [← Ny154.out] at ho9 | (simp only [Int.reduceToNat] at ho9; rw [← Ny154.out] at ho9)); have n0_ := am (Kd.R_lower ho9 (below_size (bU HB.out))); have n1_ := am (below_step (bU HB.out) hb); clear HB; have HO156 := n0_; have HB := n1_; clear n0_ n1_; clear hb ho9) | ((with_reducible refine gate_callee (f := 72) rfl ?_); refine goesL_ (some 13) rfl rfl Try.func72 (by kernel_rfl) rfl #[.slice A0 l0.length c0] rfl mU ?_; (with_reducible refine (impl_IsDocument.calls k _ _ l0 true _ ?side1 ?side2 A4.out).mono ?_); (case side1 => exact cU (Kd.C_below HR0.out HB.out)); (case side2 => exact HC0.out); rintro e w10 ⟨rfl, hb⟩; refine ⟨_, rfl, ?_⟩; have n0_ := am (Kd.R_below (rU HO156.out) hb); have n1_ := am (below_step (bU HB.out) hb); clear HO156; clear HB; have HO156 := n0_; have HB := n1_; clear n0_ n1_; (try clear hb); (try clear hb2); (try clear hk); (try clear hi)) | ((with_reducible refine gate_dst (N := 18) rfl ?_); refine Kd.R_make Kd.bool _ 4 rfl (N := 18) rfl 97 _ _ rfl (l0.length : Int) rfl rfl Try.underlying97 (.bool false) 1 info4 rfl (by decide) (by omega) false (ok := fun _ => True) (okp := fun _ => True) rfl (fun _ hk => hk) trivial (dU) (Nat.le_trans (Nat.mul_le_mul_right _ (dU : (l0.length : Int).toNat ≤ 281474976710656)) (by omega)) (Below.refl _ _) (Nat.le_refl _) ?_; intro v159 w11 ho12 hb hg_ hnew_; clear hg_ hnew_; (first | rw [← Ny158.out] at ho12 | (simp only [Int.reduceToNat] at ho12; rw [← Ny158.out] at ho12)); have n0_ := am (Kd.R_below (rU HO156.out) hb); have n1_ := am (Kd.R_lower ho12 (below_size (bU HB.out))); have n2_ := am (below_step (bU HB.out) hb); clear HO156; clear HB; have HO156 := n0_; have HO160 := n1_; have HB := n2_; clear n0_ n1_ n2_; clear hb ho12))
    go_loopg [7, 21] k (fun kq v7 v21 w' => ∃ (x7_1 : List (S59)) (x8_1 : List Bool) (x21_1 : Int), v21 = .int .i64 x21_1 ∧ Aside0 (impl_SeenBy.l0 kq l0 l1 a2 x7_1 x8_1 l0 (l0.length : Int) x21_1 = some r) ∧ Aside0 (kq ≤ k) ∧ Aside0 (Kd.R k59 59 w' w.heap.size (fun _ => True) v7 x7_1) ∧ Aside0 (Kd.R Kd.bool 4 w' w.heap.size (fun _ => True) v159 x8_1) ∧ Aside0 (Below w.heap.size w w'))
    case atStart => exact ⟨(y154), (y158), (0), (by first | rfl | (simp; done) | (simp [*]; done)), H', ⟨Nat.le_refl _⟩, ⟨rU HO156.out⟩, ⟨rU HO160.out⟩, ⟨bU HB.out⟩⟩
    case round =>
     clear H'
     try clear c1
     try clear p2
     try clear c3
     try clear c5
     try clear c6
     try clear c6b0
     try clear c6b1
     try clear c7
     try clear c7b0
     try clear c7b1
     obtain ⟨x7_1, x8_1, x21_1, rfl, HA, HK1, HO_7, HO_8, HB⟩ := hrel
     cases gk with
     | zero => exact absurd HA.out (by simp [impl_SeenBy.l0])
     | succ k1 =>
      have H := HA.out
      clear HA
      simp only [impl_SeenBy.l0] at H
      by_cases c13 : x21_1 < (l0.length : Int)
      ·rw [if_pos c13] at H
       have c13b0 : decide (x21_1 < (l0.length : Int)) = true := decide_eq_true c13
       clear c13
       by_cases c14 : 0 ≤ x21_1
       ·rw [if_pos c14] at H
        have c14b0 : decide (0 ≤ x21_1) = true := decide_eq_true c14
        clear c14
        by_cases c15 : x21_1 < (l0.length : Int)
        ·rw [if_pos c15] at H
         have c15b0 : decide (x21_1 < (l0.length : Int)) = true := decide_eq_true c15
         clear c15
         have HC16 := am H
         clear H
         have p161 : 0 ≤ (x21_1 : Int) := dU
         have q161 : x21_1 < (l0.length : Int) := dU
         obtain ⟨ad161, e161, hx161_0, hx161_1, hx161_2, hx161_3, hx161_4⟩ := at_T59 HR0.out x21_1 p161 q161
         cases e161
         replace hx161_0 := cB HB.out hx161_0
         replace hx161_1 := cB HB.out hx161_1
         replace hx161_2 := cB HB.out hx161_2
         replace hx161_3 := cB HB.out hx161_3
         replace hx161_4 := cB HB.out hx161_4
         replace p161 := eq_true p161
         replace q161 := eq_true q161
         go_upto_region 8 with (first | ((with_reducible refine gate_dst (N := 10) rfl ?_); refine box_event ?hg (N := 10) ?hd (cs := #[.int .i64 0, .int .i64 0, .int .i64 0, .int .i64 0, .int .i64 0]) (t := 59) ?hr ?_; (case hd => rfl); (case hg => rfl); (case hr => first | (go_simp; done) | (go_simp; rfl)); intro gb162 hg w17 hbox hb; have n0_ := am (Kd.R_below (Kd.R_elderB (rU HO_7.out) gb162 (Nat.le_of_eq hg.symm)) hb); have n1_ := am (Kd.R_below (rU HO_8.out) hb); have n2_ := am (below_step (bU HB.out) hb); have n3_ := am (hbox); have n4_ := am ((by rw [hg]; exact (below_size (bU HB.out)) : w.heap.size ≤ gb162)); have n5_ := am ((by rw [hg]; exact (below_size (bU HB.out)) : w.heap.size ≤ gb162)); clear HO_7; clear HO_8; clear HB; have HO_7 := n0_; have HO_8 := n1_; have HB := n2_; have BK162 := n3_; have GW162 := n4_; have GE162 := n5_; clear n0_ n1_ n2_ n3_ n4_ n5_; clear hb hbox hg; obtain ⟨hcz18_0, hcz18_1, hcz18_2, hcz18_3, hcz18_4⟩ := bc5 BK162.out; obtain ⟨hfz18_0, hfz18_1, hfz18_2, hfz18_3, hfz18_4⟩ := bf5 BK162.out))
         (try simp only [Act.put, List.setIfInBounds_toArray, List.set_cons_zero, List.set_cons_succ])
         go_cut [] (fun wc => ∃ (kq : Nat) (x8_15 : List Bool), Aside0 (impl_SeenBy.j1 kq l0 l1 a2 x7_1 x8_15 x21_1 l0 (l0.length : Int) x21_1 ((rd_T59 l0 x21_1).f0) ((rd_T59 l0 x21_1).f1) ((rd_T59 l0 x21_1).f2) ((rd_T59 l0 x21_1).f3) ((rd_T59 l0 x21_1).f4) = some r) ∧ Aside0 (kq ≤ k1) ∧ Aside0 (Kd.R k59 59 wc w.heap.size (fun k_ => k_ ≠ gb162) u7 x7_1) ∧ Aside0 (Kd.R Kd.bool 4 wc w.heap.size (fun _ => True) v159 x8_15) ∧ Aside0 (wc.heap[gb162]? = some (.cells #[.int .i64 ((rd_T59 l0 x21_1).f0), .int .i64 ((rd_T59 l0 x21_1).f1), .int .i64 ((rd_T59 l0 x21_1).f2), .int .i64 ((rd_T59 l0 x21_1).f3), .int .i64 ((rd_T59 l0 x21_1).f4)] 59 (0, 0))) ∧ Aside0 (Below w.heap.size w wc))
         case first =>
          have H := HC16.out
          clear HC16
          by_cases c19 : ((rd_T59 l0 x21_1).f4) = a2
          ·rw [if_pos c19] at H
           have c19b0 : (((rd_T59 l0 x21_1).f4) == a2) = true := beq_iff_eq.mpr c19
           have c19b1 : (((rd_T59 l0 x21_1).f4) != a2) = false := bne_eq_false_iff_eq.mpr c19
           clear c19
           (first | rw [c19b0] | (simp only [i64_w, i32_w]; rw [c19b0]) | skip)
           by_cases c20 : x21_1 < (x8_1.length : Int)
           ·rw [if_pos c20] at H
            have c20b0 : decide (x21_1 < (x8_1.length : Int)) = true := decide_eq_true c20
            clear c20
            obtain ⟨y163, hy163⟩ : ∃ y_ : List Bool, y_ = (x8_1.set (x21_1 : Int).toNat true) := ⟨_, rfl⟩
            replace H : (impl_SeenBy.j1 k1 l0 l1 a2 x7_1 y163 x21_1 l0 (l0.length : Int) x21_1 ((rd_T59 l0 x21_1).f0) ((rd_T59 l0 x21_1).f1) ((rd_T59 l0 x21_1).f2) ((rd_T59 l0 x21_1).f3) ((rd_T59 l0 x21_1).f4)) = some r := by first | (rw [hy163]; with_reducible exact H) | (have H2_ := (Option.bind_some _ _).symm.trans H; rw [hy163]; with_reducible exact H2_) | (have H2_ := (Option.bind_some _ _).symm.trans H; with_reducible exact H2_) | with_reducible exact H | (rw [hy163]; exact H) | exact H
            have Ny163 := am hy163
            clear hy163
            have H' := am H
            clear H
            obtain ⟨hcz22_0, hcz22_1, hcz22_2, hcz22_3, hcz22_4⟩ := bc5 BK162.out
            obtain ⟨hfz22_0, hfz22_1, hfz22_2, hfz22_3, hfz22_4⟩ := bf5 BK162.out
            have p21 : 0 ≤ (x21_1 : Int) := dU
            have q21 : (x21_1 : Int) < ((x8_1.length : Int) : Int) := dU
            obtain ⟨go21, co21, eo21, gb21, gl21, cl21, HG21⟩ := Kd.R_form HO_8.out (by omega)
            (first | cases eo21 | (injection eo21 with ea_ en_ ec_; (first | subst ea_ | (injection ea_ with ea_; subst ea_)); subst ec_; clear en_))
            have GB21 := am gb21
            have GG21 := am HG21
            clear gb21 gl21 HG21
            obtain ⟨hx21_0, hf21_0⟩ := Kd.R_celln false (Kd.R_far (p := ⟨gb162, 4, none⟩) (Kd.R_far (p := ⟨gb162, 3, none⟩) (Kd.R_far (p := ⟨gb162, 2, none⟩) (Kd.R_far (p := ⟨gb162, 1, none⟩) (Kd.R_far (p := ⟨gb162, 0, none⟩) (Kd.R_types HO_8.out BK162.out (by decide)) (fun _ hk => hk.2) (.int .i64 ((rd_T59 l0 x21_1).f0))) (fun _ hk => hk.2) (.int .i64 ((rd_T59 l0 x21_1).f1))) (fun _ hk => hk.2) (.int .i64 ((rd_T59 l0 x21_1).f2))) (fun _ hk => hk.2) (.int .i64 ((rd_T59 l0 x21_1).f3))) (fun _ hk => hk.2) (.int .i64 ((rd_T59 l0 x21_1).f4))) (x21_1 : Int) p21 q21
            replace p21 := eq_true p21
            replace q21 := eq_true q21
            have HX23 := am (show Kd.R Kd.bool 4 (((((w17.setCell ⟨gb162, 0, none⟩ (.int .i64 ((rd_T59 l0 x21_1).f0))).setCell ⟨gb162, 1, none⟩ (.int .i64 ((rd_T59 l0 x21_1).f1))).setCell ⟨gb162, 2, none⟩ (.int .i64 ((rd_T59 l0 x21_1).f2))).setCell ⟨gb162, 3, none⟩ (.int .i64 ((rd_T59 l0 x21_1).f3))).setCell ⟨gb162, 4, none⟩ (.int .i64 ((rd_T59 l0 x21_1).f4))) w.heap.size (fun _ => True) (.slice (some ⟨go21, 0, none⟩) x8_1.length co21) x8_1 from (by (with_reducible repeat (first | apply Kd.R_alloc | apply Kd.R_drewN | apply Kd.R_drew)); exact Kd.R_mono (Kd.R_far (p := ⟨gb162, 4, none⟩) (Kd.R_far (p := ⟨gb162, 3, none⟩) (Kd.R_far (p := ⟨gb162, 2, none⟩) (Kd.R_far (p := ⟨gb162, 1, none⟩) (Kd.R_far (p := ⟨gb162, 0, none⟩) (Kd.R_types HO_8.out BK162.out (by decide)) (fun _ hk => hk.2) (.int .i64 ((rd_T59 l0 x21_1).f0))) (fun _ hk => hk.2) (.int .i64 ((rd_T59 l0 x21_1).f1))) (fun _ hk => hk.2) (.int .i64 ((rd_T59 l0 x21_1).f2))) (fun _ hk => hk.2) (.int .i64 ((rd_T59 l0 x21_1).f3))) (fun _ hk => hk.2) (.int .i64 ((rd_T59 l0 x21_1).f4))) (fun _ hk => trivial)))
            have hy023_ := (Kd.R_celln false HO_8.out (x21_1 : Int) (dU) (dU)).1
            have HP23 := Kd.R_putg HX23.out (x21_1 : Int) true
            go_wp2_with (first | ((with_reducible refine gate_store (t := 4) (p := 39) rfl ?_); refine store_event (t := 4) (p := 39) (v := ?vo_w24) (w1 := ((((((w17.setCell ⟨gb162, 0, none⟩ (.int .i64 ((rd_T59 l0 x21_1).f0))).setCell ⟨gb162, 1, none⟩ (.int .i64 ((rd_T59 l0 x21_1).f1))).setCell ⟨gb162, 2, none⟩ (.int .i64 ((rd_T59 l0 x21_1).f2))).setCell ⟨gb162, 3, none⟩ (.int .i64 ((rd_T59 l0 x21_1).f3))).setCell ⟨gb162, 4, none⟩ (.int .i64 ((rd_T59 l0 x21_1).f4))).setCell ⟨go21, (x21_1 : Int).toNat, none⟩ (.bool true))) ?hg ?ho ?hn ?hr ?_; (case ho => rfl); (case hg => rfl); (case hn => rfl); (case hr => first | (go_simp; done) | (go_simp; rfl)); intro w24 hw; have hg : (((((w17.setCell ⟨gb162, 0, none⟩ (.int .i64 ((rd_T59 l0 x21_1).f0))).setCell ⟨gb162, 1, none⟩ (.int .i64 ((rd_T59 l0 x21_1).f1))).setCell ⟨gb162, 2, none⟩ (.int .i64 ((rd_T59 l0 x21_1).f2))).setCell ⟨gb162, 3, none⟩ (.int .i64 ((rd_T59 l0 x21_1).f3))).setCell ⟨gb162, 4, none⟩ (.int .i64 ((rd_T59 l0 x21_1).f4))).grownBy w24 (some go21) := (by rw [hw]; exact HP23.2); have hp_ : Kd.R Kd.bool 4 w24 w.heap.size (fun _ => True) (.slice (some ⟨go21, 0, none⟩) x8_1.length co21) y163 := (by rw [hw, Ny163.out]; exact HP23.1); clear HP23; have n0_ := am (Kd.R_over' (v := (.slice (some ⟨go21, 0, none⟩) x8_1.length co21)) (by (with_reducible repeat (first | apply Kd.R_alloc | apply Kd.R_drewN | apply Kd.R_drew)); exact (Kd.R_mono (Kd.R_far (p := ⟨gb162, 4, none⟩) (Kd.R_far (p := ⟨gb162, 3, none⟩) (Kd.R_far (p := ⟨gb162, 2, none⟩) (Kd.R_far (p := ⟨gb162, 1, none⟩) (Kd.R_far (p := ⟨gb162, 0, none⟩) (Kd.R_mono HO_7.out (fun k_ hk => (⟨hk, hk.2⟩ : _ ∧ k_ ≠ gb162))) (fun _ hk => hk.2) (.int .i64 ((rd_T59 l0 x21_1).f0))) (fun _ hk => hk.2) (.int .i64 ((rd_T59 l0 x21_1).f1))) (fun _ hk => hk.2) (.int .i64 ((rd_T59 l0 x21_1).f2))) (fun _ hk => hk.2) (.int .i64 ((rd_T59 l0 x21_1).f3))) (fun _ hk => hk.2) (.int .i64 ((rd_T59 l0 x21_1).f4))) (fun _ h_ => h_.1))) (Kd.R_typed HX23.out) (by decide) hg); have n1_ := am (hp_); have n2_ := am (blk_grown (g := gb162) (o := .cells #[.int .i64 ((rd_T59 l0 x21_1).f0), .int .i64 ((rd_T59 l0 x21_1).f1), .int .i64 ((rd_T59 l0 x21_1).f2), .int .i64 ((rd_T59 l0 x21_1).f3), .int .i64 ((rd_T59 l0 x21_1).f4)] 59 (0, 0)) (by (with_reducible repeat (first | refine blk_drewN ?_ _ | refine blk_drew ?_ | refine blk_alloc ?_ _)); refine blk_put (cs := #[.int .i64 ((rd_T59 l0 x21_1).f0), .int .i64 ((rd_T59 l0 x21_1).f1), .int .i64 ((rd_T59 l0 x21_1).f2), .int .i64 ((rd_T59 l0 x21_1).f3), .int .i64 0]) ?_ 4 _ rfl; (with_reducible repeat (first | refine blk_drewN ?_ _ | refine blk_drew ?_ | refine blk_alloc ?_ _)); refine blk_put (cs := #[.int .i64 ((rd_T59 l0 x21_1).f0), .int .i64 ((rd_T59 l0 x21_1).f1), .int .i64 ((rd_T59 l0 x21_1).f2), .int .i64 0, .int .i64 0]) ?_ 3 _ rfl; (with_reducible repeat (first | refine blk_drewN ?_ _ | refine blk_drew ?_ | refine blk_alloc ?_ _)); refine blk_put (cs := #[.int .i64 ((rd_T59 l0 x21_1).f0), .int .i64 ((rd_T59 l0 x21_1).f1), .int .i64 0, .int .i64 0, .int .i64 0]) ?_ 2 _ rfl; (with_reducible repeat (first | refine blk_drewN ?_ _ | refine blk_drew ?_ | refine blk_alloc ?_ _)); refine blk_put (cs := #[.int .i64 ((rd_T59 l0 x21_1).f0), .int .i64 0, .int .i64 0, .int .i64 0, .int .i64 0]) ?_ 1 _ rfl; (with_reducible repeat (first | refine blk_drewN ?_ _ | refine blk_drew ?_ | refine blk_alloc ?_ _)); refine blk_put (cs := #[.int .i64 0, .int .i64 0, .int .i64 0, .int .i64 0, .int .i64 0]) ?_ 0 _ rfl; exact kU BK162.out) hg (Kd.R_ne HO_8.out BK162.out (by decide))); have n3_ := am ((by rw [hw]; exact below_set ((bS HB.out GE162.out)) GB21.out : Below w.heap.size w w24)); clear HO_7; clear HO_8; clear BK162; clear HB; have HO_7 := n0_; have HO_8 := n1_; have BK162 := n2_; have HB := n3_; clear n0_ n1_ n2_ n3_; clear hg hw hp_))
            go_meet
            case rel => exact ⟨_, (y163), H', ⟨by have := HK1.out; first | omega | exact Nat.le_refl _⟩, ⟨by (with_reducible repeat (first | apply Kd.R_alloc | apply Kd.R_drewN | apply Kd.R_drew)); exact Kd.R_mono HO_7.out (fun _ hk => hk.2)⟩, ⟨rU HO_8.out⟩, ⟨kU BK162.out⟩, ⟨bS HB.out GE162.out⟩⟩
           ·rw [if_neg c20] at H
            exact absurd H (by simp)
          ·rw [if_neg c19] at H
           have c19b0 : (((rd_T59 l0 x21_1).f4) == a2) = false := beq_eq_false_iff_ne.mpr c19
           have c19b1 : (((rd_T59 l0 x21_1).f4) != a2) = true := bne_iff_ne.mpr c19
           (first | rw [c19b0] | (simp only [i64_w, i32_w]; rw [c19b0]) | skip)
           replace H := Option.bind_eq_some_iff.mp H
           obtain ⟨t164, A250, H⟩ := H
           replace H : (if x21_1 < (x8_1.length : Int) then (impl_SeenBy.j1 k1 l0 l1 a2 x7_1 (x8_1.set (x21_1 : Int).toNat (!t164)) x21_1 l0 (l0.length : Int) x21_1 ((rd_T59 l0 x21_1).f0) ((rd_T59 l0 x21_1).f1) ((rd_T59 l0 x21_1).f2) ((rd_T59 l0 x21_1).f3) ((rd_T59 l0 x21_1).f4)) else (none)) = some r := H
           have A25 := am A250
           clear A250
           by_cases c26 : x21_1 < (x8_1.length : Int)
           ·rw [if_pos c26] at H
            have c26b0 : decide (x21_1 < (x8_1.length : Int)) = true := decide_eq_true c26
            clear c26
            obtain ⟨y165, hy165⟩ : ∃ y_ : List Bool, y_ = (x8_1.set (x21_1 : Int).toNat (!t164)) := ⟨_, rfl⟩
            replace H : (impl_SeenBy.j1 k1 l0 l1 a2 x7_1 y165 x21_1 l0 (l0.length : Int) x21_1 ((rd_T59 l0 x21_1).f0) ((rd_T59 l0 x21_1).f1) ((rd_T59 l0 x21_1).f2) ((rd_T59 l0 x21_1).f3) ((rd_T59 l0 x21_1).f4)) = some r := by first | (rw [hy165]; with_reducible exact H) | (have H2_ := (Option.bind_some _ _).symm.trans H; rw [hy165]; with_reducible exact H2_) | (have H2_ := (Option.bind_some _ _).symm.trans H; with_reducible exact H2_) | with_reducible exact H | (rw [hy165]; exact H) | exact H
            have Ny165 := am hy165
            clear hy165
            have H' := am H
            clear H
            obtain ⟨hcz28_0, hcz28_1, hcz28_2, hcz28_3, hcz28_4⟩ := bc5 BK162.out
            obtain ⟨hfz28_0, hfz28_1, hfz28_2, hfz28_3, hfz28_4⟩ := bf5 BK162.out
            go_wp2_with (first | (go_at_call 85; (with_reducible refine (slices_Contains_int_int.calls k1 _ _ l1 ((rd_T59 l0 x21_1).f2) t164 _ ?side1 ?side2 A25.out).mono ?_); (case side1 => exact Kd.C_below HR1.out (bS HB.out GE162.out)); (case side2 => exact HC1.out); rintro e w' ⟨rfl, ⟨nd, rfl⟩⟩; have p27 : 0 ≤ (x21_1 : Int) := dU; have q27 : (x21_1 : Int) < ((x8_1.length : Int) : Int) := dU; obtain ⟨go27, co27, eo27, gb27, gl27, cl27, HG27⟩ := Kd.R_form HO_8.out (by omega); (first | cases eo27 | (injection eo27 with ea_ en_ ec_; (first | subst ea_ | (injection ea_ with ea_; subst ea_)); subst ec_; clear en_)); have GB27 := am gb27; have GG27 := am HG27; clear gb27 gl27 HG27; obtain ⟨hx27_0, hf27_0⟩ := Kd.R_celln false (Kd.R_far (p := ⟨gb162, 4, none⟩) (Kd.R_far (p := ⟨gb162, 3, none⟩) (Kd.R_far (p := ⟨gb162, 2, none⟩) (Kd.R_far (p := ⟨gb162, 1, none⟩) (Kd.R_far (p := ⟨gb162, 0, none⟩) (Kd.R_types HO_8.out BK162.out (by decide)) (fun _ hk => hk.2) (.int .i64 ((rd_T59 l0 x21_1).f0))) (fun _ hk => hk.2) (.int .i64 ((rd_T59 l0 x21_1).f1))) (fun _ hk => hk.2) (.int .i64 ((rd_T59 l0 x21_1).f2))) (fun _ hk => hk.2) (.int .i64 ((rd_T59 l0 x21_1).f3))) (fun _ hk => hk.2) (.int .i64 ((rd_T59 l0 x21_1).f4))) (x21_1 : Int) p27 q27; replace p27 := eq_true p27; replace q27 := eq_true q27; have HX29 := am (show Kd.R Kd.bool 4 ((((((w17.setCell ⟨gb162, 0, none⟩ (.int .i64 ((rd_T59 l0 x21_1).f0))).setCell ⟨gb162, 1, none⟩ (.int .i64 ((rd_T59 l0 x21_1).f1))).setCell ⟨gb162, 2, none⟩ (.int .i64 ((rd_T59 l0 x21_1).f2))).setCell ⟨gb162, 3, none⟩ (.int .i64 ((rd_T59 l0 x21_1).f3))).setCell ⟨gb162, 4, none⟩ (.int .i64 ((rd_T59 l0 x21_1).f4))).drewN nd) w.heap.size (fun _ => True) (.slice (some ⟨go27, 0, none⟩) x8_1.length co27) x8_1 from (by (with_reducible repeat (first | apply Kd.R_alloc | apply Kd.R_drewN | apply Kd.R_drew)); exact Kd.R_mono (Kd.R_far (p := ⟨gb162, 4, none⟩) (Kd.R_far (p := ⟨gb162, 3, none⟩) (Kd.R_far (p := ⟨gb162, 2, none⟩) (Kd.R_far (p := ⟨gb162, 1, none⟩) (Kd.R_far (p := ⟨gb162, 0, none⟩) (Kd.R_types HO_8.out BK162.out (by decide)) (fun _ hk => hk.2) (.int .i64 ((rd_T59 l0 x21_1).f0))) (fun _ hk => hk.2) (.int .i64 ((rd_T59 l0 x21_1).f1))) (fun _ hk => hk.2) (.int .i64 ((rd_T59 l0 x21_1).f2))) (fun _ hk => hk.2) (.int .i64 ((rd_T59 l0 x21_1).f3))) (fun _ hk => hk.2) (.int .i64 ((rd_T59 l0 x21_1).f4))) (fun _ hk => trivial))); have hy029_ := (Kd.R_celln false HO_8.out (x21_1 : Int) (dU) (dU)).1; obtain ⟨hy29_, hz29_⟩ := Kd.R_celln false HX29.out (x21_1 : Int) (dU) (dU); have HP29 := Kd.R_putg HX29.out (x21_1 : Int) (!t164)) | ((with_reducible refine gate_store (t := 4) (p := 39) rfl ?_); refine store_event (t := 4) (p := 39) (v := ?vo_w30) (w1 := (((((((w17.setCell ⟨gb162, 0, none⟩ (.int .i64 ((rd_T59 l0 x21_1).f0))).setCell ⟨gb162, 1, none⟩ (.int .i64 ((rd_T59 l0 x21_1).f1))).setCell ⟨gb162, 2, none⟩ (.int .i64 ((rd_T59 l0 x21_1).f2))).setCell ⟨gb162, 3, none⟩ (.int .i64 ((rd_T59 l0 x21_1).f3))).setCell ⟨gb162, 4, none⟩ (.int .i64 ((rd_T59 l0 x21_1).f4))).drewN nd).setCell ⟨go27, (x21_1 : Int).toNat, none⟩ (.bool (!t164)))) ?hg ?ho ?hn ?hr ?_; (case ho => rfl); (case hg => rfl); (case hn => rfl); (case hr => first | (go_simp; done) | (go_simp; rfl)); intro w30 hw; have hg : ((((((w17.setCell ⟨gb162, 0, none⟩ (.int .i64 ((rd_T59 l0 x21_1).f0))).setCell ⟨gb162, 1, none⟩ (.int .i64 ((rd_T59 l0 x21_1).f1))).setCell ⟨gb162, 2, none⟩ (.int .i64 ((rd_T59 l0 x21_1).f2))).setCell ⟨gb162, 3, none⟩ (.int .i64 ((rd_T59 l0 x21_1).f3))).setCell ⟨gb162, 4, none⟩ (.int .i64 ((rd_T59 l0 x21_1).f4))).drewN nd).grownBy w30 (some go27) := (by rw [hw]; exact HP29.2); have hp_ : Kd.R Kd.bool 4 w30 w.heap.size (fun _ => True) (.slice (some ⟨go27, 0, none⟩) x8_1.length co27) y165 := (by rw [hw, Ny165.out]; exact HP29.1); clear HP29; have n0_ := am (Kd.R_over' (v := (.slice (some ⟨go27, 0, none⟩) x8_1.length co27)) (by (with_reducible repeat (first | apply Kd.R_alloc | apply Kd.R_drewN | apply Kd.R_drew)); exact (Kd.R_mono (Kd.R_far (p := ⟨gb162, 4, none⟩) (Kd.R_far (p := ⟨gb162, 3, none⟩) (Kd.R_far (p := ⟨gb162, 2, none⟩) (Kd.R_far (p := ⟨gb162, 1, none⟩) (Kd.R_far (p := ⟨gb162, 0, none⟩) (Kd.R_mono HO_7.out (fun k_ hk => (⟨hk, hk.2⟩ : _ ∧ k_ ≠ gb162))) (fun _ hk => hk.2) (.int .i64 ((rd_T59 l0 x21_1).f0))) (fun _ hk => hk.2) (.int .i64 ((rd_T59 l0 x21_1).f1))) (fun _ hk => hk.2) (.int .i64 ((rd_T59 l0 x21_1).f2))) (fun _ hk => hk.2) (.int .i64 ((rd_T59 l0 x21_1).f3))) (fun _ hk => hk.2) (.int .i64 ((rd_T59 l0 x21_1).f4))) (fun _ h_ => h_.1))) (Kd.R_typed HX29.out) (by decide) hg); have n1_ := am (hp_); have n2_ := am (blk_grown (g := gb162) (o := .cells #[.int .i64 ((rd_T59 l0 x21_1).f0), .int .i64 ((rd_T59 l0 x21_1).f1), .int .i64 ((rd_T59 l0 x21_1).f2), .int .i64 ((rd_T59 l0 x21_1).f3), .int .i64 ((rd_T59 l0 x21_1).f4)] 59 (0, 0)) (by (with_reducible repeat (first | refine blk_drewN ?_ _ | refine blk_drew ?_ | refine blk_alloc ?_ _)); refine blk_put (cs := #[.int .i64 ((rd_T59 l0 x21_1).f0), .int .i64 ((rd_T59 l0 x21_1).f1), .int .i64 ((rd_T59 l0 x21_1).f2), .int .i64 ((rd_T59 l0 x21_1).f3), .int .i64 0]) ?_ 4 _ rfl; (with_reducible repeat (first | refine blk_drewN ?_ _ | refine blk_drew ?_ | refine blk_alloc ?_ _)); refine blk_put (cs := #[.int .i64 ((rd_T59 l0 x21_1).f0), .int .i64 ((rd_T59 l0 x21_1).f1), .int .i64 ((rd_T59 l0 x21_1).f2), .int .i64 0, .int .i64 0]) ?_ 3 _ rfl; (with_reducible repeat (first | refine blk_drewN ?_ _ | refine blk_drew ?_ | refine blk_alloc ?_ _)); refine blk_put (cs := #[.int .i64 ((rd_T59 l0 x21_1).f0), .int .i64 ((rd_T59 l0 x21_1).f1), .int .i64 0, .int .i64 0, .int .i64 0]) ?_ 2 _ rfl; (with_reducible repeat (first | refine blk_drewN ?_ _ | refine blk_drew ?_ | refine blk_alloc ?_ _)); refine blk_put (cs := #[.int .i64 ((rd_T59 l0 x21_1).f0), .int .i64 0, .int .i64 0, .int .i64 0, .int .i64 0]) ?_ 1 _ rfl; (with_reducible repeat (first | refine blk_drewN ?_ _ | refine blk_drew ?_ | refine blk_alloc ?_ _)); refine blk_put (cs := #[.int .i64 0, .int .i64 0, .int .i64 0, .int .i64 0, .int .i64 0]) ?_ 0 _ rfl; exact kU BK162.out) hg (Kd.R_ne HO_8.out BK162.out (by decide))); have n3_ := am ((by rw [hw]; exact below_set ((bS HB.out GE162.out)) GB27.out : Below w.heap.size w w30)); clear HO_7; clear HO_8; clear BK162; clear HB; have HO_7 := n0_; have HO_8 := n1_; have BK162 := n2_; have HB := n3_; clear n0_ n1_ n2_ n3_; clear hg hw hp_))
            go_meet
            case rel => exact ⟨_, (y165), H', ⟨by have := HK1.out; first | omega | exact Nat.le_refl _⟩, ⟨by (with_reducible repeat (first | apply Kd.R_alloc | apply Kd.R_drewN | apply Kd.R_drew)); exact Kd.R_mono HO_7.out (fun _ hk => hk.2)⟩, ⟨rU HO_8.out⟩, ⟨kU BK162.out⟩, ⟨bS HB.out GE162.out⟩⟩
           ·rw [if_neg c26] at H
            exact absurd H (by simp)
         case rest =>
          clear HC16
          try clear c1
          try clear p1
          try clear q1
          try clear hx1
          try clear c2
          try clear p2
          try clear q2
          try clear hx2
          try clear c3
          try clear c5
          try clear c6
          try clear c6b0
          try clear c6b1
          try clear c7
          try clear c7b0
          try clear c7b1
          try clear c13
          try clear c13b0
          try clear c14
          try clear c14b0
          try clear c15
          try clear c15b0
          try clear p16
          try clear q16
          try clear hx16
          try clear c19
          try clear c19b0
          try clear c19b1
          try clear c20
          try clear c20b0
          try clear p21
          try clear q21
          try clear hx21
          try clear hf21
          try clear c26
          try clear c26b0
          try clear p27
          try clear q27
          try clear hx27
          try clear hf27
          try clear hcz18_0 hcz18_1 hcz18_2 hcz18_3 hcz18_4
          try clear hcz22_0 hcz22_1 hcz22_2 hcz22_3 hcz22_4
          try clear hcz28_0 hcz28_1 hcz28_2 hcz28_3 hcz28_4
          try clear hfz18_0 hfz18_1 hfz18_2 hfz18_3 hfz18_4
          try clear hfz22_0 hfz22_1 hfz22_2 hfz22_3 hfz22_4
          try clear hfz28_0 hfz28_1 hfz28_2 hfz28_3 hfz28_4
          try clear hx161_0
          try clear hx161_1
          try clear hx161_2
          try clear hx161_3
          try clear hx161_4
          try clear hx21_0
          try clear hx27_0
          try clear p161
          try clear p2
          try clear p21
          try clear p27
          try clear q161
          try clear q21
          try clear q27
          obtain ⟨kq, x8_15, HA, HJ15, HO_7, HO_8, BK162, HB⟩ := hcut
          cases kq with
          | zero => exact absurd HA.out (by simp [impl_SeenBy.j1])
          | succ kj15 =>
           have H := HA.out
           clear HA
           simp only [impl_SeenBy.j1] at H
           have HC31 := am H
           clear H
           go_upto_region 9 with (fail)
           go_cut [51] (fun v51 wc => ∃ (kq : Nat) (x51_30 : Bool), v51 = .bool x51_30 ∧ Aside0 (impl_SeenBy.j2 kq l0 l1 a2 x7_1 x8_15 x21_1 l0 (l0.length : Int) x21_1 x51_30 ((rd_T59 l0 x21_1).f0) ((rd_T59 l0 x21_1).f1) ((rd_T59 l0 x21_1).f2) ((rd_T59 l0 x21_1).f3) ((rd_T59 l0 x21_1).f4) = some r) ∧ Aside0 (kq ≤ kj15) ∧ Aside0 (Kd.R k59 59 wc w.heap.size (fun k_ => k_ ≠ gb162) u7 x7_1) ∧ Aside0 (Kd.R Kd.bool 4 wc w.heap.size (fun _ => True) v159 x8_15) ∧ Aside0 (wc.heap[gb162]? = some (.cells #[.int .i64 ((rd_T59 l0 x21_1).f0), .int .i64 ((rd_T59 l0 x21_1).f1), .int .i64 ((rd_T59 l0 x21_1).f2), .int .i64 ((rd_T59 l0 x21_1).f3), .int .i64 ((rd_T59 l0 x21_1).f4)] 59 (0, 0))) ∧ Aside0 (Below w.heap.size w wc))
           case first =>
            have H := HC31.out
            clear HC31
            by_cases c32 : x21_1 > 0
            ·rw [if_pos c32] at H
             have c32b0 : decide (0 < x21_1) = true := decide_eq_true c32
             clear c32
             (first | rw [c32b0] | (simp only [i64_w, i32_w]; rw [c32b0]) | skip)
             replace H := Option.bind_eq_some_iff.mp H
             obtain ⟨t166, A330, H⟩ := H
             replace H : (if 0 ≤ t166 then (if t166 < (x8_15.length : Int) then (impl_SeenBy.j2 kj15 l0 l1 a2 x7_1 x8_15 x21_1 l0 (l0.length : Int) x21_1 (!(rdOf false x8_15 t166)) ((rd_T59 l0 x21_1).f0) ((rd_T59 l0 x21_1).f1) ((rd_T59 l0 x21_1).f2) ((rd_T59 l0 x21_1).f3) ((rd_T59 l0 x21_1).f4)) else (none)) else (none)) = some r := H
             have A33 := am A330
             clear A330
             by_cases c34 : 0 ≤ t166
             ·rw [if_pos c34] at H
              have c34b0 : decide (0 ≤ t166) = true := decide_eq_true c34
              clear c34
              by_cases c35 : t166 < (x8_15.length : Int)
              ·rw [if_pos c35] at H
               have c35b0 : decide (t166 < (x8_15.length : Int)) = true := decide_eq_true c35
               clear c35
               have H' := am H
               clear H
               obtain ⟨hcz36_0, hcz36_1, hcz36_2, hcz36_3, hcz36_4⟩ := bc5 BK162.out
               obtain ⟨hfz36_0, hfz36_1, hfz36_2, hfz36_3, hfz36_4⟩ := bf5 BK162.out
               go_wp2_with (first | (go_at_call 40; (with_reducible refine (impl_NodeOf.calls kj15 _ _ l0 ((rd_T59 l0 x21_1).f1) t166 _ ?side1 ?side2 A33.out).mono ?_); (case side1 => exact cU (Kd.C_below HR0.out HB.out)); (case side2 => exact HC0.out); rintro e w37 ⟨rfl, hb⟩; have n0_ := am (Kd.R_below (rU HO_7.out) hb); have n1_ := am (Kd.R_below (rU HO_8.out) hb); have n2_ := am (kB BK162.out hb); have n3_ := am (below_step (bS HB.out GE162.out) hb); clear HO_7; clear HO_8; clear BK162; clear HB; have HO_7 := n0_; have HO_8 := n1_; have BK162 := n2_; have HB := n3_; clear n0_ n1_ n2_ n3_; (try clear hb); (try clear hb2); (try clear hk); (try clear hi); obtain ⟨Ao38, co38, eo38⟩ := Kd.R_slice HO_8.out; subst eo38; have p167 : 0 ≤ (t166 : Int) := dU; have q167 : t166 < (x8_15.length : Int) := dU; obtain ⟨ad167, e167, hx167_0⟩ := Kd.at_bool (Kd.R_reads' HO_8.out).2.2 t166 p167 q167; cases e167; replace p167 := eq_true p167; replace q167 := eq_true q167))
               go_meet
               case rel => exact ⟨_, (!(rdOf false x8_15 t166)), (by first | rfl | (simp; done) | (simp [*]; done)), H', ⟨by have := HK1.out; have := HJ15.out; first | omega | exact Nat.le_refl _⟩, ⟨rU HO_7.out⟩, ⟨rU HO_8.out⟩, ⟨kU BK162.out⟩, ⟨bS HB.out GE162.out⟩⟩
              ·rw [if_neg c35] at H
               exact absurd H (by simp)
             ·rw [if_neg c34] at H
              exact absurd H (by simp)
            ·rw [if_neg c32] at H
             have c32b0 : decide (0 < x21_1) = false := decide_eq_false c32
             clear c32
             (first | rw [c32b0] | (simp only [i64_w, i32_w]; rw [c32b0]) | skip)
             have H' := am H
             clear H
             go_wp2
             go_meet
             case rel => exact ⟨_, (false), (by first | rfl | (simp; done) | (simp [*]; done)), H', ⟨by have := HK1.out; have := HJ15.out; first | omega | exact Nat.le_refl _⟩, ⟨rU HO_7.out⟩, ⟨rU HO_8.out⟩, ⟨kU BK162.out⟩, ⟨bS HB.out GE162.out⟩⟩
           case rest =>
            clear HC31
            try clear c1
            try clear p1
            try clear q1
            try clear hx1
            try clear c2
            try clear p2
            try clear q2
            try clear hx2
            try clear c3
            try clear c5
            try clear c6
            try clear c6b0
            try clear c6b1
            try clear c7
            try clear c7b0
            try clear c7b1
            try clear c13
            try clear c13b0
            try clear c14
            try clear c14b0
            try clear c15
            try clear c15b0
            try clear p16
            try clear q16
            try clear hx16
            try clear c19
            try clear c19b0
            try clear c19b1
            try clear c20
            try clear c20b0
            try clear p21
            try clear q21
            try clear hx21
            try clear hf21
            try clear c26
            try clear c26b0
            try clear p27
            try clear q27
            try clear hx27
            try clear hf27
            try clear c32
            try clear c32b0
            try clear c34
            try clear c34b0
            try clear c35
            try clear c35b0
            try clear hcz18_0 hcz18_1 hcz18_2 hcz18_3 hcz18_4
            try clear hcz22_0 hcz22_1 hcz22_2 hcz22_3 hcz22_4
            try clear hcz28_0 hcz28_1 hcz28_2 hcz28_3 hcz28_4
            try clear hcz36_0 hcz36_1 hcz36_2 hcz36_3 hcz36_4
            try clear hfz18_0 hfz18_1 hfz18_2 hfz18_3 hfz18_4
            try clear hfz22_0 hfz22_1 hfz22_2 hfz22_3 hfz22_4
            try clear hfz28_0 hfz28_1 hfz28_2 hfz28_3 hfz28_4
            try clear hfz36_0 hfz36_1 hfz36_2 hfz36_3 hfz36_4
            try clear hx161_0
            try clear hx161_1
            try clear hx161_2
            try clear hx161_3
            try clear hx161_4
            try clear hx167_0
            try clear hx21_0
            try clear hx27_0
            try clear p1
            try clear p16
            try clear p161
            try clear p167
            try clear p2
            try clear p21
            try clear p27
            try clear q1
            try clear q16
            try clear q161
            try clear q167
            try clear q2
            try clear q21
            try clear q27
            obtain ⟨kq, x51_30, rfl, HA, HJ30, HO_7, HO_8, BK162, HB⟩ := hcut
            cases kq with
            | zero => exact absurd HA.out (by simp [impl_SeenBy.j2])
            | succ kj30 =>
             have H := HA.out
             clear HA
             simp only [impl_SeenBy.j2] at H
             by_cases c39 : x51_30 = true
             ·subst c39
              have H1 : (if 0 ≤ x21_1 then (if x21_1 < (x8_15.length : Int) then ((some (x8_15.set (x21_1 : Int).toNat false : List Bool)).bind fun y168 => (if rdOf false y168 x21_1 = true then (if x7_1.length < 3518437208883 then (impl_SeenBy.l0 kj30 l0 l1 a2 (x7_1 ++ [(⟨((rd_T59 l0 x21_1).f0), ((rd_T59 l0 x21_1).f1), ((rd_T59 l0 x21_1).f2), ((rd_T59 l0 x21_1).f3), ((rd_T59 l0 x21_1).f4)⟩ : S59)]) y168 l0 (l0.length : Int) (wrap64 (x21_1 + 1))) else (none)) else (impl_SeenBy.l0 kj30 l0 l1 a2 x7_1 y168 l0 (l0.length : Int) (wrap64 (x21_1 + 1))))) else (none)) else (none)) = some r := by rw [if_pos rfl] at H; exact H
              clear H
              have H := H1
              clear H1
              by_cases c40 : 0 ≤ x21_1
              ·rw [if_pos c40] at H
               have c40b0 : decide (0 ≤ x21_1) = true := decide_eq_true c40
               clear c40
               by_cases c41 : x21_1 < (x8_15.length : Int)
               ·rw [if_pos c41] at H
                have c41b0 : decide (x21_1 < (x8_15.length : Int)) = true := decide_eq_true c41
                clear c41
                obtain ⟨y168, hy168⟩ : ∃ y_ : List Bool, y_ = (x8_15.set (x21_1 : Int).toNat false) := ⟨_, rfl⟩
                replace H : (if rdOf false y168 x21_1 = true then (if x7_1.length < 3518437208883 then (impl_SeenBy.l0 kj30 l0 l1 a2 (x7_1 ++ [(⟨((rd_T59 l0 x21_1).f0), ((rd_T59 l0 x21_1).f1), ((rd_T59 l0 x21_1).f2), ((rd_T59 l0 x21_1).f3), ((rd_T59 l0 x21_1).f4)⟩ : S59)]) y168 l0 (l0.length : Int) (wrap64 (x21_1 + 1))) else (none)) else (impl_SeenBy.l0 kj30 l0 l1 a2 x7_1 y168 l0 (l0.length : Int) (wrap64 (x21_1 + 1)))) = some r := by first | (rw [hy168]; with_reducible exact H) | (have H2_ := (Option.bind_some _ _).symm.trans H; rw [hy168]; with_reducible exact H2_) | (have H2_ := (Option.bind_some _ _).symm.trans H; with_reducible exact H2_) | with_reducible exact H | (rw [hy168]; exact H) | exact H
                have Ny168 := am hy168
                clear hy168
                obtain ⟨bq43, hbq43⟩ : ∃ b_ : Bool, b_ = (rdOf false y168 x21_1) := ⟨_, rfl⟩
                replace H : (if bq43 = true then (if x7_1.length < 3518437208883 then (impl_SeenBy.l0 kj30 l0 l1 a2 (x7_1 ++ [(⟨((rd_T59 l0 x21_1).f0), ((rd_T59 l0 x21_1).f1), ((rd_T59 l0 x21_1).f2), ((rd_T59 l0 x21_1).f3), ((rd_T59 l0 x21_1).f4)⟩ : S59)]) y168 l0 (l0.length : Int) (wrap64 (x21_1 + 1))) else (none)) else (impl_SeenBy.l0 kj30 l0 l1 a2 x7_1 y168 l0 (l0.length : Int) (wrap64 (x21_1 + 1)))) = some r := by rw [← hbq43] at H; exact H
                have Nbq43 := am hbq43
                clear hbq43
                by_cases c44 : bq43 = true
                ·subst c44
                 have H1 : (if x7_1.length < 3518437208883 then (impl_SeenBy.l0 kj30 l0 l1 a2 (x7_1 ++ [(⟨((rd_T59 l0 x21_1).f0), ((rd_T59 l0 x21_1).f1), ((rd_T59 l0 x21_1).f2), ((rd_T59 l0 x21_1).f3), ((rd_T59 l0 x21_1).f4)⟩ : S59)]) y168 l0 (l0.length : Int) (wrap64 (x21_1 + 1))) else (none)) = some r := by rw [if_pos rfl] at H; exact H
                 clear H
                 have H := H1
                 clear H1
                 by_cases c45 : x7_1.length < 3518437208883
                 ·rw [if_pos c45] at H
                  have LMc45 := am c45
                  clear c45
                  obtain ⟨y170, hy170⟩ : ∃ y_ : List (S59), y_ = (x7_1 ++ [(⟨((rd_T59 l0 x21_1).f0), ((rd_T59 l0 x21_1).f1), ((rd_T59 l0 x21_1).f2), ((rd_T59 l0 x21_1).f3), ((rd_T59 l0 x21_1).f4)⟩ : S59)]) := ⟨_, rfl⟩
                  replace H : (impl_SeenBy.l0 kj30 l0 l1 a2 y170 y168 l0 (l0.length : Int) (wrap64 (x21_1 + 1))) = some r := by first | (rw [hy170]; with_reducible exact H) | (have H2_ := (Option.bind_some _ _).symm.trans H; rw [hy170]; with_reducible exact H2_) | (have H2_ := (Option.bind_some _ _).symm.trans H; with_reducible exact H2_) | with_reducible exact H | (rw [hy170]; exact H) | exact H
                  have Ny170 := am hy170
                  clear hy170
                  have H' := am H
                  clear H
                  have p42 : 0 ≤ (x21_1 : Int) := dU
                  have q42 : (x21_1 : Int) < ((x8_15.length : Int) : Int) := dU
                  obtain ⟨go42, co42, eo42, gb42, gl42, cl42, HG42⟩ := Kd.R_form HO_8.out (by omega)
                  (first | cases eo42 | (injection eo42 with ea_ en_ ec_; (first | subst ea_ | (injection ea_ with ea_; subst ea_)); subst ec_; clear en_))
                  have GB42 := am gb42
                  have GG42 := am HG42
                  clear gb42 gl42 HG42
                  obtain ⟨hx42_0, hf42_0⟩ := Kd.R_celln false HO_8.out (x21_1 : Int) p42 q42
                  replace p42 := eq_true p42
                  replace q42 := eq_true q42
                  have HP46 := Kd.R_putg HO_8.out (x21_1 : Int) false
                  go_wp2_with (first | ((with_reducible refine gate_store (t := 4) (p := 54) rfl ?_); refine store_event (t := 4) (p := 54) (v := ?vo_w47) (w1 := (wc.setCell ⟨go42, (x21_1 : Int).toNat, none⟩ (.bool false))) ?hg ?ho ?hn ?hr ?_; (case ho => rfl); (case hg => rfl); (case hn => rfl); (case hr => first | (go_simp; done) | (go_simp; rfl)); intro w47 hw; have hg : wc.grownBy w47 (some go42) := (by rw [hw]; exact HP46.2); have hp_ : Kd.R Kd.bool 4 w47 w.heap.size (fun _ => True) (.slice (some ⟨go42, 0, none⟩) x8_15.length co42) y168 := (by rw [hw, Ny168.out]; exact HP46.1); clear HP46; have n0_ := am (Kd.R_over' (v := (.slice (some ⟨go42, 0, none⟩) x8_15.length co42)) (rU HO_7.out) (Kd.R_typed HO_8.out) (by decide) hg); have n1_ := am (hp_); have n2_ := am (kG BK162.out hg (Kd.R_ne HO_8.out BK162.out (by decide))); have n3_ := am ((by rw [hw]; exact below_set (HB.out) GB42.out : Below w.heap.size w w47)); clear HO_7; clear HO_8; clear BK162; clear HB; have HO_7 := n0_; have HO_8 := n1_; have BK162 := n2_; have HB := n3_; clear n0_ n1_ n2_ n3_; clear hg hw hp_; have p169 : 0 ≤ (x21_1 : Int) := dU; have q169 : x21_1 < (y168.length : Int) := (by have h_ : (x21_1 : Int) < ((x8_15.length : Int) : Int) := dU; first | (have e_ := (Kd.R_reads' HO_8.out).1; omega) | simpa only [Ny168.out, List.length_set] using h_); have ql169 : ((x21_1 : Int) < ((x8_15.length : Int) : Int)) = True := eq_true (dU); obtain ⟨ad169, e169, hx169_0⟩ := Kd.at_bool (Kd.R_reads' HO_8.out).2.2 x21_1 p169 q169; (try rw [← Nbq43.out] at hx169_0); obtain rfl : (⟨go42, 0, none⟩ : Addr) = ad169 := (by injection e169); (first | simp only [add_plain] at hx169_0 | simp only [add_at] at hx169_0 | simp only [Addr.add, Nat.zero_add] at hx169_0 | skip); replace p169 := eq_true p169; replace q169 := eq_true q169; obtain ⟨hcz48_0, hcz48_1, hcz48_2, hcz48_3, hcz48_4⟩ := bc5 BK162.out; obtain ⟨hfz48_0, hfz48_1, hfz48_2, hfz48_3, hfz48_4⟩ := bf5 BK162.out) | ((with_reducible refine gate_builtin (b := .append) (xs := #[.tmp 59, .tmp 61]) rfl ?_); at_builtin; refine Kd.R_append k59 (w0 := w) w.heap.size rfl (.tmp 59) (.tmp 61) 26 59 (.agg #[(.int .i64 0), (.int .i64 0), (.int .i64 0), (.int .i64 0), (.int .i64 0)]) 40 rfl Try.underlying26 info59 rfl (by decide) (by omega) u7 x7_1 (⟨((rd_T59 l0 x21_1).f0), ((rd_T59 l0 x21_1).f1), ((rd_T59 l0 x21_1).f2), ((rd_T59 l0 x21_1).f3), ((rd_T59 l0 x21_1).f4)⟩ : S59) [.int .i64 ((rd_T59 l0 x21_1).f0), .int .i64 ((rd_T59 l0 x21_1).f1), .int .i64 ((rd_T59 l0 x21_1).f2), .int .i64 ((rd_T59 l0 x21_1).f3), .int .i64 ((rd_T59 l0 x21_1).f4)] (fun k_ => k_ ≠ gb162) (fun _ => False) rfl rfl ?aP (fun _ hk => hk.elim) ?aF ?aO ?aB ?aS ?aL ?_; (case aP => exact k59_mkM _ _ _ (⟨((rd_T59 l0 x21_1).f0), ((rd_T59 l0 x21_1).f1), ((rd_T59 l0 x21_1).f2), ((rd_T59 l0 x21_1).f3), ((rd_T59 l0 x21_1).f4)⟩ : S59)); (case aB => exact bS HB.out GE162.out); (case aF => exact (fun k_ hk => Kd.freshB (g := gb162) (o := .cells #[.int .i64 ((rd_T59 l0 x21_1).f0), .int .i64 ((rd_T59 l0 x21_1).f1), .int .i64 ((rd_T59 l0 x21_1).f2), .int .i64 ((rd_T59 l0 x21_1).f3), .int .i64 ((rd_T59 l0 x21_1).f4)] 59 (0, 0)) (kU BK162.out) k_ hk)); (case aO => exact rU HO_7.out); (case aS => exact (below_size (bS HB.out GE162.out))); (case aL => have := LMc45.out; omega); intro v171 w49 ho hb hg hat; rw [← Ny170.out] at ho; have n0_ := am (Kd.R_over' (rU HO_8.out) (Kd.R_typed (rU HO_7.out)) (by decide) hg); have n1_ := am (kG BK162.out hg (Kd.R_away HO_7.out (fun _ hk => hk))); have n2_ := am (hb); have n3_ := am (ho); clear HO_8; clear BK162; clear HB; clear HO_7; have HO_8 := n0_; have BK162 := n1_; have HB := n2_; have HO172 := n3_; clear n0_ n1_ n2_ n3_; clear ho hb hg hat))
                  go_roundg kj30
                  case measure => have := HK1.out; have := HJ15.out; have := HJ30.out; omega
                  case rel => exact ⟨(y170), (y168), (wrap64 (x21_1 + 1)), (by first | rfl | (simp; done) | (simp [*]; done)), H', ⟨by have := HK1.out; have := HJ15.out; have := HJ30.out; omega⟩, ⟨by (with_reducible repeat (first | apply Kd.R_alloc | apply Kd.R_drewN | apply Kd.R_drew)); exact Kd.R_mono HO172.out (fun _ hk => trivial)⟩, ⟨rU HO_8.out⟩, ⟨bS HB.out GE162.out⟩⟩
                 ·rw [if_neg c45] at H
                  exact absurd H (by simp)
                ·replace c44 := Bool.eq_false_iff.mpr c44
                 subst c44
                 have H1 : (impl_SeenBy.l0 kj30 l0 l1 a2 x7_1 y168 l0 (l0.length : Int) (wrap64 (x21_1 + 1))) = some r := by rw [if_neg (show ¬ (false = true) by decide)] at H; exact H
                 clear H
                 have H := H1
                 clear H1
                 have H' := am H
                 clear H
                 have p42 : 0 ≤ (x21_1 : Int) := dU
                 have q42 : (x21_1 : Int) < ((x8_15.length : Int) : Int) := dU
                 obtain ⟨go42, co42, eo42, gb42, gl42, cl42, HG42⟩ := Kd.R_form HO_8.out (by omega)
                 (first | cases eo42 | (injection eo42 with ea_ en_ ec_; (first | subst ea_ | (injection ea_ with ea_; subst ea_)); subst ec_; clear en_))
                 have GB42 := am gb42
                 have GG42 := am HG42
                 clear gb42 gl42 HG42
                 obtain ⟨hx42_0, hf42_0⟩ := Kd.R_celln false HO_8.out (x21_1 : Int) p42 q42
                 replace p42 := eq_true p42
                 replace q42 := eq_true q42
                 have HP50 := Kd.R_putg HO_8.out (x21_1 : Int) false
                 go_wp2_with (first | ((with_reducible refine gate_store (t := 4) (p := 54) rfl ?_); refine store_event (t := 4) (p := 54) (v := ?vo_w51) (w1 := (wc.setCell ⟨go42, (x21_1 : Int).toNat, none⟩ (.bool false))) ?hg ?ho ?hn ?hr ?_; (case ho => rfl); (case hg => rfl); (case hn => rfl); (case hr => first | (go_simp; done) | (go_simp; rfl)); intro w51 hw; have hg : wc.grownBy w51 (some go42) := (by rw [hw]; exact HP50.2); have hp_ : Kd.R Kd.bool 4 w51 w.heap.size (fun _ => True) (.slice (some ⟨go42, 0, none⟩) x8_15.length co42) y168 := (by rw [hw, Ny168.out]; exact HP50.1); clear HP50; have n0_ := am (Kd.R_over' (v := (.slice (some ⟨go42, 0, none⟩) x8_15.length co42)) (rU HO_7.out) (Kd.R_typed HO_8.out) (by decide) hg); have n1_ := am (hp_); have n2_ := am (kG BK162.out hg (Kd.R_ne HO_8.out BK162.out (by decide))); have n3_ := am ((by rw [hw]; exact below_set (HB.out) GB42.out : Below w.heap.size w w51)); clear HO_7; clear HO_8; clear BK162; clear HB; have HO_7 := n0_; have HO_8 := n1_; have BK162 := n2_; have HB := n3_; clear n0_ n1_ n2_ n3_; clear hg hw hp_; have p169 : 0 ≤ (x21_1 : Int) := dU; have q169 : x21_1 < (y168.length : Int) := (by have h_ : (x21_1 : Int) < ((x8_15.length : Int) : Int) := dU; first | (have e_ := (Kd.R_reads' HO_8.out).1; omega) | simpa only [Ny168.out, List.length_set] using h_); have ql169 : ((x21_1 : Int) < ((x8_15.length : Int) : Int)) = True := eq_true (dU); obtain ⟨ad169, e169, hx169_0⟩ := Kd.at_bool (Kd.R_reads' HO_8.out).2.2 x21_1 p169 q169; (try rw [← Nbq43.out] at hx169_0); obtain rfl : (⟨go42, 0, none⟩ : Addr) = ad169 := (by injection e169); (first | simp only [add_plain] at hx169_0 | simp only [add_at] at hx169_0 | simp only [Addr.add, Nat.zero_add] at hx169_0 | skip); replace p169 := eq_true p169; replace q169 := eq_true q169))
                 go_roundg kj30
                 case measure => have := HK1.out; have := HJ15.out; have := HJ30.out; omega
                 case rel => exact ⟨(x7_1), (y168), (wrap64 (x21_1 + 1)), (by first | rfl | (simp; done) | (simp [*]; done)), H', ⟨by have := HK1.out; have := HJ15.out; have := HJ30.out; omega⟩, ⟨by (with_reducible repeat (first | apply Kd.R_alloc | apply Kd.R_drewN | apply Kd.R_drew)); exact Kd.R_mono HO_7.out (fun _ hk => trivial)⟩, ⟨rU HO_8.out⟩, ⟨bS HB.out GE162.out⟩⟩
               ·rw [if_neg c41] at H
                exact absurd H (by simp)
              ·rw [if_neg c40] at H
               exact absurd H (by simp)
             ·replace c39 := Bool.eq_false_iff.mpr c39
              subst c39
              have H1 : (if 0 ≤ x21_1 then (if x21_1 < (x8_15.length : Int) then (if rdOf false x8_15 x21_1 = true then (if x7_1.length < 3518437208883 then (impl_SeenBy.l0 kj30 l0 l1 a2 (x7_1 ++ [(⟨((rd_T59 l0 x21_1).f0), ((rd_T59 l0 x21_1).f1), ((rd_T59 l0 x21_1).f2), ((rd_T59 l0 x21_1).f3), ((rd_T59 l0 x21_1).f4)⟩ : S59)]) x8_15 l0 (l0.length : Int) (wrap64 (x21_1 + 1))) else (none)) else (impl_SeenBy.l0 kj30 l0 l1 a2 x7_1 x8_15 l0 (l0.length : Int) (wrap64 (x21_1 + 1)))) else (none)) else (none)) = some r := by rw [if_neg (show ¬ (false = true) by decide)] at H; exact H
              clear H
              have H := H1
              clear H1
              by_cases c52 : 0 ≤ x21_1
              ·rw [if_pos c52] at H
               have c52b0 : decide (0 ≤ x21_1) = true := decide_eq_true c52
               clear c52
               by_cases c53 : x21_1 < (x8_15.length : Int)
               ·rw [if_pos c53] at H
                have c53b0 : decide (x21_1 < (x8_15.length : Int)) = true := decide_eq_true c53
                clear c53
                obtain ⟨bq54, hbq54⟩ : ∃ b_ : Bool, b_ = (rdOf false x8_15 x21_1) := ⟨_, rfl⟩
                replace H : (if bq54 = true then (if x7_1.length < 3518437208883 then (impl_SeenBy.l0 kj30 l0 l1 a2 (x7_1 ++ [(⟨((rd_T59 l0 x21_1).f0), ((rd_T59 l0 x21_1).f1), ((rd_T59 l0 x21_1).f2), ((rd_T59 l0 x21_1).f3), ((rd_T59 l0 x21_1).f4)⟩ : S59)]) x8_15 l0 (l0.length : Int) (wrap64 (x21_1 + 1))) else (none)) else (impl_SeenBy.l0 kj30 l0 l1 a2 x7_1 x8_15 l0 (l0.length : Int) (wrap64 (x21_1 + 1)))) = some r := by rw [← hbq54] at H; exact H
                have Nbq54 := am hbq54
                clear hbq54
                by_cases c55 : bq54 = true
                ·subst c55
                 have H1 : (if x7_1.length < 3518437208883 then (impl_SeenBy.l0 kj30 l0 l1 a2 (x7_1 ++ [(⟨((rd_T59 l0 x21_1).f0), ((rd_T59 l0 x21_1).f1), ((rd_T59 l0 x21_1).f2), ((rd_T59 l0 x21_1).f3), ((rd_T59 l0 x21_1).f4)⟩ : S59)]) x8_15 l0 (l0.length : Int) (wrap64 (x21_1 + 1))) else (none)) = some r := by rw [if_pos rfl] at H; exact H
                 clear H
                 have H := H1
                 clear H1
                 by_cases c56 : x7_1.length < 3518437208883
                 ·rw [if_pos c56] at H
                  have LMc56 := am c56
                  clear c56
                  obtain ⟨y174, hy174⟩ : ∃ y_ : List (S59), y_ = (x7_1 ++ [(⟨((rd_T59 l0 x21_1).f0), ((rd_T59 l0 x21_1).f1), ((rd_T59 l0 x21_1).f2), ((rd_T59 l0 x21_1).f3), ((rd_T59 l0 x21_1).f4)⟩ : S59)]) := ⟨_, rfl⟩
                  replace H : (impl_SeenBy.l0 kj30 l0 l1 a2 y174 x8_15 l0 (l0.length : Int) (wrap64 (x21_1 + 1))) = some r := by first | (rw [hy174]; with_reducible exact H) | (have H2_ := (Option.bind_some _ _).symm.trans H; rw [hy174]; with_reducible exact H2_) | (have H2_ := (Option.bind_some _ _).symm.trans H; with_reducible exact H2_) | with_reducible exact H | (rw [hy174]; exact H) | exact H
                  have Ny174 := am hy174
                  clear hy174
                  have H' := am H
                  clear H
                  obtain ⟨Ao57, co57, eo57⟩ := Kd.R_slice HO_8.out
                  subst eo57
                  have p173 : 0 ≤ (x21_1 : Int) := dU
                  have q173 : x21_1 < (x8_15.length : Int) := dU
                  obtain ⟨ad173, e173, hx173_0⟩ := Kd.at_bool (Kd.R_reads' HO_8.out).2.2 x21_1 p173 q173
                  (try rw [← Nbq54.out] at hx173_0)
                  cases e173
                  replace p173 := eq_true p173
                  replace q173 := eq_true q173
                  obtain ⟨hcz58_0, hcz58_1, hcz58_2, hcz58_3, hcz58_4⟩ := bc5 BK162.out
                  obtain ⟨hfz58_0, hfz58_1, hfz58_2, hfz58_3, hfz58_4⟩ := bf5 BK162.out
                  go_wp2_with (first | ((with_reducible refine gate_builtin (b := .append) (xs := #[.tmp 59, .tmp 61]) rfl ?_); at_builtin; refine Kd.R_append k59 (w0 := w) w.heap.size rfl (.tmp 59) (.tmp 61) 26 59 (.agg #[(.int .i64 0), (.int .i64 0), (.int .i64 0), (.int .i64 0), (.int .i64 0)]) 40 rfl Try.underlying26 info59 rfl (by decide) (by omega) u7 x7_1 (⟨((rd_T59 l0 x21_1).f0), ((rd_T59 l0 x21_1).f1), ((rd_T59 l0 x21_1).f2), ((rd_T59 l0 x21_1).f3), ((rd_T59 l0 x21_1).f4)⟩ : S59) [.int .i64 ((rd_T59 l0 x21_1).f0), .int .i64 ((rd_T59 l0 x21_1).f1), .int .i64 ((rd_T59 l0 x21_1).f2), .int .i64 ((rd_T59 l0 x21_1).f3), .int .i64 ((rd_T59 l0 x21_1).f4)] (fun k_ => k_ ≠ gb162) (fun _ => False) rfl rfl ?aP (fun _ hk => hk.elim) ?aF ?aO ?aB ?aS ?aL ?_; (case aP => exact k59_mkM _ _ _ (⟨((rd_T59 l0 x21_1).f0), ((rd_T59 l0 x21_1).f1), ((rd_T59 l0 x21_1).f2), ((rd_T59 l0 x21_1).f3), ((rd_T59 l0 x21_1).f4)⟩ : S59)); (case aB => exact bS HB.out GE162.out); (case aF => exact (fun k_ hk => Kd.freshB (g := gb162) (o := .cells #[.int .i64 ((rd_T59 l0 x21_1).f0), .int .i64 ((rd_T59 l0 x21_1).f1), .int .i64 ((rd_T59 l0 x21_1).f2), .int .i64 ((rd_T59 l0 x21_1).f3), .int .i64 ((rd_T59 l0 x21_1).f4)] 59 (0, 0)) (kU BK162.out) k_ hk)); (case aO => exact rU HO_7.out); (case aS => exact (below_size (bS HB.out GE162.out))); (case aL => have := LMc56.out; omega); intro v175 w59 ho hb hg hat; rw [← Ny174.out] at ho; have n0_ := am (Kd.R_over' (rU HO_8.out) (Kd.R_typed (rU HO_7.out)) (by decide) hg); have n1_ := am (kG BK162.out hg (Kd.R_away HO_7.out (fun _ hk => hk))); have n2_ := am (hb); have n3_ := am (ho); clear HO_8; clear BK162; clear HB; clear HO_7; have HO_8 := n0_; have BK162 := n1_; have HB := n2_; have HO176 := n3_; clear n0_ n1_ n2_ n3_; clear ho hb hg hat))
                  go_roundg kj30
                  case measure => have := HK1.out; have := HJ15.out; have := HJ30.out; omega
                  case rel => exact ⟨(y174), (x8_15), (wrap64 (x21_1 + 1)), (by first | rfl | (simp; done) | (simp [*]; done)), H', ⟨by have := HK1.out; have := HJ15.out; have := HJ30.out; omega⟩, ⟨by (with_reducible repeat (first | apply Kd.R_alloc | apply Kd.R_drewN | apply Kd.R_drew)); exact Kd.R_mono HO176.out (fun _ hk => trivial)⟩, ⟨rU HO_8.out⟩, ⟨bS HB.out GE162.out⟩⟩
                 ·rw [if_neg c56] at H
                  exact absurd H (by simp)
                ·replace c55 := Bool.eq_false_iff.mpr c55
                 subst c55
                 have H1 : (impl_SeenBy.l0 kj30 l0 l1 a2 x7_1 x8_15 l0 (l0.length : Int) (wrap64 (x21_1 + 1))) = some r := by rw [if_neg (show ¬ (false = true) by decide)] at H; exact H
                 clear H
                 have H := H1
                 clear H1
                 have H' := am H
                 clear H
                 obtain ⟨Ao60, co60, eo60⟩ := Kd.R_slice HO_8.out
                 subst eo60
                 have p173 : 0 ≤ (x21_1 : Int) := dU
                 have q173 : x21_1 < (x8_15.length : Int) := dU
                 obtain ⟨ad173, e173, hx173_0⟩ := Kd.at_bool (Kd.R_reads' HO_8.out).2.2 x21_1 p173 q173
                 (try rw [← Nbq54.out] at hx173_0)
                 cases e173
                 replace p173 := eq_true p173
                 replace q173 := eq_true q173
                 go_wp2
                 go_roundg kj30
                 case measure => have := HK1.out; have := HJ15.out; have := HJ30.out; omega
                 case rel => exact ⟨(x7_1), (x8_15), (wrap64 (x21_1 + 1)), (by first | rfl | (simp; done) | (simp [*]; done)), H', ⟨by have := HK1.out; have := HJ15.out; have := HJ30.out; omega⟩, ⟨by (with_reducible repeat (first | apply Kd.R_alloc | apply Kd.R_drewN | apply Kd.R_drew)); exact Kd.R_mono HO_7.out (fun _ hk => trivial)⟩, ⟨rU HO_8.out⟩, ⟨bS HB.out GE162.out⟩⟩
               ·rw [if_neg c53] at H
                exact absurd H (by simp)
              ·rw [if_neg c52] at H
               exact absurd H (by simp)
        ·rw [if_neg c15] at H
         exact absurd H (by simp)
       ·rw [if_neg c14] at H
        exact absurd H (by simp)
      ·rw [if_neg c13] at H
       have c13b0 : decide (x21_1 < (l0.length : Int)) = false := decide_eq_false c13
       clear c13
       obtain rfl := Option.some.inj H
       go_wp2
       go_ret
       exact ⟨_, eU, rU HO_7.out, bU HB.out⟩
   ·rw [if_neg c7] at H
    exact absurd H (by simp)
  ·rw [if_neg c6] at H
   exact absurd H (by simp)
 ·replace c5 := Bool.eq_false_iff.mpr c5
  subst c5
  have H1 : (some y154) = some r := by rw [if_neg (show ¬ (false = true) by decide)] at H; exact H
  clear H
  have H := H1
  clear H1
  obtain rfl := Option.some.inj H
  go_enter Try.func39, Try.ntmps39
  go_wp2_with (first | ((with_reducible refine gate_dst (N := 11) rfl ?_); refine Kd.R_lit k59 _ 59 ?hg (N := 11) ?hd (xs := ([] : List (S59))) (inner := []) (ok := fun _ => True) (okp := fun _ => True) ?hr ?hp (fun _ hk => hk) trivial (Below.refl _ _) (Nat.le_refl _) (by simp) ?_; (case hd => rfl); (case hg => rfl); (case hr => first | (go_simp; done) | (go_simp; rfl)); (case hp => exact (Reps.none _ _)); intro v155 w61 ho62 hb hg_ hnew_; clear hg_ hnew_; (first | rw [← Ny154.out] at ho62 | (simp only [Int.reduceToNat] at ho62; rw [← Ny154.out] at ho62)); have n0_ := am (Kd.R_lower ho62 (below_size (bU HB.out))); have n1_ := am (below_step (bU HB.out) hb); clear HB; have HO156 := n0_; have HB := n1_; clear n0_ n1_; clear hb ho62) | ((with_reducible refine gate_callee (f := 72) rfl ?_); refine goesL_ (some 13) rfl rfl Try.func72 (by kernel_rfl) rfl #[.slice A0 l0.length c0] rfl mU ?_; (with_reducible refine (impl_IsDocument.calls k _ _ l0 false _ ?side1 ?side2 A4.out).mono ?_); (case side1 => exact cU (Kd.C_below HR0.out HB.out)); (case side2 => exact HC0.out); rintro e w63 ⟨rfl, hb⟩; refine ⟨_, rfl, ?_⟩; have n0_ := am (Kd.R_below (rU HO156.out) hb); have n1_ := am (below_step (bU HB.out) hb); clear HO156; clear HB; have HO156 := n0_; have HB := n1_; clear n0_ n1_; (try clear hb); (try clear hb2); (try clear hk); (try clear hi)))
  go_ret
  exact ⟨_, eU, rU HO156.out, bU HB.out⟩
end Go.Proofs.Ytiiibfpijmmbfaa.QFnHandles
