import Derived.Test.YtefppmgcenfemaaDoorUp
import Derived.Test.YtefppmgcenfemaaDoorQFnDocumentsx0
import Derived.Test.YtefppmgcenfemaaDoorQFnDocumentsx3
import Derived.Test.YtefppmgcenfemaaDoorQFnDocumentsx4
namespace Go.Proofs.YtefppmgcenfemaaDoor.QFnDocuments
open Go.RowKit Go.Proofs.YtefppmgcenfemaaDoorW.PrintWords Go.Proofs.YtefppmgcenfemaaDoorW.PrintLast Go.Proofs.YtefppmgcenfemaaDoorW.PrintMore
attribute [local go_sem] max2_int min2_int max_two min_two max_three min_three max_four min_four
set_option linter.unusedVariables false
set_option linter.unusedSimpArgs false
def impl_above.l0 : Nat → List (S34) → Int → Int → Option (Bool)
 | 0, _, _, _ => none
 | k + 1, x0, x1, x2 => if x1 = x2 then (some true) else ((impl_NodeOf.f k x0 x1).bind fun t224 => (if t224 ≤ 0 then (some false) else (if 0 ≤ t224 then (if t224 < (x0.length : Int) then (impl_above.l0 k x0 ((rd_T34 x0 t224).f1) x2) else (none)) else (none))))
def impl_above.f (k : Nat) (l0 : List (S34)) (a1 : Int) (a2 : Int) : Option (Bool) := impl_above.l0 k l0 a1 a2
theorem impl_above.mono_l : ∀ k, (∀ y0 y1 y2, LeO (impl_above.l0 k y0 y1 y2) (impl_above.l0 (k + 1) y0 y1 y2))
 | 0 => fun _ _ _ r h => by simp [impl_above.l0] at h
 | k + 1 => by
  have ih0 := impl_above.mono_l k
  ·intro y0 y1 y2
   unfold impl_above.l0
   repeat' first
   | (with_reducible exact ih0 _ _ _)
   | (with_reducible exact impl_NodeOf.mono _ _ _)
   | (with_reducible exact LeO.refl _)
   | (with_reducible exact LeO.none _)
   | (with_reducible refine LeO.ite ?_ ?_)
   | (with_reducible refine LeO.bind ?_ (fun _ => ?_))
   | exact ih0 _ _ _
   | exact impl_NodeOf.mono _ _ _
   | exact LeO.none _
   | refine LeO.ite ?_ ?_
   | refine LeO.bind ?_ (fun _ => ?_)
theorem impl_above.mono : ∀ a0 a1 a2 k, LeO (impl_above.f k a0 a1 a2) (impl_above.f (k + 1) a0 a1 a2) := by
 intro a0 a1 a2 k
 have ih0 := impl_above.mono_l k
 unfold impl_above.f
 repeat' first
   | (with_reducible exact ih0 _ _ _)
   | (with_reducible exact impl_NodeOf.mono _ _ _)
   | (with_reducible exact LeO.refl _)
   | (with_reducible exact LeO.none _)
   | (with_reducible refine LeO.ite ?_ ?_)
   | (with_reducible refine LeO.bind ?_ (fun _ => ?_))
   | exact ih0 _ _ _
   | exact impl_NodeOf.mono _ _ _
   | exact LeO.none _
   | refine LeO.ite ?_ ?_
   | refine LeO.bind ?_ (fun _ => ?_)
set_option maxHeartbeats 8000000 in
set_option maxRecDepth 100000 in
theorem impl_above.calls (k : Nat) (A0 : Option Addr) (c0 : Nat) (l0 : List (S34)) (a1 : Int) (a2 : Int) (r : Bool) (w : World) (hr0 : Kd.C k34 w A0 l0.length l0) (hc0 : l0.length ≤ c0) (h : impl_above.f k l0 a1 a2 = some r) :
  Calls Tryd.prog 25 #[.slice A0 l0.length c0, .int .i64 a1, .int .i64 a2] w fun e w' => e = .returned (.bool r) ∧ Below w.heap.size w w' := by
 have HR0 := am hr0
 have HC0 := am hc0
 clear hr0 hc0
 have HB := am (Below.refl w.heap.size w)
 have H : (impl_above.l0 k l0 a1 a2) = some r := h
 clear h
 have H' := am H
 clear H
 go_enter Tryd.func25, Tryd.ntmps25
 go_wp2
 go_loopg [1] k (fun kq v1 w' => ∃ (x1_1 : Int), v1 = .int .i64 x1_1 ∧ Aside0 (impl_above.l0 kq l0 x1_1 a2 = some r) ∧ Aside0 (kq ≤ k) ∧ Aside0 (Below w.heap.size w w'))
 case atStart => exact ⟨(a1), (by first | rfl | (simp; done) | (simp [*]; done)), H', ⟨Nat.le_refl _⟩, ⟨bU HB.out⟩⟩
 case round =>
  clear H'
  try clear c2
  try clear p2
  obtain ⟨x1_1, rfl, HA, HK1, HB⟩ := hrel
  cases gk with
  | zero => exact absurd HA.out (by simp [impl_above.l0])
  | succ k1 =>
   have H := HA.out
   clear HA
   simp only [impl_above.l0] at H
   by_cases c4 : x1_1 = a2
   ·rw [if_pos c4] at H
    have c4b0 : (x1_1 == a2) = true := beq_iff_eq.mpr c4
    have c4b1 : (x1_1 != a2) = false := bne_eq_false_iff_eq.mpr c4
    clear c4
    obtain rfl := Option.some.inj H
    go_wp2
    go_ret
    exact ⟨eU, bU HB.out⟩
   ·rw [if_neg c4] at H
    have c4b0 : (x1_1 == a2) = false := beq_eq_false_iff_ne.mpr c4
    have c4b1 : (x1_1 != a2) = true := bne_iff_ne.mpr c4
    replace H := Option.bind_eq_some_iff.mp H
    obtain ⟨t224, A50, H⟩ := H
    replace H : (if t224 ≤ 0 then (some false) else (if 0 ≤ t224 then (if t224 < (l0.length : Int) then (impl_above.l0 k1 l0 ((rd_T34 l0 t224).f1) a2) else (none)) else (none))) = some r := H
    have A5 := am A50
    clear A50
    by_cases c6 : t224 ≤ 0
    ·rw [if_pos c6] at H
     have c6b0 : decide (t224 ≤ 0) = true := decide_eq_true c6
     clear c6
     obtain rfl := Option.some.inj H
     go_wp2_with (first | ((with_reducible refine gate_callee (f := 10) rfl ?_); refine goesL_ (some 13) rfl rfl Tryd.func10 (by kernel_rfl) rfl #[.slice A0 l0.length c0, .int .i64 x1_1] rfl mU ?_; (with_reducible refine (impl_NodeOf.calls k1 _ _ l0 x1_1 t224 _ ?side1 ?side2 A5.out).mono ?_); (case side1 => exact cU (Kd.C_below HR0.out HB.out)); (case side2 => exact HC0.out); rintro e w7 ⟨rfl, hb⟩; refine ⟨_, rfl, ?_⟩; have n0_ := am (below_step (bU HB.out) hb); clear HB; have HB := n0_; clear n0_; (try clear hb); (try clear hb2); (try clear hk); (try clear hi)))
     go_ret
     exact ⟨eU, bU HB.out⟩
    ·rw [if_neg c6] at H
     have c6b0 : decide (t224 ≤ 0) = false := decide_eq_false c6
     clear c6
     by_cases c8 : 0 ≤ t224
     ·rw [if_pos c8] at H
      have c8b0 : decide (0 ≤ t224) = true := decide_eq_true c8
      clear c8
      by_cases c9 : t224 < (l0.length : Int)
      ·rw [if_pos c9] at H
       have c9b0 : decide (t224 < (l0.length : Int)) = true := decide_eq_true c9
       clear c9
       have H' := am H
       clear H
       go_wp2_with (first | ((with_reducible refine gate_callee (f := 10) rfl ?_); refine goesL_ (some 13) rfl rfl Tryd.func10 (by kernel_rfl) rfl #[.slice A0 l0.length c0, .int .i64 x1_1] rfl mU ?_; (with_reducible refine (impl_NodeOf.calls k1 _ _ l0 x1_1 t224 _ ?side1 ?side2 A5.out).mono ?_); (case side1 => exact cU (Kd.C_below HR0.out HB.out)); (case side2 => exact HC0.out); rintro e w10 ⟨rfl, hb⟩; refine ⟨_, rfl, ?_⟩; have n0_ := am (below_step (bU HB.out) hb); clear HB; have HB := n0_; clear n0_; (try clear hb); (try clear hb2); (try clear hk); (try clear hi); have p225 : 0 ≤ (t224 : Int) := dU; have q225 : t224 < (l0.length : Int) := dU; obtain ⟨ad225, e225, hx225_0, hx225_1, hx225_2, hx225_3, hx225_4⟩ := at_T34 HR0.out t224 p225 q225; cases e225; replace hx225_0 := cB HB.out hx225_0; replace hx225_1 := cB HB.out hx225_1; replace hx225_2 := cB HB.out hx225_2; replace hx225_3 := cB HB.out hx225_3; replace hx225_4 := cB HB.out hx225_4; replace p225 := eq_true p225; replace q225 := eq_true q225))
       go_roundg k1
       case measure => have := HK1.out; omega
       case rel => exact ⟨((rd_T34 l0 t224).f1), (by first | rfl | (simp; done) | (simp [*]; done)), H', ⟨by have := HK1.out; omega⟩, ⟨bU HB.out⟩⟩
      ·rw [if_neg c9] at H
       exact absurd H (by simp)
     ·rw [if_neg c8] at H
      exact absurd H (by simp)
def impl_IsUnder.f (k : Nat) (l0 : List (S34)) (a1 : Int) (a2 : Int) : Option (Bool) := (impl_IsDocument.f k l0).bind fun t226 => (if t226 = true then ((impl_NodeOf.f k l0 a1).bind fun t227 => (if t227 ≥ 0 then ((impl_NodeOf.f k l0 a2).bind fun t228 => (if t228 ≥ 0 then ((impl_above.f k l0 a1 a2).bind fun t229 => (some t229)) else (some false))) else (some false))) else (some false))
theorem impl_IsUnder.mono : ∀ a0 a1 a2 k, LeO (impl_IsUnder.f k a0 a1 a2) (impl_IsUnder.f (k + 1) a0 a1 a2) := by
 intro a0 a1 a2 k
 unfold impl_IsUnder.f
 repeat' first
   | (with_reducible exact impl_IsDocument.mono _ _)
   | (with_reducible exact impl_NodeOf.mono _ _ _)
   | (with_reducible exact impl_above.mono _ _ _ _)
   | (with_reducible exact LeO.refl _)
   | (with_reducible exact LeO.none _)
   | (with_reducible refine LeO.ite ?_ ?_)
   | (with_reducible refine LeO.bind ?_ (fun _ => ?_))
   | exact impl_IsDocument.mono _ _
   | exact impl_NodeOf.mono _ _ _
   | exact impl_above.mono _ _ _ _
   | exact LeO.none _
   | refine LeO.ite ?_ ?_
   | refine LeO.bind ?_ (fun _ => ?_)
set_option maxHeartbeats 8000000 in
set_option maxRecDepth 100000 in
theorem impl_IsUnder.calls (k : Nat) (A0 : Option Addr) (c0 : Nat) (l0 : List (S34)) (a1 : Int) (a2 : Int) (r : Bool) (w : World) (hr0 : Kd.C k34 w A0 l0.length l0) (hc0 : l0.length ≤ c0) (h : impl_IsUnder.f k l0 a1 a2 = some r) :
  Calls Tryd.prog 7 #[.slice A0 l0.length c0, .int .i64 a1, .int .i64 a2] w fun e w' => e = .returned (.bool r) ∧ Below w.heap.size w w' := by
 have HR0 := am hr0
 have HC0 := am hc0
 clear hr0 hc0
 have HB := am (Below.refl w.heap.size w)
 have H : ((impl_IsDocument.f k l0).bind fun t226 => (if t226 = true then ((impl_NodeOf.f k l0 a1).bind fun t227 => (if t227 ≥ 0 then ((impl_NodeOf.f k l0 a2).bind fun t228 => (if t228 ≥ 0 then ((impl_above.f k l0 a1 a2).bind fun t229 => (some t229)) else (some false))) else (some false))) else (some false))) = some r := h
 clear h
 replace H := Option.bind_eq_some_iff.mp H
 obtain ⟨t226, A40, H⟩ := H
 replace H : (if t226 = true then ((impl_NodeOf.f k l0 a1).bind fun t227 => (if t227 ≥ 0 then ((impl_NodeOf.f k l0 a2).bind fun t228 => (if t228 ≥ 0 then ((impl_above.f k l0 a1 a2).bind fun t229 => (some t229)) else (some false))) else (some false))) else (some false)) = some r := H
 have A4 := am A40
 clear A40
 by_cases c5 : t226 = true
 ·subst c5
  have H1 : ((impl_NodeOf.f k l0 a1).bind fun t227 => (if t227 ≥ 0 then ((impl_NodeOf.f k l0 a2).bind fun t228 => (if t228 ≥ 0 then ((impl_above.f k l0 a1 a2).bind fun t229 => (some t229)) else (some false))) else (some false))) = some r := by rw [if_pos rfl] at H; exact H
  clear H
  have H := H1
  clear H1
  replace H := Option.bind_eq_some_iff.mp H
  obtain ⟨t227, A60, H⟩ := H
  replace H : (if t227 ≥ 0 then ((impl_NodeOf.f k l0 a2).bind fun t228 => (if t228 ≥ 0 then ((impl_above.f k l0 a1 a2).bind fun t229 => (some t229)) else (some false))) else (some false)) = some r := H
  have A6 := am A60
  clear A60
  by_cases c7 : t227 ≥ 0
  ·rw [if_pos c7] at H
   have c7b0 : decide (0 ≤ t227) = true := decide_eq_true c7
   clear c7
   replace H := Option.bind_eq_some_iff.mp H
   obtain ⟨t228, A80, H⟩ := H
   replace H : (if t228 ≥ 0 then ((impl_above.f k l0 a1 a2).bind fun t229 => (some t229)) else (some false)) = some r := H
   have A8 := am A80
   clear A80
   by_cases c9 : t228 ≥ 0
   ·rw [if_pos c9] at H
    have c9b0 : decide (0 ≤ t228) = true := decide_eq_true c9
    clear c9
    replace H := Option.bind_eq_some_iff.mp H
    obtain ⟨t229, A100, H⟩ := H
    replace H : (some t229) = some r := H
    have A10 := am A100
    clear A100
    obtain rfl := Option.some.inj H
    go_enter Tryd.func7, Tryd.ntmps7
    go_wp2_with (first | ((with_reducible refine gate_callee (f := 8) rfl ?_); refine goesL_ (some 8) rfl rfl Tryd.func8 (by kernel_rfl) rfl #[.slice A0 l0.length c0] rfl mU ?_; (with_reducible refine (impl_IsDocument.calls k _ _ l0 true _ ?side1 ?side2 A4.out).mono ?_); (case side1 => exact cU HR0.out); (case side2 => exact HC0.out); rintro e w11 ⟨rfl, hb⟩; refine ⟨_, rfl, ?_⟩; have n0_ := am (below_step (bU HB.out) hb); clear HB; have HB := n0_; clear n0_; (try clear hb); (try clear hb2); (try clear hk); (try clear hi)) | (go_at_call 10; (with_reducible refine (impl_NodeOf.calls k _ _ l0 a1 t227 _ ?side1 ?side2 A6.out).mono ?_); (case side1 => exact cU (Kd.C_below HR0.out HB.out)); (case side2 => exact HC0.out); rintro e w12 ⟨rfl, hb⟩; have n0_ := am (below_step (bU HB.out) hb); clear HB; have HB := n0_; clear n0_; (try clear hb); (try clear hb2); (try clear hk); (try clear hi)) | (go_at_call 10; (with_reducible refine (impl_NodeOf.calls k _ _ l0 a2 t228 _ ?side1 ?side2 A8.out).mono ?_); (case side1 => exact cU (Kd.C_below HR0.out HB.out)); (case side2 => exact HC0.out); rintro e w13 ⟨rfl, hb⟩; have n0_ := am (below_step (bU HB.out) hb); clear HB; have HB := n0_; clear n0_; (try clear hb); (try clear hb2); (try clear hk); (try clear hi)) | (go_at_call 25; (with_reducible refine (impl_above.calls k _ _ l0 a1 a2 t229 _ ?side1 ?side2 A10.out).mono ?_); (case side1 => exact cU (Kd.C_below HR0.out HB.out)); (case side2 => exact HC0.out); rintro e w14 ⟨rfl, hb⟩; have n0_ := am (below_step (bU HB.out) hb); clear HB; have HB := n0_; clear n0_; (try clear hb); (try clear hb2); (try clear hk); (try clear hi)))
    go_ret
    exact ⟨eU, bU HB.out⟩
   ·rw [if_neg c9] at H
    have c9b0 : decide (0 ≤ t228) = false := decide_eq_false c9
    clear c9
    obtain rfl := Option.some.inj H
    go_enter Tryd.func7, Tryd.ntmps7
    go_wp2_with (first | ((with_reducible refine gate_callee (f := 8) rfl ?_); refine goesL_ (some 8) rfl rfl Tryd.func8 (by kernel_rfl) rfl #[.slice A0 l0.length c0] rfl mU ?_; (with_reducible refine (impl_IsDocument.calls k _ _ l0 true _ ?side1 ?side2 A4.out).mono ?_); (case side1 => exact cU HR0.out); (case side2 => exact HC0.out); rintro e w15 ⟨rfl, hb⟩; refine ⟨_, rfl, ?_⟩; have n0_ := am (below_step (bU HB.out) hb); clear HB; have HB := n0_; clear n0_; (try clear hb); (try clear hb2); (try clear hk); (try clear hi)) | (go_at_call 10; (with_reducible refine (impl_NodeOf.calls k _ _ l0 a1 t227 _ ?side1 ?side2 A6.out).mono ?_); (case side1 => exact cU (Kd.C_below HR0.out HB.out)); (case side2 => exact HC0.out); rintro e w16 ⟨rfl, hb⟩; have n0_ := am (below_step (bU HB.out) hb); clear HB; have HB := n0_; clear n0_; (try clear hb); (try clear hb2); (try clear hk); (try clear hi)) | (go_at_call 10; (with_reducible refine (impl_NodeOf.calls k _ _ l0 a2 t228 _ ?side1 ?side2 A8.out).mono ?_); (case side1 => exact cU (Kd.C_below HR0.out HB.out)); (case side2 => exact HC0.out); rintro e w17 ⟨rfl, hb⟩; have n0_ := am (below_step (bU HB.out) hb); clear HB; have HB := n0_; clear n0_; (try clear hb); (try clear hb2); (try clear hk); (try clear hi)))
    go_ret
    exact ⟨eU, bU HB.out⟩
  ·rw [if_neg c7] at H
   have c7b0 : decide (0 ≤ t227) = false := decide_eq_false c7
   clear c7
   obtain rfl := Option.some.inj H
   go_enter Tryd.func7, Tryd.ntmps7
   go_wp2_with (first | ((with_reducible refine gate_callee (f := 8) rfl ?_); refine goesL_ (some 8) rfl rfl Tryd.func8 (by kernel_rfl) rfl #[.slice A0 l0.length c0] rfl mU ?_; (with_reducible refine (impl_IsDocument.calls k _ _ l0 true _ ?side1 ?side2 A4.out).mono ?_); (case side1 => exact cU HR0.out); (case side2 => exact HC0.out); rintro e w18 ⟨rfl, hb⟩; refine ⟨_, rfl, ?_⟩; have n0_ := am (below_step (bU HB.out) hb); clear HB; have HB := n0_; clear n0_; (try clear hb); (try clear hb2); (try clear hk); (try clear hi)) | (go_at_call 10; (with_reducible refine (impl_NodeOf.calls k _ _ l0 a1 t227 _ ?side1 ?side2 A6.out).mono ?_); (case side1 => exact cU (Kd.C_below HR0.out HB.out)); (case side2 => exact HC0.out); rintro e w19 ⟨rfl, hb⟩; have n0_ := am (below_step (bU HB.out) hb); clear HB; have HB := n0_; clear n0_; (try clear hb); (try clear hb2); (try clear hk); (try clear hi)))
   go_ret
   exact ⟨eU, bU HB.out⟩
 ·replace c5 := Bool.eq_false_iff.mpr c5
  subst c5
  have H1 : (some false) = some r := by rw [if_neg (show ¬ (false = true) by decide)] at H; exact H
  clear H
  have H := H1
  clear H1
  obtain rfl := Option.some.inj H
  go_enter Tryd.func7, Tryd.ntmps7
  go_wp2_with (first | ((with_reducible refine gate_callee (f := 8) rfl ?_); refine goesL_ (some 8) rfl rfl Tryd.func8 (by kernel_rfl) rfl #[.slice A0 l0.length c0] rfl mU ?_; (with_reducible refine (impl_IsDocument.calls k _ _ l0 false _ ?side1 ?side2 A4.out).mono ?_); (case side1 => exact cU HR0.out); (case side2 => exact HC0.out); rintro e w20 ⟨rfl, hb⟩; refine ⟨_, rfl, ?_⟩; have n0_ := am (below_step (bU HB.out) hb); clear HB; have HB := n0_; clear n0_; (try clear hb); (try clear hb2); (try clear hk); (try clear hi)))
  go_ret
  exact ⟨eU, bU HB.out⟩
def spec_l1In.f (a0 : Int) (a1 : Int) (a2 : Int) : Option (Bool) := if a0 ≥ a1 then (some (decide (a0 ≤ a2))) else (some false)
set_option maxHeartbeats 8000000 in
set_option maxRecDepth 100000 in
theorem spec_l1In.calls (a0 : Int) (a1 : Int) (a2 : Int) (r : Bool) (w : World) (h : spec_l1In.f a0 a1 a2 = some r) :
  Calls Tryd.prog 27 #[.int .i64 a0, .int .i64 a1, .int .i64 a2] w fun e w' => e = .returned (.bool r) ∧ Drawn0 w w' := by
 have H : (if a0 ≥ a1 then (some (decide (a0 ≤ a2))) else (some false)) = some r := h
 clear h
 by_cases c4 : a0 ≥ a1
 ·rw [if_pos c4] at H
  have c4b0 : decide (a1 ≤ a0) = true := decide_eq_true c4
  clear c4
  obtain rfl := Option.some.inj H
  go_enter Tryd.func27, Tryd.ntmps27
  go_wp2
  go_ret
  exact ⟨by first | rfl | (simp; done) | (simp [*]; done), by repeat (first | exact Drawn0.refl _ | apply Drawn0.step)⟩
 ·rw [if_neg c4] at H
  have c4b0 : decide (a1 ≤ a0) = false := decide_eq_false c4
  clear c4
  obtain rfl := Option.some.inj H
  go_enter Tryd.func27, Tryd.ntmps27
  go_wp2
  go_ret
  exact ⟨by first | rfl | (simp; done) | (simp [*]; done), by repeat (first | exact Drawn0.refl _ | apply Drawn0.step)⟩
def spec_NodeOf.l0 : Nat → List (S34) → Int → Int → Option (Int)
 | 0, _, _, _ => none
 | k + 1, x0, x1, x5 => if x5 < (x0.length : Int) then (if 0 ≤ x5 then (if ((rd_T34 x0 x5).f0) = x1 then (some x5) else (spec_NodeOf.l0 k x0 x1 (wrap64 (x5 + 1)))) else (none)) else (some (-1))
def spec_NodeOf.f (k : Nat) (l0 : List (S34)) (a1 : Int) : Option (Int) := spec_NodeOf.l0 k l0 a1 0
theorem spec_NodeOf.mono_l : ∀ k, (∀ y0 y1 y2, LeO (spec_NodeOf.l0 k y0 y1 y2) (spec_NodeOf.l0 (k + 1) y0 y1 y2))
 | 0 => fun _ _ _ r h => by simp [spec_NodeOf.l0] at h
 | k + 1 => by
  have ih0 := spec_NodeOf.mono_l k
  ·intro y0 y1 y2
   unfold spec_NodeOf.l0
   repeat' first
   | (with_reducible exact ih0 _ _ _)
   | (with_reducible exact LeO.refl _)
   | (with_reducible exact LeO.none _)
   | (with_reducible refine LeO.ite ?_ ?_)
   | (with_reducible refine LeO.bind ?_ (fun _ => ?_))
   | exact ih0 _ _ _
   | exact LeO.none _
   | refine LeO.ite ?_ ?_
   | refine LeO.bind ?_ (fun _ => ?_)
theorem spec_NodeOf.mono : ∀ a0 a1 k, LeO (spec_NodeOf.f k a0 a1) (spec_NodeOf.f (k + 1) a0 a1) := by
 intro a0 a1 k
 have ih0 := spec_NodeOf.mono_l k
 unfold spec_NodeOf.f
 repeat' first
   | (with_reducible exact ih0 _ _ _)
   | (with_reducible exact LeO.refl _)
   | (with_reducible exact LeO.none _)
   | (with_reducible refine LeO.ite ?_ ?_)
   | (with_reducible refine LeO.bind ?_ (fun _ => ?_))
   | exact ih0 _ _ _
   | exact LeO.none _
   | refine LeO.ite ?_ ?_
   | refine LeO.bind ?_ (fun _ => ?_)
set_option maxHeartbeats 8000000 in
set_option maxRecDepth 100000 in
theorem spec_NodeOf.calls (k : Nat) (A0 : Option Addr) (c0 : Nat) (l0 : List (S34)) (a1 : Int) (r : Int) (w : World) (hr0 : Kd.C k34 w A0 l0.length l0) (hc0 : l0.length ≤ c0) (h : spec_NodeOf.f k l0 a1 = some r) :
  Calls Tryd.prog 28 #[.slice A0 l0.length c0, .int .i64 a1] w fun e w' => e = .returned (.int .i64 r) ∧ Drawn0 w w' := by
 have HR0 := am hr0
 have HC0 := am hc0
 clear hr0 hc0
 have H : (spec_NodeOf.l0 k l0 a1 0) = some r := h
 clear h
 have H' := am H
 clear H
 go_enter Tryd.func28, Tryd.ntmps28
 go_wp2
 go_loopg [5] k (fun kq v5 w' => ∃ (x5_1 : Int), v5 = .int .i64 x5_1 ∧ Aside0 (spec_NodeOf.l0 kq l0 a1 x5_1 = some r) ∧ Aside0 (kq ≤ k) ∧ Drawn0 w w')
 case atStart => exact ⟨(0), (by first | rfl | (simp; done) | (simp [*]; done)), H', ⟨Nat.le_refl _⟩, by repeat (first | exact Drawn0.refl _ | apply Drawn0.step)⟩
 case round =>
  clear H'
  try clear c2
  try clear p2
  obtain ⟨x5_1, rfl, HA, HK1, ⟨m1, rfl⟩⟩ := hrel
  cases gk with
  | zero => exact absurd HA.out (by simp [spec_NodeOf.l0])
  | succ k1 =>
   have H := HA.out
   clear HA
   simp only [spec_NodeOf.l0] at H
   by_cases c3 : x5_1 < (l0.length : Int)
   ·rw [if_pos c3] at H
    have c3b0 : decide (x5_1 < (l0.length : Int)) = true := decide_eq_true c3
    clear c3
    by_cases c4 : 0 ≤ x5_1
    ·rw [if_pos c4] at H
     have c4b0 : decide (0 ≤ x5_1) = true := decide_eq_true c4
     clear c4
     by_cases c5 : ((rd_T34 l0 x5_1).f0) = a1
     ·rw [if_pos c5] at H
      have c5b0 : (((rd_T34 l0 x5_1).f0) == a1) = true := beq_iff_eq.mpr c5
      have c5b1 : (((rd_T34 l0 x5_1).f0) != a1) = false := bne_eq_false_iff_eq.mpr c5
      clear c5
      obtain rfl := Option.some.inj H
      have p230 : 0 ≤ (x5_1 : Int) := dU
      have q230 : x5_1 < (l0.length : Int) := dU
      obtain ⟨ad230, e230, hx230_0, hx230_1, hx230_2, hx230_3, hx230_4⟩ := at_T34 HR0.out x5_1 p230 q230
      cases e230
      replace p230 := eq_true p230
      replace q230 := eq_true q230
      go_wp2
      go_ret
      exact ⟨by first | rfl | (simp; done) | (simp [*]; done), by repeat (first | exact Drawn0.refl _ | apply Drawn0.step)⟩
     ·rw [if_neg c5] at H
      have c5b0 : (((rd_T34 l0 x5_1).f0) == a1) = false := beq_eq_false_iff_ne.mpr c5
      have c5b1 : (((rd_T34 l0 x5_1).f0) != a1) = true := bne_iff_ne.mpr c5
      have H' := am H
      clear H
      have p230 : 0 ≤ (x5_1 : Int) := dU
      have q230 : x5_1 < (l0.length : Int) := dU
      obtain ⟨ad230, e230, hx230_0, hx230_1, hx230_2, hx230_3, hx230_4⟩ := at_T34 HR0.out x5_1 p230 q230
      cases e230
      replace p230 := eq_true p230
      replace q230 := eq_true q230
      go_wp2
      go_roundg k1
      case measure => have := HK1.out; omega
      case rel => exact ⟨(wrap64 (x5_1 + 1)), (by first | rfl | (simp; done) | (simp [*]; done)), H', ⟨by have := HK1.out; omega⟩, by repeat (first | exact Drawn0.refl _ | apply Drawn0.step)⟩
    ·rw [if_neg c4] at H
     exact absurd H (by simp)
   ·rw [if_neg c3] at H
    have c3b0 : decide (x5_1 < (l0.length : Int)) = false := decide_eq_false c3
    clear c3
    obtain rfl := Option.some.inj H
    go_wp2
    go_ret
    exact ⟨by first | rfl | (simp; done) | (simp [*]; done), by repeat (first | exact Drawn0.refl _ | apply Drawn0.step)⟩
end Go.Proofs.YtefppmgcenfemaaDoor.QFnDocuments
