import Derived.Test.YtiiibfpijmmbfaaUp
import Derived.Test.YtiiibfpijmmbfaaShelf
import Derived.Test.YtiiibfpijmmbfaaQFnExactLostWithx0
import Derived.Test.YtiiibfpijmmbfaaQFnExactLostWithx10
import Derived.Test.YtiiibfpijmmbfaaQFnExactLostWithx13
namespace Go.Proofs.Ytiiibfpijmmbfaa.QFnExactLostWith
open Go.RowKit Go.Proofs.YtiiibfpijmmbfaaW.PrintWords Go.Proofs.YtiiibfpijmmbfaaW.PrintLast Go.Proofs.YtiiibfpijmmbfaaW.PrintMore
attribute [local go_sem] max2_int min2_int max_two min_two max_three min_three max_four min_four
set_option linter.unusedVariables false
set_option linter.unusedSimpArgs false
def impl_RunEdits.l0 : Nat → List (S59) → List (S30) → Int → Int → Option ((List (S59)))
 | 0, _, _, _, _ => none
 | k + 1, x5, x10, x11, x12 => if x12 < x11 then (if 0 ≤ x12 then (if x12 < (x10.length : Int) then ((impl_ApplyEdit.f k x5 ((rd_T30 x10 x12).f0) ((rd_T30 x10 x12).f1) ((rd_T30 x10 x12).f2) ((rd_T30 x10 x12).f3) ((rd_T30 x10 x12).f4) ((rd_T30 x10 x12).f5)).bind fun bt409 => (impl_RunEdits.l0 k bt409.1 x10 x11 (wrap64 (x12 + 1)))) else (none)) else (none)) else (some x5)
def impl_RunEdits.f (k : Nat) (l0 : List (S59)) (l1 : List (S30)) : Option ((List (S59))) := (impl_Node_71.f l0).bind fun t404 => (impl_RunEdits.l0 k t404 l1 (l1.length : Int) 0)
theorem impl_RunEdits.mono_l : ∀ k, (∀ y0 y1 y2 y3, LeO (impl_RunEdits.l0 k y0 y1 y2 y3) (impl_RunEdits.l0 (k + 1) y0 y1 y2 y3))
 | 0 => fun _ _ _ _ r h => by simp [impl_RunEdits.l0] at h
 | k + 1 => by
  have ih0 := impl_RunEdits.mono_l k
  ·intro y0 y1 y2 y3
   unfold impl_RunEdits.l0
   repeat' first
   | (with_reducible exact ih0 _ _ _ _)
   | (with_reducible exact impl_ApplyEdit.mono _ _ _ _ _ _ _ _)
   | (with_reducible exact LeO.refl _)
   | (with_reducible exact LeO.none _)
   | (with_reducible refine LeO.ite ?_ ?_)
   | (with_reducible refine LeO.bind ?_ (fun _ => ?_))
   | exact ih0 _ _ _ _
   | exact impl_ApplyEdit.mono _ _ _ _ _ _ _ _
   | exact LeO.none _
   | refine LeO.ite ?_ ?_
   | refine LeO.bind ?_ (fun _ => ?_)
theorem impl_RunEdits.mono : ∀ a0 a1 k, LeO (impl_RunEdits.f k a0 a1) (impl_RunEdits.f (k + 1) a0 a1) := by
 intro a0 a1 k
 have ih0 := impl_RunEdits.mono_l k
 unfold impl_RunEdits.f
 repeat' first
   | (with_reducible exact ih0 _ _ _ _)
   | (with_reducible exact impl_ApplyEdit.mono _ _ _ _ _ _ _ _)
   | (with_reducible exact LeO.refl _)
   | (with_reducible exact LeO.none _)
   | (with_reducible refine LeO.ite ?_ ?_)
   | (with_reducible refine LeO.bind ?_ (fun _ => ?_))
   | exact ih0 _ _ _ _
   | exact impl_ApplyEdit.mono _ _ _ _ _ _ _ _
   | exact LeO.none _
   | refine LeO.ite ?_ ?_
   | refine LeO.bind ?_ (fun _ => ?_)
set_option maxHeartbeats 8000000 in
set_option maxRecDepth 100000 in
theorem impl_RunEdits.calls (k : Nat) (A0 : Option Addr) (c0 : Nat) (l0 : List (S59)) (A1 : Option Addr) (c1 : Nat) (l1 : List (S30)) (r : List (S59)) (w : World) (hr0 : Kd.C k59 w A0 l0.length l0) (hc0 : l0.length ≤ c0) (hr1 : Kd.C k30 w A1 l1.length l1) (hc1 : l1.length ≤ c1) (h : impl_RunEdits.f k l0 l1 = some r) :
  Calls Try.prog 25 #[.slice A0 l0.length c0, .slice A1 l1.length c1] w fun e w' => ∃ v0_ : Value, e = .returned (v0_) ∧ Kd.R k59 59 w' w.heap.size (fun _ => True) v0_ r ∧ Below w.heap.size w w' := by
 have hu30 := Try.underlying30
 have HR0 := am hr0
 have HC0 := am hc0
 clear hr0 hc0
 have HR1 := am hr1
 have HC1 := am hc1
 clear hr1 hc1
 have HB := am (Below.refl w.heap.size w)
 have H : ((impl_Node_71.f l0).bind fun t404 => (impl_RunEdits.l0 k t404 l1 (l1.length : Int) 0)) = some r := h
 clear h
 replace H := Option.bind_eq_some_iff.mp H
 obtain ⟨t404, A30, H⟩ := H
 replace H : (impl_RunEdits.l0 k t404 l1 (l1.length : Int) 0) = some r := H
 have A3 := am A30
 clear A30
 have H' := am H
 clear H
 go_enter Try.func25, Try.ntmps25
 go_wp2_with (first | ((with_reducible refine gate_callee (f := 71) rfl ?_); refine goesL_ (some 9) rfl rfl Try.func71 (by kernel_rfl) rfl #[.slice A0 l0.length c0] rfl mU ?_; (with_reducible refine (impl_Node_71.calls _ _ l0 t404 _ ?side1 ?side2 A3.out).mono ?_); (case side1 => exact cU HR0.out); (case side2 => exact HC0.out); rintro e w4 ⟨v405, rfl, ho0, hb⟩; refine ⟨_, rfl, ?_⟩; have n0_ := am (Kd.R_lower ho0 (below_size (bU HB.out))); have n1_ := am (below_step (bU HB.out) hb); clear HB; have HO406 := n0_; have HB := n1_; clear n0_ n1_; (try clear hb); (try clear hb2); (try clear hk); (try clear hi); (try clear ho0)))
 go_loopg [5, 12] k (fun kq v5 v12 w' => ∃ (x5_1 : List (S59)) (x12_1 : Int), v12 = .int .i64 x12_1 ∧ Aside0 (impl_RunEdits.l0 kq x5_1 l1 (l1.length : Int) x12_1 = some r) ∧ Aside0 (kq ≤ k) ∧ Aside0 (Kd.R k59 59 w' w.heap.size (fun _ => True) v5 x5_1) ∧ Aside0 (Below w.heap.size w w'))
 case atStart => exact ⟨(t404), (0), (by first | rfl | (simp; done) | (simp [*]; done)), H', ⟨Nat.le_refl _⟩, ⟨rU HO406.out⟩, ⟨bU HB.out⟩⟩
 case round =>
  clear H'
  try clear c1
  try clear c2
  try clear p2
  obtain ⟨x5_1, x12_1, rfl, HA, HK1, HO_5, HB⟩ := hrel
  cases gk with
  | zero => exact absurd HA.out (by simp [impl_RunEdits.l0])
  | succ k1 =>
   have H := HA.out
   clear HA
   simp only [impl_RunEdits.l0] at H
   by_cases c5 : x12_1 < (l1.length : Int)
   ·rw [if_pos c5] at H
    have c5b0 : decide (x12_1 < (l1.length : Int)) = true := decide_eq_true c5
    clear c5
    by_cases c6 : 0 ≤ x12_1
    ·rw [if_pos c6] at H
     have c6b0 : decide (0 ≤ x12_1) = true := decide_eq_true c6
     clear c6
     by_cases c7 : x12_1 < (l1.length : Int)
     ·rw [if_pos c7] at H
      have c7b0 : decide (x12_1 < (l1.length : Int)) = true := decide_eq_true c7
      clear c7
      replace H := Option.bind_eq_some_iff.mp H
      obtain ⟨⟨t409, t412⟩, A80, H⟩ := H
      replace H : (impl_RunEdits.l0 k1 t409 l1 (l1.length : Int) (wrap64 (x12_1 + 1))) = some r := H
      have A8 := am A80
      clear A80
      have H' := am H
      clear H
      have p407 : 0 ≤ (x12_1 : Int) := dU
      have q407 : x12_1 < (l1.length : Int) := dU
      obtain ⟨ad407, e407, hx407_0, hx407_1, hx407_2, hx407_3, hx407_4, hx407_5⟩ := at_T30 HR1.out x12_1 p407 q407
      cases e407
      replace hx407_0 := cB HB.out hx407_0
      replace hx407_1 := cB HB.out hx407_1
      replace hx407_2 := cB HB.out hx407_2
      replace hx407_3 := cB HB.out hx407_3
      replace hx407_4 := cB HB.out hx407_4
      replace hx407_5 := cB HB.out hx407_5
      replace p407 := eq_true p407
      replace q407 := eq_true q407
      go_wp2_with (first | ((with_reducible refine gate_dst (N := 7) rfl ?_); refine box_event ?hg (N := 7) ?hd (cs := #[.int .i64 0, .int .i64 0, .int .i64 0, .int .i64 0, .int .i64 0, .int .i64 0]) (t := 30) ?hr ?_; (case hd => rfl); (case hg => rfl); (case hr => first | (go_simp; done) | (go_simp; rfl)); intro gb408 hg w9 hbox hb; have n0_ := am (Kd.R_below (rU HO_5.out) hb); have n1_ := am (below_step (bU HB.out) hb); have n2_ := am (hbox); have n3_ := am ((by rw [hg]; exact (below_size (bU HB.out)) : w.heap.size ≤ gb408)); have n4_ := am ((by rw [hg]; exact (below_size (bU HB.out)) : w.heap.size ≤ gb408)); clear HO_5; clear HB; have HO_5 := n0_; have HB := n1_; have BK408 := n2_; have GW408 := n3_; have GE408 := n4_; clear n0_ n1_ n2_ n3_ n4_; clear hb hbox hg; obtain ⟨hcz10_0, hcz10_1, hcz10_2, hcz10_3, hcz10_4, hcz10_5⟩ := bc6 BK408.out; obtain ⟨hfz10_0, hfz10_1, hfz10_2, hfz10_3, hfz10_4, hfz10_5⟩ := bf6 BK408.out; obtain ⟨Ao11, co11, eo11⟩ := Kd.R_slice HO_5.out; subst eo11) | ((with_reducible refine gate_callee (f := 18) rfl ?_); refine goesL_ (some 19) rfl rfl Try.func18 (by kernel_rfl) rfl #[.slice Ao11 x5_1.length co11, .agg #[.int .i64 ((rd_T30 l1 x12_1).f0), .int .i64 ((rd_T30 l1 x12_1).f1), .int .i64 ((rd_T30 l1 x12_1).f2), .int .i64 ((rd_T30 l1 x12_1).f3), .int .i64 ((rd_T30 l1 x12_1).f4), .int .i64 ((rd_T30 l1 x12_1).f5)]] rfl mU ?_; (with_reducible refine (impl_ApplyEdit.calls k1 _ _ x5_1 ((rd_T30 l1 x12_1).f0) ((rd_T30 l1 x12_1).f1) ((rd_T30 l1 x12_1).f2) ((rd_T30 l1 x12_1).f3) ((rd_T30 l1 x12_1).f4) ((rd_T30 l1 x12_1).f5) t409 t412 _ ?side1 ?side2 A8.out).mono ?_); (case side1 => refine (Kd.R_reads' (e := 59) (base := w.heap.size) (ok := fun k_ => True) (n := x5_1.length) (c := co11) ?_).2.2; exact (by (with_reducible repeat (first | apply Kd.R_alloc | apply Kd.R_drewN | apply Kd.R_drew)); exact (Kd.R_mono (Kd.R_far (p := ⟨gb408, 5, none⟩) (Kd.R_far (p := ⟨gb408, 4, none⟩) (Kd.R_far (p := ⟨gb408, 3, none⟩) (Kd.R_far (p := ⟨gb408, 2, none⟩) (Kd.R_far (p := ⟨gb408, 1, none⟩) (Kd.R_far (p := ⟨gb408, 0, none⟩) (Kd.R_types HO_5.out BK408.out (by decide)) (fun _ hk => hk.2) (.int .i64 ((rd_T30 l1 x12_1).f0))) (fun _ hk => hk.2) (.int .i64 ((rd_T30 l1 x12_1).f1))) (fun _ hk => hk.2) (.int .i64 ((rd_T30 l1 x12_1).f2))) (fun _ hk => hk.2) (.int .i64 ((rd_T30 l1 x12_1).f3))) (fun _ hk => hk.2) (.int .i64 ((rd_T30 l1 x12_1).f4))) (fun _ hk => hk.2) (.int .i64 ((rd_T30 l1 x12_1).f5))) (fun _ h_ => h_.1)))); (case side2 => exact (Kd.R_reads' HO_5.out).2.1); rintro e w12 ⟨v410, rfl, ho0, hb⟩; refine ⟨_, rfl, ?_⟩; have n0_ := am (Kd.R_elder' (by (with_reducible repeat (first | apply Kd.R_alloc | apply Kd.R_drewN | apply Kd.R_drew)); exact (Kd.R_mono (Kd.R_far (p := ⟨gb408, 5, none⟩) (Kd.R_far (p := ⟨gb408, 4, none⟩) (Kd.R_far (p := ⟨gb408, 3, none⟩) (Kd.R_far (p := ⟨gb408, 2, none⟩) (Kd.R_far (p := ⟨gb408, 1, none⟩) (Kd.R_far (p := ⟨gb408, 0, none⟩) (Kd.R_types HO_5.out BK408.out (by decide)) (fun _ hk => hk.2) (.int .i64 ((rd_T30 l1 x12_1).f0))) (fun _ hk => hk.2) (.int .i64 ((rd_T30 l1 x12_1).f1))) (fun _ hk => hk.2) (.int .i64 ((rd_T30 l1 x12_1).f2))) (fun _ hk => hk.2) (.int .i64 ((rd_T30 l1 x12_1).f3))) (fun _ hk => hk.2) (.int .i64 ((rd_T30 l1 x12_1).f4))) (fun _ hk => hk.2) (.int .i64 ((rd_T30 l1 x12_1).f5))) (fun _ h_ => h_.1))) (Kd.R_base ho0) hb); have n1_ := am (Kd.R_lower (Kd.R_new' ho0 (Kd.R_lt (by (with_reducible repeat (first | apply Kd.R_alloc | apply Kd.R_drewN | apply Kd.R_drew)); exact (Kd.R_mono (Kd.R_far (p := ⟨gb408, 5, none⟩) (Kd.R_far (p := ⟨gb408, 4, none⟩) (Kd.R_far (p := ⟨gb408, 3, none⟩) (Kd.R_far (p := ⟨gb408, 2, none⟩) (Kd.R_far (p := ⟨gb408, 1, none⟩) (Kd.R_far (p := ⟨gb408, 0, none⟩) (Kd.R_types HO_5.out BK408.out (by decide)) (fun _ hk => hk.2) (.int .i64 ((rd_T30 l1 x12_1).f0))) (fun _ hk => hk.2) (.int .i64 ((rd_T30 l1 x12_1).f1))) (fun _ hk => hk.2) (.int .i64 ((rd_T30 l1 x12_1).f2))) (fun _ hk => hk.2) (.int .i64 ((rd_T30 l1 x12_1).f3))) (fun _ hk => hk.2) (.int .i64 ((rd_T30 l1 x12_1).f4))) (fun _ hk => hk.2) (.int .i64 ((rd_T30 l1 x12_1).f5))) (fun _ h_ => h_.1))))) (below_size (bS HB.out GE408.out))); have n2_ := am (blk_below (g := gb408) (o := .cells #[.int .i64 ((rd_T30 l1 x12_1).f0), .int .i64 ((rd_T30 l1 x12_1).f1), .int .i64 ((rd_T30 l1 x12_1).f2), .int .i64 ((rd_T30 l1 x12_1).f3), .int .i64 ((rd_T30 l1 x12_1).f4), .int .i64 ((rd_T30 l1 x12_1).f5)] 30 (0, 0)) (by (with_reducible repeat (first | refine blk_drewN ?_ _ | refine blk_drew ?_ | refine blk_alloc ?_ _)); refine blk_put (cs := #[.int .i64 ((rd_T30 l1 x12_1).f0), .int .i64 ((rd_T30 l1 x12_1).f1), .int .i64 ((rd_T30 l1 x12_1).f2), .int .i64 ((rd_T30 l1 x12_1).f3), .int .i64 ((rd_T30 l1 x12_1).f4), .int .i64 0]) ?_ 5 _ rfl; (with_reducible repeat (first | refine blk_drewN ?_ _ | refine blk_drew ?_ | refine blk_alloc ?_ _)); refine blk_put (cs := #[.int .i64 ((rd_T30 l1 x12_1).f0), .int .i64 ((rd_T30 l1 x12_1).f1), .int .i64 ((rd_T30 l1 x12_1).f2), .int .i64 ((rd_T30 l1 x12_1).f3), .int .i64 0, .int .i64 0]) ?_ 4 _ rfl; (with_reducible repeat (first | refine blk_drewN ?_ _ | refine blk_drew ?_ | refine blk_alloc ?_ _)); refine blk_put (cs := #[.int .i64 ((rd_T30 l1 x12_1).f0), .int .i64 ((rd_T30 l1 x12_1).f1), .int .i64 ((rd_T30 l1 x12_1).f2), .int .i64 0, .int .i64 0, .int .i64 0]) ?_ 3 _ rfl; (with_reducible repeat (first | refine blk_drewN ?_ _ | refine blk_drew ?_ | refine blk_alloc ?_ _)); refine blk_put (cs := #[.int .i64 ((rd_T30 l1 x12_1).f0), .int .i64 ((rd_T30 l1 x12_1).f1), .int .i64 0, .int .i64 0, .int .i64 0, .int .i64 0]) ?_ 2 _ rfl; (with_reducible repeat (first | refine blk_drewN ?_ _ | refine blk_drew ?_ | refine blk_alloc ?_ _)); refine blk_put (cs := #[.int .i64 ((rd_T30 l1 x12_1).f0), .int .i64 0, .int .i64 0, .int .i64 0, .int .i64 0, .int .i64 0]) ?_ 1 _ rfl; (with_reducible repeat (first | refine blk_drewN ?_ _ | refine blk_drew ?_ | refine blk_alloc ?_ _)); refine blk_put (cs := #[.int .i64 0, .int .i64 0, .int .i64 0, .int .i64 0, .int .i64 0, .int .i64 0]) ?_ 0 _ rfl; exact kU BK408.out) hb); have n3_ := am (below_step (bS HB.out GE408.out) hb); clear HO_5; clear BK408; clear HB; have HO_5 := n0_; have HO411 := n1_; have BK408 := n2_; have HB := n3_; clear n0_ n1_ n2_ n3_; (try clear hb); (try clear hb2); (try clear hk); (try clear hi); (try clear ho0)))
      go_roundg k1
      case measure => have := HK1.out; omega
      case rel => exact ⟨(t409), (wrap64 (x12_1 + 1)), (by first | rfl | (simp; done) | (simp [*]; done)), H', ⟨by have := HK1.out; omega⟩, ⟨by (with_reducible repeat (first | apply Kd.R_alloc | apply Kd.R_drewN | apply Kd.R_drew)); exact Kd.R_mono HO411.out (fun _ hk => trivial)⟩, ⟨bS HB.out GE408.out⟩⟩
     ·rw [if_neg c7] at H
      exact absurd H (by simp)
    ·rw [if_neg c6] at H
     exact absurd H (by simp)
   ·rw [if_neg c5] at H
    have c5b0 : decide (x12_1 < (l1.length : Int)) = false := decide_eq_false c5
    clear c5
    obtain rfl := Option.some.inj H
    go_wp2
    go_ret
    exact ⟨_, eU, rU HO_5.out, bU HB.out⟩
def impl_editsOf.l0 : Nat → Int → Bool → List (S30) → List (S30) → Int → Int → Option ((List (S30)))
 | 0, _, _, _, _, _, _ => none
 | k + 1, x1, x2, x7, x11, x12, x13 => if x13 < x12 then (if 0 ≤ x13 then (if x13 < (x11.length : Int) then (if ((((rd_T30 x11 x13).f5) == x1) == x2) = true then (if x7.length < 2932031007402 then (impl_editsOf.l0 k x1 x2 (x7 ++ [(⟨(rd_T30 x11 x13).f0, (rd_T30 x11 x13).f1, (rd_T30 x11 x13).f2, (rd_T30 x11 x13).f3, (rd_T30 x11 x13).f4, (rd_T30 x11 x13).f5⟩ : S30)]) x11 x12 (wrap64 (x13 + 1))) else (none)) else (impl_editsOf.l0 k x1 x2 x7 x11 x12 (wrap64 (x13 + 1)))) else (none)) else (none)) else (some x7)
def impl_editsOf.f (k : Nat) (l0 : List (S30)) (a1 : Int) (a2 : Bool) : Option ((List (S30))) := impl_editsOf.l0 k a1 a2 (([] : List (S30))) l0 (l0.length : Int) 0
theorem impl_editsOf.mono_l : ∀ k, (∀ y0 y1 y2 y3 y4 y5, LeO (impl_editsOf.l0 k y0 y1 y2 y3 y4 y5) (impl_editsOf.l0 (k + 1) y0 y1 y2 y3 y4 y5))
 | 0 => fun _ _ _ _ _ _ r h => by simp [impl_editsOf.l0] at h
 | k + 1 => by
  have ih0 := impl_editsOf.mono_l k
  ·intro y0 y1 y2 y3 y4 y5
   unfold impl_editsOf.l0
   repeat' first
   | (with_reducible exact ih0 _ _ _ _ _ _)
   | (with_reducible exact LeO.refl _)
   | (with_reducible exact LeO.none _)
   | (with_reducible refine LeO.ite ?_ ?_)
   | (with_reducible refine LeO.bind ?_ (fun _ => ?_))
   | exact ih0 _ _ _ _ _ _
   | exact LeO.none _
   | refine LeO.ite ?_ ?_
   | refine LeO.bind ?_ (fun _ => ?_)
theorem impl_editsOf.mono : ∀ a0 a1 a2 k, LeO (impl_editsOf.f k a0 a1 a2) (impl_editsOf.f (k + 1) a0 a1 a2) := by
 intro a0 a1 a2 k
 have ih0 := impl_editsOf.mono_l k
 unfold impl_editsOf.f
 repeat' first
   | (with_reducible exact ih0 _ _ _ _ _ _)
   | (with_reducible exact LeO.refl _)
   | (with_reducible exact LeO.none _)
   | (with_reducible refine LeO.ite ?_ ?_)
   | (with_reducible refine LeO.bind ?_ (fun _ => ?_))
   | exact ih0 _ _ _ _ _ _
   | exact LeO.none _
   | refine LeO.ite ?_ ?_
   | refine LeO.bind ?_ (fun _ => ?_)
set_option maxHeartbeats 8000000 in
set_option maxRecDepth 100000 in
theorem impl_editsOf.calls (k : Nat) (A0 : Option Addr) (c0 : Nat) (l0 : List (S30)) (a1 : Int) (a2 : Bool) (r : List (S30)) (w : World) (hr0 : Kd.C k30 w A0 l0.length l0) (hc0 : l0.length ≤ c0) (h : impl_editsOf.f k l0 a1 a2 = some r) :
  Calls Try.prog 101 #[.slice A0 l0.length c0, .int .i64 a1, .bool a2] w fun e w' => ∃ v0_ : Value, e = .returned (v0_) ∧ Kd.R k30 30 w' w.heap.size (fun _ => True) v0_ r ∧ Below w.heap.size w w' := by
 have hu30 := Try.underlying30
 have HR0 := am hr0
 have HC0 := am hc0
 clear hr0 hc0
 have HB := am (Below.refl w.heap.size w)
 have H : (impl_editsOf.l0 k a1 a2 (([] : List (S30))) l0 (l0.length : Int) 0) = some r := h
 clear h
 obtain ⟨y413, hy413⟩ : ∃ y_ : List (S30), y_ = (([] : List (S30))) := ⟨_, rfl⟩
 replace H : (impl_editsOf.l0 k a1 a2 y413 l0 (l0.length : Int) 0) = some r := by first | (rw [hy413]; with_reducible exact H) | (have H2_ := (Option.bind_some _ _).symm.trans H; rw [hy413]; with_reducible exact H2_) | (have H2_ := (Option.bind_some _ _).symm.trans H; with_reducible exact H2_) | with_reducible exact H | (rw [hy413]; exact H) | exact H
 have Ny413 := am hy413
 clear hy413
 have H' := am H
 clear H
 go_enter Try.func101, Try.ntmps101
 go_wp2_with (first | ((with_reducible refine gate_dst (N := 10) rfl ?_); refine Kd.R_lit k30 _ 30 ?hg (N := 10) ?hd (xs := ([] : List (S30))) (inner := []) (ok := fun _ => True) (okp := fun _ => True) ?hr ?hp (fun _ hk => hk) trivial (Below.refl _ _) (Nat.le_refl _) (by simp) ?_; (case hd => rfl); (case hg => rfl); (case hr => first | (go_simp; done) | (go_simp; rfl)); (case hp => exact (Reps.none _ _)); intro v414 w4 ho5 hb hg_ hnew_; clear hg_ hnew_; (first | rw [← Ny413.out] at ho5 | (simp only [Int.reduceToNat] at ho5; rw [← Ny413.out] at ho5)); have n0_ := am (Kd.R_lower ho5 (below_size (bU HB.out))); have n1_ := am (below_step (bU HB.out) hb); clear HB; have HO415 := n0_; have HB := n1_; clear n0_ n1_; clear hb ho5))
 go_loopg [7, 13] k (fun kq v7 v13 w' => ∃ (x7_1 : List (S30)) (x13_1 : Int), v13 = .int .i64 x13_1 ∧ Aside0 (impl_editsOf.l0 kq a1 a2 x7_1 l0 (l0.length : Int) x13_1 = some r) ∧ Aside0 (kq ≤ k) ∧ Aside0 (Kd.R k30 30 w' w.heap.size (fun _ => True) v7 x7_1) ∧ Aside0 (Below w.heap.size w w'))
 case atStart => exact ⟨(y413), (0), (by first | rfl | (simp; done) | (simp [*]; done)), H', ⟨Nat.le_refl _⟩, ⟨rU HO415.out⟩, ⟨bU HB.out⟩⟩
 case round =>
  clear H'
  try clear c1
  try clear p2
  obtain ⟨x7_1, x13_1, rfl, HA, HK1, HO_7, HB⟩ := hrel
  cases gk with
  | zero => exact absurd HA.out (by simp [impl_editsOf.l0])
  | succ k1 =>
   have H := HA.out
   clear HA
   simp only [impl_editsOf.l0] at H
   by_cases c6 : x13_1 < (l0.length : Int)
   ·rw [if_pos c6] at H
    have c6b0 : decide (x13_1 < (l0.length : Int)) = true := decide_eq_true c6
    clear c6
    by_cases c7 : 0 ≤ x13_1
    ·rw [if_pos c7] at H
     have c7b0 : decide (0 ≤ x13_1) = true := decide_eq_true c7
     clear c7
     by_cases c8 : x13_1 < (l0.length : Int)
     ·rw [if_pos c8] at H
      have c8b0 : decide (x13_1 < (l0.length : Int)) = true := decide_eq_true c8
      clear c8
      by_cases c9 : ((((rd_T30 l0 x13_1).f5) == a1) == a2) = true
      ·rw [if_pos c9] at H
       have c9b0 : ((((rd_T30 l0 x13_1).f5) == a1) == a2) = true := c9
       (try (have c9b1 : decide ((((rd_T30 l0 x13_1).f5) == a1) = a2) = true := by simpa using c9))
       (try (have c9b2 : ((((rd_T30 l0 x13_1).f5) == a1) == a2) = true := by simpa using c9))
       clear c9
       by_cases c10 : x7_1.length < 2932031007402
       ·rw [if_pos c10] at H
        have LMc10 := am c10
        clear c10
        obtain ⟨y418, hy418⟩ : ∃ y_ : List (S30), y_ = (x7_1 ++ [(⟨(rd_T30 l0 x13_1).f0, (rd_T30 l0 x13_1).f1, (rd_T30 l0 x13_1).f2, (rd_T30 l0 x13_1).f3, (rd_T30 l0 x13_1).f4, (rd_T30 l0 x13_1).f5⟩ : S30)]) := ⟨_, rfl⟩
        replace H : (impl_editsOf.l0 k1 a1 a2 y418 l0 (l0.length : Int) (wrap64 (x13_1 + 1))) = some r := by first | (rw [hy418]; with_reducible exact H) | (have H2_ := (Option.bind_some _ _).symm.trans H; rw [hy418]; with_reducible exact H2_) | (have H2_ := (Option.bind_some _ _).symm.trans H; with_reducible exact H2_) | with_reducible exact H | (rw [hy418]; exact H) | exact H
        have Ny418 := am hy418
        clear hy418
        have H' := am H
        clear H
        have p416 : 0 ≤ (x13_1 : Int) := dU
        have q416 : x13_1 < (l0.length : Int) := dU
        obtain ⟨ad416, e416, hx416_0, hx416_1, hx416_2, hx416_3, hx416_4, hx416_5⟩ := at_T30 HR0.out x13_1 p416 q416
        cases e416
        replace hx416_0 := cB HB.out hx416_0
        replace hx416_1 := cB HB.out hx416_1
        replace hx416_2 := cB HB.out hx416_2
        replace hx416_3 := cB HB.out hx416_3
        replace hx416_4 := cB HB.out hx416_4
        replace hx416_5 := cB HB.out hx416_5
        replace p416 := eq_true p416
        replace q416 := eq_true q416
        go_wp2_with (first | ((with_reducible refine gate_dst (N := 9) rfl ?_); refine box_event ?hg (N := 9) ?hd (cs := #[.int .i64 0, .int .i64 0, .int .i64 0, .int .i64 0, .int .i64 0, .int .i64 0]) (t := 30) ?hr ?_; (case hd => rfl); (case hg => rfl); (case hr => first | (go_simp; done) | (go_simp; rfl)); intro gb417 hg w11 hbox hb; have n0_ := am (Kd.R_below (Kd.R_elderB (rU HO_7.out) gb417 (Nat.le_of_eq hg.symm)) hb); have n1_ := am (below_step (bU HB.out) hb); have n2_ := am (hbox); have n3_ := am ((by rw [hg]; exact (below_size (bU HB.out)) : w.heap.size ≤ gb417)); have n4_ := am ((by rw [hg]; exact (below_size (bU HB.out)) : w.heap.size ≤ gb417)); clear HO_7; clear HB; have HO_7 := n0_; have HB := n1_; have BK417 := n2_; have GW417 := n3_; have GE417 := n4_; clear n0_ n1_ n2_ n3_ n4_; clear hb hbox hg; obtain ⟨hcz12_0, hcz12_1, hcz12_2, hcz12_3, hcz12_4, hcz12_5⟩ := bc6 BK417.out; obtain ⟨hfz12_0, hfz12_1, hfz12_2, hfz12_3, hfz12_4, hfz12_5⟩ := bf6 BK417.out) | ((with_reducible refine gate_builtin (b := .append) (xs := #[.tmp 23, .tmp 25]) rfl ?_); at_builtin; refine Kd.R_append k30 (w0 := w) w.heap.size rfl (.tmp 23) (.tmp 25) 38 30 (.agg #[(.int .i64 0), (.int .i64 0), (.int .i64 0), (.int .i64 0), (.int .i64 0), (.int .i64 0)]) 48 rfl Try.underlying38 info30 rfl (by decide) (by omega) u7 x7_1 (⟨(rd_T30 l0 x13_1).f0, (rd_T30 l0 x13_1).f1, (rd_T30 l0 x13_1).f2, (rd_T30 l0 x13_1).f3, (rd_T30 l0 x13_1).f4, (rd_T30 l0 x13_1).f5⟩ : S30) [.int .i64 ((rd_T30 l0 x13_1).f0), .int .i64 ((rd_T30 l0 x13_1).f1), .int .i64 ((rd_T30 l0 x13_1).f2), .int .i64 ((rd_T30 l0 x13_1).f3), .int .i64 ((rd_T30 l0 x13_1).f4), .int .i64 ((rd_T30 l0 x13_1).f5)] (fun k_ => k_ ≠ gb417) (fun _ => False) rfl (by first | (go_simp; done) | (go_simp; rfl)) ?aP (fun _ hk => hk.elim) ?aF ?aO ?aB ?aS ?aL ?_; (case aP => exact k30_mkM _ _ _ (⟨(rd_T30 l0 x13_1).f0, (rd_T30 l0 x13_1).f1, (rd_T30 l0 x13_1).f2, (rd_T30 l0 x13_1).f3, (rd_T30 l0 x13_1).f4, (rd_T30 l0 x13_1).f5⟩ : S30)); (case aB => exact bS HB.out GE417.out); (case aF => exact (fun k_ hk => Kd.freshB (g := gb417) (o := .cells #[.int .i64 ((rd_T30 l0 x13_1).f0), .int .i64 ((rd_T30 l0 x13_1).f1), .int .i64 ((rd_T30 l0 x13_1).f2), .int .i64 ((rd_T30 l0 x13_1).f3), .int .i64 ((rd_T30 l0 x13_1).f4), .int .i64 ((rd_T30 l0 x13_1).f5)] 30 (0, 0)) (by (with_reducible repeat (first | refine blk_drewN ?_ _ | refine blk_drew ?_ | refine blk_alloc ?_ _)); refine blk_put (cs := #[.int .i64 ((rd_T30 l0 x13_1).f0), .int .i64 ((rd_T30 l0 x13_1).f1), .int .i64 ((rd_T30 l0 x13_1).f2), .int .i64 ((rd_T30 l0 x13_1).f3), .int .i64 ((rd_T30 l0 x13_1).f4), .int .i64 0]) ?_ 5 _ rfl; (with_reducible repeat (first | refine blk_drewN ?_ _ | refine blk_drew ?_ | refine blk_alloc ?_ _)); refine blk_put (cs := #[.int .i64 ((rd_T30 l0 x13_1).f0), .int .i64 ((rd_T30 l0 x13_1).f1), .int .i64 ((rd_T30 l0 x13_1).f2), .int .i64 ((rd_T30 l0 x13_1).f3), .int .i64 0, .int .i64 0]) ?_ 4 _ rfl; (with_reducible repeat (first | refine blk_drewN ?_ _ | refine blk_drew ?_ | refine blk_alloc ?_ _)); refine blk_put (cs := #[.int .i64 ((rd_T30 l0 x13_1).f0), .int .i64 ((rd_T30 l0 x13_1).f1), .int .i64 ((rd_T30 l0 x13_1).f2), .int .i64 0, .int .i64 0, .int .i64 0]) ?_ 3 _ rfl; (with_reducible repeat (first | refine blk_drewN ?_ _ | refine blk_drew ?_ | refine blk_alloc ?_ _)); refine blk_put (cs := #[.int .i64 ((rd_T30 l0 x13_1).f0), .int .i64 ((rd_T30 l0 x13_1).f1), .int .i64 0, .int .i64 0, .int .i64 0, .int .i64 0]) ?_ 2 _ rfl; (with_reducible repeat (first | refine blk_drewN ?_ _ | refine blk_drew ?_ | refine blk_alloc ?_ _)); refine blk_put (cs := #[.int .i64 ((rd_T30 l0 x13_1).f0), .int .i64 0, .int .i64 0, .int .i64 0, .int .i64 0, .int .i64 0]) ?_ 1 _ rfl; (with_reducible repeat (first | refine blk_drewN ?_ _ | refine blk_drew ?_ | refine blk_alloc ?_ _)); refine blk_put (cs := #[.int .i64 0, .int .i64 0, .int .i64 0, .int .i64 0, .int .i64 0, .int .i64 0]) ?_ 0 _ rfl; exact kU BK417.out) k_ hk)); (case aO => exact (by (with_reducible repeat (first | apply Kd.R_alloc | apply Kd.R_drewN | apply Kd.R_drew)); exact Kd.R_mono (Kd.R_far (p := ⟨gb417, 5, none⟩) (Kd.R_far (p := ⟨gb417, 4, none⟩) (Kd.R_far (p := ⟨gb417, 3, none⟩) (Kd.R_far (p := ⟨gb417, 2, none⟩) (Kd.R_far (p := ⟨gb417, 1, none⟩) (Kd.R_far (p := ⟨gb417, 0, none⟩) (Kd.R_mono HO_7.out (fun k_ hk => (⟨hk, hk.2⟩ : _ ∧ k_ ≠ gb417))) (fun _ hk => hk.2) (.int .i64 ((rd_T30 l0 x13_1).f0))) (fun _ hk => hk.2) (.int .i64 ((rd_T30 l0 x13_1).f1))) (fun _ hk => hk.2) (.int .i64 ((rd_T30 l0 x13_1).f2))) (fun _ hk => hk.2) (.int .i64 ((rd_T30 l0 x13_1).f3))) (fun _ hk => hk.2) (.int .i64 ((rd_T30 l0 x13_1).f4))) (fun _ hk => hk.2) (.int .i64 ((rd_T30 l0 x13_1).f5))) (fun _ hk => hk.1.2))); (case aS => exact (below_size (bS HB.out GE417.out))); (case aL => have := LMc10.out; omega); intro v419 w13 ho hb hg hat; rw [← Ny418.out] at ho; have n0_ := am (blk_grown (g := gb417) (o := .cells #[.int .i64 ((rd_T30 l0 x13_1).f0), .int .i64 ((rd_T30 l0 x13_1).f1), .int .i64 ((rd_T30 l0 x13_1).f2), .int .i64 ((rd_T30 l0 x13_1).f3), .int .i64 ((rd_T30 l0 x13_1).f4), .int .i64 ((rd_T30 l0 x13_1).f5)] 30 (0, 0)) (by (with_reducible repeat (first | refine blk_drewN ?_ _ | refine blk_drew ?_ | refine blk_alloc ?_ _)); refine blk_put (cs := #[.int .i64 ((rd_T30 l0 x13_1).f0), .int .i64 ((rd_T30 l0 x13_1).f1), .int .i64 ((rd_T30 l0 x13_1).f2), .int .i64 ((rd_T30 l0 x13_1).f3), .int .i64 ((rd_T30 l0 x13_1).f4), .int .i64 0]) ?_ 5 _ rfl; (with_reducible repeat (first | refine blk_drewN ?_ _ | refine blk_drew ?_ | refine blk_alloc ?_ _)); refine blk_put (cs := #[.int .i64 ((rd_T30 l0 x13_1).f0), .int .i64 ((rd_T30 l0 x13_1).f1), .int .i64 ((rd_T30 l0 x13_1).f2), .int .i64 ((rd_T30 l0 x13_1).f3), .int .i64 0, .int .i64 0]) ?_ 4 _ rfl; (with_reducible repeat (first | refine blk_drewN ?_ _ | refine blk_drew ?_ | refine blk_alloc ?_ _)); refine blk_put (cs := #[.int .i64 ((rd_T30 l0 x13_1).f0), .int .i64 ((rd_T30 l0 x13_1).f1), .int .i64 ((rd_T30 l0 x13_1).f2), .int .i64 0, .int .i64 0, .int .i64 0]) ?_ 3 _ rfl; (with_reducible repeat (first | refine blk_drewN ?_ _ | refine blk_drew ?_ | refine blk_alloc ?_ _)); refine blk_put (cs := #[.int .i64 ((rd_T30 l0 x13_1).f0), .int .i64 ((rd_T30 l0 x13_1).f1), .int .i64 0, .int .i64 0, .int .i64 0, .int .i64 0]) ?_ 2 _ rfl; (with_reducible repeat (first | refine blk_drewN ?_ _ | refine blk_drew ?_ | refine blk_alloc ?_ _)); refine blk_put (cs := #[.int .i64 ((rd_T30 l0 x13_1).f0), .int .i64 0, .int .i64 0, .int .i64 0, .int .i64 0, .int .i64 0]) ?_ 1 _ rfl; (with_reducible repeat (first | refine blk_drewN ?_ _ | refine blk_drew ?_ | refine blk_alloc ?_ _)); refine blk_put (cs := #[.int .i64 0, .int .i64 0, .int .i64 0, .int .i64 0, .int .i64 0, .int .i64 0]) ?_ 0 _ rfl; exact kU BK417.out) hg (Kd.R_away HO_7.out (fun _ hk => hk.2))); have n1_ := am (hb); have n2_ := am (ho); clear BK417; clear HB; clear HO_7; have BK417 := n0_; have HB := n1_; have HO420 := n2_; clear n0_ n1_ n2_; clear ho hb hg hat))
        go_roundg k1
        case measure => have := HK1.out; omega
        case rel => exact ⟨(y418), (wrap64 (x13_1 + 1)), (by first | rfl | (simp; done) | (simp [*]; done)), H', ⟨by have := HK1.out; omega⟩, ⟨by (with_reducible repeat (first | apply Kd.R_alloc | apply Kd.R_drewN | apply Kd.R_drew)); exact Kd.R_mono HO420.out (fun _ hk => trivial)⟩, ⟨bS HB.out GE417.out⟩⟩
       ·rw [if_neg c10] at H
        exact absurd H (by simp)
      ·rw [if_neg c9] at H
       have c9b0 : ((((rd_T30 l0 x13_1).f5) == a1) == a2) = false := by simpa using c9
       (try (have c9b1 : decide ((((rd_T30 l0 x13_1).f5) == a1) = a2) = false := by simpa using c9))
       (try (have c9b2 : ((((rd_T30 l0 x13_1).f5) == a1) == a2) = false := by simpa using c9))
       (try (have c9b3 : ¬ ((((rd_T30 l0 x13_1).f5) == a1) = a2) := by simpa using c9))
       clear c9
       have H' := am H
       clear H
       have p416 : 0 ≤ (x13_1 : Int) := dU
       have q416 : x13_1 < (l0.length : Int) := dU
       obtain ⟨ad416, e416, hx416_0, hx416_1, hx416_2, hx416_3, hx416_4, hx416_5⟩ := at_T30 HR0.out x13_1 p416 q416
       cases e416
       replace hx416_0 := cB HB.out hx416_0
       replace hx416_1 := cB HB.out hx416_1
       replace hx416_2 := cB HB.out hx416_2
       replace hx416_3 := cB HB.out hx416_3
       replace hx416_4 := cB HB.out hx416_4
       replace hx416_5 := cB HB.out hx416_5
       replace p416 := eq_true p416
       replace q416 := eq_true q416
       go_wp2_with (first | ((with_reducible refine gate_dst (N := 9) rfl ?_); refine box_event ?hg (N := 9) ?hd (cs := #[.int .i64 0, .int .i64 0, .int .i64 0, .int .i64 0, .int .i64 0, .int .i64 0]) (t := 30) ?hr ?_; (case hd => rfl); (case hg => rfl); (case hr => first | (go_simp; done) | (go_simp; rfl)); intro gb417 hg w14 hbox hb; have n0_ := am (Kd.R_below (Kd.R_elderB (rU HO_7.out) gb417 (Nat.le_of_eq hg.symm)) hb); have n1_ := am (below_step (bU HB.out) hb); have n2_ := am (hbox); have n3_ := am ((by rw [hg]; exact (below_size (bU HB.out)) : w.heap.size ≤ gb417)); have n4_ := am ((by rw [hg]; exact (below_size (bU HB.out)) : w.heap.size ≤ gb417)); clear HO_7; clear HB; have HO_7 := n0_; have HB := n1_; have BK417 := n2_; have GW417 := n3_; have GE417 := n4_; clear n0_ n1_ n2_ n3_ n4_; clear hb hbox hg; obtain ⟨hcz15_0, hcz15_1, hcz15_2, hcz15_3, hcz15_4, hcz15_5⟩ := bc6 BK417.out; obtain ⟨hfz15_0, hfz15_1, hfz15_2, hfz15_3, hfz15_4, hfz15_5⟩ := bf6 BK417.out))
       go_roundg k1
       case measure => have := HK1.out; omega
       case rel => exact ⟨(x7_1), (wrap64 (x13_1 + 1)), (by first | rfl | (simp; done) | (simp [*]; done)), H', ⟨by have := HK1.out; omega⟩, ⟨by (with_reducible repeat (first | apply Kd.R_alloc | apply Kd.R_drewN | apply Kd.R_drew)); exact Kd.R_mono (Kd.R_far (p := ⟨gb417, 5, none⟩) (Kd.R_far (p := ⟨gb417, 4, none⟩) (Kd.R_far (p := ⟨gb417, 3, none⟩) (Kd.R_far (p := ⟨gb417, 2, none⟩) (Kd.R_far (p := ⟨gb417, 1, none⟩) (Kd.R_far (p := ⟨gb417, 0, none⟩) (Kd.R_mono HO_7.out (fun k_ hk => (⟨hk, hk.2⟩ : _ ∧ k_ ≠ gb417))) (fun _ hk => hk.2) (.int .i64 ((rd_T30 l0 x13_1).f0))) (fun _ hk => hk.2) (.int .i64 ((rd_T30 l0 x13_1).f1))) (fun _ hk => hk.2) (.int .i64 ((rd_T30 l0 x13_1).f2))) (fun _ hk => hk.2) (.int .i64 ((rd_T30 l0 x13_1).f3))) (fun _ hk => hk.2) (.int .i64 ((rd_T30 l0 x13_1).f4))) (fun _ hk => hk.2) (.int .i64 ((rd_T30 l0 x13_1).f5))) (fun _ hk => trivial)⟩, ⟨bS HB.out GE417.out⟩⟩
     ·rw [if_neg c8] at H
      exact absurd H (by simp)
    ·rw [if_neg c7] at H
     exact absurd H (by simp)
   ·rw [if_neg c6] at H
    have c6b0 : decide (x13_1 < (l0.length : Int)) = false := decide_eq_false c6
    clear c6
    obtain rfl := Option.some.inj H
    go_wp2
    go_ret
    exact ⟨_, eU, rU HO_7.out, bU HB.out⟩
def impl_WithoutBy.f (k : Nat) (l0 : List (S30)) (a1 : Int) : Option ((List (S30))) := (impl_editsOf.f k l0 a1 false).bind fun t421 => (some t421)
theorem impl_WithoutBy.mono : ∀ a0 a1 k, LeO (impl_WithoutBy.f k a0 a1) (impl_WithoutBy.f (k + 1) a0 a1) := by
 intro a0 a1 k
 unfold impl_WithoutBy.f
 repeat' first
   | (with_reducible exact impl_editsOf.mono _ _ _ _)
   | (with_reducible exact LeO.refl _)
   | (with_reducible exact LeO.none _)
   | (with_reducible refine LeO.ite ?_ ?_)
   | (with_reducible refine LeO.bind ?_ (fun _ => ?_))
   | exact impl_editsOf.mono _ _ _ _
   | exact LeO.none _
   | refine LeO.ite ?_ ?_
   | refine LeO.bind ?_ (fun _ => ?_)
set_option maxHeartbeats 8000000 in
set_option maxRecDepth 100000 in
theorem impl_WithoutBy.calls (k : Nat) (A0 : Option Addr) (c0 : Nat) (l0 : List (S30)) (a1 : Int) (r : List (S30)) (w : World) (hr0 : Kd.C k30 w A0 l0.length l0) (hc0 : l0.length ≤ c0) (h : impl_WithoutBy.f k l0 a1 = some r) :
  Calls Try.prog 63 #[.slice A0 l0.length c0, .int .i64 a1] w fun e w' => ∃ v0_ : Value, e = .returned (v0_) ∧ Kd.R k30 30 w' w.heap.size (fun _ => True) v0_ r ∧ Below w.heap.size w w' := by
 have HR0 := am hr0
 have HC0 := am hc0
 clear hr0 hc0
 have HB := am (Below.refl w.heap.size w)
 have H : ((impl_editsOf.f k l0 a1 false).bind fun t421 => (some t421)) = some r := h
 clear h
 replace H := Option.bind_eq_some_iff.mp H
 obtain ⟨t421, A30, H⟩ := H
 replace H : (some t421) = some r := H
 have A3 := am A30
 clear A30
 obtain rfl := Option.some.inj H
 go_enter Try.func63, Try.ntmps63
 go_wp2_with (first | ((with_reducible refine gate_callee (f := 101) rfl ?_); refine goesL_ (some 7) rfl rfl Try.func101 (by kernel_rfl) rfl #[.slice A0 l0.length c0, .int .i64 a1, .bool false] rfl mU ?_; (with_reducible refine (impl_editsOf.calls k _ _ l0 a1 false t421 _ ?side1 ?side2 A3.out).mono ?_); (case side1 => exact cU HR0.out); (case side2 => exact HC0.out); rintro e w4 ⟨v422, rfl, ho0, hb⟩; refine ⟨_, rfl, ?_⟩; have n0_ := am (Kd.R_lower ho0 (below_size (bU HB.out))); have n1_ := am (below_step (bU HB.out) hb); clear HB; have HO423 := n0_; have HB := n1_; clear n0_ n1_; (try clear hb); (try clear hb2); (try clear hk); (try clear hi); (try clear ho0)))
 go_ret
 exact ⟨_, eU, rU HO423.out, bU HB.out⟩
def impl_TakeBack.f (k : Nat) (l0 : List (S59)) (l1 : List (S30)) (a2 : Int) : Option ((List (S59))) := (impl_WithoutBy.f k l1 a2).bind fun t424 => ((impl_RunEdits.f k l0 t424).bind fun t427 => (some t427))
theorem impl_TakeBack.mono : ∀ a0 a1 a2 k, LeO (impl_TakeBack.f k a0 a1 a2) (impl_TakeBack.f (k + 1) a0 a1 a2) := by
 intro a0 a1 a2 k
 unfold impl_TakeBack.f
 repeat' first
   | (with_reducible exact impl_RunEdits.mono _ _ _)
   | (with_reducible exact impl_WithoutBy.mono _ _ _)
   | (with_reducible exact LeO.refl _)
   | (with_reducible exact LeO.none _)
   | (with_reducible refine LeO.ite ?_ ?_)
   | (with_reducible refine LeO.bind ?_ (fun _ => ?_))
   | exact impl_RunEdits.mono _ _ _
   | exact impl_WithoutBy.mono _ _ _
   | exact LeO.none _
   | refine LeO.ite ?_ ?_
   | refine LeO.bind ?_ (fun _ => ?_)
set_option maxHeartbeats 8000000 in
set_option maxRecDepth 100000 in
theorem impl_TakeBack.calls (k : Nat) (A0 : Option Addr) (c0 : Nat) (l0 : List (S59)) (A1 : Option Addr) (c1 : Nat) (l1 : List (S30)) (a2 : Int) (r : List (S59)) (w : World) (hr0 : Kd.C k59 w A0 l0.length l0) (hc0 : l0.length ≤ c0) (hr1 : Kd.C k30 w A1 l1.length l1) (hc1 : l1.length ≤ c1) (h : impl_TakeBack.f k l0 l1 a2 = some r) :
  Calls Try.prog 29 #[.slice A0 l0.length c0, .slice A1 l1.length c1, .int .i64 a2] w fun e w' => ∃ v0_ : Value, e = .returned (v0_) ∧ Kd.R k59 59 w' w.heap.size (fun _ => True) v0_ r ∧ Below w.heap.size w w' := by
 have HR0 := am hr0
 have HC0 := am hc0
 clear hr0 hc0
 have HR1 := am hr1
 have HC1 := am hc1
 clear hr1 hc1
 have HB := am (Below.refl w.heap.size w)
 have H : ((impl_WithoutBy.f k l1 a2).bind fun t424 => ((impl_RunEdits.f k l0 t424).bind fun t427 => (some t427))) = some r := h
 clear h
 replace H := Option.bind_eq_some_iff.mp H
 obtain ⟨t424, A40, H⟩ := H
 replace H : ((impl_RunEdits.f k l0 t424).bind fun t427 => (some t427)) = some r := H
 have A4 := am A40
 clear A40
 replace H := Option.bind_eq_some_iff.mp H
 obtain ⟨t427, A50, H⟩ := H
 replace H : (some t427) = some r := H
 have A5 := am A50
 clear A50
 obtain rfl := Option.some.inj H
 go_enter Try.func29, Try.ntmps29
 go_wp2_with (first | ((with_reducible refine gate_callee (f := 63) rfl ?_); refine goesL_ (some 10) rfl rfl Try.func63 (by kernel_rfl) rfl #[.slice A1 l1.length c1, .int .i64 a2] rfl mU ?_; (with_reducible refine (impl_WithoutBy.calls k _ _ l1 a2 t424 _ ?side1 ?side2 A4.out).mono ?_); (case side1 => exact cU HR1.out); (case side2 => exact HC1.out); rintro e w6 ⟨v425, rfl, ho0, hb⟩; refine ⟨_, rfl, ?_⟩; have n0_ := am (Kd.R_lower ho0 (below_size (bU HB.out))); have n1_ := am (below_step (bU HB.out) hb); clear HB; have HO426 := n0_; have HB := n1_; clear n0_ n1_; (try clear hb); (try clear hb2); (try clear hk); (try clear hi); (try clear ho0); obtain ⟨Ao7, co7, eo7⟩ := Kd.R_slice HO426.out; subst eo7) | ((with_reducible refine gate_callee (f := 25) rfl ?_); refine goesL_ (some 11) rfl rfl Try.func25 (by kernel_rfl) rfl #[.slice A0 l0.length c0, .slice Ao7 t424.length co7] rfl mU ?_; (with_reducible refine (impl_RunEdits.calls k _ _ l0 _ _ t424 t427 _ ?side1 ?side2 ?side3 ?side4 A5.out).mono ?_); (case side1 => exact cU (Kd.C_below HR0.out HB.out)); (case side2 => exact HC0.out); (case side3 => exact cU (Kd.R_reads' HO426.out).2.2); (case side4 => exact (Kd.R_reads' HO426.out).2.1); rintro e w8 ⟨v428, rfl, ho0, hb⟩; refine ⟨_, rfl, ?_⟩; have n0_ := am (Kd.R_below (rU HO426.out) hb); have n1_ := am (Kd.R_lower ho0 (below_size (bU HB.out))); have n2_ := am (below_step (bU HB.out) hb); clear HO426; clear HB; have HO426 := n0_; have HO429 := n1_; have HB := n2_; clear n0_ n1_ n2_; (try clear hb); (try clear hb2); (try clear hk); (try clear hi); (try clear ho0)))
 go_ret
 exact ⟨_, eU, rU HO429.out, bU HB.out⟩
def impl_ordered.f (l0 : List Int) : Option (List Int) := if l0.length ≤ 4000000 then some (Lib.compact (l0.mergeSort fun x y => decide (x ≤ y))) else none
theorem impl_ordered.inner {w : World} {B : Nat} {okb : Nat → Prop} {l : List Int} {cs : List Value} (h : Reps ((Kd.int .i64).M w B okb) 1 l cs) : cs = l.map (Value.int .i64) := by
 apply List.ext_getElem?
 intro j
 have hl := h.1
 by_cases hj : j < l.length
 ·have h1 := h.2 j _ (List.getElem?_eq_getElem hj)
  have h2 : (cs.drop (j * 1)).take 1 = [Value.int .i64 l[j]] := h1
  have h3 : ((cs.drop (j * 1)).take 1)[0]? = some (Value.int .i64 l[j]) := by rw [h2]; rfl
  rw [List.getElem?_take_of_lt (by decide), List.getElem?_drop, Nat.mul_one, Nat.add_zero] at h3
  rw [h3, List.getElem?_map, List.getElem?_eq_getElem hj]
  rfl
 ·rw [List.getElem?_eq_none (by omega), List.getElem?_eq_none (by simp; omega)]
theorem impl_ordered.reps (w : World) (B : Nat) (okb : Nat → Prop) (l : List Int) : Reps ((Kd.int .i64).M w B okb) 1 l (l.map (Value.int .i64)) := by
 refine ⟨by simp, fun j p hj => ?_⟩
 show ((l.map (Value.int .i64)).drop (j * 1)).take 1 = [Value.int .i64 p]
 rw [Nat.mul_one]
 obtain ⟨hl, rfl⟩ := List.getElem?_eq_some_iff.1 hj
 rw [List.drop_eq_getElem_cons (by simpa using hl)]
 simp
theorem impl_ordered.compactLen (d : Array Int) (m : Nat) : (Lib.compactUpTo d m).length ≤ m := by
 unfold Lib.compactUpTo
 rw [List.length_map]
 have := List.length_filter_le (Lib.keeps d) (List.range m)
 simpa using this
set_option maxHeartbeats 2000000 in
set_option maxRecDepth 100000 in
theorem impl_ordered.own {u : Value} {ok1 : Nat → Prop} (l0 : List Int) (r : List Int) (w0 w : World) (ho : Kd.R (Kd.int .i64) 3 w w0.heap.size ok1 u l0) (hB : Below w0.heap.size w0 w) (h : impl_ordered.f l0 = some r) :
  Calls Try.prog 98 #[u] w fun e w' => ∃ v0_ : Value, e = .returned (v0_) ∧ Kd.R (Kd.int .i64) 3 w' w0.heap.size (fun _ => True) v0_ r ∧ Below w0.heap.size w0 w' := by
 have hm : l0.length ≤ 4000000 := by
  by_cases g : l0.length ≤ 4000000
  ·exact g
  ·unfold impl_ordered.f at h
   rw [if_neg g] at h
   cases h
 unfold impl_ordered.f at h
 rw [if_pos hm] at h
 obtain rfl := Option.some.inj h
 clear h
 have hmx : maxLen = 9223372036854775807 := by decide
 obtain ⟨_, inner, hown, hrep⟩ := ho
 obtain rfl := impl_ordered.inner hrep
 rcases hown.2 with ⟨rfl, h0⟩ | ⟨g, cap, cur, rfl, hgb, hh, hnc, hc, hcs, hin⟩
 ·obtain rfl : l0 = [] := List.eq_nil_of_length_eq_zero h0
  go_enter Try.func98, Try.ntmps98
  go_wp2_with (first | (go_at_call 114; refine (Try.slices_Sort_int_none _ _ _).mono ?_; rintro e w' ⟨rfl, rfl⟩) | (go_at_call 115; refine (Try.slices_Compact_int_empty _ _ _).mono ?_; rintro e w' ⟨rfl, rfl⟩))
  go_ret
  refine ⟨_, rfl, ?_, hB⟩
  have e_ : Lib.compact ([].mergeSort fun x y : Int => decide (x ≤ y)) = [] := by simp [Lib.compact, Lib.compactUpTo]
  rw [e_]
  exact Kd.R_nil _ _ _ _ _
 ·obtain ⟨zs, hzs⟩ : ∃ zs, zs = l0.mergeSort fun x y => decide (x ≤ y) := ⟨_, rfl⟩
  have hzl : zs.length = l0.length := by rw [hzs]; simp
  have hin' : cur.toList.take l0.length = l0.map (Value.int .i64) := by have h := hin; rwa [show l0.length * (Kd.int .i64).sz = l0.length from Nat.mul_one _] at h
  have hcs' : cur.size = cap * 1 := hcs
  have c1 := Try.slices_Sort_int g 0 cap l0 w (holds_of_blockI hh hin') (Array.getElem?_eq_some_iff.1 hh).1 (by omega)
  rw [← hzs] at c1 ⊢
  have c2 : ∀ (n : Nat) (os : Array Obj) (W1 : World), W1 = Sort.grow (Sort.putRow (Value.int .i64) (Sort.ahead w n) g 0 zs.toArray) os → Calls Try.prog 115 #[.slice (some ⟨g, 0, none⟩) l0.length cap] W1 fun e w' => ∃ v0_ : Value, e = .returned (v0_) ∧ Kd.R (Kd.int .i64) 3 w' w0.heap.size (fun _ => True) v0_ (Lib.compact zs) ∧ Below w0.heap.size w0 w' := by
   intro n os W1 hW1
   have hh1 := heap_sortedI (n := n) (os := os) zs.toArray hh
   have hw1 := grownBy_sortedI (w := w) (g := g) (n := n) (os := os) zs.toArray
   have hb1 : Below w0.heap.size w0 (Sort.grow (Sort.putRow (Value.int .i64) (Sort.ahead w n) g 0 zs.toArray) os) := hB.grown hw1 hB.size (by intro k hk; cases hk; exact hgb)
   rw [← hW1] at hh1 hb1
   clear hW1 hw1
   have hcur1 : (Sort.putCells (Value.int .i64) 0 zs.toArray cur).size = cap := by simp [Sort.putCells, hcs']
   have ht1 : (Sort.putCells (Value.int .i64) 0 zs.toArray cur).toList.take zs.length = zs.map (Value.int .i64) := take_putCellsI cur zs (by omega)
   have hcl : (Lib.compact zs).length ≤ zs.length := impl_ordered.compactLen _ _
   have c := Try.slices_Compact_int g 0 cap zs W1 (holds_of_blockI hh1 ht1) (by omega) (by omega)
   rw [hzl] at c
   refine c.mono ?_
   rintro e w' ⟨rfl, q, rfl⟩
   have hh2 := heap_sortedI (w := W1) (n := q) (os := #[]) (Lib.compact zs ++ List.replicate (l0.length - (Lib.compact zs).length) 0).toArray hh1
   have hw2 := grownBy_sortedI (w := W1) (g := g) (n := q) (os := #[]) (Lib.compact zs ++ List.replicate (l0.length - (Lib.compact zs).length) 0).toArray
   rw [Sort.grow_empty] at hh2 hw2
   refine ⟨_, rfl, ⟨fun _ _ => trivial, _, ⟨?_, .inr ⟨g, cap, _, rfl, hgb, hh2, by omega, hc, ?_, ?_⟩⟩, impl_ordered.reps _ _ _ _⟩, hb1.grown hw2 hb1.size (by intro k hk; cases hk; exact hgb)⟩
   ·rw [List.length_map]
    exact (Nat.mul_one _).symm
   ·show _ = cap * 1
    simp [Sort.putCells, hcs']
   ·show (Array.toList _).take ((Lib.compact zs).length * 1) = _
    rw [Nat.mul_one]
    have := take_putCellsI (Sort.putCells (Value.int .i64) 0 zs.toArray cur) (Lib.compact zs ++ List.replicate (l0.length - (Lib.compact zs).length) 0) (by simp; omega)
    have e1 := congrArg (List.take (Lib.compact zs).length) this
    rw [List.take_take, Nat.min_eq_left (by rw [List.length_append]; omega), List.map_append] at e1
    exact e1.trans (List.take_left' (by rw [List.length_map]))
  have C2 := am c2
  have C1 := am c1
  clear c1 c2 hown hrep hin hin' hcs hcs' hh hnc hc
  go_enter Try.func98, Try.ntmps98
  go_wp2_with (first | (go_at_call 114; refine C1.out.mono ?_; rintro e w1_ ⟨rfl, nn, os, hw_⟩; have HW_ := am hw_; clear hw_) | (go_at_call 115; refine (C2.out nn os _ HW_.out).mono ?_; rintro e w' ⟨v0, rfl, hR, hb⟩; have HR_ := am hR; have HB_ := am hb; clear hR hb))
  go_ret
  exact ⟨_, rfl, HR_.out, HB_.out⟩
def impl_LostWith.l0 : Nat → List (S59) → List Int → List (S59) → Int → Int → Option (List Int)
 | 0, _, _, _, _, _ => none
 | k + 1, x7, x8, x18, x19, x20 => if x20 < x19 then (if 0 ≤ x20 then (if x20 < (x18.length : Int) then ((impl_NodeOf.f k x7 ((rd_T59 x18 x20).f0)).bind fun t441 => (if t441 < 0 then (if x8.length < 17592186044416 then (impl_LostWith.l0 k x7 (x8 ++ [(rd_T59 x18 x20).f0]) x18 x19 (wrap64 (x20 + 1))) else (none)) else (impl_LostWith.l0 k x7 x8 x18 x19 (wrap64 (x20 + 1))))) else (none)) else (none)) else ((impl_ordered.f x8).bind fun t445 => (some t445))
def impl_LostWith.f (k : Nat) (l0 : List (S59)) (l1 : List (S30)) (a2 : Int) : Option (List Int) := (impl_TakeBack.f k l0 l1 a2).bind fun t430 => ((impl_RunEdits.f k l0 l1).bind fun t436 => (impl_LostWith.l0 k t430 (([] : List Int)) t436 (t436.length : Int) 0))
theorem impl_LostWith.mono_l : ∀ k, (∀ y0 y1 y2 y3 y4, LeO (impl_LostWith.l0 k y0 y1 y2 y3 y4) (impl_LostWith.l0 (k + 1) y0 y1 y2 y3 y4))
 | 0 => fun _ _ _ _ _ r h => by simp [impl_LostWith.l0] at h
 | k + 1 => by
  have ih0 := impl_LostWith.mono_l k
  ·intro y0 y1 y2 y3 y4
   unfold impl_LostWith.l0
   repeat' first
   | (with_reducible exact ih0 _ _ _ _ _)
   | (with_reducible exact impl_NodeOf.mono _ _ _)
   | (with_reducible exact impl_RunEdits.mono _ _ _)
   | (with_reducible exact impl_TakeBack.mono _ _ _ _)
   | (with_reducible exact LeO.refl _)
   | (with_reducible exact LeO.none _)
   | (with_reducible refine LeO.ite ?_ ?_)
   | (with_reducible refine LeO.bind ?_ (fun _ => ?_))
   | exact ih0 _ _ _ _ _
   | exact impl_NodeOf.mono _ _ _
   | exact impl_RunEdits.mono _ _ _
   | exact impl_TakeBack.mono _ _ _ _
   | exact LeO.none _
   | refine LeO.ite ?_ ?_
   | refine LeO.bind ?_ (fun _ => ?_)
theorem impl_LostWith.mono : ∀ a0 a1 a2 k, LeO (impl_LostWith.f k a0 a1 a2) (impl_LostWith.f (k + 1) a0 a1 a2) := by
 intro a0 a1 a2 k
 have ih0 := impl_LostWith.mono_l k
 unfold impl_LostWith.f
 repeat' first
   | (with_reducible exact ih0 _ _ _ _ _)
   | (with_reducible exact impl_NodeOf.mono _ _ _)
   | (with_reducible exact impl_RunEdits.mono _ _ _)
   | (with_reducible exact impl_TakeBack.mono _ _ _ _)
   | (with_reducible exact LeO.refl _)
   | (with_reducible exact LeO.none _)
   | (with_reducible refine LeO.ite ?_ ?_)
   | (with_reducible refine LeO.bind ?_ (fun _ => ?_))
   | exact ih0 _ _ _ _ _
   | exact impl_NodeOf.mono _ _ _
   | exact impl_RunEdits.mono _ _ _
   | exact impl_TakeBack.mono _ _ _ _
   | exact LeO.none _
   | refine LeO.ite ?_ ?_
   | refine LeO.bind ?_ (fun _ => ?_)
set_option maxHeartbeats 8000000 in
set_option maxRecDepth 100000 in
theorem impl_LostWith.calls (k : Nat) (A0 : Option Addr) (c0 : Nat) (l0 : List (S59)) (A1 : Option Addr) (c1 : Nat) (l1 : List (S30)) (a2 : Int) (r : List Int) (w : World) (hr0 : Kd.C k59 w A0 l0.length l0) (hc0 : l0.length ≤ c0) (hr1 : Kd.C k30 w A1 l1.length l1) (hc1 : l1.length ≤ c1) (h : impl_LostWith.f k l0 l1 a2 = some r) :
  Calls Try.prog 60 #[.slice A0 l0.length c0, .slice A1 l1.length c1, .int .i64 a2] w fun e w' => ∃ v0_ : Value, e = .returned (v0_) ∧ Kd.R (Kd.int .i64) 3 w' w.heap.size (fun _ => True) v0_ r ∧ Below w.heap.size w w' := by
 have hu59 := Try.underlying59
 have HR0 := am hr0
 have HC0 := am hc0
 clear hr0 hc0
 have HR1 := am hr1
 have HC1 := am hc1
 clear hr1 hc1
 have HB := am (Below.refl w.heap.size w)
 have H : ((impl_TakeBack.f k l0 l1 a2).bind fun t430 => ((impl_RunEdits.f k l0 l1).bind fun t436 => (impl_LostWith.l0 k t430 (([] : List Int)) t436 (t436.length : Int) 0))) = some r := h
 clear h
 replace H := Option.bind_eq_some_iff.mp H
 obtain ⟨t430, A40, H⟩ := H
 replace H : ((impl_RunEdits.f k l0 l1).bind fun t436 => (impl_LostWith.l0 k t430 (([] : List Int)) t436 (t436.length : Int) 0)) = some r := H
 have A4 := am A40
 clear A40
 obtain ⟨y433, hy433⟩ : ∃ y_ : List Int, y_ = (([] : List Int)) := ⟨_, rfl⟩
 replace H : ((impl_RunEdits.f k l0 l1).bind fun t436 => (impl_LostWith.l0 k t430 y433 t436 (t436.length : Int) 0)) = some r := by first | (rw [hy433]; with_reducible exact H) | (have H2_ := (Option.bind_some _ _).symm.trans H; rw [hy433]; with_reducible exact H2_) | (have H2_ := (Option.bind_some _ _).symm.trans H; with_reducible exact H2_) | with_reducible exact H | (rw [hy433]; exact H) | exact H
 have Ny433 := am hy433
 clear hy433
 replace H := Option.bind_eq_some_iff.mp H
 obtain ⟨t436, A50, H⟩ := H
 replace H : (impl_LostWith.l0 k t430 y433 t436 (t436.length : Int) 0) = some r := H
 have A5 := am A50
 clear A50
 have H' := am H
 clear H
 go_enter Try.func60, Try.ntmps60
 go_wp2_with (first | ((with_reducible refine gate_callee (f := 29) rfl ?_); refine goesL_ (some 14) rfl rfl Try.func29 (by kernel_rfl) rfl #[.slice A0 l0.length c0, .slice A1 l1.length c1, .int .i64 a2] rfl mU ?_; (with_reducible refine (impl_TakeBack.calls k _ _ l0 _ _ l1 a2 t430 _ ?side1 ?side2 ?side3 ?side4 A4.out).mono ?_); (case side1 => exact cU HR0.out); (case side2 => exact HC0.out); (case side3 => exact cU HR1.out); (case side4 => exact HC1.out); rintro e w6 ⟨v431, rfl, ho0, hb⟩; refine ⟨_, rfl, ?_⟩; have n0_ := am (Kd.R_lower ho0 (below_size (bU HB.out))); have n1_ := am (below_step (bU HB.out) hb); clear HB; have HO432 := n0_; have HB := n1_; clear n0_ n1_; (try clear hb); (try clear hb2); (try clear hk); (try clear hi); (try clear ho0)) | ((with_reducible refine gate_dst (N := 15) rfl ?_); refine Kd.R_lit (Kd.int .i64) _ 3 ?hg (N := 15) ?hd (xs := ([] : List Int)) (inner := []) (ok := fun _ => True) (okp := fun _ => True) ?hr ?hp (fun _ hk => hk) trivial (Below.refl _ _) (Nat.le_refl _) (by simp) ?_; (case hd => rfl); (case hg => rfl); (case hr => first | (go_simp; done) | (go_simp; rfl)); (case hp => exact (Reps.none _ _)); intro v434 w7 ho8 hb hg_ hnew_; clear hg_ hnew_; (first | rw [← Ny433.out] at ho8 | (simp only [Int.reduceToNat] at ho8; rw [← Ny433.out] at ho8)); have n0_ := am (Kd.R_below (rU HO432.out) hb); have n1_ := am (Kd.R_lower ho8 (below_size (bU HB.out))); have n2_ := am (below_step (bU HB.out) hb); clear HO432; clear HB; have HO432 := n0_; have HO435 := n1_; have HB := n2_; clear n0_ n1_ n2_; clear hb ho8) | ((with_reducible refine gate_callee (f := 25) rfl ?_); refine goesL_ (some 18) rfl rfl Try.func25 (by kernel_rfl) rfl #[.slice A0 l0.length c0, .slice A1 l1.length c1] rfl mU ?_; (with_reducible refine (impl_RunEdits.calls k _ _ l0 _ _ l1 t436 _ ?side1 ?side2 ?side3 ?side4 A5.out).mono ?_); (case side1 => exact cU (Kd.C_below HR0.out HB.out)); (case side2 => exact HC0.out); (case side3 => exact cU (Kd.C_below HR1.out HB.out)); (case side4 => exact HC1.out); rintro e w9 ⟨v437, rfl, ho0, hb⟩; refine ⟨_, rfl, ?_⟩; have n0_ := am (Kd.R_elder' (rU HO432.out) (Kd.R_base ho0) hb); have n1_ := am (Kd.R_below (rU HO435.out) hb); have n2_ := am (Kd.R_lower (Kd.R_new' ho0 (Kd.R_lt (rU HO432.out))) (below_size (bU HB.out))); have n3_ := am (below_step (bU HB.out) hb); clear HO432; clear HO435; clear HB; have HO432 := n0_; have HO435 := n1_; have HO438 := n2_; have HB := n3_; clear n0_ n1_ n2_ n3_; (try clear hb); (try clear hb2); (try clear hk); (try clear hi); (try clear ho0); obtain ⟨Ao10, co10, eo10⟩ := Kd.R_slice HO438.out; subst eo10))
 go_loopg [8, 20] k (fun kq v8 v20 w' => ∃ (x8_1 : List Int) (x20_1 : Int), v20 = .int .i64 x20_1 ∧ Aside0 (impl_LostWith.l0 kq t430 x8_1 t436 (t436.length : Int) x20_1 = some r) ∧ Aside0 (kq ≤ k) ∧ Aside0 (Kd.R k59 59 w' w.heap.size (fun k_ => some k_ ≠ ((.slice Ao10 t436.length co10) : Value).ownBlock) v431 t430) ∧ Aside0 (Kd.R (Kd.int .i64) 3 w' w.heap.size (fun _ => True) v8 x8_1) ∧ Aside0 (Kd.R k59 59 w' w.heap.size (fun k_ => some k_ ≠ (v431 : Value).ownBlock) (.slice Ao10 t436.length co10) t436) ∧ Aside0 (Below w.heap.size w w'))
 case atStart => exact ⟨(y433), (0), (by first | rfl | (simp; done) | (simp [*]; done)), H', ⟨Nat.le_refl _⟩, ⟨by (with_reducible repeat (first | apply Kd.R_alloc | apply Kd.R_drewN | apply Kd.R_drew)); exact Kd.R_mono HO432.out (fun _ hk => hk.2)⟩, ⟨rU HO435.out⟩, ⟨by (with_reducible repeat (first | apply Kd.R_alloc | apply Kd.R_drewN | apply Kd.R_drew)); exact Kd.R_mono HO438.out (fun _ hk => hk.2)⟩, ⟨bU HB.out⟩⟩
 case round =>
  clear H'
  try clear c1
  try clear c2
  try clear p2
  try clear c6
  obtain ⟨x8_1, x20_1, rfl, HA, HK1, HO_7, HO_8, HO_18, HB⟩ := hrel
  cases gk with
  | zero => exact absurd HA.out (by simp [impl_LostWith.l0])
  | succ k1 =>
   have H := HA.out
   clear HA
   simp only [impl_LostWith.l0] at H
   by_cases c11 : x20_1 < (t436.length : Int)
   ·rw [if_pos c11] at H
    have c11b0 : decide (x20_1 < (t436.length : Int)) = true := decide_eq_true c11
    clear c11
    by_cases c12 : 0 ≤ x20_1
    ·rw [if_pos c12] at H
     have c12b0 : decide (0 ≤ x20_1) = true := decide_eq_true c12
     clear c12
     by_cases c13 : x20_1 < (t436.length : Int)
     ·rw [if_pos c13] at H
      have c13b0 : decide (x20_1 < (t436.length : Int)) = true := decide_eq_true c13
      clear c13
      replace H := Option.bind_eq_some_iff.mp H
      obtain ⟨t441, A140, H⟩ := H
      replace H : (if t441 < 0 then (if x8_1.length < 17592186044416 then (impl_LostWith.l0 k1 t430 (x8_1 ++ [(rd_T59 t436 x20_1).f0]) t436 (t436.length : Int) (wrap64 (x20_1 + 1))) else (none)) else (impl_LostWith.l0 k1 t430 x8_1 t436 (t436.length : Int) (wrap64 (x20_1 + 1)))) = some r := H
      have A14 := am A140
      clear A140
      by_cases c15 : t441 < 0
      ·rw [if_pos c15] at H
       have c15b0 : decide (t441 < 0) = true := decide_eq_true c15
       clear c15
       by_cases c16 : x8_1.length < 17592186044416
       ·rw [if_pos c16] at H
        have LMc16 := am c16
        clear c16
        obtain ⟨y442, hy442⟩ : ∃ y_ : List Int, y_ = (x8_1 ++ [(rd_T59 t436 x20_1).f0]) := ⟨_, rfl⟩
        replace H : (impl_LostWith.l0 k1 t430 y442 t436 (t436.length : Int) (wrap64 (x20_1 + 1))) = some r := by first | (rw [hy442]; with_reducible exact H) | (have H2_ := (Option.bind_some _ _).symm.trans H; rw [hy442]; with_reducible exact H2_) | (have H2_ := (Option.bind_some _ _).symm.trans H; with_reducible exact H2_) | with_reducible exact H | (rw [hy442]; exact H) | exact H
        have Ny442 := am hy442
        clear hy442
        have H' := am H
        clear H
        have p439 : 0 ≤ (x20_1 : Int) := dU
        have q439 : x20_1 < (t436.length : Int) := dU
        obtain ⟨ad439, e439, hx439_0, hx439_1, hx439_2, hx439_3, hx439_4⟩ := at_T59 (Kd.R_reads' HO_18.out).2.2 x20_1 p439 q439
        cases e439
        replace p439 := eq_true p439
        replace q439 := eq_true q439
        go_wp2_with (first | ((with_reducible refine gate_dst (N := 10) rfl ?_); refine box_event ?hg (N := 10) ?hd (cs := #[.int .i64 0, .int .i64 0, .int .i64 0, .int .i64 0, .int .i64 0]) (t := 59) ?hr ?_; (case hd => rfl); (case hg => rfl); (case hr => first | (go_simp; done) | (go_simp; rfl)); intro gb440 hg w17 hbox hb; have n0_ := am (Kd.R_below (Kd.R_elderB (rU HO_7.out) gb440 (Nat.le_of_eq hg.symm)) hb); have n1_ := am (Kd.R_below (rU HO_8.out) hb); have n2_ := am (Kd.R_below (Kd.R_elderB (rU HO_18.out) gb440 (Nat.le_of_eq hg.symm)) hb); have n3_ := am (below_step (bU HB.out) hb); have n4_ := am (hbox); have n5_ := am ((by rw [hg]; exact (below_size (bU HB.out)) : w.heap.size ≤ gb440)); have n6_ := am ((by rw [hg]; exact (below_size (bU HB.out)) : w.heap.size ≤ gb440)); clear HO_7; clear HO_8; clear HO_18; clear HB; have HO_7 := n0_; have HO_8 := n1_; have HO_18 := n2_; have HB := n3_; have BK440 := n4_; have GW440 := n5_; have GE440 := n6_; clear n0_ n1_ n2_ n3_ n4_ n5_ n6_; clear hb hbox hg; obtain ⟨hcz18_0, hcz18_1, hcz18_2, hcz18_3, hcz18_4⟩ := bc5 BK440.out; obtain ⟨hfz18_0, hfz18_1, hfz18_2, hfz18_3, hfz18_4⟩ := bf5 BK440.out; obtain ⟨Ao19, co19, eo19⟩ := Kd.R_slice HO_7.out; subst eo19) | ((with_reducible refine gate_callee (f := 40) rfl ?_); refine goesL_ (some 27) rfl rfl Try.func40 (by kernel_rfl) rfl #[.slice Ao19 t430.length co19, .int .i64 ((rd_T59 t436 x20_1).f0)] rfl mU ?_; (with_reducible refine (impl_NodeOf.calls k1 _ _ t430 ((rd_T59 t436 x20_1).f0) t441 _ ?side1 ?side2 A14.out).mono ?_); (case side1 => refine (Kd.R_reads' (e := 59) (base := w.heap.size) (ok := fun k_ => (some k_ ≠ (.slice (some ad439) t436.length co10 : Value).ownBlock ∧ k_ ≠ gb440)) (n := t430.length) (c := co19) ?_).2.2; exact (by (with_reducible repeat (first | apply Kd.R_alloc | apply Kd.R_drewN | apply Kd.R_drew)); exact (Kd.R_mono (Kd.R_far (p := ⟨gb440, 4, none⟩) (Kd.R_far (p := ⟨gb440, 3, none⟩) (Kd.R_far (p := ⟨gb440, 2, none⟩) (Kd.R_far (p := ⟨gb440, 1, none⟩) (Kd.R_far (p := ⟨gb440, 0, none⟩) (Kd.R_mono HO_7.out (fun k_ hk => (⟨hk, hk.2⟩ : _ ∧ k_ ≠ gb440))) (fun _ hk => hk.2) (.int .i64 ((rd_T59 t436 x20_1).f0))) (fun _ hk => hk.2) (.int .i64 ((rd_T59 t436 x20_1).f1))) (fun _ hk => hk.2) (.int .i64 ((rd_T59 t436 x20_1).f2))) (fun _ hk => hk.2) (.int .i64 ((rd_T59 t436 x20_1).f3))) (fun _ hk => hk.2) (.int .i64 ((rd_T59 t436 x20_1).f4))) (fun _ h_ => h_.1)))); (case side2 => exact (Kd.R_reads' HO_7.out).2.1); rintro e w20 ⟨rfl, hb⟩; refine ⟨_, rfl, ?_⟩; have n0_ := am (Kd.R_below (by (with_reducible repeat (first | apply Kd.R_alloc | apply Kd.R_drewN | apply Kd.R_drew)); exact (Kd.R_mono (Kd.R_far (p := ⟨gb440, 4, none⟩) (Kd.R_far (p := ⟨gb440, 3, none⟩) (Kd.R_far (p := ⟨gb440, 2, none⟩) (Kd.R_far (p := ⟨gb440, 1, none⟩) (Kd.R_far (p := ⟨gb440, 0, none⟩) (Kd.R_mono HO_7.out (fun k_ hk => (⟨hk, hk.2⟩ : _ ∧ k_ ≠ gb440))) (fun _ hk => hk.2) (.int .i64 ((rd_T59 t436 x20_1).f0))) (fun _ hk => hk.2) (.int .i64 ((rd_T59 t436 x20_1).f1))) (fun _ hk => hk.2) (.int .i64 ((rd_T59 t436 x20_1).f2))) (fun _ hk => hk.2) (.int .i64 ((rd_T59 t436 x20_1).f3))) (fun _ hk => hk.2) (.int .i64 ((rd_T59 t436 x20_1).f4))) (fun _ h_ => h_.1))) hb); have n1_ := am (Kd.R_below (by (with_reducible repeat (first | apply Kd.R_alloc | apply Kd.R_drewN | apply Kd.R_drew)); exact (Kd.R_mono (Kd.R_far (p := ⟨gb440, 4, none⟩) (Kd.R_far (p := ⟨gb440, 3, none⟩) (Kd.R_far (p := ⟨gb440, 2, none⟩) (Kd.R_far (p := ⟨gb440, 1, none⟩) (Kd.R_far (p := ⟨gb440, 0, none⟩) (Kd.R_types HO_8.out BK440.out (by decide)) (fun _ hk => hk.2) (.int .i64 ((rd_T59 t436 x20_1).f0))) (fun _ hk => hk.2) (.int .i64 ((rd_T59 t436 x20_1).f1))) (fun _ hk => hk.2) (.int .i64 ((rd_T59 t436 x20_1).f2))) (fun _ hk => hk.2) (.int .i64 ((rd_T59 t436 x20_1).f3))) (fun _ hk => hk.2) (.int .i64 ((rd_T59 t436 x20_1).f4))) (fun _ h_ => h_.1))) hb); have n2_ := am (Kd.R_below (by (with_reducible repeat (first | apply Kd.R_alloc | apply Kd.R_drewN | apply Kd.R_drew)); exact (Kd.R_mono (Kd.R_far (p := ⟨gb440, 4, none⟩) (Kd.R_far (p := ⟨gb440, 3, none⟩) (Kd.R_far (p := ⟨gb440, 2, none⟩) (Kd.R_far (p := ⟨gb440, 1, none⟩) (Kd.R_far (p := ⟨gb440, 0, none⟩) (Kd.R_mono HO_18.out (fun k_ hk => (⟨hk, hk.2⟩ : _ ∧ k_ ≠ gb440))) (fun _ hk => hk.2) (.int .i64 ((rd_T59 t436 x20_1).f0))) (fun _ hk => hk.2) (.int .i64 ((rd_T59 t436 x20_1).f1))) (fun _ hk => hk.2) (.int .i64 ((rd_T59 t436 x20_1).f2))) (fun _ hk => hk.2) (.int .i64 ((rd_T59 t436 x20_1).f3))) (fun _ hk => hk.2) (.int .i64 ((rd_T59 t436 x20_1).f4))) (fun _ h_ => h_.1))) hb); have n3_ := am (blk_below (g := gb440) (o := .cells #[.int .i64 ((rd_T59 t436 x20_1).f0), .int .i64 ((rd_T59 t436 x20_1).f1), .int .i64 ((rd_T59 t436 x20_1).f2), .int .i64 ((rd_T59 t436 x20_1).f3), .int .i64 ((rd_T59 t436 x20_1).f4)] 59 (0, 0)) (by (with_reducible repeat (first | refine blk_drewN ?_ _ | refine blk_drew ?_ | refine blk_alloc ?_ _)); refine blk_put (cs := #[.int .i64 ((rd_T59 t436 x20_1).f0), .int .i64 ((rd_T59 t436 x20_1).f1), .int .i64 ((rd_T59 t436 x20_1).f2), .int .i64 ((rd_T59 t436 x20_1).f3), .int .i64 0]) ?_ 4 _ rfl; (with_reducible repeat (first | refine blk_drewN ?_ _ | refine blk_drew ?_ | refine blk_alloc ?_ _)); refine blk_put (cs := #[.int .i64 ((rd_T59 t436 x20_1).f0), .int .i64 ((rd_T59 t436 x20_1).f1), .int .i64 ((rd_T59 t436 x20_1).f2), .int .i64 0, .int .i64 0]) ?_ 3 _ rfl; (with_reducible repeat (first | refine blk_drewN ?_ _ | refine blk_drew ?_ | refine blk_alloc ?_ _)); refine blk_put (cs := #[.int .i64 ((rd_T59 t436 x20_1).f0), .int .i64 ((rd_T59 t436 x20_1).f1), .int .i64 0, .int .i64 0, .int .i64 0]) ?_ 2 _ rfl; (with_reducible repeat (first | refine blk_drewN ?_ _ | refine blk_drew ?_ | refine blk_alloc ?_ _)); refine blk_put (cs := #[.int .i64 ((rd_T59 t436 x20_1).f0), .int .i64 0, .int .i64 0, .int .i64 0, .int .i64 0]) ?_ 1 _ rfl; (with_reducible repeat (first | refine blk_drewN ?_ _ | refine blk_drew ?_ | refine blk_alloc ?_ _)); refine blk_put (cs := #[.int .i64 0, .int .i64 0, .int .i64 0, .int .i64 0, .int .i64 0]) ?_ 0 _ rfl; exact kU BK440.out) hb); have n4_ := am (below_step (bS HB.out GE440.out) hb); clear HO_7; clear HO_8; clear HO_18; clear BK440; clear HB; have HO_7 := n0_; have HO_8 := n1_; have HO_18 := n2_; have BK440 := n3_; have HB := n4_; clear n0_ n1_ n2_ n3_ n4_; (try clear hb); (try clear hb2); (try clear hk); (try clear hi); obtain ⟨hcz21_0, hcz21_1, hcz21_2, hcz21_3, hcz21_4⟩ := bc5 BK440.out; obtain ⟨hfz21_0, hfz21_1, hfz21_2, hfz21_3, hfz21_4⟩ := bf5 BK440.out) | ((with_reducible refine gate_builtin (b := .append) (xs := #[.tmp 29, .tmp 32]) rfl ?_); at_builtin; refine Kd.R_append (Kd.int .i64) (w0 := w) w.heap.size rfl (.tmp 29) (.tmp 32) 45 3 (.int .i64 0) 8 rfl Try.underlying45 info3 rfl (by decide) (by omega) u8 x8_1 ((rd_T59 t436 x20_1).f0) [.int .i64 ((rd_T59 t436 x20_1).f0)] (fun _ => True) (fun _ => False) rfl rfl ?aP (fun _ hk => hk.elim) ?aF ?aO ?aB ?aS ?aL ?_; (case aP => exact rfl); (case aB => exact bS HB.out GE440.out); (case aF => exact (fun _ _ => trivial)); (case aO => exact rU HO_8.out); (case aS => exact (below_size (bS HB.out GE440.out))); (case aL => have := LMc16.out; omega); intro v443 w22 ho hb hg hat; rw [← Ny442.out] at ho; have n0_ := am (Kd.R_over' (rU HO_7.out) (Kd.R_typed (rU HO_8.out)) (by decide) hg); have n1_ := am (Kd.R_over' (rU HO_18.out) (Kd.R_typed (rU HO_8.out)) (by decide) hg); have n2_ := am (kG BK440.out hg (Kd.R_ne HO_8.out BK440.out (by decide))); have n3_ := am (hb); have n4_ := am (ho); clear HO_7; clear HO_18; clear BK440; clear HB; clear HO_8; have HO_7 := n0_; have HO_18 := n1_; have BK440 := n2_; have HB := n3_; have HO444 := n4_; clear n0_ n1_ n2_ n3_ n4_; clear ho hb hg hat))
        go_roundg k1
        case measure => have := HK1.out; omega
        case rel => exact ⟨(y442), (wrap64 (x20_1 + 1)), (by first | rfl | (simp; done) | (simp [*]; done)), H', ⟨by have := HK1.out; omega⟩, ⟨by (with_reducible repeat (first | apply Kd.R_alloc | apply Kd.R_drewN | apply Kd.R_drew)); exact Kd.R_mono HO_7.out (fun _ hk => hk.1)⟩, ⟨rU HO444.out⟩, ⟨by (with_reducible repeat (first | apply Kd.R_alloc | apply Kd.R_drewN | apply Kd.R_drew)); exact Kd.R_mono HO_18.out (fun _ hk => hk.1)⟩, ⟨bS HB.out GE440.out⟩⟩
       ·rw [if_neg c16] at H
        exact absurd H (by simp)
      ·rw [if_neg c15] at H
       have c15b0 : decide (t441 < 0) = false := decide_eq_false c15
       clear c15
       have H' := am H
       clear H
       have p439 : 0 ≤ (x20_1 : Int) := dU
       have q439 : x20_1 < (t436.length : Int) := dU
       obtain ⟨ad439, e439, hx439_0, hx439_1, hx439_2, hx439_3, hx439_4⟩ := at_T59 (Kd.R_reads' HO_18.out).2.2 x20_1 p439 q439
       cases e439
       replace p439 := eq_true p439
       replace q439 := eq_true q439
       go_wp2_with (first | ((with_reducible refine gate_dst (N := 10) rfl ?_); refine box_event ?hg (N := 10) ?hd (cs := #[.int .i64 0, .int .i64 0, .int .i64 0, .int .i64 0, .int .i64 0]) (t := 59) ?hr ?_; (case hd => rfl); (case hg => rfl); (case hr => first | (go_simp; done) | (go_simp; rfl)); intro gb440 hg w23 hbox hb; have n0_ := am (Kd.R_below (Kd.R_elderB (rU HO_7.out) gb440 (Nat.le_of_eq hg.symm)) hb); have n1_ := am (Kd.R_below (rU HO_8.out) hb); have n2_ := am (Kd.R_below (Kd.R_elderB (rU HO_18.out) gb440 (Nat.le_of_eq hg.symm)) hb); have n3_ := am (below_step (bU HB.out) hb); have n4_ := am (hbox); have n5_ := am ((by rw [hg]; exact (below_size (bU HB.out)) : w.heap.size ≤ gb440)); have n6_ := am ((by rw [hg]; exact (below_size (bU HB.out)) : w.heap.size ≤ gb440)); clear HO_7; clear HO_8; clear HO_18; clear HB; have HO_7 := n0_; have HO_8 := n1_; have HO_18 := n2_; have HB := n3_; have BK440 := n4_; have GW440 := n5_; have GE440 := n6_; clear n0_ n1_ n2_ n3_ n4_ n5_ n6_; clear hb hbox hg; obtain ⟨hcz24_0, hcz24_1, hcz24_2, hcz24_3, hcz24_4⟩ := bc5 BK440.out; obtain ⟨hfz24_0, hfz24_1, hfz24_2, hfz24_3, hfz24_4⟩ := bf5 BK440.out; obtain ⟨Ao25, co25, eo25⟩ := Kd.R_slice HO_7.out; subst eo25) | ((with_reducible refine gate_callee (f := 40) rfl ?_); refine goesL_ (some 27) rfl rfl Try.func40 (by kernel_rfl) rfl #[.slice Ao25 t430.length co25, .int .i64 ((rd_T59 t436 x20_1).f0)] rfl mU ?_; (with_reducible refine (impl_NodeOf.calls k1 _ _ t430 ((rd_T59 t436 x20_1).f0) t441 _ ?side1 ?side2 A14.out).mono ?_); (case side1 => refine (Kd.R_reads' (e := 59) (base := w.heap.size) (ok := fun k_ => (some k_ ≠ (.slice (some ad439) t436.length co10 : Value).ownBlock ∧ k_ ≠ gb440)) (n := t430.length) (c := co25) ?_).2.2; exact (by (with_reducible repeat (first | apply Kd.R_alloc | apply Kd.R_drewN | apply Kd.R_drew)); exact (Kd.R_mono (Kd.R_far (p := ⟨gb440, 4, none⟩) (Kd.R_far (p := ⟨gb440, 3, none⟩) (Kd.R_far (p := ⟨gb440, 2, none⟩) (Kd.R_far (p := ⟨gb440, 1, none⟩) (Kd.R_far (p := ⟨gb440, 0, none⟩) (Kd.R_mono HO_7.out (fun k_ hk => (⟨hk, hk.2⟩ : _ ∧ k_ ≠ gb440))) (fun _ hk => hk.2) (.int .i64 ((rd_T59 t436 x20_1).f0))) (fun _ hk => hk.2) (.int .i64 ((rd_T59 t436 x20_1).f1))) (fun _ hk => hk.2) (.int .i64 ((rd_T59 t436 x20_1).f2))) (fun _ hk => hk.2) (.int .i64 ((rd_T59 t436 x20_1).f3))) (fun _ hk => hk.2) (.int .i64 ((rd_T59 t436 x20_1).f4))) (fun _ h_ => h_.1)))); (case side2 => exact (Kd.R_reads' HO_7.out).2.1); rintro e w26 ⟨rfl, hb⟩; refine ⟨_, rfl, ?_⟩; have n0_ := am (Kd.R_below (by (with_reducible repeat (first | apply Kd.R_alloc | apply Kd.R_drewN | apply Kd.R_drew)); exact (Kd.R_mono (Kd.R_far (p := ⟨gb440, 4, none⟩) (Kd.R_far (p := ⟨gb440, 3, none⟩) (Kd.R_far (p := ⟨gb440, 2, none⟩) (Kd.R_far (p := ⟨gb440, 1, none⟩) (Kd.R_far (p := ⟨gb440, 0, none⟩) (Kd.R_mono HO_7.out (fun k_ hk => (⟨hk, hk.2⟩ : _ ∧ k_ ≠ gb440))) (fun _ hk => hk.2) (.int .i64 ((rd_T59 t436 x20_1).f0))) (fun _ hk => hk.2) (.int .i64 ((rd_T59 t436 x20_1).f1))) (fun _ hk => hk.2) (.int .i64 ((rd_T59 t436 x20_1).f2))) (fun _ hk => hk.2) (.int .i64 ((rd_T59 t436 x20_1).f3))) (fun _ hk => hk.2) (.int .i64 ((rd_T59 t436 x20_1).f4))) (fun _ h_ => h_.1))) hb); have n1_ := am (Kd.R_below (by (with_reducible repeat (first | apply Kd.R_alloc | apply Kd.R_drewN | apply Kd.R_drew)); exact (Kd.R_mono (Kd.R_far (p := ⟨gb440, 4, none⟩) (Kd.R_far (p := ⟨gb440, 3, none⟩) (Kd.R_far (p := ⟨gb440, 2, none⟩) (Kd.R_far (p := ⟨gb440, 1, none⟩) (Kd.R_far (p := ⟨gb440, 0, none⟩) (Kd.R_types HO_8.out BK440.out (by decide)) (fun _ hk => hk.2) (.int .i64 ((rd_T59 t436 x20_1).f0))) (fun _ hk => hk.2) (.int .i64 ((rd_T59 t436 x20_1).f1))) (fun _ hk => hk.2) (.int .i64 ((rd_T59 t436 x20_1).f2))) (fun _ hk => hk.2) (.int .i64 ((rd_T59 t436 x20_1).f3))) (fun _ hk => hk.2) (.int .i64 ((rd_T59 t436 x20_1).f4))) (fun _ h_ => h_.1))) hb); have n2_ := am (Kd.R_below (by (with_reducible repeat (first | apply Kd.R_alloc | apply Kd.R_drewN | apply Kd.R_drew)); exact (Kd.R_mono (Kd.R_far (p := ⟨gb440, 4, none⟩) (Kd.R_far (p := ⟨gb440, 3, none⟩) (Kd.R_far (p := ⟨gb440, 2, none⟩) (Kd.R_far (p := ⟨gb440, 1, none⟩) (Kd.R_far (p := ⟨gb440, 0, none⟩) (Kd.R_mono HO_18.out (fun k_ hk => (⟨hk, hk.2⟩ : _ ∧ k_ ≠ gb440))) (fun _ hk => hk.2) (.int .i64 ((rd_T59 t436 x20_1).f0))) (fun _ hk => hk.2) (.int .i64 ((rd_T59 t436 x20_1).f1))) (fun _ hk => hk.2) (.int .i64 ((rd_T59 t436 x20_1).f2))) (fun _ hk => hk.2) (.int .i64 ((rd_T59 t436 x20_1).f3))) (fun _ hk => hk.2) (.int .i64 ((rd_T59 t436 x20_1).f4))) (fun _ h_ => h_.1))) hb); have n3_ := am (blk_below (g := gb440) (o := .cells #[.int .i64 ((rd_T59 t436 x20_1).f0), .int .i64 ((rd_T59 t436 x20_1).f1), .int .i64 ((rd_T59 t436 x20_1).f2), .int .i64 ((rd_T59 t436 x20_1).f3), .int .i64 ((rd_T59 t436 x20_1).f4)] 59 (0, 0)) (by (with_reducible repeat (first | refine blk_drewN ?_ _ | refine blk_drew ?_ | refine blk_alloc ?_ _)); refine blk_put (cs := #[.int .i64 ((rd_T59 t436 x20_1).f0), .int .i64 ((rd_T59 t436 x20_1).f1), .int .i64 ((rd_T59 t436 x20_1).f2), .int .i64 ((rd_T59 t436 x20_1).f3), .int .i64 0]) ?_ 4 _ rfl; (with_reducible repeat (first | refine blk_drewN ?_ _ | refine blk_drew ?_ | refine blk_alloc ?_ _)); refine blk_put (cs := #[.int .i64 ((rd_T59 t436 x20_1).f0), .int .i64 ((rd_T59 t436 x20_1).f1), .int .i64 ((rd_T59 t436 x20_1).f2), .int .i64 0, .int .i64 0]) ?_ 3 _ rfl; (with_reducible repeat (first | refine blk_drewN ?_ _ | refine blk_drew ?_ | refine blk_alloc ?_ _)); refine blk_put (cs := #[.int .i64 ((rd_T59 t436 x20_1).f0), .int .i64 ((rd_T59 t436 x20_1).f1), .int .i64 0, .int .i64 0, .int .i64 0]) ?_ 2 _ rfl; (with_reducible repeat (first | refine blk_drewN ?_ _ | refine blk_drew ?_ | refine blk_alloc ?_ _)); refine blk_put (cs := #[.int .i64 ((rd_T59 t436 x20_1).f0), .int .i64 0, .int .i64 0, .int .i64 0, .int .i64 0]) ?_ 1 _ rfl; (with_reducible repeat (first | refine blk_drewN ?_ _ | refine blk_drew ?_ | refine blk_alloc ?_ _)); refine blk_put (cs := #[.int .i64 0, .int .i64 0, .int .i64 0, .int .i64 0, .int .i64 0]) ?_ 0 _ rfl; exact kU BK440.out) hb); have n4_ := am (below_step (bS HB.out GE440.out) hb); clear HO_7; clear HO_8; clear HO_18; clear BK440; clear HB; have HO_7 := n0_; have HO_8 := n1_; have HO_18 := n2_; have BK440 := n3_; have HB := n4_; clear n0_ n1_ n2_ n3_ n4_; (try clear hb); (try clear hb2); (try clear hk); (try clear hi)))
       go_roundg k1
       case measure => have := HK1.out; omega
       case rel => exact ⟨(x8_1), (wrap64 (x20_1 + 1)), (by first | rfl | (simp; done) | (simp [*]; done)), H', ⟨by have := HK1.out; omega⟩, ⟨by (with_reducible repeat (first | apply Kd.R_alloc | apply Kd.R_drewN | apply Kd.R_drew)); exact Kd.R_mono HO_7.out (fun _ hk => hk.1)⟩, ⟨rU HO_8.out⟩, ⟨by (with_reducible repeat (first | apply Kd.R_alloc | apply Kd.R_drewN | apply Kd.R_drew)); exact Kd.R_mono HO_18.out (fun _ hk => hk.1)⟩, ⟨bS HB.out GE440.out⟩⟩
     ·rw [if_neg c13] at H
      exact absurd H (by simp)
    ·rw [if_neg c12] at H
     exact absurd H (by simp)
   ·rw [if_neg c11] at H
    have c11b0 : decide (x20_1 < (t436.length : Int)) = false := decide_eq_false c11
    clear c11
    replace H := Option.bind_eq_some_iff.mp H
    obtain ⟨t445, A270, H⟩ := H
    replace H : (some t445) = some r := H
    have A27 := am A270
    clear A270
    obtain rfl := Option.some.inj H
    obtain ⟨Ao28, co28, eo28⟩ := Kd.R_slice HO_8.out
    subst eo28
    go_wp2_with (first | ((with_reducible refine gate_callee (f := 98) rfl ?_); refine goesL_ (some 36) rfl rfl Try.func98 (by kernel_rfl) rfl #[.slice Ao28 x8_1.length co28] rfl mU ?_; (with_reducible refine (impl_ordered.own x8_1 t445 _ _ (rU HO_8.out) (bU HB.out) A27.out).mono ?_); rintro e w29 ⟨v446, rfl, ho0, hb⟩; refine ⟨_, rfl, ?_⟩; have n0_ := am ho0; have n1_ := am hb; clear HO_8; clear HB; have HO447 := n0_; have HB := n1_; clear n0_ n1_))
    go_ret
    exact ⟨_, eU, by (with_reducible repeat (first | apply Kd.R_alloc | apply Kd.R_drewN | apply Kd.R_drew)); exact Kd.R_mono HO447.out (fun _ hk => trivial), bU HB.out⟩
end Go.Proofs.Ytiiibfpijmmbfaa.QFnExactLostWith
