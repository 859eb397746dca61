import Derived.Test.YtiiibfpijmmbfaaUp
import Derived.Test.YtiiibfpijmmbfaaQFnExactLostWithx0
import Derived.Test.YtiiibfpijmmbfaaQFnExactLostWithx7
namespace Go.Proofs.Ytiiibfpijmmbfaa.QFnExactLostWith
open Go.RowKit Go.Proofs.YtiiibfpijmmbfaaW.PrintWords Go.Proofs.YtiiibfpijmmbfaaW.PrintLast Go.Proofs.YtiiibfpijmmbfaaW.PrintMore
attribute [local go_sem] max2_int min2_int max_two min_two max_three min_three max_four min_four
set_option linter.unusedVariables false
set_option linter.unusedSimpArgs false
def spec_WithoutBy.l0 : Nat → List (S30) → Int → List (S30) → Int → Option ((List (S30)))
 | 0, _, _, _, _ => none
 | k + 1, x0, x1, x5, x6 => if x6 < (x0.length : Int) then (if 0 ≤ x6 then (if ((rd_T30 x0 x6).f5) = x1 then (spec_WithoutBy.l0 k x0 x1 x5 (wrap64 (x6 + 1))) else (if x5.length < 2932031007402 then (spec_WithoutBy.l0 k x0 x1 (x5 ++ [(⟨(rd_T30 x0 x6).f0, (rd_T30 x0 x6).f1, (rd_T30 x0 x6).f2, (rd_T30 x0 x6).f3, (rd_T30 x0 x6).f4, (rd_T30 x0 x6).f5⟩ : S30)]) (wrap64 (x6 + 1))) else (none))) else (none)) else (some x5)
def spec_WithoutBy.f (k : Nat) (l0 : List (S30)) (a1 : Int) : Option ((List (S30))) := spec_WithoutBy.l0 k l0 a1 (([] : List (S30))) 0
theorem spec_WithoutBy.mono_l : ∀ k, (∀ y0 y1 y2 y3, LeO (spec_WithoutBy.l0 k y0 y1 y2 y3) (spec_WithoutBy.l0 (k + 1) y0 y1 y2 y3))
 | 0 => fun _ _ _ _ r h => by simp [spec_WithoutBy.l0] at h
 | k + 1 => by
  have ih0 := spec_WithoutBy.mono_l k
  ·intro y0 y1 y2 y3
   unfold spec_WithoutBy.l0
   repeat' first
   | (with_reducible exact ih0 _ _ _ _)
   | (with_reducible exact LeO.refl _)
   | (with_reducible exact LeO.none _)
   | (with_reducible refine LeO.ite ?_ ?_)
   | (with_reducible refine LeO.bind ?_ (fun _ => ?_))
   | exact ih0 _ _ _ _
   | exact LeO.none _
   | refine LeO.ite ?_ ?_
   | refine LeO.bind ?_ (fun _ => ?_)
theorem spec_WithoutBy.mono : ∀ a0 a1 k, LeO (spec_WithoutBy.f k a0 a1) (spec_WithoutBy.f (k + 1) a0 a1) := by
 intro a0 a1 k
 have ih0 := spec_WithoutBy.mono_l k
 unfold spec_WithoutBy.f
 repeat' first
   | (with_reducible exact ih0 _ _ _ _)
   | (with_reducible exact LeO.refl _)
   | (with_reducible exact LeO.none _)
   | (with_reducible refine LeO.ite ?_ ?_)
   | (with_reducible refine LeO.bind ?_ (fun _ => ?_))
   | exact ih0 _ _ _ _
   | exact LeO.none _
   | refine LeO.ite ?_ ?_
   | refine LeO.bind ?_ (fun _ => ?_)
set_option maxHeartbeats 8000000 in
set_option maxRecDepth 100000 in
theorem spec_WithoutBy.calls (k : Nat) (A0 : Option Addr) (c0 : Nat) (l0 : List (S30)) (a1 : Int) (r : List (S30)) (w : World) (hr0 : Kd.C k30 w A0 l0.length l0) (hc0 : l0.length ≤ c0) (h : spec_WithoutBy.f k l0 a1 = some r) :
  Calls Try.prog 78 #[.slice A0 l0.length c0, .int .i64 a1] w fun e w' => ∃ v0_ : Value, e = .returned (v0_) ∧ Kd.R k30 30 w' w.heap.size (fun _ => True) v0_ r ∧ Below w.heap.size w w' := by
 have hu30 := Try.underlying30
 have HR0 := am hr0
 have HC0 := am hc0
 clear hr0 hc0
 have HB := am (Below.refl w.heap.size w)
 have H : (spec_WithoutBy.l0 k l0 a1 (([] : List (S30))) 0) = some r := h
 clear h
 obtain ⟨y282, hy282⟩ : ∃ y_ : List (S30), y_ = (([] : List (S30))) := ⟨_, rfl⟩
 replace H : (spec_WithoutBy.l0 k l0 a1 y282 0) = some r := by first | (rw [hy282]; with_reducible exact H) | (have H2_ := (Option.bind_some _ _).symm.trans H; rw [hy282]; with_reducible exact H2_) | (have H2_ := (Option.bind_some _ _).symm.trans H; with_reducible exact H2_) | with_reducible exact H | (rw [hy282]; exact H) | exact H
 have Ny282 := am hy282
 clear hy282
 have H' := am H
 clear H
 go_enter Try.func78, Try.ntmps78
 go_wp2_with (first | ((with_reducible refine gate_dst (N := 7) rfl ?_); refine Kd.R_lit k30 _ 30 ?hg (N := 7) ?hd (xs := ([] : List (S30))) (inner := []) (ok := fun _ => True) (okp := fun _ => True) ?hr ?hp (fun _ hk => hk) trivial (Below.refl _ _) (Nat.le_refl _) (by simp) ?_; (case hd => rfl); (case hg => rfl); (case hr => first | (go_simp; done) | (go_simp; rfl)); (case hp => exact (Reps.none _ _)); intro v283 w3 ho4 hb hg_ hnew_; clear hg_ hnew_; (first | rw [← Ny282.out] at ho4 | (simp only [Int.reduceToNat] at ho4; rw [← Ny282.out] at ho4)); have n0_ := am (Kd.R_lower ho4 (below_size (bU HB.out))); have n1_ := am (below_step (bU HB.out) hb); clear HB; have HO284 := n0_; have HB := n1_; clear n0_ n1_; clear hb ho4))
 go_loopg [5, 6] k (fun kq v5 v6 w' => ∃ (x5_1 : List (S30)) (x6_1 : Int), v6 = .int .i64 x6_1 ∧ Aside0 (spec_WithoutBy.l0 kq l0 a1 x5_1 x6_1 = some r) ∧ Aside0 (kq ≤ k) ∧ Aside0 (Kd.R k30 30 w' w.heap.size (fun _ => True) v5 x5_1) ∧ Aside0 (Below w.heap.size w w'))
 case atStart => exact ⟨(y282), (0), (by first | rfl | (simp; done) | (simp [*]; done)), H', ⟨Nat.le_refl _⟩, ⟨rU HO284.out⟩, ⟨bU HB.out⟩⟩
 case round =>
  clear H'
  try clear p2
  obtain ⟨x5_1, x6_1, rfl, HA, HK1, HO_5, HB⟩ := hrel
  cases gk with
  | zero => exact absurd HA.out (by simp [spec_WithoutBy.l0])
  | succ k1 =>
   have H := HA.out
   clear HA
   simp only [spec_WithoutBy.l0] at H
   by_cases c5 : x6_1 < (l0.length : Int)
   ·rw [if_pos c5] at H
    have c5b0 : decide (x6_1 < (l0.length : Int)) = true := decide_eq_true c5
    clear c5
    by_cases c6 : 0 ≤ x6_1
    ·rw [if_pos c6] at H
     have c6b0 : decide (0 ≤ x6_1) = true := decide_eq_true c6
     clear c6
     by_cases c7 : ((rd_T30 l0 x6_1).f5) = a1
     ·rw [if_pos c7] at H
      have c7b0 : (((rd_T30 l0 x6_1).f5) == a1) = true := beq_iff_eq.mpr c7
      have c7b1 : (((rd_T30 l0 x6_1).f5) != a1) = false := bne_eq_false_iff_eq.mpr c7
      clear c7
      have H' := am H
      clear H
      have p285 : 0 ≤ (x6_1 : Int) := dU
      have q285 : x6_1 < (l0.length : Int) := dU
      obtain ⟨ad285, e285, hx285_0, hx285_1, hx285_2, hx285_3, hx285_4, hx285_5⟩ := at_T30 HR0.out x6_1 p285 q285
      cases e285
      replace hx285_0 := cB HB.out hx285_0
      replace hx285_1 := cB HB.out hx285_1
      replace hx285_2 := cB HB.out hx285_2
      replace hx285_3 := cB HB.out hx285_3
      replace hx285_4 := cB HB.out hx285_4
      replace hx285_5 := cB HB.out hx285_5
      replace p285 := eq_true p285
      replace q285 := eq_true q285
      go_wp2
      go_roundg k1
      case measure => have := HK1.out; omega
      case rel => exact ⟨(x5_1), (wrap64 (x6_1 + 1)), (by first | rfl | (simp; done) | (simp [*]; done)), H', ⟨by have := HK1.out; omega⟩, ⟨rU HO_5.out⟩, ⟨bU HB.out⟩⟩
     ·rw [if_neg c7] at H
      have c7b0 : (((rd_T30 l0 x6_1).f5) == a1) = false := beq_eq_false_iff_ne.mpr c7
      have c7b1 : (((rd_T30 l0 x6_1).f5) != a1) = true := bne_iff_ne.mpr c7
      by_cases c8 : x5_1.length < 2932031007402
      ·rw [if_pos c8] at H
       have LMc8 := am c8
       clear c8
       obtain ⟨y287, hy287⟩ : ∃ y_ : List (S30), y_ = (x5_1 ++ [(⟨(rd_T30 l0 x6_1).f0, (rd_T30 l0 x6_1).f1, (rd_T30 l0 x6_1).f2, (rd_T30 l0 x6_1).f3, (rd_T30 l0 x6_1).f4, (rd_T30 l0 x6_1).f5⟩ : S30)]) := ⟨_, rfl⟩
       replace H : (spec_WithoutBy.l0 k1 l0 a1 y287 (wrap64 (x6_1 + 1))) = some r := by first | (rw [hy287]; with_reducible exact H) | (have H2_ := (Option.bind_some _ _).symm.trans H; rw [hy287]; with_reducible exact H2_) | (have H2_ := (Option.bind_some _ _).symm.trans H; with_reducible exact H2_) | with_reducible exact H | (rw [hy287]; exact H) | exact H
       have Ny287 := am hy287
       clear hy287
       have H' := am H
       clear H
       have p285 : 0 ≤ (x6_1 : Int) := dU
       have q285 : x6_1 < (l0.length : Int) := dU
       obtain ⟨ad285, e285, hx285_0, hx285_1, hx285_2, hx285_3, hx285_4, hx285_5⟩ := at_T30 HR0.out x6_1 p285 q285
       cases e285
       replace hx285_0 := cB HB.out hx285_0
       replace hx285_1 := cB HB.out hx285_1
       replace hx285_2 := cB HB.out hx285_2
       replace hx285_3 := cB HB.out hx285_3
       replace hx285_4 := cB HB.out hx285_4
       replace hx285_5 := cB HB.out hx285_5
       replace p285 := eq_true p285
       replace q285 := eq_true q285
       have p286 : 0 ≤ (x6_1 : Int) := dU
       have q286 : x6_1 < (l0.length : Int) := dU
       obtain ⟨ad286, e286, hx286_0, hx286_1, hx286_2, hx286_3, hx286_4, hx286_5⟩ := at_T30 HR0.out x6_1 p286 q286
       obtain rfl : ad285 = ad286 := (by injection e286)
       replace hx286_0 := cB HB.out hx286_0
       replace hx286_1 := cB HB.out hx286_1
       replace hx286_2 := cB HB.out hx286_2
       replace hx286_3 := cB HB.out hx286_3
       replace hx286_4 := cB HB.out hx286_4
       replace hx286_5 := cB HB.out hx286_5
       replace p286 := eq_true p286
       replace q286 := eq_true q286
       go_wp2_with (first | ((with_reducible refine gate_builtin (b := .append) (xs := #[.tmp 21, .tmp 26]) rfl ?_); at_builtin; refine Kd.R_append k30 (w0 := w) w.heap.size rfl (.tmp 21) (.tmp 26) 38 30 (.agg #[(.int .i64 0), (.int .i64 0), (.int .i64 0), (.int .i64 0), (.int .i64 0), (.int .i64 0)]) 48 rfl Try.underlying38 info30 rfl (by decide) (by omega) u5 x5_1 (⟨(rd_T30 l0 x6_1).f0, (rd_T30 l0 x6_1).f1, (rd_T30 l0 x6_1).f2, (rd_T30 l0 x6_1).f3, (rd_T30 l0 x6_1).f4, (rd_T30 l0 x6_1).f5⟩ : S30) [.int .i64 ((rd_T30 l0 x6_1).f0), .int .i64 ((rd_T30 l0 x6_1).f1), .int .i64 ((rd_T30 l0 x6_1).f2), .int .i64 ((rd_T30 l0 x6_1).f3), .int .i64 ((rd_T30 l0 x6_1).f4), .int .i64 ((rd_T30 l0 x6_1).f5)] (fun _ => True) (fun _ => False) rfl rfl ?aP (fun _ hk => hk.elim) ?aF ?aO ?aB ?aS ?aL ?_; (case aP => exact k30_mkM _ _ _ (⟨(rd_T30 l0 x6_1).f0, (rd_T30 l0 x6_1).f1, (rd_T30 l0 x6_1).f2, (rd_T30 l0 x6_1).f3, (rd_T30 l0 x6_1).f4, (rd_T30 l0 x6_1).f5⟩ : S30)); (case aB => exact bU HB.out); (case aF => exact (fun _ _ => trivial)); (case aO => exact rU HO_5.out); (case aS => exact (below_size (bU HB.out))); (case aL => have := LMc8.out; omega); intro v288 w9 ho hb hg hat; rw [← Ny287.out] at ho; have n0_ := am (hb); have n1_ := am (ho); clear HB; clear HO_5; have HB := n0_; have HO289 := n1_; clear n0_ n1_; clear ho hb hg hat))
       go_roundg k1
       case measure => have := HK1.out; omega
       case rel => exact ⟨(y287), (wrap64 (x6_1 + 1)), (by first | rfl | (simp; done) | (simp [*]; done)), H', ⟨by have := HK1.out; omega⟩, ⟨rU HO289.out⟩, ⟨bU HB.out⟩⟩
      ·rw [if_neg c8] at H
       exact absurd H (by simp)
    ·rw [if_neg c6] at H
     exact absurd H (by simp)
   ·rw [if_neg c5] at H
    have c5b0 : decide (x6_1 < (l0.length : Int)) = false := decide_eq_false c5
    clear c5
    obtain rfl := Option.some.inj H
    go_wp2
    go_ret
    exact ⟨_, eU, rU HO_5.out, bU HB.out⟩
def spec_TakeBack.f (k : Nat) (l0 : List (S59)) (l1 : List (S30)) (a2 : Int) : Option ((List (S59))) := (spec_WithoutBy.f k l1 a2).bind fun t290 => ((spec_RunEdits.f k l0 t290).bind fun t293 => (some t293))
theorem spec_TakeBack.mono : ∀ a0 a1 a2 k, LeO (spec_TakeBack.f k a0 a1 a2) (spec_TakeBack.f (k + 1) a0 a1 a2) := by
 intro a0 a1 a2 k
 unfold spec_TakeBack.f
 repeat' first
   | (with_reducible exact spec_RunEdits.mono _ _ _)
   | (with_reducible exact spec_WithoutBy.mono _ _ _)
   | (with_reducible exact LeO.refl _)
   | (with_reducible exact LeO.none _)
   | (with_reducible refine LeO.ite ?_ ?_)
   | (with_reducible refine LeO.bind ?_ (fun _ => ?_))
   | exact spec_RunEdits.mono _ _ _
   | exact spec_WithoutBy.mono _ _ _
   | exact LeO.none _
   | refine LeO.ite ?_ ?_
   | refine LeO.bind ?_ (fun _ => ?_)
set_option maxHeartbeats 8000000 in
set_option maxRecDepth 100000 in
theorem spec_TakeBack.calls (k : Nat) (A0 : Option Addr) (c0 : Nat) (l0 : List (S59)) (A1 : Option Addr) (c1 : Nat) (l1 : List (S30)) (a2 : Int) (r : List (S59)) (w : World) (hr0 : Kd.C k59 w A0 l0.length l0) (hc0 : l0.length ≤ c0) (hr1 : Kd.C k30 w A1 l1.length l1) (hc1 : l1.length ≤ c1) (h : spec_TakeBack.f k l0 l1 a2 = some r) :
  Calls Try.prog 28 #[.slice A0 l0.length c0, .slice A1 l1.length c1, .int .i64 a2] w fun e w' => ∃ v0_ : Value, e = .returned (v0_) ∧ Kd.R k59 59 w' w.heap.size (fun _ => True) v0_ r ∧ Below w.heap.size w w' := by
 have HR0 := am hr0
 have HC0 := am hc0
 clear hr0 hc0
 have HR1 := am hr1
 have HC1 := am hc1
 clear hr1 hc1
 have HB := am (Below.refl w.heap.size w)
 have H : ((spec_WithoutBy.f k l1 a2).bind fun t290 => ((spec_RunEdits.f k l0 t290).bind fun t293 => (some t293))) = some r := h
 clear h
 replace H := Option.bind_eq_some_iff.mp H
 obtain ⟨t290, A40, H⟩ := H
 replace H : ((spec_RunEdits.f k l0 t290).bind fun t293 => (some t293)) = some r := H
 have A4 := am A40
 clear A40
 replace H := Option.bind_eq_some_iff.mp H
 obtain ⟨t293, A50, H⟩ := H
 replace H : (some t293) = some r := H
 have A5 := am A50
 clear A50
 obtain rfl := Option.some.inj H
 go_enter Try.func28, Try.ntmps28
 go_wp2_with (first | ((with_reducible refine gate_callee (f := 78) rfl ?_); refine goesL_ (some 10) rfl rfl Try.func78 (by kernel_rfl) rfl #[.slice A1 l1.length c1, .int .i64 a2] rfl mU ?_; (with_reducible refine (spec_WithoutBy.calls k _ _ l1 a2 t290 _ ?side1 ?side2 A4.out).mono ?_); (case side1 => exact cU HR1.out); (case side2 => exact HC1.out); rintro e w6 ⟨v291, rfl, ho0, hb⟩; refine ⟨_, rfl, ?_⟩; have n0_ := am (Kd.R_lower ho0 (below_size (bU HB.out))); have n1_ := am (below_step (bU HB.out) hb); clear HB; have HO292 := n0_; have HB := n1_; clear n0_ n1_; (try clear hb); (try clear hb2); (try clear hk); (try clear hi); (try clear ho0); obtain ⟨Ao7, co7, eo7⟩ := Kd.R_slice HO292.out; subst eo7) | ((with_reducible refine gate_callee (f := 23) rfl ?_); refine goesL_ (some 11) rfl rfl Try.func23 (by kernel_rfl) rfl #[.slice A0 l0.length c0, .slice Ao7 t290.length co7] rfl mU ?_; (with_reducible refine (spec_RunEdits.calls k _ _ l0 _ _ t290 t293 _ ?side1 ?side2 ?side3 ?side4 A5.out).mono ?_); (case side1 => exact cU (Kd.C_below HR0.out HB.out)); (case side2 => exact HC0.out); (case side3 => exact cU (Kd.R_reads' HO292.out).2.2); (case side4 => exact (Kd.R_reads' HO292.out).2.1); rintro e w8 ⟨v294, rfl, ho0, hb⟩; refine ⟨_, rfl, ?_⟩; have n0_ := am (Kd.R_below (rU HO292.out) hb); have n1_ := am (Kd.R_lower ho0 (below_size (bU HB.out))); have n2_ := am (below_step (bU HB.out) hb); clear HO292; clear HB; have HO292 := n0_; have HO295 := n1_; have HB := n2_; clear n0_ n1_ n2_; (try clear hb); (try clear hb2); (try clear hk); (try clear hi); (try clear ho0)))
 go_ret
 exact ⟨_, eU, rU HO295.out, bU HB.out⟩
end Go.Proofs.Ytiiibfpijmmbfaa.QFnExactLostWith
