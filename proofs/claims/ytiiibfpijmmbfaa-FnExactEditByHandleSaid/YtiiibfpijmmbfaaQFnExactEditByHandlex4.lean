import Derived.Test.YtiiibfpijmmbfaaUp
import Derived.Test.YtiiibfpijmmbfaaQFnExactEditByHandlex0
import Derived.Test.YtiiibfpijmmbfaaQFnExactEditByHandlex2
import Derived.Test.YtiiibfpijmmbfaaQFnExactEditByHandlex3
namespace Go.Proofs.Ytiiibfpijmmbfaa.QFnExactEditByHandle
open Go.RowKit Go.Proofs.YtiiibfpijmmbfaaW.PrintWords Go.Proofs.YtiiibfpijmmbfaaW.PrintLast Go.Proofs.YtiiibfpijmmbfaaW.PrintMore
attribute [local go_sem] max2_int min2_int max_two min_two max_three min_three max_four min_four
set_option linter.unusedVariables false
set_option linter.unusedSimpArgs false
mutual
def spec_l5Add.j0 : Nat → List (S59) → Bool → Int → Int → Int → Int → Int → Int → Option ((List (S59)) × Bool)
 | 0, _, _, _, _, _, _, _, _ => none
 | k + 1, x0, x31, x169000, x169001, x169002, x169003, x169004, x169005 => if x31 = true then ((spec_l5Copy.f x0).bind fun t171 => (some (t171, false))) else (spec_l5Add.l0 k x0 0 x169000 x169001 x169002 x169003 x169004 x169005)
def spec_l5Add.l0 : Nat → List (S59) → Int → Int → Int → Int → Int → Int → Int → Option ((List (S59)) × Bool)
 | 0, _, _, _, _, _, _, _, _ => none
 | k + 1, x0, x6, x169000, x169001, x169002, x169003, x169004, x169005 => if x6 < (x0.length : Int) then (if 0 ≤ x6 then (if ((rd_T59 x0 x6).f0) < x169001 then (spec_l5Add.l0 k x0 (wrap64 (x6 + 1)) x169000 x169001 x169002 x169003 x169004 x169005) else (if x6 ≤ (x0.length : Int) then ((spec_l5Copy.f (x0.take (x6 : Int).toNat)).bind fun t180 => ((some (([(⟨x169001, x169002, x169003, x169004, x169005⟩ : S59)] : List (S59)) : List (S59))).bind fun y183 => (if t180.length + y183.length < 3518437208883 then ((some (t180 ++ y183 : List (S59))).bind fun y186 => ((some (x0.drop (x6 : Int).toNat : List (S59))).bind fun y189 => (if y186.length + y189.length < 3518437208883 then (some ((y186 ++ y189), true)) else (none)))) else (none)))) else (none))) else (none)) else (if 0 ≤ x6 then (if x6 ≤ (x0.length : Int) then ((spec_l5Copy.f (x0.take (x6 : Int).toNat)).bind fun t201 => ((some (([(⟨x169001, x169002, x169003, x169004, x169005⟩ : S59)] : List (S59)) : List (S59))).bind fun y204 => (if t201.length + y204.length < 3518437208883 then ((some (t201 ++ y204 : List (S59))).bind fun y207 => ((some (x0.drop (x6 : Int).toNat : List (S59))).bind fun y210 => (if y207.length + y210.length < 3518437208883 then (some ((y207 ++ y210), true)) else (none)))) else (none)))) else (none)) else (none))
end
def spec_l5Add.f (k : Nat) (l0 : List (S59)) (a1_0 : Int) (a1_1 : Int) (a1_2 : Int) (a1_3 : Int) (a1_4 : Int) (a1_5 : Int) : Option ((List (S59)) × Bool) := (spec_NodeOf.f k l0 a1_1).bind fun t169 => (if t169 ≥ 0 then (spec_l5Add.j0 k l0 true a1_0 a1_1 a1_2 a1_3 a1_4 a1_5) else ((spec_NodeOf.f k l0 a1_2).bind fun t170 => (if t170 < 0 then (spec_l5Add.j0 k l0 true a1_0 a1_1 a1_2 a1_3 a1_4 a1_5) else (if a1_2 > a1_1 then (spec_l5Add.j0 k l0 true a1_0 a1_1 a1_2 a1_3 a1_4 a1_5) else (spec_l5Add.j0 k l0 (decide ((l0.length : Int) ≥ 16)) a1_0 a1_1 a1_2 a1_3 a1_4 a1_5)))))
theorem spec_l5Add.mono_l : ∀ k, (∀ y0 y1 y2 y3 y4 y5 y6 y7, LeO (spec_l5Add.j0 k y0 y1 y2 y3 y4 y5 y6 y7) (spec_l5Add.j0 (k + 1) y0 y1 y2 y3 y4 y5 y6 y7)) ∧ (∀ y0 y1 y2 y3 y4 y5 y6 y7, LeO (spec_l5Add.l0 k y0 y1 y2 y3 y4 y5 y6 y7) (spec_l5Add.l0 (k + 1) y0 y1 y2 y3 y4 y5 y6 y7))
 | 0 => ⟨fun _ _ _ _ _ _ _ _ r h => by simp [spec_l5Add.j0] at h, fun _ _ _ _ _ _ _ _ r h => by simp [spec_l5Add.l0] at h⟩
 | k + 1 => by
  obtain ⟨ih0, ih1⟩ := spec_l5Add.mono_l k
  refine ⟨?_, ?_⟩
  ·intro y0 y1 y2 y3 y4 y5 y6 y7
   unfold spec_l5Add.j0
   repeat' first
   | (with_reducible exact ih0 _ _ _ _ _ _ _ _)
   | (with_reducible exact ih1 _ _ _ _ _ _ _ _)
   | (with_reducible exact spec_NodeOf.mono _ _ _)
   | (with_reducible exact LeO.refl _)
   | (with_reducible exact LeO.none _)
   | (with_reducible refine LeO.ite ?_ ?_)
   | (with_reducible refine LeO.bind ?_ (fun _ => ?_))
   | exact ih0 _ _ _ _ _ _ _ _
   | exact ih1 _ _ _ _ _ _ _ _
   | exact spec_NodeOf.mono _ _ _
   | exact LeO.none _
   | refine LeO.ite ?_ ?_
   | refine LeO.bind ?_ (fun _ => ?_)
  ·intro y0 y1 y2 y3 y4 y5 y6 y7
   unfold spec_l5Add.l0
   repeat' first
   | (with_reducible exact ih0 _ _ _ _ _ _ _ _)
   | (with_reducible exact ih1 _ _ _ _ _ _ _ _)
   | (with_reducible exact spec_NodeOf.mono _ _ _)
   | (with_reducible exact LeO.refl _)
   | (with_reducible exact LeO.none _)
   | (with_reducible refine LeO.ite ?_ ?_)
   | (with_reducible refine LeO.bind ?_ (fun _ => ?_))
   | exact ih0 _ _ _ _ _ _ _ _
   | exact ih1 _ _ _ _ _ _ _ _
   | exact spec_NodeOf.mono _ _ _
   | exact LeO.none _
   | refine LeO.ite ?_ ?_
   | refine LeO.bind ?_ (fun _ => ?_)
theorem spec_l5Add.mono : ∀ a0 a1 a2 a3 a4 a5 a6 k, LeO (spec_l5Add.f k a0 a1 a2 a3 a4 a5 a6) (spec_l5Add.f (k + 1) a0 a1 a2 a3 a4 a5 a6) := by
 intro a0 a1 a2 a3 a4 a5 a6 k
 obtain ⟨ih0, ih1⟩ := spec_l5Add.mono_l k
 unfold spec_l5Add.f
 repeat' first
   | (with_reducible exact ih0 _ _ _ _ _ _ _ _)
   | (with_reducible exact ih1 _ _ _ _ _ _ _ _)
   | (with_reducible exact spec_NodeOf.mono _ _ _)
   | (with_reducible exact LeO.refl _)
   | (with_reducible exact LeO.none _)
   | (with_reducible refine LeO.ite ?_ ?_)
   | (with_reducible refine LeO.bind ?_ (fun _ => ?_))
   | exact ih0 _ _ _ _ _ _ _ _
   | exact ih1 _ _ _ _ _ _ _ _
   | exact spec_NodeOf.mono _ _ _
   | exact LeO.none _
   | refine LeO.ite ?_ ?_
   | refine LeO.bind ?_ (fun _ => ?_)
def spec_l5Add.T4 : Bool × List (List Nat × List Nat) := (true, [([], []), ([], []), ([1], [1]), ([0, 2], [0, 2]), ([3], [3]), ([4], [4]), ([4], [4]), ([5, 6, 4], [4, 5, 6]), ([7, 4], [4, 7]), ([8, 4], [4, 8]), ([4], [4]), ([10, 4], [4, 10]), ([9, 11, 4], [4, 9, 11]), ([4, 12], [4, 12])])
def spec_l5Add.B4 : List Nat := [0, 0, 2, 7, 15, 31, 31, 127, 255, 511, 31, 1055, 4095, 8191]
theorem spec_l5Add.tab4 : rtab .any (opsOf Try.f68 4) = spec_l5Add.T4 := by kernel_rfl
theorem spec_l5Add.bits4 : waitsOk spec_l5Add.T4.2 spec_l5Add.B4 = true := by kernel_rfl
def spec_l5Add.T7 : Bool × List (List Nat × List Nat) := (true, [([], []), ([], []), ([0, 1], [0, 1]), ([2], [2]), ([], []), ([4], [4]), ([3, 5, 3], [3, 5]), ([], []), ([], []), ([7, 8], [7, 8]), ([6, 9, 6], [6, 9]), ([10, 10, 0, 1, 2, 3, 4, 5, 6, 7, 8, 9, 10], [10]), ([11, 0, 1, 2, 3, 4, 5, 6, 7, 8, 9, 10, 11], [])])
def spec_l5Add.B7 : List Nat := [0, 0, 3, 7, 0, 16, 63, 0, 0, 384, 1023, 2047, 4095]
theorem spec_l5Add.tab7 : rtab .any (opsOf Try.f68 7) = spec_l5Add.T7 := by kernel_rfl
theorem spec_l5Add.bits7 : waitsOk spec_l5Add.T7.2 spec_l5Add.B7 = true := by kernel_rfl
set_option maxHeartbeats 8000000 in
set_option maxRecDepth 100000 in
theorem spec_l5Add.calls (k : Nat) (A0 : Option Addr) (c0 : Nat) (l0 : List (S59)) (a1_0 : Int) (a1_1 : Int) (a1_2 : Int) (a1_3 : Int) (a1_4 : Int) (a1_5 : Int) (r1 : List (S59)) (r2 : Bool) (w : World) (hr0 : Kd.C k59 w A0 l0.length l0) (hc0 : l0.length ≤ c0) (h : spec_l5Add.f k l0 a1_0 a1_1 a1_2 a1_3 a1_4 a1_5 = some (r1, r2)) :
  Calls Try.prog 68 #[.slice A0 l0.length c0, .agg #[.int .i64 a1_0, .int .i64 a1_1, .int .i64 a1_2, .int .i64 a1_3, .int .i64 a1_4, .int .i64 a1_5]] w fun e w' => ∃ v0_ : Value, e = .returned (.tuple #[v0_, .bool r2]) ∧ Kd.R k59 59 w' w.heap.size (fun _ => True) v0_ r1 ∧ Below w.heap.size w w' := by
 have hu30 := Try.underlying30
 have hu59 := Try.underlying59
 have HR0 := am hr0
 have HC0 := am hc0
 clear hr0 hc0
 have HB := am (Below.refl w.heap.size w)
 have H : ((spec_NodeOf.f k l0 a1_1).bind fun t169 => (if t169 ≥ 0 then (spec_l5Add.j0 k l0 true a1_0 a1_1 a1_2 a1_3 a1_4 a1_5) else ((spec_NodeOf.f k l0 a1_2).bind fun t170 => (if t170 < 0 then (spec_l5Add.j0 k l0 true a1_0 a1_1 a1_2 a1_3 a1_4 a1_5) else (if a1_2 > a1_1 then (spec_l5Add.j0 k l0 true a1_0 a1_1 a1_2 a1_3 a1_4 a1_5) else (spec_l5Add.j0 k l0 (decide ((l0.length : Int) ≥ 16)) a1_0 a1_1 a1_2 a1_3 a1_4 a1_5)))))) = some (r1, r2) := h
 clear h
 have HC3 := am H
 clear H
 go_enter Try.func68, Try.ntmps68
 go_upto_region 1 with (first | ((with_reducible refine gate_dst (N := 3) rfl ?_); (try (refine gate_guard (by rfl) ?_; dsimp only)); refine box_event ?hg (N := 3) ?hd (cs := #[.int .i64 a1_0, .int .i64 a1_1, .int .i64 a1_2, .int .i64 a1_3, .int .i64 a1_4, .int .i64 a1_5]) (t := 30) ?hr ?_; (case hd => rfl); (case hg => rfl); (case hr => first | (go_simp; done) | (go_simp; rfl)); intro gb168 hg w4 hbox hb; have n0_ := am (below_step (bU HB.out) hb); have n1_ := am (hbox); have n2_ := am ((by rw [hg]; exact (below_size (bU HB.out)) : w.heap.size ≤ gb168)); have n3_ := am ((by rw [hg]; exact (below_size (bU HB.out)) : w.heap.size ≤ gb168)); clear HB; have HB := n0_; have BK168 := n1_; have GW168 := n2_; have GE168 := n3_; clear n0_ n1_ n2_ n3_; clear hb hbox hg))
 (try simp only [Act.put, List.setIfInBounds_toArray, List.set_cons_zero, List.set_cons_succ])
 go_cut [31] (fun v31 wc => ∃ (kq : Nat) (x31_2 : Bool), v31 = .bool x31_2 ∧ Aside0 (spec_l5Add.j0 kq l0 x31_2 a1_0 a1_1 a1_2 a1_3 a1_4 a1_5 = some (r1, r2)) ∧ Aside0 (kq ≤ k) ∧ Aside0 (wc.heap[gb168]? = some (.cells #[.int .i64 a1_0, .int .i64 a1_1, .int .i64 a1_2, .int .i64 a1_3, .int .i64 a1_4, .int .i64 a1_5] 30 (0, 0))) ∧ Aside0 (Below w.heap.size w wc))
 case first =>
  have H := HC3.out
  clear HC3
  replace H := Option.bind_eq_some_iff.mp H
  obtain ⟨t169, A50, H⟩ := H
  replace H : (if t169 ≥ 0 then (spec_l5Add.j0 k l0 true a1_0 a1_1 a1_2 a1_3 a1_4 a1_5) else ((spec_NodeOf.f k l0 a1_2).bind fun t170 => (if t170 < 0 then (spec_l5Add.j0 k l0 true a1_0 a1_1 a1_2 a1_3 a1_4 a1_5) else (if a1_2 > a1_1 then (spec_l5Add.j0 k l0 true a1_0 a1_1 a1_2 a1_3 a1_4 a1_5) else (spec_l5Add.j0 k l0 (decide ((l0.length : Int) ≥ 16)) a1_0 a1_1 a1_2 a1_3 a1_4 a1_5))))) = some (r1, r2) := H
  have A5 := am A50
  clear A50
  by_cases c6 : t169 ≥ 0
  ·rw [if_pos c6] at H
   have c6b0 : decide (0 ≤ t169) = true := decide_eq_true c6
   clear c6
   (first | rw [c6b0] | (simp only [i64_w, i32_w]; rw [c6b0]) | skip)
   have H' := am H
   clear H
   obtain ⟨hcz7_0, hcz7_1, hcz7_2, hcz7_3, hcz7_4, hcz7_5⟩ := bc6 BK168.out
   obtain ⟨hfz7_0, hfz7_1, hfz7_2, hfz7_3, hfz7_4, hfz7_5⟩ := bf6 BK168.out
   go_wp2_with (first | ((with_reducible refine gate_callee (f := 67) rfl ?_); refine goesL_ (some 11) rfl rfl Try.func67 (by kernel_rfl) rfl #[.slice A0 l0.length c0, .int .i64 a1_1] rfl mU ?_; (with_reducible refine (spec_NodeOf.calls k _ _ l0 a1_1 t169 _ ?side1 ?side2 A5.out).mono ?_); (case side1 => exact cU (Kd.C_below HR0.out HB.out)); (case side2 => exact HC0.out); rintro e w' ⟨rfl, ⟨nd, rfl⟩⟩; refine ⟨_, rfl, ?_⟩))
   go_meet
   case rel => exact ⟨_, (true), (by first | rfl | (simp; done) | (simp [*]; done)), H', ⟨by first | omega | exact Nat.le_refl _⟩, ⟨kU BK168.out⟩, ⟨bS HB.out GE168.out⟩⟩
  ·rw [if_neg c6] at H
   have c6b0 : decide (0 ≤ t169) = false := decide_eq_false c6
   clear c6
   (first | rw [c6b0] | (simp only [i64_w, i32_w]; rw [c6b0]) | skip)
   replace H := Option.bind_eq_some_iff.mp H
   obtain ⟨t170, A80, H⟩ := H
   replace H : (if t170 < 0 then (spec_l5Add.j0 k l0 true a1_0 a1_1 a1_2 a1_3 a1_4 a1_5) else (if a1_2 > a1_1 then (spec_l5Add.j0 k l0 true a1_0 a1_1 a1_2 a1_3 a1_4 a1_5) else (spec_l5Add.j0 k l0 (decide ((l0.length : Int) ≥ 16)) a1_0 a1_1 a1_2 a1_3 a1_4 a1_5))) = some (r1, r2) := H
   have A8 := am A80
   clear A80
   by_cases c9 : t170 < 0
   ·rw [if_pos c9] at H
    have c9b0 : decide (t170 < 0) = true := decide_eq_true c9
    clear c9
    have H' := am H
    clear H
    obtain ⟨hcz10_0, hcz10_1, hcz10_2, hcz10_3, hcz10_4, hcz10_5⟩ := bc6 BK168.out
    obtain ⟨hfz10_0, hfz10_1, hfz10_2, hfz10_3, hfz10_4, hfz10_5⟩ := bf6 BK168.out
    go_wp2_with (first | ((with_reducible refine gate_callee (f := 67) rfl ?_); refine goesL_ (some 11) rfl rfl Try.func67 (by kernel_rfl) rfl #[.slice A0 l0.length c0, .int .i64 a1_1] rfl mU ?_; (with_reducible refine (spec_NodeOf.calls k _ _ l0 a1_1 t169 _ ?side1 ?side2 A5.out).mono ?_); (case side1 => exact cU (Kd.C_below HR0.out HB.out)); (case side2 => exact HC0.out); rintro e w' ⟨rfl, ⟨nd, rfl⟩⟩; refine ⟨_, rfl, ?_⟩) | (go_at_call 67; (with_reducible refine (spec_NodeOf.calls k _ _ l0 a1_2 t170 _ ?side1 ?side2 A8.out).mono ?_); (case side1 => repeat (first | exact (Kd.C_below HR0.out (bS HB.out GE168.out)) | (with_reducible refine Kd.C_alloc ?_ _) | (with_reducible refine Kd.C_drewN ?_ _) | (with_reducible refine Kd.C_drew ?_))); (case side2 => exact HC0.out); rintro e w' ⟨rfl, ⟨nd, rfl⟩⟩))
    go_meet
    case rel => exact ⟨_, (true), (by first | rfl | (simp; done) | (simp [*]; done)), H', ⟨by first | omega | exact Nat.le_refl _⟩, ⟨kU BK168.out⟩, ⟨bS HB.out GE168.out⟩⟩
   ·rw [if_neg c9] at H
    have c9b0 : decide (t170 < 0) = false := decide_eq_false c9
    clear c9
    by_cases c11 : a1_2 > a1_1
    ·rw [if_pos c11] at H
     have c11b0 : decide (a1_1 < a1_2) = true := decide_eq_true c11
     clear c11
     have H' := am H
     clear H
     obtain ⟨hcz12_0, hcz12_1, hcz12_2, hcz12_3, hcz12_4, hcz12_5⟩ := bc6 BK168.out
     obtain ⟨hfz12_0, hfz12_1, hfz12_2, hfz12_3, hfz12_4, hfz12_5⟩ := bf6 BK168.out
     go_wp2_with (first | ((with_reducible refine gate_callee (f := 67) rfl ?_); refine goesL_ (some 11) rfl rfl Try.func67 (by kernel_rfl) rfl #[.slice A0 l0.length c0, .int .i64 a1_1] rfl mU ?_; (with_reducible refine (spec_NodeOf.calls k _ _ l0 a1_1 t169 _ ?side1 ?side2 A5.out).mono ?_); (case side1 => exact cU (Kd.C_below HR0.out HB.out)); (case side2 => exact HC0.out); rintro e w' ⟨rfl, ⟨nd, rfl⟩⟩; refine ⟨_, rfl, ?_⟩) | (go_at_call 67; (with_reducible refine (spec_NodeOf.calls k _ _ l0 a1_2 t170 _ ?side1 ?side2 A8.out).mono ?_); (case side1 => repeat (first | exact (Kd.C_below HR0.out (bS HB.out GE168.out)) | (with_reducible refine Kd.C_alloc ?_ _) | (with_reducible refine Kd.C_drewN ?_ _) | (with_reducible refine Kd.C_drew ?_))); (case side2 => exact HC0.out); rintro e w' ⟨rfl, ⟨nd, rfl⟩⟩))
     go_meet
     case rel => exact ⟨_, (true), (by first | rfl | (simp; done) | (simp [*]; done)), H', ⟨by first | omega | exact Nat.le_refl _⟩, ⟨kU BK168.out⟩, ⟨bS HB.out GE168.out⟩⟩
    ·rw [if_neg c11] at H
     have c11b0 : decide (a1_1 < a1_2) = false := decide_eq_false c11
     clear c11
     have H' := am H
     clear H
     obtain ⟨hcz13_0, hcz13_1, hcz13_2, hcz13_3, hcz13_4, hcz13_5⟩ := bc6 BK168.out
     obtain ⟨hfz13_0, hfz13_1, hfz13_2, hfz13_3, hfz13_4, hfz13_5⟩ := bf6 BK168.out
     go_wp2_with (first | ((with_reducible refine gate_callee (f := 67) rfl ?_); refine goesL_ (some 11) rfl rfl Try.func67 (by kernel_rfl) rfl #[.slice A0 l0.length c0, .int .i64 a1_1] rfl mU ?_; (with_reducible refine (spec_NodeOf.calls k _ _ l0 a1_1 t169 _ ?side1 ?side2 A5.out).mono ?_); (case side1 => exact cU (Kd.C_below HR0.out HB.out)); (case side2 => exact HC0.out); rintro e w' ⟨rfl, ⟨nd, rfl⟩⟩; refine ⟨_, rfl, ?_⟩) | (go_at_call 67; (with_reducible refine (spec_NodeOf.calls k _ _ l0 a1_2 t170 _ ?side1 ?side2 A8.out).mono ?_); (case side1 => repeat (first | exact (Kd.C_below HR0.out (bS HB.out GE168.out)) | (with_reducible refine Kd.C_alloc ?_ _) | (with_reducible refine Kd.C_drewN ?_ _) | (with_reducible refine Kd.C_drew ?_))); (case side2 => exact HC0.out); rintro e w' ⟨rfl, ⟨nd, rfl⟩⟩))
     go_meet
     case rel => exact ⟨_, (decide ((l0.length : Int) ≥ 16)), (by first | rfl | (simp; done) | (simp [*]; done)), H', ⟨by first | omega | exact Nat.le_refl _⟩, ⟨kU BK168.out⟩, ⟨bS HB.out GE168.out⟩⟩
 case rest =>
  clear HC3
  try clear c1
  try clear p2
  try clear c6
  try clear c6b0
  try clear c9
  try clear c9b0
  try clear c11
  try clear c11b0
  try clear hcz10_0 hcz10_1 hcz10_2 hcz10_3 hcz10_4 hcz10_5
  try clear hcz12_0 hcz12_1 hcz12_2 hcz12_3 hcz12_4 hcz12_5
  try clear hcz13_0 hcz13_1 hcz13_2 hcz13_3 hcz13_4 hcz13_5
  try clear hcz7_0 hcz7_1 hcz7_2 hcz7_3 hcz7_4 hcz7_5
  try clear hfz10_0 hfz10_1 hfz10_2 hfz10_3 hfz10_4 hfz10_5
  try clear hfz12_0 hfz12_1 hfz12_2 hfz12_3 hfz12_4 hfz12_5
  try clear hfz13_0 hfz13_1 hfz13_2 hfz13_3 hfz13_4 hfz13_5
  try clear hfz7_0 hfz7_1 hfz7_2 hfz7_3 hfz7_4 hfz7_5
  obtain ⟨kq, x31_2, rfl, HA, HJ2, BK168, HB⟩ := hcut
  cases kq with
  | zero => exact absurd HA.out (by simp [spec_l5Add.j0])
  | succ kj2 =>
   have H := HA.out
   clear HA
   simp only [spec_l5Add.j0] at H
   by_cases c14 : x31_2 = true
   ·subst c14
    have H1 : ((spec_l5Copy.f l0).bind fun t171 => (some (t171, false))) = some (r1, r2) := by rw [if_pos rfl] at H; exact H
    clear H
    have H := H1
    clear H1
    replace H := Option.bind_eq_some_iff.mp H
    obtain ⟨t171, A150, H⟩ := H
    replace H : (some (t171, false)) = some (r1, r2) := H
    have A15 := am A150
    clear A150
    simp only [Option.some.injEq, Prod.mk.injEq] at H
    obtain ⟨rfl, rfl⟩ := H
    go_wp2_with (first | ((with_reducible refine gate_callee (f := 66) rfl ?_); refine goesL_ (some 33) rfl rfl Try.func66 (by kernel_rfl) rfl #[.slice A0 l0.length c0] rfl mU ?_; (with_reducible refine (spec_l5Copy.calls _ _ l0 t171 _ ?side1 ?side2 A15.out).mono ?_); (case side1 => exact cU (Kd.C_below HR0.out HB.out)); (case side2 => exact HC0.out); rintro e w16 ⟨v172, rfl, ho0, hb⟩; refine ⟨_, rfl, ?_⟩; have n0_ := am (Kd.R_lower ho0 (below_size (bS HB.out GE168.out))); have n1_ := am (kB BK168.out hb); have n2_ := am (below_step (bS HB.out GE168.out) hb); clear BK168; clear HB; have HO173 := n0_; have BK168 := n1_; have HB := n2_; clear n0_ n1_ n2_; (try clear hb); (try clear hb2); (try clear hk); (try clear hi); (try clear ho0)))
    go_ret2
    exact ⟨_, eU, rU HO173.out, bS HB.out GE168.out⟩
   ·replace c14 := Bool.eq_false_iff.mpr c14
    subst c14
    have H1 : (spec_l5Add.l0 kj2 l0 0 a1_0 a1_1 a1_2 a1_3 a1_4 a1_5) = some (r1, r2) := by rw [if_neg (show ¬ (false = true) by decide)] at H; exact H
    clear H
    have H := H1
    clear H1
    have H' := am H
    clear H
    go_wp2
    go_loopg [6] kj2 (fun kq v6 w' => ∃ (x6_2 : Int), v6 = .int .i64 x6_2 ∧ Aside0 (spec_l5Add.l0 kq l0 x6_2 a1_0 a1_1 a1_2 a1_3 a1_4 a1_5 = some (r1, r2)) ∧ Aside0 (kq ≤ kj2) ∧ Aside0 (w'.heap[gb168]? = some (.cells #[.int .i64 a1_0, .int .i64 a1_1, .int .i64 a1_2, .int .i64 a1_3, .int .i64 a1_4, .int .i64 a1_5] 30 (0, 0))) ∧ Aside0 (Below w.heap.size w w'))
    case atStart => exact ⟨(0), (by first | rfl | (simp; done) | (simp [*]; done)), H', ⟨Nat.le_refl _⟩, ⟨kU BK168.out⟩, ⟨bS HB.out GE168.out⟩⟩
    case round =>
     clear H'
     try clear c1
     try clear p2
     try clear c6
     try clear c6b0
     try clear c9
     try clear c9b0
     try clear c11
     try clear c11b0
     try clear c14
     try clear hcz10_0 hcz10_1 hcz10_2 hcz10_3 hcz10_4 hcz10_5
     try clear hcz12_0 hcz12_1 hcz12_2 hcz12_3 hcz12_4 hcz12_5
     try clear hcz13_0 hcz13_1 hcz13_2 hcz13_3 hcz13_4 hcz13_5
     try clear hcz7_0 hcz7_1 hcz7_2 hcz7_3 hcz7_4 hcz7_5
     try clear hfz10_0 hfz10_1 hfz10_2 hfz10_3 hfz10_4 hfz10_5
     try clear hfz12_0 hfz12_1 hfz12_2 hfz12_3 hfz12_4 hfz12_5
     try clear hfz13_0 hfz13_1 hfz13_2 hfz13_3 hfz13_4 hfz13_5
     try clear hfz7_0 hfz7_1 hfz7_2 hfz7_3 hfz7_4 hfz7_5
     try clear p2
     obtain ⟨x6_2, rfl, HA, HK2, BK168, HB⟩ := hrel
     cases gk with
     | zero => exact absurd HA.out (by simp [spec_l5Add.l0])
     | succ k2 =>
      have H := HA.out
      clear HA
      simp only [spec_l5Add.l0] at H
      by_cases c17 : x6_2 < (l0.length : Int)
      ·rw [if_pos c17] at H
       have c17b0 : decide (x6_2 < (l0.length : Int)) = true := decide_eq_true c17
       clear c17
       by_cases c18 : 0 ≤ x6_2
       ·rw [if_pos c18] at H
        have c18b0 : decide (0 ≤ x6_2) = true := decide_eq_true c18
        clear c18
        by_cases c19 : ((rd_T59 l0 x6_2).f0) < a1_1
        ·rw [if_pos c19] at H
         have c19b0 : decide (((rd_T59 l0 x6_2).f0) < a1_1) = true := decide_eq_true c19
         clear c19
         have H' := am H
         clear H
         try go_wp2
         have n0_ := am (blk_drew BK168.out)
         have n1_ := am (below_drew1 HB.out)
         clear BK168
         clear HB
         have BK168 := n0_
         have HB := n1_
         clear n0_ n1_
         have p174 : 0 ≤ (x6_2 : Int) := dU
         have q174 : x6_2 < (l0.length : Int) := dU
         obtain ⟨ad174, e174, hx174_0, hx174_1, hx174_2, hx174_3, hx174_4⟩ := at_T59 HR0.out x6_2 p174 q174
         have hw174_4 := hx174_4
         have hw174_3 := hx174_3
         have hw174_2 := hx174_2
         have hw174_1 := hx174_1
         have hw174_0 := hx174_0
         cases e174
         replace hx174_0 := cB HB.out hx174_0
         replace hx174_1 := cB HB.out hx174_1
         replace hx174_2 := cB HB.out hx174_2
         replace hx174_3 := cB HB.out hx174_3
         replace hx174_4 := cB HB.out hx174_4
         replace p174 := eq_true p174
         replace q174 := eq_true q174
         refine start_ (n := 14) (S := fun w' => w'.cell? ⟨gb168, 0, none⟩ = some (.int .i64 a1_0) ∧ w'.cell? ⟨gb168, 1, none⟩ = some (.int .i64 a1_1) ∧ w'.cell? ⟨gb168, 2, none⟩ = some (.int .i64 a1_2) ∧ w'.cell? ⟨gb168, 3, none⟩ = some (.int .i64 a1_3) ∧ w'.cell? ⟨gb168, 4, none⟩ = some (.int .i64 a1_4) ∧ w'.cell? ⟨gb168, 5, none⟩ = some (.int .i64 a1_5) ∧ w'.cell? (ad174.add ((x6_2).toNat * 5)) = some (.int .i64 ((rd_T59 l0 x6_2).f0)) ∧ w'.cell? ⟨(ad174.add ((x6_2).toNat * 5)).block, (ad174.add ((x6_2).toNat * 5)).off + 1, none⟩ = some (.int .i64 ((rd_T59 l0 x6_2).f1)) ∧ w'.cell? ⟨(ad174.add ((x6_2).toNat * 5)).block, (ad174.add ((x6_2).toNat * 5)).off + 2, none⟩ = some (.int .i64 ((rd_T59 l0 x6_2).f2)) ∧ w'.cell? ⟨(ad174.add ((x6_2).toNat * 5)).block, (ad174.add ((x6_2).toNat * 5)).off + 3, none⟩ = some (.int .i64 ((rd_T59 l0 x6_2).f3)) ∧ w'.cell? ⟨(ad174.add ((x6_2).toNat * 5)).block, (ad174.add ((x6_2).toNat * 5)).off + 4, none⟩ = some (.int .i64 ((rd_T59 l0 x6_2).f4))) (ds := []) #[false, false, false, false, false, false, false, false, false, false, false, false, false, false] (by kernel_rfl) rfl rfl ⟨(blk_cell BK168.out 0).trans rfl, (blk_cell BK168.out 1).trans rfl, (blk_cell BK168.out 2).trans rfl, (blk_cell BK168.out 3).trans rfl, (blk_cell BK168.out 4).trans rfl, (blk_cell BK168.out 5).trans rfl, ((HB.out.cell (World.block_lt_of_cell? w _ hw174_0)).trans hw174_0), ((HB.out.cell (World.block_lt_of_cell? w _ hw174_1)).trans hw174_1), ((HB.out.cell (World.block_lt_of_cell? w _ hw174_2)).trans hw174_2), ((HB.out.cell (World.block_lt_of_cell? w _ hw174_3)).trans hw174_3), ((HB.out.cell (World.block_lt_of_cell? w _ hw174_4)).trans hw174_4)⟩ (fun hHeld => ?_); refine with_tabW spec_l5Add.tab4 spec_l5Add.bits4 (fun HT_ HW_ => ?_)
         generalize wr.drew = w20 at BK168 HB hx174_0 hx174_1 hx174_2 hx174_3 hx174_4 hHeld ⊢
         refine pure_ (i := 0) (N := some 34) (v := ?_) (a' := ?_) #[true, false, false, false, false, false, false, false, false, false, false, false, false, false] rfl rfl (any_of HT_.out (by kernel_rfl)) (fun _ _ _ h => h) (Or.inl ⟨by rfl, ?_⟩) ?_ ?_
         rotate_left
         ·intro w'
          go_simp
          with_reducible rfl
         rotate_left
         ·simp only [Act.put, List.setIfInBounds_toArray, List.set_cons_zero, List.set_cons_succ, i64_w, i32_w]
          rfl
         refine pure_ (i := 1) (N := some 35) (v := ?_) (a' := ?_) #[true, true, false, false, false, false, false, false, false, false, false, false, false, false] rfl rfl (any_of HT_.out (by kernel_rfl)) (fun _ _ _ h => h) (Or.inl ⟨by rfl, ?_⟩) ?_ ?_
         rotate_left
         ·intro w'
          go_simp
          with_reducible rfl
         rotate_left
         ·simp only [Act.put, List.setIfInBounds_toArray, List.set_cons_zero, List.set_cons_succ, i64_w, i32_w]
          rfl
         refine pure_ (i := 2) (N := some 36) (v := ?_) (a' := ?_) #[true, true, true, false, false, false, false, false, false, false, false, false, false, false] rfl rfl (any_of HT_.out (by kernel_rfl)) (fun _ _ _ h => h) (Or.inl ⟨by rfl, ?_⟩) ?_ ?_
         rotate_left
         ·intro w'
          go_simp
          with_reducible rfl
         rotate_left
         ·simp only [Act.put, List.setIfInBounds_toArray, List.set_cons_zero, List.set_cons_succ, i64_w, i32_w]
          rfl
         refine pure_ (i := 3) (N := some 37) (v := ?_) (a' := ?_) #[true, true, true, true, false, false, false, false, false, false, false, false, false, false] rfl rfl (any_of HT_.out (by kernel_rfl)) (fun _ _ _ h => h) (Or.inl ⟨by rfl, ?_⟩) ?_ ?_
         rotate_left
         ·intro w'
          go_simp
          with_reducible rfl
         rotate_left
         ·simp only [Act.put, List.setIfInBounds_toArray, List.set_cons_zero, List.set_cons_succ, i64_w, i32_w]
          rfl
         refine pure_ (i := 4) (N := some 38) (v := ?_) (a' := ?_) #[true, true, true, true, true, false, false, false, false, false, false, false, false, false] rfl rfl (any_of HT_.out (by kernel_rfl)) (fun _ _ _ h => h) (Or.inl ⟨by rfl, ?_⟩) ?_ ?_
         rotate_left
         ·intro w'
          go_simp
          with_reducible rfl
         rotate_left
         ·simp only [Act.put, List.setIfInBounds_toArray, List.set_cons_zero, List.set_cons_succ, i64_w, i32_w]
          rfl
         refine pure_ (i := 5) (N := some 39) (v := ?_) (a' := ?_) #[true, true, true, true, true, true, false, false, false, false, false, false, false, false] rfl rfl (any_of HT_.out (by kernel_rfl)) (fun _ _ _ h => h) (Or.inl ⟨by rfl, ?_⟩) ?_ ?_
         rotate_left
         ·intro w'
          go_simp
          with_reducible rfl
         rotate_left
         ·simp only [Act.put, List.setIfInBounds_toArray, List.set_cons_zero, List.set_cons_succ, i64_w, i32_w]
          rfl
         refine pure_ (i := 6) (N := some 40) (v := ?_) (a' := ?_) #[true, true, true, true, true, true, true, false, false, false, false, false, false, false] rfl rfl (any_of HT_.out (by kernel_rfl)) (fun _ _ _ h => h) (Or.inl ⟨by rfl, ?_⟩) ?_ ?_
         rotate_left
         ·intro w'
          go_simp
          with_reducible rfl
         rotate_left
         ·simp only [Act.put, List.setIfInBounds_toArray, List.set_cons_zero, List.set_cons_succ, i64_w, i32_w]
          rfl
         refine pure_ (i := 7) (N := some 41) (v := ?_) (a' := ?_) #[true, true, true, true, true, true, true, true, false, false, false, false, false, false] rfl rfl (any_of HT_.out (by kernel_rfl)) (fun _ _ _ h => h) (Or.inl ⟨by rfl, ?_⟩) ?_ ?_
         rotate_left
         ·intro w'
          go_simp
          with_reducible rfl
         rotate_left
         ·simp only [Act.put, List.setIfInBounds_toArray, List.set_cons_zero, List.set_cons_succ, i64_w, i32_w]
          rfl
         refine pure_ (i := 8) (N := some 42) (v := ?_) (a' := ?_) #[true, true, true, true, true, true, true, true, true, false, false, false, false, false] rfl rfl (any_of HT_.out (by kernel_rfl)) (fun _ _ _ h => h) (Or.inl ⟨by rfl, ?_⟩) ?_ ?_
         rotate_left
         ·intro w'
          go_simp
          with_reducible rfl
         rotate_left
         ·simp only [Act.put, List.setIfInBounds_toArray, List.set_cons_zero, List.set_cons_succ, i64_w, i32_w]
          rfl
         refine pure_ (i := 10) (N := some 44) (v := ?_) (a' := ?_) #[true, true, true, true, true, true, true, true, true, false, true, false, false, false] rfl rfl (any_of HT_.out (by kernel_rfl)) (fun _ _ _ h => h) (Or.inl ⟨by rfl, ?_⟩) ?_ ?_
         rotate_left
         ·intro w'
          go_simp
          with_reducible rfl
         rotate_left
         ·simp only [Act.put, List.setIfInBounds_toArray, List.set_cons_zero, List.set_cons_succ, i64_w, i32_w]
          rfl
         refine take_ (i := 9) (N := some 43) (v := ?_) (a' := ?_) #[true, true, true, true, true, true, true, true, true, true, true, false, false, false] rfl rfl (take_ofW HT_.out HW_.out (by kernel_rfl)) (fun _ _ _ h => h) (Or.inl ⟨by rfl, ?_⟩) hHeld ?_ ?_
         rotate_left
         ·rintro w' ⟨s0, s1, s2, s3, s4, s5, s6, s7, s8, s9, s10⟩
          go_simp
          with_reducible rfl
         rotate_left
         ·simp only [Act.put, List.setIfInBounds_toArray, List.set_cons_zero, List.set_cons_succ, i64_w, i32_w]
          rfl
         refine take_ (i := 11) (N := some 45) (v := ?_) (a' := ?_) #[true, true, true, true, true, true, true, true, true, true, true, true, false, false] rfl rfl (take_ofW HT_.out HW_.out (by kernel_rfl)) (fun _ _ _ h => h) (Or.inl ⟨by rfl, ?_⟩) hHeld ?_ ?_
         rotate_left
         ·rintro w' ⟨s0, s1, s2, s3, s4, s5, s6, s7, s8, s9, s10⟩
          go_simp
          with_reducible rfl
         rotate_left
         ·simp only [Act.put, List.setIfInBounds_toArray, List.set_cons_zero, List.set_cons_succ, i64_w, i32_w]
          rfl
         refine pure_ (i := 12) (N := some 46) (v := ?_) (a' := ?_) #[true, true, true, true, true, true, true, true, true, true, true, true, true, false] rfl rfl (any_of HT_.out (by kernel_rfl)) (fun _ _ _ h => h) (Or.inl ⟨by rfl, ?_⟩) ?_ ?_
         rotate_left
         ·intro w'
          go_simp
          with_reducible rfl
         rotate_left
         ·simp only [Act.put, List.setIfInBounds_toArray, List.set_cons_zero, List.set_cons_succ, i64_w, i32_w]
          rfl
         refine pure_ (i := 13) (N := some 47) (v := ?_) (a' := ?_) #[true, true, true, true, true, true, true, true, true, true, true, true, true, true] rfl rfl (any_of HT_.out (by kernel_rfl)) (fun _ _ _ h => h) (Or.inl ⟨by rfl, ?_⟩) ?_ ?_
         rotate_left
         ·intro w'
          go_simp
          with_reducible rfl
         rotate_left
         ·simp only [Act.put, List.setIfInBounds_toArray, List.set_cons_zero, List.set_cons_succ, i64_w, i32_w]
          rfl
         refine done_ (done_of HT_.out (by kernel_rfl)) ?_
         try go_wp2
         go_roundg k2
         case measure => have := HJ2.out; have := HK2.out; omega
         case rel => exact ⟨(wrap64 (x6_2 + 1)), (by first | rfl | (simp; done) | (simp [*]; done)), H', ⟨by have := HJ2.out; have := HK2.out; omega⟩, ⟨kU BK168.out⟩, ⟨bS HB.out GE168.out⟩⟩
        ·rw [if_neg c19] at H
         have c19b0 : decide (((rd_T59 l0 x6_2).f0) < a1_1) = false := decide_eq_false c19
         clear c19
         have c21b0 := eq_true (dU : 0 ≤ x6_2)
         by_cases c22 : x6_2 ≤ (l0.length : Int)
         ·rw [if_pos c22] at H
          have c22b0 := eq_true c22
          have c22b1 : decide (x6_2 ≤ (l0.length : Int)) = true := decide_eq_true c22
          clear c22
          obtain ⟨y176, hy176⟩ : ∃ y_ : List (S59), y_ = (l0.take (x6_2 : Int).toNat) := ⟨_, rfl⟩
          replace H : ((spec_l5Copy.f y176).bind fun t180 => ((some (([(⟨a1_1, a1_2, a1_3, a1_4, a1_5⟩ : S59)] : List (S59)) : List (S59))).bind fun y183 => (if t180.length + y183.length < 3518437208883 then ((some (t180 ++ y183 : List (S59))).bind fun y186 => ((some (l0.drop (x6_2 : Int).toNat : List (S59))).bind fun y189 => (if y186.length + y189.length < 3518437208883 then (some ((y186 ++ y189), true)) else (none)))) else (none)))) = some (r1, r2) := by first | (rw [hy176]; with_reducible exact H) | (have H2_ := (Option.bind_some _ _).symm.trans H; rw [hy176]; with_reducible exact H2_) | (have H2_ := (Option.bind_some _ _).symm.trans H; with_reducible exact H2_) | with_reducible exact H | (rw [hy176]; exact H) | exact H
          have Ny176 := am hy176
          clear hy176
          replace H := Option.bind_eq_some_iff.mp H
          obtain ⟨t180, A230, H⟩ := H
          replace H : ((some (([(⟨a1_1, a1_2, a1_3, a1_4, a1_5⟩ : S59)] : List (S59)) : List (S59))).bind fun y183 => (if t180.length + y183.length < 3518437208883 then ((some (t180 ++ y183 : List (S59))).bind fun y186 => ((some (l0.drop (x6_2 : Int).toNat : List (S59))).bind fun y189 => (if y186.length + y189.length < 3518437208883 then (some ((y186 ++ y189), true)) else (none)))) else (none))) = some (r1, r2) := H
          have A23 := am A230
          clear A230
          obtain ⟨y183, hy183⟩ : ∃ y_ : List (S59), y_ = (([(⟨a1_1, a1_2, a1_3, a1_4, a1_5⟩ : S59)] : List (S59))) := ⟨_, rfl⟩
          replace H : (if t180.length + y183.length < 3518437208883 then ((some (t180 ++ y183 : List (S59))).bind fun y186 => ((some (l0.drop (x6_2 : Int).toNat : List (S59))).bind fun y189 => (if y186.length + y189.length < 3518437208883 then (some ((y186 ++ y189), true)) else (none)))) else (none)) = some (r1, r2) := by first | (rw [hy183]; with_reducible exact H) | (have H2_ := (Option.bind_some _ _).symm.trans H; rw [hy183]; with_reducible exact H2_) | (have H2_ := (Option.bind_some _ _).symm.trans H; with_reducible exact H2_) | with_reducible exact H | (rw [hy183]; exact H) | exact H
          have Ny183 := am hy183
          clear hy183
          by_cases c24 : t180.length + y183.length < 3518437208883
          ·rw [if_pos c24] at H
           have LMc24 := am c24
           clear c24
           obtain ⟨y186, hy186⟩ : ∃ y_ : List (S59), y_ = (t180 ++ y183) := ⟨_, rfl⟩
           replace H : ((some (l0.drop (x6_2 : Int).toNat : List (S59))).bind fun y189 => (if y186.length + y189.length < 3518437208883 then (some ((y186 ++ y189), true)) else (none))) = some (r1, r2) := by first | (rw [hy186]; with_reducible exact H) | (have H2_ := (Option.bind_some _ _).symm.trans H; rw [hy186]; with_reducible exact H2_) | (have H2_ := (Option.bind_some _ _).symm.trans H; with_reducible exact H2_) | with_reducible exact H | (rw [hy186]; exact H) | exact H
           have Ny186 := am hy186
           clear hy186
           have c25b0 := eq_true (dU : 0 ≤ x6_2)
           have c26b0 := eq_true (dU : x6_2 ≤ (l0.length : Int))
           obtain ⟨y189, hy189⟩ : ∃ y_ : List (S59), y_ = (l0.drop (x6_2 : Int).toNat) := ⟨_, rfl⟩
           replace H : (if y186.length + y189.length < 3518437208883 then (some ((y186 ++ y189), true)) else (none)) = some (r1, r2) := by first | (rw [hy189]; with_reducible exact H) | (have H2_ := (Option.bind_some _ _).symm.trans H; rw [hy189]; with_reducible exact H2_) | (have H2_ := (Option.bind_some _ _).symm.trans H; with_reducible exact H2_) | with_reducible exact H | (rw [hy189]; exact H) | exact H
           have Ny189 := am hy189
           clear hy189
           by_cases c27 : y186.length + y189.length < 3518437208883
           ·rw [if_pos c27] at H
            have LMc27 := am c27
            clear c27
            obtain ⟨y193, hy193⟩ : ∃ y_ : List (S59), y_ = (y186 ++ y189) := ⟨_, rfl⟩
            replace H : (some (y193, true)) = some (r1, r2) := by first | (rw [hy193]; with_reducible exact H) | (have H2_ := (Option.bind_some _ _).symm.trans H; rw [hy193]; with_reducible exact H2_) | (have H2_ := (Option.bind_some _ _).symm.trans H; with_reducible exact H2_) | with_reducible exact H | (rw [hy193]; exact H) | exact H
            have Ny193 := am hy193
            clear hy193
            simp only [Option.some.injEq, Prod.mk.injEq] at H
            obtain ⟨rfl, rfl⟩ := H
            try go_wp2
            have n0_ := am (blk_drew BK168.out)
            have n1_ := am (below_drew1 HB.out)
            clear BK168
            clear HB
            have BK168 := n0_
            have HB := n1_
            clear n0_ n1_
            have p174 : 0 ≤ (x6_2 : Int) := dU
            have q174 : x6_2 < (l0.length : Int) := dU
            obtain ⟨ad174, e174, hx174_0, hx174_1, hx174_2, hx174_3, hx174_4⟩ := at_T59 HR0.out x6_2 p174 q174
            have hw174_4 := hx174_4
            have hw174_3 := hx174_3
            have hw174_2 := hx174_2
            have hw174_1 := hx174_1
            have hw174_0 := hx174_0
            cases e174
            replace hx174_0 := cB HB.out hx174_0
            replace hx174_1 := cB HB.out hx174_1
            replace hx174_2 := cB HB.out hx174_2
            replace hx174_3 := cB HB.out hx174_3
            replace hx174_4 := cB HB.out hx174_4
            replace p174 := eq_true p174
            replace q174 := eq_true q174
            refine start_ (n := 14) (S := fun w' => w'.cell? ⟨gb168, 0, none⟩ = some (.int .i64 a1_0) ∧ w'.cell? ⟨gb168, 1, none⟩ = some (.int .i64 a1_1) ∧ w'.cell? ⟨gb168, 2, none⟩ = some (.int .i64 a1_2) ∧ w'.cell? ⟨gb168, 3, none⟩ = some (.int .i64 a1_3) ∧ w'.cell? ⟨gb168, 4, none⟩ = some (.int .i64 a1_4) ∧ w'.cell? ⟨gb168, 5, none⟩ = some (.int .i64 a1_5) ∧ w'.cell? (ad174.add ((x6_2).toNat * 5)) = some (.int .i64 ((rd_T59 l0 x6_2).f0)) ∧ w'.cell? ⟨(ad174.add ((x6_2).toNat * 5)).block, (ad174.add ((x6_2).toNat * 5)).off + 1, none⟩ = some (.int .i64 ((rd_T59 l0 x6_2).f1)) ∧ w'.cell? ⟨(ad174.add ((x6_2).toNat * 5)).block, (ad174.add ((x6_2).toNat * 5)).off + 2, none⟩ = some (.int .i64 ((rd_T59 l0 x6_2).f2)) ∧ w'.cell? ⟨(ad174.add ((x6_2).toNat * 5)).block, (ad174.add ((x6_2).toNat * 5)).off + 3, none⟩ = some (.int .i64 ((rd_T59 l0 x6_2).f3)) ∧ w'.cell? ⟨(ad174.add ((x6_2).toNat * 5)).block, (ad174.add ((x6_2).toNat * 5)).off + 4, none⟩ = some (.int .i64 ((rd_T59 l0 x6_2).f4))) (ds := []) #[false, false, false, false, false, false, false, false, false, false, false, false, false, false] (by kernel_rfl) rfl rfl ⟨(blk_cell BK168.out 0).trans rfl, (blk_cell BK168.out 1).trans rfl, (blk_cell BK168.out 2).trans rfl, (blk_cell BK168.out 3).trans rfl, (blk_cell BK168.out 4).trans rfl, (blk_cell BK168.out 5).trans rfl, ((HB.out.cell (World.block_lt_of_cell? w _ hw174_0)).trans hw174_0), ((HB.out.cell (World.block_lt_of_cell? w _ hw174_1)).trans hw174_1), ((HB.out.cell (World.block_lt_of_cell? w _ hw174_2)).trans hw174_2), ((HB.out.cell (World.block_lt_of_cell? w _ hw174_3)).trans hw174_3), ((HB.out.cell (World.block_lt_of_cell? w _ hw174_4)).trans hw174_4)⟩ (fun hHeld => ?_); refine with_tabW spec_l5Add.tab4 spec_l5Add.bits4 (fun HT_ HW_ => ?_)
            generalize wr.drew = w28 at BK168 HB hx174_0 hx174_1 hx174_2 hx174_3 hx174_4 hHeld ⊢
            refine pure_ (i := 0) (N := some 34) (v := ?_) (a' := ?_) #[true, false, false, false, false, false, false, false, false, false, false, false, false, false] rfl rfl (any_of HT_.out (by kernel_rfl)) (fun _ _ _ h => h) (Or.inl ⟨by rfl, ?_⟩) ?_ ?_
            rotate_left
            ·intro w'
             go_simp
             with_reducible rfl
            rotate_left
            ·simp only [Act.put, List.setIfInBounds_toArray, List.set_cons_zero, List.set_cons_succ, i64_w, i32_w]
             rfl
            refine pure_ (i := 1) (N := some 35) (v := ?_) (a' := ?_) #[true, true, false, false, false, false, false, false, false, false, false, false, false, false] rfl rfl (any_of HT_.out (by kernel_rfl)) (fun _ _ _ h => h) (Or.inl ⟨by rfl, ?_⟩) ?_ ?_
            rotate_left
            ·intro w'
             go_simp
             with_reducible rfl
            rotate_left
            ·simp only [Act.put, List.setIfInBounds_toArray, List.set_cons_zero, List.set_cons_succ, i64_w, i32_w]
             rfl
            refine pure_ (i := 2) (N := some 36) (v := ?_) (a' := ?_) #[true, true, true, false, false, false, false, false, false, false, false, false, false, false] rfl rfl (any_of HT_.out (by kernel_rfl)) (fun _ _ _ h => h) (Or.inl ⟨by rfl, ?_⟩) ?_ ?_
            rotate_left
            ·intro w'
             go_simp
             with_reducible rfl
            rotate_left
            ·simp only [Act.put, List.setIfInBounds_toArray, List.set_cons_zero, List.set_cons_succ, i64_w, i32_w]
             rfl
            refine pure_ (i := 3) (N := some 37) (v := ?_) (a' := ?_) #[true, true, true, true, false, false, false, false, false, false, false, false, false, false] rfl rfl (any_of HT_.out (by kernel_rfl)) (fun _ _ _ h => h) (Or.inl ⟨by rfl, ?_⟩) ?_ ?_
            rotate_left
            ·intro w'
             go_simp
             with_reducible rfl
            rotate_left
            ·simp only [Act.put, List.setIfInBounds_toArray, List.set_cons_zero, List.set_cons_succ, i64_w, i32_w]
             rfl
            refine pure_ (i := 4) (N := some 38) (v := ?_) (a' := ?_) #[true, true, true, true, true, false, false, false, false, false, false, false, false, false] rfl rfl (any_of HT_.out (by kernel_rfl)) (fun _ _ _ h => h) (Or.inl ⟨by rfl, ?_⟩) ?_ ?_
            rotate_left
            ·intro w'
             go_simp
             with_reducible rfl
            rotate_left
            ·simp only [Act.put, List.setIfInBounds_toArray, List.set_cons_zero, List.set_cons_succ, i64_w, i32_w]
             rfl
            refine pure_ (i := 5) (N := some 39) (v := ?_) (a' := ?_) #[true, true, true, true, true, true, false, false, false, false, false, false, false, false] rfl rfl (any_of HT_.out (by kernel_rfl)) (fun _ _ _ h => h) (Or.inl ⟨by rfl, ?_⟩) ?_ ?_
            rotate_left
            ·intro w'
             go_simp
             with_reducible rfl
            rotate_left
            ·simp only [Act.put, List.setIfInBounds_toArray, List.set_cons_zero, List.set_cons_succ, i64_w, i32_w]
             rfl
            refine pure_ (i := 6) (N := some 40) (v := ?_) (a' := ?_) #[true, true, true, true, true, true, true, false, false, false, false, false, false, false] rfl rfl (any_of HT_.out (by kernel_rfl)) (fun _ _ _ h => h) (Or.inl ⟨by rfl, ?_⟩) ?_ ?_
            rotate_left
            ·intro w'
             go_simp
             with_reducible rfl
            rotate_left
            ·simp only [Act.put, List.setIfInBounds_toArray, List.set_cons_zero, List.set_cons_succ, i64_w, i32_w]
             rfl
            refine pure_ (i := 7) (N := some 41) (v := ?_) (a' := ?_) #[true, true, true, true, true, true, true, true, false, false, false, false, false, false] rfl rfl (any_of HT_.out (by kernel_rfl)) (fun _ _ _ h => h) (Or.inl ⟨by rfl, ?_⟩) ?_ ?_
            rotate_left
            ·intro w'
             go_simp
             with_reducible rfl
            rotate_left
            ·simp only [Act.put, List.setIfInBounds_toArray, List.set_cons_zero, List.set_cons_succ, i64_w, i32_w]
             rfl
            refine pure_ (i := 8) (N := some 42) (v := ?_) (a' := ?_) #[true, true, true, true, true, true, true, true, true, false, false, false, false, false] rfl rfl (any_of HT_.out (by kernel_rfl)) (fun _ _ _ h => h) (Or.inl ⟨by rfl, ?_⟩) ?_ ?_
            rotate_left
            ·intro w'
             go_simp
             with_reducible rfl
            rotate_left
            ·simp only [Act.put, List.setIfInBounds_toArray, List.set_cons_zero, List.set_cons_succ, i64_w, i32_w]
             rfl
            refine pure_ (i := 10) (N := some 44) (v := ?_) (a' := ?_) #[true, true, true, true, true, true, true, true, true, false, true, false, false, false] rfl rfl (any_of HT_.out (by kernel_rfl)) (fun _ _ _ h => h) (Or.inl ⟨by rfl, ?_⟩) ?_ ?_
            rotate_left
            ·intro w'
             go_simp
             with_reducible rfl
            rotate_left
            ·simp only [Act.put, List.setIfInBounds_toArray, List.set_cons_zero, List.set_cons_succ, i64_w, i32_w]
             rfl
            refine take_ (i := 9) (N := some 43) (v := ?_) (a' := ?_) #[true, true, true, true, true, true, true, true, true, true, true, false, false, false] rfl rfl (take_ofW HT_.out HW_.out (by kernel_rfl)) (fun _ _ _ h => h) (Or.inl ⟨by rfl, ?_⟩) hHeld ?_ ?_
            rotate_left
            ·rintro w' ⟨s0, s1, s2, s3, s4, s5, s6, s7, s8, s9, s10⟩
             go_simp
             with_reducible rfl
            rotate_left
            ·simp only [Act.put, List.setIfInBounds_toArray, List.set_cons_zero, List.set_cons_succ, i64_w, i32_w]
             rfl
            refine take_ (i := 11) (N := some 45) (v := ?_) (a' := ?_) #[true, true, true, true, true, true, true, true, true, true, true, true, false, false] rfl rfl (take_ofW HT_.out HW_.out (by kernel_rfl)) (fun _ _ _ h => h) (Or.inl ⟨by rfl, ?_⟩) hHeld ?_ ?_
            rotate_left
            ·rintro w' ⟨s0, s1, s2, s3, s4, s5, s6, s7, s8, s9, s10⟩
             go_simp
             with_reducible rfl
            rotate_left
            ·simp only [Act.put, List.setIfInBounds_toArray, List.set_cons_zero, List.set_cons_succ, i64_w, i32_w]
             rfl
            refine pure_ (i := 12) (N := some 46) (v := ?_) (a' := ?_) #[true, true, true, true, true, true, true, true, true, true, true, true, true, false] rfl rfl (any_of HT_.out (by kernel_rfl)) (fun _ _ _ h => h) (Or.inl ⟨by rfl, ?_⟩) ?_ ?_
            rotate_left
            ·intro w'
             go_simp
             with_reducible rfl
            rotate_left
            ·simp only [Act.put, List.setIfInBounds_toArray, List.set_cons_zero, List.set_cons_succ, i64_w, i32_w]
             rfl
            refine pure_ (i := 13) (N := some 47) (v := ?_) (a' := ?_) #[true, true, true, true, true, true, true, true, true, true, true, true, true, true] rfl rfl (any_of HT_.out (by kernel_rfl)) (fun _ _ _ h => h) (Or.inl ⟨by rfl, ?_⟩) ?_ ?_
            rotate_left
            ·intro w'
             go_simp
             with_reducible rfl
            rotate_left
            ·simp only [Act.put, List.setIfInBounds_toArray, List.set_cons_zero, List.set_cons_succ, i64_w, i32_w]
             rfl
            refine done_ (done_of HT_.out (by kernel_rfl)) ?_
            obtain ⟨hcz29_0, hcz29_1, hcz29_2, hcz29_3, hcz29_4, hcz29_5⟩ := bc6 BK168.out
            obtain ⟨hfz29_0, hfz29_1, hfz29_2, hfz29_3, hfz29_4, hfz29_5⟩ := bf6 BK168.out
            try go_wp2_with (first | ((with_reducible refine gate_dst (N := 7) rfl ?_); (try (refine gate_guard (by rfl) ?_; dsimp only)); refine box_event ?hg (N := 7) ?hd (cs := #[.int .i64 0, .int .i64 0, .int .i64 0, .int .i64 0, .int .i64 0]) (t := 59) ?hr ?_; (case hd => rfl); (case hg => rfl); (case hr => first | (go_simp; done) | (go_simp; rfl)); intro gb175 hg w30 hbox hb; have n0_ := am (kB BK168.out hb); have n1_ := am (below_step (bS HB.out GE168.out) hb); have n2_ := am (hbox); have n3_ := am ((by rw [hg]; exact (below_size (bS HB.out GE168.out)) : w.heap.size ≤ gb175)); have n4_ := am ((by rw [hg]; exact (below_size (bS HB.out GE168.out)) : w.heap.size ≤ gb175)); have n5_ := am ((by rw [hg]; exact Nat.ne_of_lt (kL BK168.out) : gb168 ≠ gb175)); have n6_ := am ((by rw [hg]; exact Nat.ne_of_gt (kL BK168.out) : gb175 ≠ gb168)); clear BK168; clear HB; have BK168 := n0_; have HB := n1_; have BK175 := n2_; have GW175 := n3_; have GE175 := n4_; have NB168_175 := n5_; have NB175_168 := n6_; clear n0_ n1_ n2_ n3_ n4_ n5_ n6_; clear hb hbox hg; have hnb31 := NB175_168.out; have hnc31 := NB168_175.out; obtain ⟨hcz32_0, hcz32_1, hcz32_2, hcz32_3, hcz32_4⟩ := bc5 BK175.out; obtain ⟨hfz32_0, hfz32_1, hfz32_2, hfz32_3, hfz32_4⟩ := bf5 BK175.out))
            have n0_ : Aside0 ((((((w30.setCell ⟨gb175, 0, none⟩ (.int .i64 a1_1)).setCell ⟨gb175, 1, none⟩ (.int .i64 a1_2)).setCell ⟨gb175, 2, none⟩ (.int .i64 a1_3)).setCell ⟨gb175, 3, none⟩ (.int .i64 a1_4)).setCell ⟨gb175, 4, none⟩ (.int .i64 a1_5)).heap[gb168]? = some (.cells #[.int .i64 a1_0, .int .i64 a1_1, .int .i64 a1_2, .int .i64 a1_3, .int .i64 a1_4, .int .i64 a1_5] 30 (0, 0))) := ⟨by (with_reducible repeat (first | refine blk_drewN ?_ _ | refine blk_drew ?_ | refine blk_alloc ?_ _)); refine blk_far ?_ NB168_175.out _; (with_reducible repeat (first | refine blk_drewN ?_ _ | refine blk_drew ?_ | refine blk_alloc ?_ _)); refine blk_far ?_ NB168_175.out _; (with_reducible repeat (first | refine blk_drewN ?_ _ | refine blk_drew ?_ | refine blk_alloc ?_ _)); refine blk_far ?_ NB168_175.out _; (with_reducible repeat (first | refine blk_drewN ?_ _ | refine blk_drew ?_ | refine blk_alloc ?_ _)); refine blk_far ?_ NB168_175.out _; (with_reducible repeat (first | refine blk_drewN ?_ _ | refine blk_drew ?_ | refine blk_alloc ?_ _)); refine blk_far ?_ NB168_175.out _; exact kU BK168.out⟩
            have n1_ : Aside0 ((((((w30.setCell ⟨gb175, 0, none⟩ (.int .i64 a1_1)).setCell ⟨gb175, 1, none⟩ (.int .i64 a1_2)).setCell ⟨gb175, 2, none⟩ (.int .i64 a1_3)).setCell ⟨gb175, 3, none⟩ (.int .i64 a1_4)).setCell ⟨gb175, 4, none⟩ (.int .i64 a1_5)).heap[gb175]? = some (.cells #[.int .i64 a1_1, .int .i64 a1_2, .int .i64 a1_3, .int .i64 a1_4, .int .i64 a1_5] 59 (0, 0))) := ⟨by (with_reducible repeat (first | refine blk_drewN ?_ _ | refine blk_drew ?_ | refine blk_alloc ?_ _)); refine blk_put (cs := #[.int .i64 a1_1, .int .i64 a1_2, .int .i64 a1_3, .int .i64 a1_4, .int .i64 0]) ?_ 4 _ rfl; (with_reducible repeat (first | refine blk_drewN ?_ _ | refine blk_drew ?_ | refine blk_alloc ?_ _)); refine blk_put (cs := #[.int .i64 a1_1, .int .i64 a1_2, .int .i64 a1_3, .int .i64 0, .int .i64 0]) ?_ 3 _ rfl; (with_reducible repeat (first | refine blk_drewN ?_ _ | refine blk_drew ?_ | refine blk_alloc ?_ _)); refine blk_put (cs := #[.int .i64 a1_1, .int .i64 a1_2, .int .i64 0, .int .i64 0, .int .i64 0]) ?_ 2 _ rfl; (with_reducible repeat (first | refine blk_drewN ?_ _ | refine blk_drew ?_ | refine blk_alloc ?_ _)); refine blk_put (cs := #[.int .i64 a1_1, .int .i64 0, .int .i64 0, .int .i64 0, .int .i64 0]) ?_ 1 _ rfl; (with_reducible repeat (first | refine blk_drewN ?_ _ | refine blk_drew ?_ | refine blk_alloc ?_ _)); refine blk_put (cs := #[.int .i64 0, .int .i64 0, .int .i64 0, .int .i64 0, .int .i64 0]) ?_ 0 _ rfl; exact kU BK175.out⟩
            have n2_ : Aside0 (Below w.heap.size w (((((w30.setCell ⟨gb175, 0, none⟩ (.int .i64 a1_1)).setCell ⟨gb175, 1, none⟩ (.int .i64 a1_2)).setCell ⟨gb175, 2, none⟩ (.int .i64 a1_3)).setCell ⟨gb175, 3, none⟩ (.int .i64 a1_4)).setCell ⟨gb175, 4, none⟩ (.int .i64 a1_5))) := ⟨by repeat (first | (with_reducible first | exact HB.out | apply below_alloc | apply pw_below_drewN | apply below_drew1 | refine below_set ?_ GE168.out | refine below_set ?_ GE175.out) | exact HB.out)⟩
            (try clear BK168)
            (try clear BK175)
            (try clear HB)
            generalize (((((w30.setCell ⟨gb175, 0, none⟩ (.int .i64 a1_1)).setCell ⟨gb175, 1, none⟩ (.int .i64 a1_2)).setCell ⟨gb175, 2, none⟩ (.int .i64 a1_3)).setCell ⟨gb175, 3, none⟩ (.int .i64 a1_4)).setCell ⟨gb175, 4, none⟩ (.int .i64 a1_5)) = w33 at n0_ n1_ n2_ ⊢
            have BK168 := n0_
            have BK175 := n1_
            have HB := n2_
            clear n0_ n1_ n2_
            have n0_ := am (blk_drew BK168.out)
            have n1_ := am (blk_drew BK175.out)
            have n2_ := am (below_drew1 HB.out)
            clear BK168
            clear BK175
            clear HB
            have BK168 := n0_
            have BK175 := n1_
            have HB := n2_
            clear n0_ n1_ n2_
            have q35 : (x6_2 : Int) ≤ ((l0.length : Int) : Int) := dU
            obtain ⟨i035, hi035, _, hsz35, _⟩ := info_parts info59
            have hroom35 : l0.length ≤ c0 := HC0.out
            have hC35 : Kd.C k59 _ (some ad174) l0.length l0 := HR0.out
            have hcut35 := cut_to (P := Try.prog) 26 59 .i64 Try.underlying26 hi035 (some ad174) l0.length c0 x6_2 (dU) q35 hroom35
            have hr35 := Kd.C_take (m := (x6_2 : Int).toNat) hC35 (by omega)
            have hy35 : y176.length = (x6_2 : Int).toNat := (by rw [Ny176.out, List.length_take]; omega)
            rw [← Ny176.out] at hr35
            rw [← hy35] at hcut35
            have HR179 := am hr35
            have HC179 := am (show y176.length ≤ c0 from by omega)
            clear hr35 hC35 hroom35 hi035 hsz35
            have KY35 := am hy35
            clear hy35
            replace q35 := eq_true q35
            have q36 : (x6_2 : Int) ≤ ((l0.length : Int) : Int) := dU
            obtain ⟨i036, hi036, _, hsz36, _⟩ := info_parts info59
            have hroom36 : l0.length ≤ c0 := HC0.out
            have hC36 : Kd.C k59 _ (some ad174) l0.length l0 := HR0.out
            have q036 : (0 : Int) ≤ (x6_2 : Int) := dU
            have hcut36 := cut_from (P := Try.prog) 26 59 .i64 Try.underlying26 hi036 5 hsz36 (some ad174) l0.length c0 x6_2 q036 q36
            have hr36 := Kd.C_drop (m := (x6_2 : Int).toNat) (c := c0) hC36 (by omega) hroom36
            obtain ⟨A36, hA36⟩ : ∃ A1, A1 = (if c0 = (x6_2 : Int).toNat then (some ad174) else ((some ad174) : Option Addr).map (·.add ((x6_2 : Int).toNat * 5))) := ⟨_, rfl⟩
            obtain ⟨c36, hc36⟩ : ∃ c1, c1 = c0 - (x6_2 : Int).toNat := ⟨_, rfl⟩
            have hy36 : y189.length = l0.length - (x6_2 : Int).toNat := (by rw [Ny189.out, List.length_drop] <;> omega)
            rw [show (l0).drop (x6_2 : Int).toNat = y189 from Ny189.out.symm] at hr36
            replace hr36 : Kd.C k59 _ A36 y189.length y189 := (by rw [hA36]; exact hr36)
            rw [← hy36, ← hA36, ← hc36] at hcut36
            have HR192 := am hr36
            have HC192 := am (show y189.length ≤ c36 from by rw [hy36, hc36]; exact Nat.sub_le_sub_right hroom36 _)
            clear hr36 hC36 hroom36 hi036 hsz36 hc36
            have KY36 := am hy36
            have KA36 := am hA36
            clear hy36 hA36
            replace q36 := eq_true q36
            refine start_ (n := 13) (S := fun w' => w'.cell? ⟨gb175, 0, none⟩ = some (.int .i64 a1_1) ∧ w'.cell? ⟨gb175, 1, none⟩ = some (.int .i64 a1_2) ∧ w'.cell? ⟨gb175, 2, none⟩ = some (.int .i64 a1_3) ∧ w'.cell? ⟨gb175, 3, none⟩ = some (.int .i64 a1_4) ∧ w'.cell? ⟨gb175, 4, none⟩ = some (.int .i64 a1_5)) (ds := []) #[false, false, false, false, false, false, false, false, false, false, false, false, false] (by kernel_rfl) rfl rfl (bc5 BK175.out) (fun hHeld => ?_); refine with_tabW spec_l5Add.tab7 spec_l5Add.bits7 (fun HT_ HW_ => ?_)
            generalize w33.drew = w34 at BK168 BK175 HB HR179 HR192 hHeld ⊢
            refine pure_ (i := 0) (N := some 61) (v := ?_) (a' := ?_) #[true, false, false, false, false, false, false, false, false, false, false, false, false] rfl rfl (any_of HT_.out (by kernel_rfl)) (fun _ _ _ h => h) (Or.inl ⟨by rfl, ?_⟩) ?_ ?_
            rotate_left
            ·intro w'
             go_simp
             with_reducible rfl
            rotate_left
            ·simp only [Act.put, List.setIfInBounds_toArray, List.set_cons_zero, List.set_cons_succ, i64_w, i32_w]
             rfl
            refine pure_ (i := 1) (N := some 62) (v := ?_) (a' := ?_) #[true, true, false, false, false, false, false, false, false, false, false, false, false] rfl rfl (any_of HT_.out (by kernel_rfl)) (fun _ _ _ h => h) (Or.inl ⟨by rfl, ?_⟩) ?_ ?_
            rotate_left
            ·intro w'
             go_simp
             with_reducible rfl
            rotate_left
            ·simp only [Act.put, List.setIfInBounds_toArray, List.set_cons_zero, List.set_cons_succ, i64_w, i32_w]
             rfl
            refine pure_ (i := 2) (N := some 63) (v := ?_) (a' := ?_) #[true, true, true, false, false, false, false, false, false, false, false, false, false] rfl rfl (any_of HT_.out (by kernel_rfl)) (fun _ _ _ h => h) (Or.inl ⟨by rfl, ?_⟩) ?_ ?_
            rotate_left
            ·intro w'
             go_simp
             with_reducible rfl
            rotate_left
            ·simp only [Act.put, List.setIfInBounds_toArray, List.set_cons_zero, List.set_cons_succ, i64_w, i32_w]
             rfl
            refine pure_ (i := 7) (N := some 68) (v := ?_) (a' := ?_) #[true, true, true, false, false, false, false, true, false, false, false, false, false] rfl rfl (any_of HT_.out (by kernel_rfl)) (fun _ _ _ h => h) (Or.inl ⟨by rfl, ?_⟩) ?_ ?_
            rotate_left
            ·intro w'
             go_simp
             with_reducible rfl
            rotate_left
            ·simp only [Act.put, List.setIfInBounds_toArray, List.set_cons_zero, List.set_cons_succ, i64_w, i32_w]
             rfl
            refine pure_ (i := 8) (N := some 69) (v := ?_) (a' := ?_) #[true, true, true, false, false, false, false, true, true, false, false, false, false] rfl rfl (any_of HT_.out (by kernel_rfl)) (fun _ _ _ h => h) (Or.inl ⟨by rfl, ?_⟩) ?_ ?_
            rotate_left
            ·intro w'
             go_simp
             with_reducible rfl
            rotate_left
            ·simp only [Act.put, List.setIfInBounds_toArray, List.set_cons_zero, List.set_cons_succ, i64_w, i32_w]
             rfl
            refine pure_ (i := 9) (N := some 70) (v := ?_) (a' := ?_) #[true, true, true, false, false, false, false, true, true, true, false, false, false] rfl rfl (any_of HT_.out (by kernel_rfl)) (fun _ _ _ h => h) (Or.inl ⟨by rfl, ?_⟩) ?_ ?_
            rotate_left
            ·intro w'
             go_simp
             with_reducible rfl
            rotate_left
            ·simp only [Act.put, List.setIfInBounds_toArray, List.set_cons_zero, List.set_cons_succ, i64_w, i32_w]
             rfl
            refine take_ (i := 4) (N := some 65) (v := ?_) (a' := ?_) #[true, true, true, false, true, false, false, true, true, true, false, false, false] rfl rfl (take_ofW HT_.out HW_.out (by kernel_rfl)) (fun _ _ _ h => h) (Or.inl ⟨by rfl, ?_⟩) hHeld ?_ ?_
            rotate_left
            ·rintro w' ⟨s0, s1, s2, s3, s4⟩
             go_simp
             with_reducible rfl
            rotate_left
            ·simp only [Act.put, List.setIfInBounds_toArray, List.set_cons_zero, List.set_cons_succ, i64_w, i32_w]
             rfl
            refine join_ (σ := Value × Value) 4 #[true, true, true, true, true, true, false, true, true, true, false, false, false] (fun s_ => [(64, s_.1), (66, s_.2)]) (fun s_ w' => (w'.cell? ⟨gb175, 0, none⟩ = some (.int .i64 a1_1) ∧ w'.cell? ⟨gb175, 1, none⟩ = some (.int .i64 a1_2) ∧ w'.cell? ⟨gb175, 2, none⟩ = some (.int .i64 a1_3) ∧ w'.cell? ⟨gb175, 3, none⟩ = some (.int .i64 a1_4) ∧ w'.cell? ⟨gb175, 4, none⟩ = some (.int .i64 a1_5)) ∧ (Kd.R k59 59 w' w.heap.size (fun k_ => some k_ ≠ (s_.2 : Value).ownBlock ∧ k_ ≠ gb175) s_.1 t180) ∧ (Kd.R k59 59 w' w.heap.size (fun k_ => some k_ ≠ (s_.1 : Value).ownBlock ∧ k_ ≠ gb175) s_.2 y183) ∧ (w'.heap[gb168]? = some (.cells #[.int .i64 a1_0, .int .i64 a1_1, .int .i64 a1_2, .int .i64 a1_3, .int .i64 a1_4, .int .i64 a1_5] 30 (0, 0))) ∧ (w'.heap[gb175]? = some (.cells #[.int .i64 a1_1, .int .i64 a1_2, .int .i64 a1_3, .int .i64 a1_4, .int .i64 a1_5] 59 (0, 0))) ∧ (Below w.heap.size w w')) ?_ ?_
            rotate_left
            ·intro hCont
             refine two_ (i := 3) (j := 5) (Ni := some 64) (Nj := some 66) #[true, true, true, true, true, false, false, true, true, true, false, false, false] #[true, true, true, false, true, true, false, true, true, true, false, false, false] rfl rfl rfl rfl (two_of HT_.out (by kernel_rfl)) (by decide) (by decide) (fun K hK => ?_) (fun K hK => ?_)
             ·skip
              refine goes_ Try.func66 (by kernel_rfl) rfl #[.slice (some ad174) y176.length c0] (by rfl) rfl rfl mU ?_
              with_reducible refine (spec_l5Copy.calls _ _ y176 t180 _ ?side1 ?side2 A23.out).mono ?_
              (case side1 => exact cU (Kd.C_below HR179.out HB.out))
              (case side2 => exact HC179.out)
              rintro e w37 ⟨v181, rfl, ho0, hb⟩
              refine ⟨_, rfl, ?_⟩
              have n0_ := am (Kd.R_lower (Kd.R_newB ho0 (g := gb175) (o := .cells #[.int .i64 a1_1, .int .i64 a1_2, .int .i64 a1_3, .int .i64 a1_4, .int .i64 a1_5] 59 (0, 0)) (kU BK175.out)) (below_size (by repeat (first | (with_reducible first | exact HB.out | apply below_alloc | apply pw_below_drewN | apply below_drew1 | refine below_set ?_ GE168.out | refine below_set ?_ GE175.out) | exact HB.out))))
              have n1_ := am (kB BK168.out hb)
              have n2_ := am (kB BK175.out hb)
              have n3_ := am (below_step (by repeat (first | (with_reducible first | exact HB.out | apply below_alloc | apply pw_below_drewN | apply below_drew1 | refine below_set ?_ GE168.out | refine below_set ?_ GE175.out) | exact HB.out)) hb)
              clear BK168
              clear BK175
              clear HB
              have HO182 := n0_
              have BK168 := n1_
              have BK175 := n2_
              have HB := n3_
              clear n0_ n1_ n2_ n3_
              (try clear hb)
              (try clear hb2)
              (try clear hk)
              (try clear hi)
              (try clear ho0)
              refine hK.out _ _ (bc5 BK175.out) (fun hHeld => ?_)
              clear hK K
              refine norm_ (a' := ?_) ?_ ?_
              rotate_left
              ·show Act.put _ (some 64) _ = _
               simp only [Act.put, List.setIfInBounds_toArray, List.set_cons_zero, List.set_cons_succ, i64_w, i32_w]
               rfl
              refine one_ (i := 5) (N := some 66) #[true, true, true, true, true, true, false, true, true, true, false, false, false] rfl rfl (one_of HT_.out (by kernel_rfl)) (by decide) (fun K hK => ?_)
              refine Kd.R_lit_step k59 _ 59 ?hg (N := 66) ?hd (xs := ([(⟨a1_1, a1_2, a1_3, a1_4, a1_5⟩ : S59)] : List (S59))) (inner := [.int .i64 a1_1, .int .i64 a1_2, .int .i64 a1_3, .int .i64 a1_4, .int .i64 a1_5]) (ok := fun _ => True) (okp := fun _ => True) ?hr ?hp (fun _ hk => hk) trivial (Below.refl _ _) (Nat.le_refl _) (by simp) ?_; (case hd => rfl); (case hg => rfl); (case hr => first | (go_simp; done) | (go_simp; rfl)); (case hp => exact (Reps.c5 (show Kd.M k59 _ _ _ (⟨a1_1, a1_2, a1_3, a1_4, a1_5⟩ : S59) [.int .i64 a1_1, .int .i64 a1_2, .int .i64 a1_3, .int .i64 a1_4, .int .i64 a1_5] from (k59_mkM _ _ _ (⟨a1_1, a1_2, a1_3, a1_4, a1_5⟩ : S59) )) (Reps.none _ _)))
              intro v184 w38 ho39 hb hg_ hnew_
              clear hg_ hnew_
              (first | rw [← Ny183.out] at ho39 | (simp only [Int.reduceToNat] at ho39; rw [← Ny183.out] at ho39))
              have n0_ := am (Kd.R_elder' (rU HO182.out) (Kd.R_base ho39) hb)
              have n1_ := am (Kd.R_lower (Kd.R_newB (Kd.R_new' ho39 (Kd.R_lt (rU HO182.out))) (g := gb175) (o := .cells #[.int .i64 a1_1, .int .i64 a1_2, .int .i64 a1_3, .int .i64 a1_4, .int .i64 a1_5] 59 (0, 0)) (kU BK175.out)) (below_size (by repeat (first | (with_reducible first | exact HB.out | apply below_alloc | apply pw_below_drewN | apply below_drew1 | refine below_set ?_ GE168.out | refine below_set ?_ GE175.out) | exact HB.out))))
              have n2_ := am (kB BK168.out hb)
              have n3_ := am (kB BK175.out hb)
              have n4_ := am (below_step (by repeat (first | (with_reducible first | exact HB.out | apply below_alloc | apply pw_below_drewN | apply below_drew1 | refine below_set ?_ GE168.out | refine below_set ?_ GE175.out) | exact HB.out)) hb)
              clear HO182
              clear BK168
              clear BK175
              clear HB
              have HO182 := n0_
              have HO185 := n1_
              have BK168 := n2_
              have BK175 := n3_
              have HB := n4_
              clear n0_ n1_ n2_ n3_ n4_
              clear hb ho39
              refine hK.out _ _ (bc5 BK175.out) (fun hHeld => ?_)
              clear hK K
              refine norm_ (a' := ?_) ?_ ?_
              rotate_left
              ·show Act.put _ (some 66) _ = _
               simp only [Act.put, List.setIfInBounds_toArray, List.set_cons_zero, List.set_cons_succ, i64_w, i32_w]
               rfl
              exact norm_ (by simp only [putAll, Act.put, List.setIfInBounds_toArray, List.set_cons_zero, List.set_cons_succ]) (hCont (v181, v184) _ ⟨hHeld, (by (with_reducible repeat (first | apply Kd.R_alloc | apply Kd.R_drewN | apply Kd.R_drew)); exact Kd.R_mono HO182.out (fun _ hk => ⟨hk.2, hk.1.2⟩)), (by (with_reducible repeat (first | apply Kd.R_alloc | apply Kd.R_drewN | apply Kd.R_drew)); exact Kd.R_mono HO185.out (fun _ hk => ⟨hk.1.2, hk.2⟩)), (kU BK168.out), (kU BK175.out), (by repeat (first | (with_reducible first | exact HB.out | apply below_alloc | apply pw_below_drewN | apply below_drew1 | refine below_set ?_ GE168.out | refine below_set ?_ GE175.out) | exact HB.out))⟩)
             ·skip
              refine Kd.R_lit_step k59 _ 59 ?hg (N := 66) ?hd (xs := ([(⟨a1_1, a1_2, a1_3, a1_4, a1_5⟩ : S59)] : List (S59))) (inner := [.int .i64 a1_1, .int .i64 a1_2, .int .i64 a1_3, .int .i64 a1_4, .int .i64 a1_5]) (ok := fun _ => True) (okp := fun _ => True) ?hr ?hp (fun _ hk => hk) trivial (Below.refl _ _) (Nat.le_refl _) (by simp) ?_; (case hd => rfl); (case hg => rfl); (case hr => first | (go_simp; done) | (go_simp; rfl)); (case hp => exact (Reps.c5 (show Kd.M k59 _ _ _ (⟨a1_1, a1_2, a1_3, a1_4, a1_5⟩ : S59) [.int .i64 a1_1, .int .i64 a1_2, .int .i64 a1_3, .int .i64 a1_4, .int .i64 a1_5] from (k59_mkM _ _ _ (⟨a1_1, a1_2, a1_3, a1_4, a1_5⟩ : S59) )) (Reps.none _ _)))
              intro v184 w37 ho38 hb hg_ hnew_
              clear hg_ hnew_
              (first | rw [← Ny183.out] at ho38 | (simp only [Int.reduceToNat] at ho38; rw [← Ny183.out] at ho38))
              have n0_ := am (Kd.R_lower (Kd.R_newB ho38 (g := gb175) (o := .cells #[.int .i64 a1_1, .int .i64 a1_2, .int .i64 a1_3, .int .i64 a1_4, .int .i64 a1_5] 59 (0, 0)) (kU BK175.out)) (below_size (by repeat (first | (with_reducible first | exact HB.out | apply below_alloc | apply pw_below_drewN | apply below_drew1 | refine below_set ?_ GE168.out | refine below_set ?_ GE175.out) | exact HB.out))))
              have n1_ := am (kB BK168.out hb)
              have n2_ := am (kB BK175.out hb)
              have n3_ := am (below_step (by repeat (first | (with_reducible first | exact HB.out | apply below_alloc | apply pw_below_drewN | apply below_drew1 | refine below_set ?_ GE168.out | refine below_set ?_ GE175.out) | exact HB.out)) hb)
              clear BK168
              clear BK175
              clear HB
              have HO185 := n0_
              have BK168 := n1_
              have BK175 := n2_
              have HB := n3_
              clear n0_ n1_ n2_ n3_
              clear hb ho38
              refine hK.out _ _ (bc5 BK175.out) (fun hHeld => ?_)
              clear hK K
              refine norm_ (a' := ?_) ?_ ?_
              rotate_left
              ·show Act.put _ (some 66) _ = _
               simp only [Act.put, List.setIfInBounds_toArray, List.set_cons_zero, List.set_cons_succ, i64_w, i32_w]
               rfl
              refine one_ (i := 3) (N := some 64) #[true, true, true, true, true, true, false, true, true, true, false, false, false] rfl rfl (one_of HT_.out (by kernel_rfl)) (by decide) (fun K hK => ?_)
              refine goes_ Try.func66 (by kernel_rfl) rfl #[.slice (some ad174) y176.length c0] (by rfl) rfl rfl mU ?_
              with_reducible refine (spec_l5Copy.calls _ _ y176 t180 _ ?side1 ?side2 A23.out).mono ?_
              (case side1 => exact cU (Kd.C_below HR179.out HB.out))
              (case side2 => exact HC179.out)
              rintro e w39 ⟨v181, rfl, ho0, hb⟩
              refine ⟨_, rfl, ?_⟩
              have n0_ := am (Kd.R_elder' (rU HO185.out) (Kd.R_base ho0) hb)
              have n1_ := am (Kd.R_lower (Kd.R_newB (Kd.R_new' ho0 (Kd.R_lt (rU HO185.out))) (g := gb175) (o := .cells #[.int .i64 a1_1, .int .i64 a1_2, .int .i64 a1_3, .int .i64 a1_4, .int .i64 a1_5] 59 (0, 0)) (kU BK175.out)) (below_size (by repeat (first | (with_reducible first | exact HB.out | apply below_alloc | apply pw_below_drewN | apply below_drew1 | refine below_set ?_ GE168.out | refine below_set ?_ GE175.out) | exact HB.out))))
              have n2_ := am (kB BK168.out hb)
              have n3_ := am (kB BK175.out hb)
              have n4_ := am (below_step (by repeat (first | (with_reducible first | exact HB.out | apply below_alloc | apply pw_below_drewN | apply below_drew1 | refine below_set ?_ GE168.out | refine below_set ?_ GE175.out) | exact HB.out)) hb)
              clear HO185
              clear BK168
              clear BK175
              clear HB
              have HO185 := n0_
              have HO182 := n1_
              have BK168 := n2_
              have BK175 := n3_
              have HB := n4_
              clear n0_ n1_ n2_ n3_ n4_
              (try clear hb)
              (try clear hb2)
              (try clear hk)
              (try clear hi)
              (try clear ho0)
              refine hK.out _ _ (bc5 BK175.out) (fun hHeld => ?_)
              clear hK K
              refine norm_ (a' := ?_) ?_ ?_
              rotate_left
              ·show Act.put _ (some 64) _ = _
               simp only [Act.put, List.setIfInBounds_toArray, List.set_cons_zero, List.set_cons_succ, i64_w, i32_w]
               rfl
              exact norm_ (by simp only [putAll, Act.put, List.setIfInBounds_toArray, List.set_cons_zero, List.set_cons_succ]) (hCont (v181, v184) _ ⟨hHeld, (by (with_reducible repeat (first | apply Kd.R_alloc | apply Kd.R_drewN | apply Kd.R_drew)); exact Kd.R_mono HO182.out (fun _ hk => ⟨hk.1.2, hk.2⟩)), (by (with_reducible repeat (first | apply Kd.R_alloc | apply Kd.R_drewN | apply Kd.R_drew)); exact Kd.R_mono HO185.out (fun _ hk => ⟨hk.2, hk.1.2⟩)), (kU BK168.out), (kU BK175.out), (by repeat (first | (with_reducible first | exact HB.out | apply below_alloc | apply pw_below_drewN | apply below_drew1 | refine below_set ?_ GE168.out | refine below_set ?_ GE175.out) | exact HB.out))⟩)
            rintro ⟨v181, v184⟩ w40 ⟨hS_, h0_, h1_, h2_, h3_, h4_⟩
            have n0_ : Aside0 (Kd.R k59 59 w40 w.heap.size (fun k_ => some k_ ≠ (v184 : Value).ownBlock ∧ k_ ≠ gb175) v181 t180) := ⟨h0_⟩
            have n1_ : Aside0 (Kd.R k59 59 w40 w.heap.size (fun k_ => some k_ ≠ (v181 : Value).ownBlock ∧ k_ ≠ gb175) v184 y183) := ⟨h1_⟩
            have n2_ : Aside0 (w40.heap[gb168]? = some (.cells #[.int .i64 a1_0, .int .i64 a1_1, .int .i64 a1_2, .int .i64 a1_3, .int .i64 a1_4, .int .i64 a1_5] 30 (0, 0))) := ⟨h2_⟩
            have n3_ : Aside0 (w40.heap[gb175]? = some (.cells #[.int .i64 a1_1, .int .i64 a1_2, .int .i64 a1_3, .int .i64 a1_4, .int .i64 a1_5] 59 (0, 0))) := ⟨h3_⟩
            have n4_ : Aside0 (Below w.heap.size w w40) := ⟨h4_⟩
            clear BK168
            clear BK175
            clear HB
            clear h0_ h1_ h2_ h3_ h4_
            have HO182 := n0_
            have HO185 := n1_
            have BK168 := n2_
            have BK175 := n3_
            have HB := n4_
            clear n0_ n1_ n2_ n3_ n4_
            have hHeld : w40.cell? ⟨gb175, 0, none⟩ = some (.int .i64 a1_1) ∧ w40.cell? ⟨gb175, 1, none⟩ = some (.int .i64 a1_2) ∧ w40.cell? ⟨gb175, 2, none⟩ = some (.int .i64 a1_3) ∧ w40.cell? ⟨gb175, 3, none⟩ = some (.int .i64 a1_4) ∧ w40.cell? ⟨gb175, 4, none⟩ = some (.int .i64 a1_5) := hS_
            obtain ⟨Ao42, co42, eo42⟩ := Kd.R_slice HO185.out
            (first | subst eo42 | (injection eo42 with f1_ f2_ f3_; have f4_ := f1_.symm; have f5_ := f3_.symm; clear f1_ f2_ f3_; subst f4_; subst f5_))
            refine norm_ (a' := ?_) ?_ ?_
            rotate_left
            ·simp only [putAll, Act.put, List.setIfInBounds_toArray, List.set_cons_zero, List.set_cons_succ]
             rfl
            refine one_ (i := 6) (N := some 67) #[true, true, true, true, true, true, true, true, true, true, false, false, false] rfl rfl (one_of HT_.out (by kernel_rfl)) (by decide) (fun K hK => ?_)
            refine Kd.R_append_rows_step k59 (w0 := w) w.heap.size (by rfl) (.tmp 64) (.tmp 66) 26 59 (.agg #[(.int .i64 0), (.int .i64 0), (.int .i64 0), (.int .i64 0), (.int .i64 0)]) 40 rfl Try.underlying26 info59 rfl (by decide) (by omega) v181 t180 y183 _ _ _ (fun k_ => some k_ ≠ (.slice Ao42 y183.length co42 : Value).ownBlock ∧ k_ ≠ gb175) (fun _ => False) rfl rfl ?aO ?aR (fun _ _ h => h) (fun _ h => h.elim) ?aF ?aB ?aS ?aL ?_
            (case aR => exact cU (Kd.R_reads' HO185.out).2.2)
            (case aB => exact (by repeat (first | (with_reducible first | exact HB.out | apply below_alloc | apply pw_below_drewN | apply below_drew1 | refine below_set ?_ GE168.out | refine below_set ?_ GE175.out) | exact HB.out)))
            (case aF => exact (fun k_ hk => ⟨Kd.fresh' (Kd.R_lt (rU HO185.out)) k_ hk, Kd.freshB (g := gb175) (o := .cells #[.int .i64 a1_1, .int .i64 a1_2, .int .i64 a1_3, .int .i64 a1_4, .int .i64 a1_5] 59 (0, 0)) (kU BK175.out) k_ hk⟩))
            (case aO => exact rU HO182.out)
            (case aS => exact (below_size (by repeat (first | (with_reducible first | exact HB.out | apply below_alloc | apply pw_below_drewN | apply below_drew1 | refine below_set ?_ GE168.out | refine below_set ?_ GE175.out) | exact HB.out))))
            (case aL => have := LMc24.out; omega)
            intro v187 w41 ho hb hg hat
            rw [← Ny186.out] at ho
            have n0_ := am (kG BK168.out hg (Kd.R_ne HO182.out BK168.out (by decide)))
            have n1_ := am (kG BK175.out hg (Kd.R_away HO182.out (fun _ hk => hk.2)))
            have n2_ := am (Kd.R_after (ok := (fun k_ => k_ ≠ gb175)) (by (with_reducible repeat (first | apply Kd.R_alloc | apply Kd.R_drewN | apply Kd.R_drew)); exact Kd.R_mono HO185.out (fun _ hk => ⟨hk.2, hk.1⟩)) hg hat)
            have n3_ := am (hb)
            have n4_ := am (ho)
            clear BK168
            clear BK175
            clear HO185
            clear HB
            clear HO182
            have BK168 := n0_
            have BK175 := n1_
            have HO185 := n2_
            have HB := n3_
            have HO188 := n4_
            clear n0_ n1_ n2_ n3_ n4_
            clear ho hb hg hat
            refine hK.out _ _ (bc5 BK175.out) (fun hHeld => ?_)
            clear hK K
            refine norm_ (a' := ?_) ?_ ?_
            rotate_left
            ·show Act.put _ (some 67) _ = _
             simp only [Act.put, List.setIfInBounds_toArray, List.set_cons_zero, List.set_cons_succ, i64_w, i32_w]
             rfl
            refine one_ (i := 10) (N := some 71) #[true, true, true, true, true, true, true, true, true, true, true, false, false] rfl rfl (one_of HT_.out (by kernel_rfl)) (by decide) (fun K hK => ?_)
            refine Kd.R_append_rows_step k59 (w0 := w) w.heap.size (by rfl) (.tmp 67) (.tmp 70) 26 59 (.agg #[(.int .i64 0), (.int .i64 0), (.int .i64 0), (.int .i64 0), (.int .i64 0)]) 40 rfl Try.underlying26 info59 rfl (by decide) (by omega) v187 y186 y189 _ _ _ (fun k_ => some k_ ≠ (.slice Ao42 y183.length co42 : Value).ownBlock ∧ k_ ≠ gb175) (fun _ => False) rfl rfl ?aO ?aR (fun _ _ h => h) (fun _ h => h.elim) ?aF ?aB ?aS ?aL ?_
            (case aR => exact cU (Kd.C_below HR192.out HB.out))
            (case aB => exact (by repeat (first | (with_reducible first | exact HB.out | apply below_alloc | apply pw_below_drewN | apply below_drew1 | refine below_set ?_ GE168.out | refine below_set ?_ GE175.out) | exact HB.out)))
            (case aF => exact (fun k_ hk => ⟨Kd.fresh' (Kd.R_lt (rU HO185.out)) k_ hk, Kd.freshB (g := gb175) (o := .cells #[.int .i64 a1_1, .int .i64 a1_2, .int .i64 a1_3, .int .i64 a1_4, .int .i64 a1_5] 59 (0, 0)) (kU BK175.out) k_ hk⟩))
            (case aO => exact rU HO188.out)
            (case aS => exact (below_size (by repeat (first | (with_reducible first | exact HB.out | apply below_alloc | apply pw_below_drewN | apply below_drew1 | refine below_set ?_ GE168.out | refine below_set ?_ GE175.out) | exact HB.out))))
            (case aL => have := LMc27.out; omega)
            intro v194 w43 ho hb hg hat
            rw [← Ny193.out] at ho
            have n0_ := am (kG BK168.out hg (Kd.R_ne HO188.out BK168.out (by decide)))
            have n1_ := am (kG BK175.out hg (Kd.R_away HO188.out (fun _ hk => hk.2)))
            have n2_ := am (Kd.R_after (ok := (fun k_ => k_ ≠ gb175)) (rU HO185.out) hg hat)
            have n3_ := am (hb)
            have n4_ := am (ho)
            clear BK168
            clear BK175
            clear HO185
            clear HB
            clear HO188
            have BK168 := n0_
            have BK175 := n1_
            have HO185 := n2_
            have HB := n3_
            have HO195 := n4_
            clear n0_ n1_ n2_ n3_ n4_
            clear ho hb hg hat
            refine hK.out _ _ (bc5 BK175.out) (fun hHeld => ?_)
            clear hK K
            refine norm_ (a' := ?_) ?_ ?_
            rotate_left
            ·show Act.put _ (some 71) _ = _
             simp only [Act.put, List.setIfInBounds_toArray, List.set_cons_zero, List.set_cons_succ, i64_w, i32_w]
             rfl
            refine pure_ (i := 11) (N := some 4) (v := ?_) (a' := ?_) #[true, true, true, true, true, true, true, true, true, true, true, true, false] rfl rfl (any_of HT_.out (by kernel_rfl)) (fun _ _ _ h => h) (Or.inl ⟨by rfl, ?_⟩) ?_ ?_
            rotate_left
            ·intro w'
             go_simp
             with_reducible rfl
            rotate_left
            ·simp only [Act.put, List.setIfInBounds_toArray, List.set_cons_zero, List.set_cons_succ, i64_w, i32_w]
             rfl
            refine pure_ (i := 12) (N := some 5) (v := ?_) (a' := ?_) #[true, true, true, true, true, true, true, true, true, true, true, true, true] rfl rfl (any_of HT_.out (by kernel_rfl)) (fun _ _ _ h => h) (Or.inl ⟨by rfl, ?_⟩) ?_ ?_
            rotate_left
            ·intro w'
             go_simp
             with_reducible rfl
            rotate_left
            ·simp only [Act.put, List.setIfInBounds_toArray, List.set_cons_zero, List.set_cons_succ, i64_w, i32_w]
             rfl
            refine done_ (done_of HT_.out (by kernel_rfl)) ?_
            try go_wp2
            go_ret2
            exact ⟨_, eU, by (with_reducible repeat (first | apply Kd.R_alloc | apply Kd.R_drewN | apply Kd.R_drew)); exact Kd.R_mono HO195.out (fun _ hk => trivial), by repeat (first | (with_reducible first | exact HB.out | apply below_alloc | apply pw_below_drewN | apply below_drew1 | refine below_set ?_ GE168.out | refine below_set ?_ GE175.out) | exact HB.out)⟩
           ·rw [if_neg c27] at H
            exact absurd H (by simp)
          ·rw [if_neg c24] at H
           exact absurd H (by simp)
         ·rw [if_neg c22] at H
          exact absurd H (by simp)
       ·rw [if_neg c18] at H
        exact absurd H (by simp)
      ·rw [if_neg c17] at H
       have c17b0 : decide (x6_2 < (l0.length : Int)) = false := decide_eq_false c17
       clear c17
       by_cases c44 : 0 ≤ x6_2
       ·rw [if_pos c44] at H
        have c44b0 := eq_true c44
        have c44b1 : decide (0 ≤ x6_2) = true := decide_eq_true c44
        clear c44
        by_cases c45 : x6_2 ≤ (l0.length : Int)
        ·rw [if_pos c45] at H
         have c45b0 := eq_true c45
         have c45b1 : decide (x6_2 ≤ (l0.length : Int)) = true := decide_eq_true c45
         clear c45
         obtain ⟨y197, hy197⟩ : ∃ y_ : List (S59), y_ = (l0.take (x6_2 : Int).toNat) := ⟨_, rfl⟩
         replace H : ((spec_l5Copy.f y197).bind fun t201 => ((some (([(⟨a1_1, a1_2, a1_3, a1_4, a1_5⟩ : S59)] : List (S59)) : List (S59))).bind fun y204 => (if t201.length + y204.length < 3518437208883 then ((some (t201 ++ y204 : List (S59))).bind fun y207 => ((some (l0.drop (x6_2 : Int).toNat : List (S59))).bind fun y210 => (if y207.length + y210.length < 3518437208883 then (some ((y207 ++ y210), true)) else (none)))) else (none)))) = some (r1, r2) := by first | (rw [hy197]; with_reducible exact H) | (have H2_ := (Option.bind_some _ _).symm.trans H; rw [hy197]; with_reducible exact H2_) | (have H2_ := (Option.bind_some _ _).symm.trans H; with_reducible exact H2_) | with_reducible exact H | (rw [hy197]; exact H) | exact H
         have Ny197 := am hy197
         clear hy197
         replace H := Option.bind_eq_some_iff.mp H
         obtain ⟨t201, A460, H⟩ := H
         replace H : ((some (([(⟨a1_1, a1_2, a1_3, a1_4, a1_5⟩ : S59)] : List (S59)) : List (S59))).bind fun y204 => (if t201.length + y204.length < 3518437208883 then ((some (t201 ++ y204 : List (S59))).bind fun y207 => ((some (l0.drop (x6_2 : Int).toNat : List (S59))).bind fun y210 => (if y207.length + y210.length < 3518437208883 then (some ((y207 ++ y210), true)) else (none)))) else (none))) = some (r1, r2) := H
         have A46 := am A460
         clear A460
         obtain ⟨y204, hy204⟩ : ∃ y_ : List (S59), y_ = (([(⟨a1_1, a1_2, a1_3, a1_4, a1_5⟩ : S59)] : List (S59))) := ⟨_, rfl⟩
         replace H : (if t201.length + y204.length < 3518437208883 then ((some (t201 ++ y204 : List (S59))).bind fun y207 => ((some (l0.drop (x6_2 : Int).toNat : List (S59))).bind fun y210 => (if y207.length + y210.length < 3518437208883 then (some ((y207 ++ y210), true)) else (none)))) else (none)) = some (r1, r2) := by first | (rw [hy204]; with_reducible exact H) | (have H2_ := (Option.bind_some _ _).symm.trans H; rw [hy204]; with_reducible exact H2_) | (have H2_ := (Option.bind_some _ _).symm.trans H; with_reducible exact H2_) | with_reducible exact H | (rw [hy204]; exact H) | exact H
         have Ny204 := am hy204
         clear hy204
         by_cases c47 : t201.length + y204.length < 3518437208883
         ·rw [if_pos c47] at H
          have LMc47 := am c47
          clear c47
          obtain ⟨y207, hy207⟩ : ∃ y_ : List (S59), y_ = (t201 ++ y204) := ⟨_, rfl⟩
          replace H : ((some (l0.drop (x6_2 : Int).toNat : List (S59))).bind fun y210 => (if y207.length + y210.length < 3518437208883 then (some ((y207 ++ y210), true)) else (none))) = some (r1, r2) := by first | (rw [hy207]; with_reducible exact H) | (have H2_ := (Option.bind_some _ _).symm.trans H; rw [hy207]; with_reducible exact H2_) | (have H2_ := (Option.bind_some _ _).symm.trans H; with_reducible exact H2_) | with_reducible exact H | (rw [hy207]; exact H) | exact H
          have Ny207 := am hy207
          clear hy207
          have c48b0 := eq_true (dU : 0 ≤ x6_2)
          have c49b0 := eq_true (dU : x6_2 ≤ (l0.length : Int))
          obtain ⟨y210, hy210⟩ : ∃ y_ : List (S59), y_ = (l0.drop (x6_2 : Int).toNat) := ⟨_, rfl⟩
          replace H : (if y207.length + y210.length < 3518437208883 then (some ((y207 ++ y210), true)) else (none)) = some (r1, r2) := by first | (rw [hy210]; with_reducible exact H) | (have H2_ := (Option.bind_some _ _).symm.trans H; rw [hy210]; with_reducible exact H2_) | (have H2_ := (Option.bind_some _ _).symm.trans H; with_reducible exact H2_) | with_reducible exact H | (rw [hy210]; exact H) | exact H
          have Ny210 := am hy210
          clear hy210
          by_cases c50 : y207.length + y210.length < 3518437208883
          ·rw [if_pos c50] at H
           have LMc50 := am c50
           clear c50
           obtain ⟨y214, hy214⟩ : ∃ y_ : List (S59), y_ = (y207 ++ y210) := ⟨_, rfl⟩
           replace H : (some (y214, true)) = some (r1, r2) := by first | (rw [hy214]; with_reducible exact H) | (have H2_ := (Option.bind_some _ _).symm.trans H; rw [hy214]; with_reducible exact H2_) | (have H2_ := (Option.bind_some _ _).symm.trans H; with_reducible exact H2_) | with_reducible exact H | (rw [hy214]; exact H) | exact H
           have Ny214 := am hy214
           clear hy214
           simp only [Option.some.injEq, Prod.mk.injEq] at H
           obtain ⟨rfl, rfl⟩ := H
           try go_wp2
           have n0_ := am (blk_drew BK168.out)
           have n1_ := am (below_drew1 HB.out)
           clear BK168
           clear HB
           have BK168 := n0_
           have HB := n1_
           clear n0_ n1_
           refine start_ (n := 14) (S := fun w' => True) (ds := []) #[false, false, false, false, false, false, false, false, false, false, false, false, false, false] (by kernel_rfl) rfl rfl trivial (fun hHeld => ?_); refine with_tabW spec_l5Add.tab4 spec_l5Add.bits4 (fun HT_ HW_ => ?_)
           generalize wr.drew = w51 at BK168 HB hHeld ⊢
           refine pure_ (i := 0) (N := some 34) (v := ?_) (a' := ?_) #[true, false, false, false, false, false, false, false, false, false, false, false, false, false] rfl rfl (any_of HT_.out (by kernel_rfl)) (fun _ _ _ h => h) (Or.inl ⟨by rfl, ?_⟩) ?_ ?_
           rotate_left
           ·intro w'
            go_simp
            with_reducible rfl
           rotate_left
           ·simp only [Act.put, List.setIfInBounds_toArray, List.set_cons_zero, List.set_cons_succ, i64_w, i32_w]
            rfl
           refine pure_ (i := 1) (N := some 35) (v := ?_) (a' := ?_) #[true, true, false, false, false, false, false, false, false, false, false, false, false, false] rfl rfl (any_of HT_.out (by kernel_rfl)) (fun _ _ _ h => h) (Or.inl ⟨by rfl, ?_⟩) ?_ ?_
           rotate_left
           ·intro w'
            go_simp
            with_reducible rfl
           rotate_left
           ·simp only [Act.put, List.setIfInBounds_toArray, List.set_cons_zero, List.set_cons_succ, i64_w, i32_w]
            rfl
           refine pure_ (i := 2) (N := some 36) (v := ?_) (a' := ?_) #[true, true, true, false, false, false, false, false, false, false, false, false, false, false] rfl rfl (any_of HT_.out (by kernel_rfl)) (fun _ _ _ h => h) (Or.inl ⟨by rfl, ?_⟩) ?_ ?_
           rotate_left
           ·intro w'
            go_simp
            with_reducible rfl
           rotate_left
           ·simp only [Act.put, List.setIfInBounds_toArray, List.set_cons_zero, List.set_cons_succ, i64_w, i32_w]
            rfl
           refine pure_ (i := 3) (N := some 37) (v := ?_) (a' := ?_) #[true, true, true, true, false, false, false, false, false, false, false, false, false, false] rfl rfl (any_of HT_.out (by kernel_rfl)) (fun _ _ _ h => h) (Or.inl ⟨by rfl, ?_⟩) ?_ ?_
           rotate_left
           ·intro w'
            go_simp
            with_reducible rfl
           rotate_left
           ·simp only [Act.put, List.setIfInBounds_toArray, List.set_cons_zero, List.set_cons_succ, i64_w, i32_w]
            rfl
           refine pure_ (i := 4) (N := some 38) (v := ?_) (a' := ?_) #[true, true, true, true, true, false, false, false, false, false, false, false, false, false] rfl rfl (any_of HT_.out (by kernel_rfl)) (fun _ _ _ h => h) (Or.inl ⟨by rfl, ?_⟩) ?_ ?_
           rotate_left
           ·intro w'
            go_simp
            with_reducible rfl
           rotate_left
           ·simp only [Act.put, List.setIfInBounds_toArray, List.set_cons_zero, List.set_cons_succ, i64_w, i32_w]
            rfl
           refine pure_ (i := 5) (N := some 39) (v := undef) (a' := ?_) #[true, true, true, true, true, true, false, false, false, false, false, false, false, false] rfl rfl (any_of HT_.out (by kernel_rfl)) (fun _ _ _ h => h) (Or.inr ⟨by rfl, rfl⟩) ?_ ?_
           rotate_left
           ·simp only [Act.put, List.setIfInBounds_toArray, List.set_cons_zero, List.set_cons_succ, i64_w, i32_w]
            rfl
           refine pure_ (i := 6) (N := some 40) (v := undef) (a' := ?_) #[true, true, true, true, true, true, true, false, false, false, false, false, false, false] rfl rfl (any_of HT_.out (by kernel_rfl)) (fun _ _ _ h => h) (Or.inr ⟨by rfl, rfl⟩) ?_ ?_
           rotate_left
           ·simp only [Act.put, List.setIfInBounds_toArray, List.set_cons_zero, List.set_cons_succ, i64_w, i32_w]
            rfl
           refine pure_ (i := 7) (N := some 41) (v := undef) (a' := ?_) #[true, true, true, true, true, true, true, true, false, false, false, false, false, false] rfl rfl (any_of HT_.out (by kernel_rfl)) (fun _ _ _ h => h) (Or.inr ⟨by rfl, rfl⟩) ?_ ?_
           rotate_left
           ·simp only [Act.put, List.setIfInBounds_toArray, List.set_cons_zero, List.set_cons_succ, i64_w, i32_w]
            rfl
           refine pure_ (i := 8) (N := some 42) (v := undef) (a' := ?_) #[true, true, true, true, true, true, true, true, true, false, false, false, false, false] rfl rfl (any_of HT_.out (by kernel_rfl)) (fun _ _ _ h => h) (Or.inr ⟨by rfl, rfl⟩) ?_ ?_
           rotate_left
           ·simp only [Act.put, List.setIfInBounds_toArray, List.set_cons_zero, List.set_cons_succ, i64_w, i32_w]
            rfl
           refine pure_ (i := 9) (N := some 43) (v := undef) (a' := ?_) #[true, true, true, true, true, true, true, true, true, true, false, false, false, false] rfl rfl (any_of HT_.out (by kernel_rfl)) (fun _ _ _ h => h) (Or.inr ⟨by rfl, rfl⟩) ?_ ?_
           rotate_left
           ·simp only [Act.put, List.setIfInBounds_toArray, List.set_cons_zero, List.set_cons_succ, i64_w, i32_w]
            rfl
           refine pure_ (i := 10) (N := some 44) (v := undef) (a' := ?_) #[true, true, true, true, true, true, true, true, true, true, true, false, false, false] rfl rfl (any_of HT_.out (by kernel_rfl)) (fun _ _ _ h => h) (Or.inr ⟨by rfl, rfl⟩) ?_ ?_
           rotate_left
           ·simp only [Act.put, List.setIfInBounds_toArray, List.set_cons_zero, List.set_cons_succ, i64_w, i32_w]
            rfl
           refine pure_ (i := 11) (N := some 45) (v := undef) (a' := ?_) #[true, true, true, true, true, true, true, true, true, true, true, true, false, false] rfl rfl (any_of HT_.out (by kernel_rfl)) (fun _ _ _ h => h) (Or.inr ⟨by rfl, rfl⟩) ?_ ?_
           rotate_left
           ·simp only [Act.put, List.setIfInBounds_toArray, List.set_cons_zero, List.set_cons_succ, i64_w, i32_w]
            rfl
           refine pure_ (i := 12) (N := some 46) (v := undef) (a' := ?_) #[true, true, true, true, true, true, true, true, true, true, true, true, true, false] rfl rfl (any_of HT_.out (by kernel_rfl)) (fun _ _ _ h => h) (Or.inr ⟨by rfl, rfl⟩) ?_ ?_
           rotate_left
           ·simp only [Act.put, List.setIfInBounds_toArray, List.set_cons_zero, List.set_cons_succ, i64_w, i32_w]
            rfl
           refine pure_ (i := 13) (N := some 47) (v := ?_) (a' := ?_) #[true, true, true, true, true, true, true, true, true, true, true, true, true, true] rfl rfl (any_of HT_.out (by kernel_rfl)) (fun _ _ _ h => h) (Or.inl ⟨by rfl, ?_⟩) ?_ ?_
           rotate_left
           ·intro w'
            go_simp
            with_reducible rfl
           rotate_left
           ·simp only [Act.put, List.setIfInBounds_toArray, List.set_cons_zero, List.set_cons_succ, i64_w, i32_w]
            rfl
           refine done_ (done_of HT_.out (by kernel_rfl)) ?_
           obtain ⟨hcz52_0, hcz52_1, hcz52_2, hcz52_3, hcz52_4, hcz52_5⟩ := bc6 BK168.out
           obtain ⟨hfz52_0, hfz52_1, hfz52_2, hfz52_3, hfz52_4, hfz52_5⟩ := bf6 BK168.out
           try go_wp2_with (first | ((with_reducible refine gate_dst (N := 7) rfl ?_); (try (refine gate_guard (by rfl) ?_; dsimp only)); refine box_event ?hg (N := 7) ?hd (cs := #[.int .i64 0, .int .i64 0, .int .i64 0, .int .i64 0, .int .i64 0]) (t := 59) ?hr ?_; (case hd => rfl); (case hg => rfl); (case hr => first | (go_simp; done) | (go_simp; rfl)); intro gb196 hg w53 hbox hb; have n0_ := am (kB BK168.out hb); have n1_ := am (below_step (bS HB.out GE168.out) hb); have n2_ := am (hbox); have n3_ := am ((by rw [hg]; exact (below_size (bS HB.out GE168.out)) : w.heap.size ≤ gb196)); have n4_ := am ((by rw [hg]; exact (below_size (bS HB.out GE168.out)) : w.heap.size ≤ gb196)); have n5_ := am ((by rw [hg]; exact Nat.ne_of_lt (kL BK168.out) : gb168 ≠ gb196)); have n6_ := am ((by rw [hg]; exact Nat.ne_of_gt (kL BK168.out) : gb196 ≠ gb168)); clear BK168; clear HB; have BK168 := n0_; have HB := n1_; have BK196 := n2_; have GW196 := n3_; have GE196 := n4_; have NB168_196 := n5_; have NB196_168 := n6_; clear n0_ n1_ n2_ n3_ n4_ n5_ n6_; clear hb hbox hg; have hnb54 := NB196_168.out; have hnc54 := NB168_196.out; obtain ⟨hcz55_0, hcz55_1, hcz55_2, hcz55_3, hcz55_4⟩ := bc5 BK196.out; obtain ⟨hfz55_0, hfz55_1, hfz55_2, hfz55_3, hfz55_4⟩ := bf5 BK196.out))
           have n0_ : Aside0 ((((((w53.setCell ⟨gb196, 0, none⟩ (.int .i64 a1_1)).setCell ⟨gb196, 1, none⟩ (.int .i64 a1_2)).setCell ⟨gb196, 2, none⟩ (.int .i64 a1_3)).setCell ⟨gb196, 3, none⟩ (.int .i64 a1_4)).setCell ⟨gb196, 4, none⟩ (.int .i64 a1_5)).heap[gb168]? = some (.cells #[.int .i64 a1_0, .int .i64 a1_1, .int .i64 a1_2, .int .i64 a1_3, .int .i64 a1_4, .int .i64 a1_5] 30 (0, 0))) := ⟨by (with_reducible repeat (first | refine blk_drewN ?_ _ | refine blk_drew ?_ | refine blk_alloc ?_ _)); refine blk_far ?_ NB168_196.out _; (with_reducible repeat (first | refine blk_drewN ?_ _ | refine blk_drew ?_ | refine blk_alloc ?_ _)); refine blk_far ?_ NB168_196.out _; (with_reducible repeat (first | refine blk_drewN ?_ _ | refine blk_drew ?_ | refine blk_alloc ?_ _)); refine blk_far ?_ NB168_196.out _; (with_reducible repeat (first | refine blk_drewN ?_ _ | refine blk_drew ?_ | refine blk_alloc ?_ _)); refine blk_far ?_ NB168_196.out _; (with_reducible repeat (first | refine blk_drewN ?_ _ | refine blk_drew ?_ | refine blk_alloc ?_ _)); refine blk_far ?_ NB168_196.out _; exact kU BK168.out⟩
           have n1_ : Aside0 ((((((w53.setCell ⟨gb196, 0, none⟩ (.int .i64 a1_1)).setCell ⟨gb196, 1, none⟩ (.int .i64 a1_2)).setCell ⟨gb196, 2, none⟩ (.int .i64 a1_3)).setCell ⟨gb196, 3, none⟩ (.int .i64 a1_4)).setCell ⟨gb196, 4, none⟩ (.int .i64 a1_5)).heap[gb196]? = some (.cells #[.int .i64 a1_1, .int .i64 a1_2, .int .i64 a1_3, .int .i64 a1_4, .int .i64 a1_5] 59 (0, 0))) := ⟨by (with_reducible repeat (first | refine blk_drewN ?_ _ | refine blk_drew ?_ | refine blk_alloc ?_ _)); refine blk_put (cs := #[.int .i64 a1_1, .int .i64 a1_2, .int .i64 a1_3, .int .i64 a1_4, .int .i64 0]) ?_ 4 _ rfl; (with_reducible repeat (first | refine blk_drewN ?_ _ | refine blk_drew ?_ | refine blk_alloc ?_ _)); refine blk_put (cs := #[.int .i64 a1_1, .int .i64 a1_2, .int .i64 a1_3, .int .i64 0, .int .i64 0]) ?_ 3 _ rfl; (with_reducible repeat (first | refine blk_drewN ?_ _ | refine blk_drew ?_ | refine blk_alloc ?_ _)); refine blk_put (cs := #[.int .i64 a1_1, .int .i64 a1_2, .int .i64 0, .int .i64 0, .int .i64 0]) ?_ 2 _ rfl; (with_reducible repeat (first | refine blk_drewN ?_ _ | refine blk_drew ?_ | refine blk_alloc ?_ _)); refine blk_put (cs := #[.int .i64 a1_1, .int .i64 0, .int .i64 0, .int .i64 0, .int .i64 0]) ?_ 1 _ rfl; (with_reducible repeat (first | refine blk_drewN ?_ _ | refine blk_drew ?_ | refine blk_alloc ?_ _)); refine blk_put (cs := #[.int .i64 0, .int .i64 0, .int .i64 0, .int .i64 0, .int .i64 0]) ?_ 0 _ rfl; exact kU BK196.out⟩
           have n2_ : Aside0 (Below w.heap.size w (((((w53.setCell ⟨gb196, 0, none⟩ (.int .i64 a1_1)).setCell ⟨gb196, 1, none⟩ (.int .i64 a1_2)).setCell ⟨gb196, 2, none⟩ (.int .i64 a1_3)).setCell ⟨gb196, 3, none⟩ (.int .i64 a1_4)).setCell ⟨gb196, 4, none⟩ (.int .i64 a1_5))) := ⟨by repeat (first | (with_reducible first | exact HB.out | apply below_alloc | apply pw_below_drewN | apply below_drew1 | refine below_set ?_ GE168.out | refine below_set ?_ GE196.out) | exact HB.out)⟩
           (try clear BK168)
           (try clear BK196)
           (try clear HB)
           generalize (((((w53.setCell ⟨gb196, 0, none⟩ (.int .i64 a1_1)).setCell ⟨gb196, 1, none⟩ (.int .i64 a1_2)).setCell ⟨gb196, 2, none⟩ (.int .i64 a1_3)).setCell ⟨gb196, 3, none⟩ (.int .i64 a1_4)).setCell ⟨gb196, 4, none⟩ (.int .i64 a1_5)) = w56 at n0_ n1_ n2_ ⊢
           have BK168 := n0_
           have BK196 := n1_
           have HB := n2_
           clear n0_ n1_ n2_
           have n0_ := am (blk_drew BK168.out)
           have n1_ := am (blk_drew BK196.out)
           have n2_ := am (below_drew1 HB.out)
           clear BK168
           clear BK196
           clear HB
           have BK168 := n0_
           have BK196 := n1_
           have HB := n2_
           clear n0_ n1_ n2_
           have q58 : (x6_2 : Int) ≤ ((l0.length : Int) : Int) := dU
           obtain ⟨i058, hi058, _, hsz58, _⟩ := info_parts info59
           have hroom58 : l0.length ≤ c0 := HC0.out
           have hC58 : Kd.C k59 _ A0 l0.length l0 := HR0.out
           have hcut58 := cut_to (P := Try.prog) 26 59 .i64 Try.underlying26 hi058 A0 l0.length c0 x6_2 (dU) q58 hroom58
           have hr58 := Kd.C_take (m := (x6_2 : Int).toNat) hC58 (by omega)
           have hy58 : y197.length = (x6_2 : Int).toNat := (by rw [Ny197.out, List.length_take]; omega)
           rw [← Ny197.out] at hr58
           rw [← hy58] at hcut58
           have HR200 := am hr58
           have HC200 := am (show y197.length ≤ c0 from by omega)
           clear hr58 hC58 hroom58 hi058 hsz58
           have KY58 := am hy58
           clear hy58
           replace q58 := eq_true q58
           have q59 : (x6_2 : Int) ≤ ((l0.length : Int) : Int) := dU
           obtain ⟨i059, hi059, _, hsz59, _⟩ := info_parts info59
           have hroom59 : l0.length ≤ c0 := HC0.out
           have hC59 : Kd.C k59 _ A0 l0.length l0 := HR0.out
           have q059 : (0 : Int) ≤ (x6_2 : Int) := dU
           have hcut59 := cut_from (P := Try.prog) 26 59 .i64 Try.underlying26 hi059 5 hsz59 A0 l0.length c0 x6_2 q059 q59
           have hr59 := Kd.C_drop (m := (x6_2 : Int).toNat) (c := c0) hC59 (by omega) hroom59
           obtain ⟨A59, hA59⟩ : ∃ A1, A1 = (if c0 = (x6_2 : Int).toNat then A0 else (A0 : Option Addr).map (·.add ((x6_2 : Int).toNat * 5))) := ⟨_, rfl⟩
           obtain ⟨c59, hc59⟩ : ∃ c1, c1 = c0 - (x6_2 : Int).toNat := ⟨_, rfl⟩
           have hy59 : y210.length = l0.length - (x6_2 : Int).toNat := (by rw [Ny210.out, List.length_drop] <;> omega)
           rw [show (l0).drop (x6_2 : Int).toNat = y210 from Ny210.out.symm] at hr59
           replace hr59 : Kd.C k59 _ A59 y210.length y210 := (by rw [hA59]; exact hr59)
           rw [← hy59, ← hA59, ← hc59] at hcut59
           have HR213 := am hr59
           have HC213 := am (show y210.length ≤ c59 from by rw [hy59, hc59]; exact Nat.sub_le_sub_right hroom59 _)
           clear hr59 hC59 hroom59 hi059 hsz59 hc59
           have KY59 := am hy59
           have KA59 := am hA59
           clear hy59 hA59
           replace q59 := eq_true q59
           refine start_ (n := 13) (S := fun w' => w'.cell? ⟨gb196, 0, none⟩ = some (.int .i64 a1_1) ∧ w'.cell? ⟨gb196, 1, none⟩ = some (.int .i64 a1_2) ∧ w'.cell? ⟨gb196, 2, none⟩ = some (.int .i64 a1_3) ∧ w'.cell? ⟨gb196, 3, none⟩ = some (.int .i64 a1_4) ∧ w'.cell? ⟨gb196, 4, none⟩ = some (.int .i64 a1_5)) (ds := []) #[false, false, false, false, false, false, false, false, false, false, false, false, false] (by kernel_rfl) rfl rfl (bc5 BK196.out) (fun hHeld => ?_); refine with_tabW spec_l5Add.tab7 spec_l5Add.bits7 (fun HT_ HW_ => ?_)
           generalize w56.drew = w57 at BK168 BK196 HB HR200 HR213 hHeld ⊢
           refine pure_ (i := 0) (N := some 61) (v := ?_) (a' := ?_) #[true, false, false, false, false, false, false, false, false, false, false, false, false] rfl rfl (any_of HT_.out (by kernel_rfl)) (fun _ _ _ h => h) (Or.inl ⟨by rfl, ?_⟩) ?_ ?_
           rotate_left
           ·intro w'
            go_simp
            with_reducible rfl
           rotate_left
           ·simp only [Act.put, List.setIfInBounds_toArray, List.set_cons_zero, List.set_cons_succ, i64_w, i32_w]
            rfl
           refine pure_ (i := 1) (N := some 62) (v := ?_) (a' := ?_) #[true, true, false, false, false, false, false, false, false, false, false, false, false] rfl rfl (any_of HT_.out (by kernel_rfl)) (fun _ _ _ h => h) (Or.inl ⟨by rfl, ?_⟩) ?_ ?_
           rotate_left
           ·intro w'
            go_simp
            with_reducible rfl
           rotate_left
           ·simp only [Act.put, List.setIfInBounds_toArray, List.set_cons_zero, List.set_cons_succ, i64_w, i32_w]
            rfl
           refine pure_ (i := 2) (N := some 63) (v := ?_) (a' := ?_) #[true, true, true, false, false, false, false, false, false, false, false, false, false] rfl rfl (any_of HT_.out (by kernel_rfl)) (fun _ _ _ h => h) (Or.inl ⟨by rfl, ?_⟩) ?_ ?_
           rotate_left
           ·intro w'
            go_simp
            with_reducible rfl
           rotate_left
           ·simp only [Act.put, List.setIfInBounds_toArray, List.set_cons_zero, List.set_cons_succ, i64_w, i32_w]
            rfl
           refine pure_ (i := 7) (N := some 68) (v := ?_) (a' := ?_) #[true, true, true, false, false, false, false, true, false, false, false, false, false] rfl rfl (any_of HT_.out (by kernel_rfl)) (fun _ _ _ h => h) (Or.inl ⟨by rfl, ?_⟩) ?_ ?_
           rotate_left
           ·intro w'
            go_simp
            with_reducible rfl
           rotate_left
           ·simp only [Act.put, List.setIfInBounds_toArray, List.set_cons_zero, List.set_cons_succ, i64_w, i32_w]
            rfl
           refine pure_ (i := 8) (N := some 69) (v := ?_) (a' := ?_) #[true, true, true, false, false, false, false, true, true, false, false, false, false] rfl rfl (any_of HT_.out (by kernel_rfl)) (fun _ _ _ h => h) (Or.inl ⟨by rfl, ?_⟩) ?_ ?_
           rotate_left
           ·intro w'
            go_simp
            with_reducible rfl
           rotate_left
           ·simp only [Act.put, List.setIfInBounds_toArray, List.set_cons_zero, List.set_cons_succ, i64_w, i32_w]
            rfl
           refine pure_ (i := 9) (N := some 70) (v := ?_) (a' := ?_) #[true, true, true, false, false, false, false, true, true, true, false, false, false] rfl rfl (any_of HT_.out (by kernel_rfl)) (fun _ _ _ h => h) (Or.inl ⟨by rfl, ?_⟩) ?_ ?_
           rotate_left
           ·intro w'
            go_simp
            with_reducible rfl
           rotate_left
           ·simp only [Act.put, List.setIfInBounds_toArray, List.set_cons_zero, List.set_cons_succ, i64_w, i32_w]
            rfl
           refine take_ (i := 4) (N := some 65) (v := ?_) (a' := ?_) #[true, true, true, false, true, false, false, true, true, true, false, false, false] rfl rfl (take_ofW HT_.out HW_.out (by kernel_rfl)) (fun _ _ _ h => h) (Or.inl ⟨by rfl, ?_⟩) hHeld ?_ ?_
           rotate_left
           ·rintro w' ⟨s0, s1, s2, s3, s4⟩
            go_simp
            with_reducible rfl
           rotate_left
           ·simp only [Act.put, List.setIfInBounds_toArray, List.set_cons_zero, List.set_cons_succ, i64_w, i32_w]
            rfl
           refine join_ (σ := Value × Value) 4 #[true, true, true, true, true, true, false, true, true, true, false, false, false] (fun s_ => [(64, s_.1), (66, s_.2)]) (fun s_ w' => (w'.cell? ⟨gb196, 0, none⟩ = some (.int .i64 a1_1) ∧ w'.cell? ⟨gb196, 1, none⟩ = some (.int .i64 a1_2) ∧ w'.cell? ⟨gb196, 2, none⟩ = some (.int .i64 a1_3) ∧ w'.cell? ⟨gb196, 3, none⟩ = some (.int .i64 a1_4) ∧ w'.cell? ⟨gb196, 4, none⟩ = some (.int .i64 a1_5)) ∧ (Kd.R k59 59 w' w.heap.size (fun k_ => some k_ ≠ (s_.2 : Value).ownBlock ∧ k_ ≠ gb196) s_.1 t201) ∧ (Kd.R k59 59 w' w.heap.size (fun k_ => some k_ ≠ (s_.1 : Value).ownBlock ∧ k_ ≠ gb196) s_.2 y204) ∧ (w'.heap[gb168]? = some (.cells #[.int .i64 a1_0, .int .i64 a1_1, .int .i64 a1_2, .int .i64 a1_3, .int .i64 a1_4, .int .i64 a1_5] 30 (0, 0))) ∧ (w'.heap[gb196]? = some (.cells #[.int .i64 a1_1, .int .i64 a1_2, .int .i64 a1_3, .int .i64 a1_4, .int .i64 a1_5] 59 (0, 0))) ∧ (Below w.heap.size w w')) ?_ ?_
           rotate_left
           ·intro hCont
            refine two_ (i := 3) (j := 5) (Ni := some 64) (Nj := some 66) #[true, true, true, true, true, false, false, true, true, true, false, false, false] #[true, true, true, false, true, true, false, true, true, true, false, false, false] rfl rfl rfl rfl (two_of HT_.out (by kernel_rfl)) (by decide) (by decide) (fun K hK => ?_) (fun K hK => ?_)
            ·skip
             refine goes_ Try.func66 (by kernel_rfl) rfl #[.slice A0 y197.length c0] (by rfl) rfl rfl mU ?_
             with_reducible refine (spec_l5Copy.calls _ _ y197 t201 _ ?side1 ?side2 A46.out).mono ?_
             (case side1 => exact cU (Kd.C_below HR200.out HB.out))
             (case side2 => exact HC200.out)
             rintro e w60 ⟨v202, rfl, ho0, hb⟩
             refine ⟨_, rfl, ?_⟩
             have n0_ := am (Kd.R_lower (Kd.R_newB ho0 (g := gb196) (o := .cells #[.int .i64 a1_1, .int .i64 a1_2, .int .i64 a1_3, .int .i64 a1_4, .int .i64 a1_5] 59 (0, 0)) (kU BK196.out)) (below_size (by repeat (first | (with_reducible first | exact HB.out | apply below_alloc | apply pw_below_drewN | apply below_drew1 | refine below_set ?_ GE168.out | refine below_set ?_ GE196.out) | exact HB.out))))
             have n1_ := am (kB BK168.out hb)
             have n2_ := am (kB BK196.out hb)
             have n3_ := am (below_step (by repeat (first | (with_reducible first | exact HB.out | apply below_alloc | apply pw_below_drewN | apply below_drew1 | refine below_set ?_ GE168.out | refine below_set ?_ GE196.out) | exact HB.out)) hb)
             clear BK168
             clear BK196
             clear HB
             have HO203 := n0_
             have BK168 := n1_
             have BK196 := n2_
             have HB := n3_
             clear n0_ n1_ n2_ n3_
             (try clear hb)
             (try clear hb2)
             (try clear hk)
             (try clear hi)
             (try clear ho0)
             refine hK.out _ _ (bc5 BK196.out) (fun hHeld => ?_)
             clear hK K
             refine norm_ (a' := ?_) ?_ ?_
             rotate_left
             ·show Act.put _ (some 64) _ = _
              simp only [Act.put, List.setIfInBounds_toArray, List.set_cons_zero, List.set_cons_succ, i64_w, i32_w]
              rfl
             refine one_ (i := 5) (N := some 66) #[true, true, true, true, true, true, false, true, true, true, false, false, false] rfl rfl (one_of HT_.out (by kernel_rfl)) (by decide) (fun K hK => ?_)
             refine Kd.R_lit_step k59 _ 59 ?hg (N := 66) ?hd (xs := ([(⟨a1_1, a1_2, a1_3, a1_4, a1_5⟩ : S59)] : List (S59))) (inner := [.int .i64 a1_1, .int .i64 a1_2, .int .i64 a1_3, .int .i64 a1_4, .int .i64 a1_5]) (ok := fun _ => True) (okp := fun _ => True) ?hr ?hp (fun _ hk => hk) trivial (Below.refl _ _) (Nat.le_refl _) (by simp) ?_; (case hd => rfl); (case hg => rfl); (case hr => first | (go_simp; done) | (go_simp; rfl)); (case hp => exact (Reps.c5 (show Kd.M k59 _ _ _ (⟨a1_1, a1_2, a1_3, a1_4, a1_5⟩ : S59) [.int .i64 a1_1, .int .i64 a1_2, .int .i64 a1_3, .int .i64 a1_4, .int .i64 a1_5] from (k59_mkM _ _ _ (⟨a1_1, a1_2, a1_3, a1_4, a1_5⟩ : S59) )) (Reps.none _ _)))
             intro v205 w61 ho62 hb hg_ hnew_
             clear hg_ hnew_
             (first | rw [← Ny204.out] at ho62 | (simp only [Int.reduceToNat] at ho62; rw [← Ny204.out] at ho62))
             have n0_ := am (Kd.R_elder' (rU HO203.out) (Kd.R_base ho62) hb)
             have n1_ := am (Kd.R_lower (Kd.R_newB (Kd.R_new' ho62 (Kd.R_lt (rU HO203.out))) (g := gb196) (o := .cells #[.int .i64 a1_1, .int .i64 a1_2, .int .i64 a1_3, .int .i64 a1_4, .int .i64 a1_5] 59 (0, 0)) (kU BK196.out)) (below_size (by repeat (first | (with_reducible first | exact HB.out | apply below_alloc | apply pw_below_drewN | apply below_drew1 | refine below_set ?_ GE168.out | refine below_set ?_ GE196.out) | exact HB.out))))
             have n2_ := am (kB BK168.out hb)
             have n3_ := am (kB BK196.out hb)
             have n4_ := am (below_step (by repeat (first | (with_reducible first | exact HB.out | apply below_alloc | apply pw_below_drewN | apply below_drew1 | refine below_set ?_ GE168.out | refine below_set ?_ GE196.out) | exact HB.out)) hb)
             clear HO203
             clear BK168
             clear BK196
             clear HB
             have HO203 := n0_
             have HO206 := n1_
             have BK168 := n2_
             have BK196 := n3_
             have HB := n4_
             clear n0_ n1_ n2_ n3_ n4_
             clear hb ho62
             refine hK.out _ _ (bc5 BK196.out) (fun hHeld => ?_)
             clear hK K
             refine norm_ (a' := ?_) ?_ ?_
             rotate_left
             ·show Act.put _ (some 66) _ = _
              simp only [Act.put, List.setIfInBounds_toArray, List.set_cons_zero, List.set_cons_succ, i64_w, i32_w]
              rfl
             exact norm_ (by simp only [putAll, Act.put, List.setIfInBounds_toArray, List.set_cons_zero, List.set_cons_succ]) (hCont (v202, v205) _ ⟨hHeld, (by (with_reducible repeat (first | apply Kd.R_alloc | apply Kd.R_drewN | apply Kd.R_drew)); exact Kd.R_mono HO203.out (fun _ hk => ⟨hk.2, hk.1.2⟩)), (by (with_reducible repeat (first | apply Kd.R_alloc | apply Kd.R_drewN | apply Kd.R_drew)); exact Kd.R_mono HO206.out (fun _ hk => ⟨hk.1.2, hk.2⟩)), (kU BK168.out), (kU BK196.out), (by repeat (first | (with_reducible first | exact HB.out | apply below_alloc | apply pw_below_drewN | apply below_drew1 | refine below_set ?_ GE168.out | refine below_set ?_ GE196.out) | exact HB.out))⟩)
            ·skip
             refine Kd.R_lit_step k59 _ 59 ?hg (N := 66) ?hd (xs := ([(⟨a1_1, a1_2, a1_3, a1_4, a1_5⟩ : S59)] : List (S59))) (inner := [.int .i64 a1_1, .int .i64 a1_2, .int .i64 a1_3, .int .i64 a1_4, .int .i64 a1_5]) (ok := fun _ => True) (okp := fun _ => True) ?hr ?hp (fun _ hk => hk) trivial (Below.refl _ _) (Nat.le_refl _) (by simp) ?_; (case hd => rfl); (case hg => rfl); (case hr => first | (go_simp; done) | (go_simp; rfl)); (case hp => exact (Reps.c5 (show Kd.M k59 _ _ _ (⟨a1_1, a1_2, a1_3, a1_4, a1_5⟩ : S59) [.int .i64 a1_1, .int .i64 a1_2, .int .i64 a1_3, .int .i64 a1_4, .int .i64 a1_5] from (k59_mkM _ _ _ (⟨a1_1, a1_2, a1_3, a1_4, a1_5⟩ : S59) )) (Reps.none _ _)))
             intro v205 w60 ho61 hb hg_ hnew_
             clear hg_ hnew_
             (first | rw [← Ny204.out] at ho61 | (simp only [Int.reduceToNat] at ho61; rw [← Ny204.out] at ho61))
             have n0_ := am (Kd.R_lower (Kd.R_newB ho61 (g := gb196) (o := .cells #[.int .i64 a1_1, .int .i64 a1_2, .int .i64 a1_3, .int .i64 a1_4, .int .i64 a1_5] 59 (0, 0)) (kU BK196.out)) (below_size (by repeat (first | (with_reducible first | exact HB.out | apply below_alloc | apply pw_below_drewN | apply below_drew1 | refine below_set ?_ GE168.out | refine below_set ?_ GE196.out) | exact HB.out))))
             have n1_ := am (kB BK168.out hb)
             have n2_ := am (kB BK196.out hb)
             have n3_ := am (below_step (by repeat (first | (with_reducible first | exact HB.out | apply below_alloc | apply pw_below_drewN | apply below_drew1 | refine below_set ?_ GE168.out | refine below_set ?_ GE196.out) | exact HB.out)) hb)
             clear BK168
             clear BK196
             clear HB
             have HO206 := n0_
             have BK168 := n1_
             have BK196 := n2_
             have HB := n3_
             clear n0_ n1_ n2_ n3_
             clear hb ho61
             refine hK.out _ _ (bc5 BK196.out) (fun hHeld => ?_)
             clear hK K
             refine norm_ (a' := ?_) ?_ ?_
             rotate_left
             ·show Act.put _ (some 66) _ = _
              simp only [Act.put, List.setIfInBounds_toArray, List.set_cons_zero, List.set_cons_succ, i64_w, i32_w]
              rfl
             refine one_ (i := 3) (N := some 64) #[true, true, true, true, true, true, false, true, true, true, false, false, false] rfl rfl (one_of HT_.out (by kernel_rfl)) (by decide) (fun K hK => ?_)
             refine goes_ Try.func66 (by kernel_rfl) rfl #[.slice A0 y197.length c0] (by rfl) rfl rfl mU ?_
             with_reducible refine (spec_l5Copy.calls _ _ y197 t201 _ ?side1 ?side2 A46.out).mono ?_
             (case side1 => exact cU (Kd.C_below HR200.out HB.out))
             (case side2 => exact HC200.out)
             rintro e w62 ⟨v202, rfl, ho0, hb⟩
             refine ⟨_, rfl, ?_⟩
             have n0_ := am (Kd.R_elder' (rU HO206.out) (Kd.R_base ho0) hb)
             have n1_ := am (Kd.R_lower (Kd.R_newB (Kd.R_new' ho0 (Kd.R_lt (rU HO206.out))) (g := gb196) (o := .cells #[.int .i64 a1_1, .int .i64 a1_2, .int .i64 a1_3, .int .i64 a1_4, .int .i64 a1_5] 59 (0, 0)) (kU BK196.out)) (below_size (by repeat (first | (with_reducible first | exact HB.out | apply below_alloc | apply pw_below_drewN | apply below_drew1 | refine below_set ?_ GE168.out | refine below_set ?_ GE196.out) | exact HB.out))))
             have n2_ := am (kB BK168.out hb)
             have n3_ := am (kB BK196.out hb)
             have n4_ := am (below_step (by repeat (first | (with_reducible first | exact HB.out | apply below_alloc | apply pw_below_drewN | apply below_drew1 | refine below_set ?_ GE168.out | refine below_set ?_ GE196.out) | exact HB.out)) hb)
             clear HO206
             clear BK168
             clear BK196
             clear HB
             have HO206 := n0_
             have HO203 := n1_
             have BK168 := n2_
             have BK196 := n3_
             have HB := n4_
             clear n0_ n1_ n2_ n3_ n4_
             (try clear hb)
             (try clear hb2)
             (try clear hk)
             (try clear hi)
             (try clear ho0)
             refine hK.out _ _ (bc5 BK196.out) (fun hHeld => ?_)
             clear hK K
             refine norm_ (a' := ?_) ?_ ?_
             rotate_left
             ·show Act.put _ (some 64) _ = _
              simp only [Act.put, List.setIfInBounds_toArray, List.set_cons_zero, List.set_cons_succ, i64_w, i32_w]
              rfl
             exact norm_ (by simp only [putAll, Act.put, List.setIfInBounds_toArray, List.set_cons_zero, List.set_cons_succ]) (hCont (v202, v205) _ ⟨hHeld, (by (with_reducible repeat (first | apply Kd.R_alloc | apply Kd.R_drewN | apply Kd.R_drew)); exact Kd.R_mono HO203.out (fun _ hk => ⟨hk.1.2, hk.2⟩)), (by (with_reducible repeat (first | apply Kd.R_alloc | apply Kd.R_drewN | apply Kd.R_drew)); exact Kd.R_mono HO206.out (fun _ hk => ⟨hk.2, hk.1.2⟩)), (kU BK168.out), (kU BK196.out), (by repeat (first | (with_reducible first | exact HB.out | apply below_alloc | apply pw_below_drewN | apply below_drew1 | refine below_set ?_ GE168.out | refine below_set ?_ GE196.out) | exact HB.out))⟩)
           rintro ⟨v202, v205⟩ w63 ⟨hS_, h0_, h1_, h2_, h3_, h4_⟩
           have n0_ : Aside0 (Kd.R k59 59 w63 w.heap.size (fun k_ => some k_ ≠ (v205 : Value).ownBlock ∧ k_ ≠ gb196) v202 t201) := ⟨h0_⟩
           have n1_ : Aside0 (Kd.R k59 59 w63 w.heap.size (fun k_ => some k_ ≠ (v202 : Value).ownBlock ∧ k_ ≠ gb196) v205 y204) := ⟨h1_⟩
           have n2_ : Aside0 (w63.heap[gb168]? = some (.cells #[.int .i64 a1_0, .int .i64 a1_1, .int .i64 a1_2, .int .i64 a1_3, .int .i64 a1_4, .int .i64 a1_5] 30 (0, 0))) := ⟨h2_⟩
           have n3_ : Aside0 (w63.heap[gb196]? = some (.cells #[.int .i64 a1_1, .int .i64 a1_2, .int .i64 a1_3, .int .i64 a1_4, .int .i64 a1_5] 59 (0, 0))) := ⟨h3_⟩
           have n4_ : Aside0 (Below w.heap.size w w63) := ⟨h4_⟩
           clear BK168
           clear BK196
           clear HB
           clear h0_ h1_ h2_ h3_ h4_
           have HO203 := n0_
           have HO206 := n1_
           have BK168 := n2_
           have BK196 := n3_
           have HB := n4_
           clear n0_ n1_ n2_ n3_ n4_
           have hHeld : w63.cell? ⟨gb196, 0, none⟩ = some (.int .i64 a1_1) ∧ w63.cell? ⟨gb196, 1, none⟩ = some (.int .i64 a1_2) ∧ w63.cell? ⟨gb196, 2, none⟩ = some (.int .i64 a1_3) ∧ w63.cell? ⟨gb196, 3, none⟩ = some (.int .i64 a1_4) ∧ w63.cell? ⟨gb196, 4, none⟩ = some (.int .i64 a1_5) := hS_
           obtain ⟨Ao65, co65, eo65⟩ := Kd.R_slice HO206.out
           (first | subst eo65 | (injection eo65 with f1_ f2_ f3_; have f4_ := f1_.symm; have f5_ := f3_.symm; clear f1_ f2_ f3_; subst f4_; subst f5_))
           refine norm_ (a' := ?_) ?_ ?_
           rotate_left
           ·simp only [putAll, Act.put, List.setIfInBounds_toArray, List.set_cons_zero, List.set_cons_succ]
            rfl
           refine one_ (i := 6) (N := some 67) #[true, true, true, true, true, true, true, true, true, true, false, false, false] rfl rfl (one_of HT_.out (by kernel_rfl)) (by decide) (fun K hK => ?_)
           refine Kd.R_append_rows_step k59 (w0 := w) w.heap.size (by rfl) (.tmp 64) (.tmp 66) 26 59 (.agg #[(.int .i64 0), (.int .i64 0), (.int .i64 0), (.int .i64 0), (.int .i64 0)]) 40 rfl Try.underlying26 info59 rfl (by decide) (by omega) v202 t201 y204 _ _ _ (fun k_ => some k_ ≠ (.slice Ao65 y204.length co65 : Value).ownBlock ∧ k_ ≠ gb196) (fun _ => False) rfl rfl ?aO ?aR (fun _ _ h => h) (fun _ h => h.elim) ?aF ?aB ?aS ?aL ?_
           (case aR => exact cU (Kd.R_reads' HO206.out).2.2)
           (case aB => exact (by repeat (first | (with_reducible first | exact HB.out | apply below_alloc | apply pw_below_drewN | apply below_drew1 | refine below_set ?_ GE168.out | refine below_set ?_ GE196.out) | exact HB.out)))
           (case aF => exact (fun k_ hk => ⟨Kd.fresh' (Kd.R_lt (rU HO206.out)) k_ hk, Kd.freshB (g := gb196) (o := .cells #[.int .i64 a1_1, .int .i64 a1_2, .int .i64 a1_3, .int .i64 a1_4, .int .i64 a1_5] 59 (0, 0)) (kU BK196.out) k_ hk⟩))
           (case aO => exact rU HO203.out)
           (case aS => exact (below_size (by repeat (first | (with_reducible first | exact HB.out | apply below_alloc | apply pw_below_drewN | apply below_drew1 | refine below_set ?_ GE168.out | refine below_set ?_ GE196.out) | exact HB.out))))
           (case aL => have := LMc47.out; omega)
           intro v208 w64 ho hb hg hat
           rw [← Ny207.out] at ho
           have n0_ := am (kG BK168.out hg (Kd.R_ne HO203.out BK168.out (by decide)))
           have n1_ := am (kG BK196.out hg (Kd.R_away HO203.out (fun _ hk => hk.2)))
           have n2_ := am (Kd.R_after (ok := (fun k_ => k_ ≠ gb196)) (by (with_reducible repeat (first | apply Kd.R_alloc | apply Kd.R_drewN | apply Kd.R_drew)); exact Kd.R_mono HO206.out (fun _ hk => ⟨hk.2, hk.1⟩)) hg hat)
           have n3_ := am (hb)
           have n4_ := am (ho)
           clear BK168
           clear BK196
           clear HO206
           clear HB
           clear HO203
           have BK168 := n0_
           have BK196 := n1_
           have HO206 := n2_
           have HB := n3_
           have HO209 := n4_
           clear n0_ n1_ n2_ n3_ n4_
           clear ho hb hg hat
           refine hK.out _ _ (bc5 BK196.out) (fun hHeld => ?_)
           clear hK K
           refine norm_ (a' := ?_) ?_ ?_
           rotate_left
           ·show Act.put _ (some 67) _ = _
            simp only [Act.put, List.setIfInBounds_toArray, List.set_cons_zero, List.set_cons_succ, i64_w, i32_w]
            rfl
           refine one_ (i := 10) (N := some 71) #[true, true, true, true, true, true, true, true, true, true, true, false, false] rfl rfl (one_of HT_.out (by kernel_rfl)) (by decide) (fun K hK => ?_)
           refine Kd.R_append_rows_step k59 (w0 := w) w.heap.size (by rfl) (.tmp 67) (.tmp 70) 26 59 (.agg #[(.int .i64 0), (.int .i64 0), (.int .i64 0), (.int .i64 0), (.int .i64 0)]) 40 rfl Try.underlying26 info59 rfl (by decide) (by omega) v208 y207 y210 _ _ _ (fun k_ => some k_ ≠ (.slice Ao65 y204.length co65 : Value).ownBlock ∧ k_ ≠ gb196) (fun _ => False) rfl rfl ?aO ?aR (fun _ _ h => h) (fun _ h => h.elim) ?aF ?aB ?aS ?aL ?_
           (case aR => exact cU (Kd.C_below HR213.out HB.out))
           (case aB => exact (by repeat (first | (with_reducible first | exact HB.out | apply below_alloc | apply pw_below_drewN | apply below_drew1 | refine below_set ?_ GE168.out | refine below_set ?_ GE196.out) | exact HB.out)))
           (case aF => exact (fun k_ hk => ⟨Kd.fresh' (Kd.R_lt (rU HO206.out)) k_ hk, Kd.freshB (g := gb196) (o := .cells #[.int .i64 a1_1, .int .i64 a1_2, .int .i64 a1_3, .int .i64 a1_4, .int .i64 a1_5] 59 (0, 0)) (kU BK196.out) k_ hk⟩))
           (case aO => exact rU HO209.out)
           (case aS => exact (below_size (by repeat (first | (with_reducible first | exact HB.out | apply below_alloc | apply pw_below_drewN | apply below_drew1 | refine below_set ?_ GE168.out | refine below_set ?_ GE196.out) | exact HB.out))))
           (case aL => have := LMc50.out; omega)
           intro v215 w66 ho hb hg hat
           rw [← Ny214.out] at ho
           have n0_ := am (kG BK168.out hg (Kd.R_ne HO209.out BK168.out (by decide)))
           have n1_ := am (kG BK196.out hg (Kd.R_away HO209.out (fun _ hk => hk.2)))
           have n2_ := am (Kd.R_after (ok := (fun k_ => k_ ≠ gb196)) (rU HO206.out) hg hat)
           have n3_ := am (hb)
           have n4_ := am (ho)
           clear BK168
           clear BK196
           clear HO206
           clear HB
           clear HO209
           have BK168 := n0_
           have BK196 := n1_
           have HO206 := n2_
           have HB := n3_
           have HO216 := n4_
           clear n0_ n1_ n2_ n3_ n4_
           clear ho hb hg hat
           refine hK.out _ _ (bc5 BK196.out) (fun hHeld => ?_)
           clear hK K
           refine norm_ (a' := ?_) ?_ ?_
           rotate_left
           ·show Act.put _ (some 71) _ = _
            simp only [Act.put, List.setIfInBounds_toArray, List.set_cons_zero, List.set_cons_succ, i64_w, i32_w]
            rfl
           refine pure_ (i := 11) (N := some 4) (v := ?_) (a' := ?_) #[true, true, true, true, true, true, true, true, true, true, true, true, false] rfl rfl (any_of HT_.out (by kernel_rfl)) (fun _ _ _ h => h) (Or.inl ⟨by rfl, ?_⟩) ?_ ?_
           rotate_left
           ·intro w'
            go_simp
            with_reducible rfl
           rotate_left
           ·simp only [Act.put, List.setIfInBounds_toArray, List.set_cons_zero, List.set_cons_succ, i64_w, i32_w]
            rfl
           refine pure_ (i := 12) (N := some 5) (v := ?_) (a' := ?_) #[true, true, true, true, true, true, true, true, true, true, true, true, true] rfl rfl (any_of HT_.out (by kernel_rfl)) (fun _ _ _ h => h) (Or.inl ⟨by rfl, ?_⟩) ?_ ?_
           rotate_left
           ·intro w'
            go_simp
            with_reducible rfl
           rotate_left
           ·simp only [Act.put, List.setIfInBounds_toArray, List.set_cons_zero, List.set_cons_succ, i64_w, i32_w]
            rfl
           refine done_ (done_of HT_.out (by kernel_rfl)) ?_
           try go_wp2
           go_ret2
           exact ⟨_, eU, by (with_reducible repeat (first | apply Kd.R_alloc | apply Kd.R_drewN | apply Kd.R_drew)); exact Kd.R_mono HO216.out (fun _ hk => trivial), by repeat (first | (with_reducible first | exact HB.out | apply below_alloc | apply pw_below_drewN | apply below_drew1 | refine below_set ?_ GE168.out | refine below_set ?_ GE196.out) | exact HB.out)⟩
          ·rw [if_neg c50] at H
           exact absurd H (by simp)
         ·rw [if_neg c47] at H
          exact absurd H (by simp)
        ·rw [if_neg c45] at H
         exact absurd H (by simp)
       ·rw [if_neg c44] at H
        exact absurd H (by simp)
end Go.Proofs.Ytiiibfpijmmbfaa.QFnExactEditByHandle
