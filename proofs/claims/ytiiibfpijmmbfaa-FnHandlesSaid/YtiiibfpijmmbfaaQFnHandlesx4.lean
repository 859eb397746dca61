import Derived.Test.YtiiibfpijmmbfaaUp
import Derived.Test.YtiiibfpijmmbfaaQFnHandlesx0
import Derived.Test.YtiiibfpijmmbfaaQFnHandlesx2
namespace Go.Proofs.Ytiiibfpijmmbfaa.QFnHandles
open Go.RowKit Go.Proofs.YtiiibfpijmmbfaaW.PrintWords Go.Proofs.YtiiibfpijmmbfaaW.PrintLast Go.Proofs.YtiiibfpijmmbfaaW.PrintMore
attribute [local go_sem] max2_int min2_int max_two min_two max_three min_three max_four min_four
set_option linter.unusedVariables false
set_option linter.unusedSimpArgs false
def impl_IsEdit.f (a0_0 : Int) (a0_1 : Int) (a0_2 : Int) (a0_3 : Int) (a0_4 : Int) (a0_5 : Int) : Option (Bool) := (impl_InRange.f a0_0 1 4).bind fun t115 => (if t115 = true then ((impl_InRange.f a0_1 1 99).bind fun t116 => (if t116 = true then ((impl_InRange.f a0_2 0 99).bind fun t117 => (if t117 = true then ((impl_InRange.f a0_3 0 9).bind fun t118 => (if t118 = true then ((impl_InRange.f a0_4 0 999).bind fun t119 => (if t119 = true then ((impl_InRange.f a0_5 0 5).bind fun t120 => (some t120)) else (some false))) else (some false))) else (some false))) else (some false))) else (some false))
set_option maxHeartbeats 8000000 in
set_option maxRecDepth 100000 in
theorem impl_IsEdit.calls (a0_0 : Int) (a0_1 : Int) (a0_2 : Int) (a0_3 : Int) (a0_4 : Int) (a0_5 : Int) (r : Bool) (w : World) (h : impl_IsEdit.f a0_0 a0_1 a0_2 a0_3 a0_4 a0_5 = some r) :
  Calls Try.prog 73 #[.agg #[.int .i64 a0_0, .int .i64 a0_1, .int .i64 a0_2, .int .i64 a0_3, .int .i64 a0_4, .int .i64 a0_5]] w fun e w' => e = .returned (.bool r) ∧ Below w.heap.size w w' := by
 have hu30 := Try.underlying30
 have HB := am (Below.refl w.heap.size w)
 have H : ((impl_InRange.f a0_0 1 4).bind fun t115 => (if t115 = true then ((impl_InRange.f a0_1 1 99).bind fun t116 => (if t116 = true then ((impl_InRange.f a0_2 0 99).bind fun t117 => (if t117 = true then ((impl_InRange.f a0_3 0 9).bind fun t118 => (if t118 = true then ((impl_InRange.f a0_4 0 999).bind fun t119 => (if t119 = true then ((impl_InRange.f a0_5 0 5).bind fun t120 => (some t120)) else (some false))) else (some false))) else (some false))) else (some false))) else (some false))) = some r := h
 clear h
 replace H := Option.bind_eq_some_iff.mp H
 obtain ⟨t115, A20, H⟩ := H
 replace H : (if t115 = true then ((impl_InRange.f a0_1 1 99).bind fun t116 => (if t116 = true then ((impl_InRange.f a0_2 0 99).bind fun t117 => (if t117 = true then ((impl_InRange.f a0_3 0 9).bind fun t118 => (if t118 = true then ((impl_InRange.f a0_4 0 999).bind fun t119 => (if t119 = true then ((impl_InRange.f a0_5 0 5).bind fun t120 => (some t120)) else (some false))) else (some false))) else (some false))) else (some false))) else (some false)) = some r := H
 have A2 := am A20
 clear A20
 by_cases c3 : t115 = true
 ·subst c3
  have H1 : ((impl_InRange.f a0_1 1 99).bind fun t116 => (if t116 = true then ((impl_InRange.f a0_2 0 99).bind fun t117 => (if t117 = true then ((impl_InRange.f a0_3 0 9).bind fun t118 => (if t118 = true then ((impl_InRange.f a0_4 0 999).bind fun t119 => (if t119 = true then ((impl_InRange.f a0_5 0 5).bind fun t120 => (some t120)) else (some false))) else (some false))) else (some false))) else (some false))) = some r := by rw [if_pos rfl] at H; exact H
  clear H
  have H := H1
  clear H1
  replace H := Option.bind_eq_some_iff.mp H
  obtain ⟨t116, A40, H⟩ := H
  replace H : (if t116 = true then ((impl_InRange.f a0_2 0 99).bind fun t117 => (if t117 = true then ((impl_InRange.f a0_3 0 9).bind fun t118 => (if t118 = true then ((impl_InRange.f a0_4 0 999).bind fun t119 => (if t119 = true then ((impl_InRange.f a0_5 0 5).bind fun t120 => (some t120)) else (some false))) else (some false))) else (some false))) else (some false)) = some r := H
  have A4 := am A40
  clear A40
  by_cases c5 : t116 = true
  ·subst c5
   have H1 : ((impl_InRange.f a0_2 0 99).bind fun t117 => (if t117 = true then ((impl_InRange.f a0_3 0 9).bind fun t118 => (if t118 = true then ((impl_InRange.f a0_4 0 999).bind fun t119 => (if t119 = true then ((impl_InRange.f a0_5 0 5).bind fun t120 => (some t120)) else (some false))) else (some false))) else (some false))) = some r := by rw [if_pos rfl] at H; exact H
   clear H
   have H := H1
   clear H1
   replace H := Option.bind_eq_some_iff.mp H
   obtain ⟨t117, A60, H⟩ := H
   replace H : (if t117 = true then ((impl_InRange.f a0_3 0 9).bind fun t118 => (if t118 = true then ((impl_InRange.f a0_4 0 999).bind fun t119 => (if t119 = true then ((impl_InRange.f a0_5 0 5).bind fun t120 => (some t120)) else (some false))) else (some false))) else (some false)) = some r := H
   have A6 := am A60
   clear A60
   by_cases c7 : t117 = true
   ·subst c7
    have H1 : ((impl_InRange.f a0_3 0 9).bind fun t118 => (if t118 = true then ((impl_InRange.f a0_4 0 999).bind fun t119 => (if t119 = true then ((impl_InRange.f a0_5 0 5).bind fun t120 => (some t120)) else (some false))) else (some false))) = some r := by rw [if_pos rfl] at H; exact H
    clear H
    have H := H1
    clear H1
    replace H := Option.bind_eq_some_iff.mp H
    obtain ⟨t118, A80, H⟩ := H
    replace H : (if t118 = true then ((impl_InRange.f a0_4 0 999).bind fun t119 => (if t119 = true then ((impl_InRange.f a0_5 0 5).bind fun t120 => (some t120)) else (some false))) else (some false)) = some r := H
    have A8 := am A80
    clear A80
    by_cases c9 : t118 = true
    ·subst c9
     have H1 : ((impl_InRange.f a0_4 0 999).bind fun t119 => (if t119 = true then ((impl_InRange.f a0_5 0 5).bind fun t120 => (some t120)) else (some false))) = some r := by rw [if_pos rfl] at H; exact H
     clear H
     have H := H1
     clear H1
     replace H := Option.bind_eq_some_iff.mp H
     obtain ⟨t119, A100, H⟩ := H
     replace H : (if t119 = true then ((impl_InRange.f a0_5 0 5).bind fun t120 => (some t120)) else (some false)) = some r := H
     have A10 := am A100
     clear A100
     by_cases c11 : t119 = true
     ·subst c11
      have H1 : ((impl_InRange.f a0_5 0 5).bind fun t120 => (some t120)) = some r := by rw [if_pos rfl] at H; exact H
      clear H
      have H := H1
      clear H1
      replace H := Option.bind_eq_some_iff.mp H
      obtain ⟨t120, A120, H⟩ := H
      replace H : (some t120) = some r := H
      have A12 := am A120
      clear A120
      obtain rfl := Option.some.inj H
      go_enter Try.func73, Try.ntmps73
      go_wp2_with (first | ((with_reducible refine gate_dst (N := 1) rfl ?_); refine box_event ?hg (N := 1) ?hd (cs := #[.int .i64 a0_0, .int .i64 a0_1, .int .i64 a0_2, .int .i64 a0_3, .int .i64 a0_4, .int .i64 a0_5]) (t := 30) ?hr ?_; (case hd => rfl); (case hg => rfl); (case hr => first | (go_simp; done) | (go_simp; rfl)); intro gb114 hg w13 hbox hb; have n0_ := am (below_step (bU HB.out) hb); have n1_ := am (hbox); have n2_ := am ((by rw [hg]; exact (below_size (bU HB.out)) : w.heap.size ≤ gb114)); have n3_ := am ((by rw [hg]; exact (below_size (bU HB.out)) : w.heap.size ≤ gb114)); clear HB; have HB := n0_; have BK114 := n1_; have GW114 := n2_; have GE114 := n3_; clear n0_ n1_ n2_ n3_; clear hb hbox hg; obtain ⟨hcz14_0, hcz14_1, hcz14_2, hcz14_3, hcz14_4, hcz14_5⟩ := bc6 BK114.out; obtain ⟨hfz14_0, hfz14_1, hfz14_2, hfz14_3, hfz14_4, hfz14_5⟩ := bf6 BK114.out) | ((with_reducible refine gate_callee (f := 92) rfl ?_); refine goesL_ (some 5) rfl rfl Try.func92 (by kernel_rfl) rfl #[.int .i64 a0_0, .int .i64 1, .int .i64 4] rfl mU ?_; (with_reducible refine (impl_InRange.calls a0_0 1 4 true _ A2.out).mono ?_); rintro e w' ⟨rfl, ⟨nd, rfl⟩⟩; refine ⟨_, rfl, ?_⟩) | (go_at_call 92; (with_reducible refine (impl_InRange.calls a0_1 1 99 true _ A4.out).mono ?_); rintro e w' ⟨rfl, ⟨nd, rfl⟩⟩) | (go_at_call 92; (with_reducible refine (impl_InRange.calls a0_2 0 99 true _ A6.out).mono ?_); rintro e w' ⟨rfl, ⟨nd, rfl⟩⟩) | (go_at_call 92; (with_reducible refine (impl_InRange.calls a0_3 0 9 true _ A8.out).mono ?_); rintro e w' ⟨rfl, ⟨nd, rfl⟩⟩) | (go_at_call 92; (with_reducible refine (impl_InRange.calls a0_4 0 999 true _ A10.out).mono ?_); rintro e w' ⟨rfl, ⟨nd, rfl⟩⟩) | (go_at_call 92; (with_reducible refine (impl_InRange.calls a0_5 0 5 t120 _ A12.out).mono ?_); rintro e w' ⟨rfl, ⟨nd, rfl⟩⟩))
      go_ret
      exact ⟨eU, bS HB.out GE114.out⟩
     ·replace c11 := Bool.eq_false_iff.mpr c11
      subst c11
      have H1 : (some false) = some r := by rw [if_neg (show ¬ (false = true) by decide)] at H; exact H
      clear H
      have H := H1
      clear H1
      obtain rfl := Option.some.inj H
      go_enter Try.func73, Try.ntmps73
      go_wp2_with (first | ((with_reducible refine gate_dst (N := 1) rfl ?_); refine box_event ?hg (N := 1) ?hd (cs := #[.int .i64 a0_0, .int .i64 a0_1, .int .i64 a0_2, .int .i64 a0_3, .int .i64 a0_4, .int .i64 a0_5]) (t := 30) ?hr ?_; (case hd => rfl); (case hg => rfl); (case hr => first | (go_simp; done) | (go_simp; rfl)); intro gb114 hg w15 hbox hb; have n0_ := am (below_step (bU HB.out) hb); have n1_ := am (hbox); have n2_ := am ((by rw [hg]; exact (below_size (bU HB.out)) : w.heap.size ≤ gb114)); have n3_ := am ((by rw [hg]; exact (below_size (bU HB.out)) : w.heap.size ≤ gb114)); clear HB; have HB := n0_; have BK114 := n1_; have GW114 := n2_; have GE114 := n3_; clear n0_ n1_ n2_ n3_; clear hb hbox hg; obtain ⟨hcz16_0, hcz16_1, hcz16_2, hcz16_3, hcz16_4, hcz16_5⟩ := bc6 BK114.out; obtain ⟨hfz16_0, hfz16_1, hfz16_2, hfz16_3, hfz16_4, hfz16_5⟩ := bf6 BK114.out) | ((with_reducible refine gate_callee (f := 92) rfl ?_); refine goesL_ (some 5) rfl rfl Try.func92 (by kernel_rfl) rfl #[.int .i64 a0_0, .int .i64 1, .int .i64 4] rfl mU ?_; (with_reducible refine (impl_InRange.calls a0_0 1 4 true _ A2.out).mono ?_); rintro e w' ⟨rfl, ⟨nd, rfl⟩⟩; refine ⟨_, rfl, ?_⟩) | (go_at_call 92; (with_reducible refine (impl_InRange.calls a0_1 1 99 true _ A4.out).mono ?_); rintro e w' ⟨rfl, ⟨nd, rfl⟩⟩) | (go_at_call 92; (with_reducible refine (impl_InRange.calls a0_2 0 99 true _ A6.out).mono ?_); rintro e w' ⟨rfl, ⟨nd, rfl⟩⟩) | (go_at_call 92; (with_reducible refine (impl_InRange.calls a0_3 0 9 true _ A8.out).mono ?_); rintro e w' ⟨rfl, ⟨nd, rfl⟩⟩) | (go_at_call 92; (with_reducible refine (impl_InRange.calls a0_4 0 999 false _ A10.out).mono ?_); rintro e w' ⟨rfl, ⟨nd, rfl⟩⟩))
      go_ret
      exact ⟨eU, bS HB.out GE114.out⟩
    ·replace c9 := Bool.eq_false_iff.mpr c9
     subst c9
     have H1 : (some false) = some r := by rw [if_neg (show ¬ (false = true) by decide)] at H; exact H
     clear H
     have H := H1
     clear H1
     obtain rfl := Option.some.inj H
     go_enter Try.func73, Try.ntmps73
     go_wp2_with (first | ((with_reducible refine gate_dst (N := 1) rfl ?_); refine box_event ?hg (N := 1) ?hd (cs := #[.int .i64 a0_0, .int .i64 a0_1, .int .i64 a0_2, .int .i64 a0_3, .int .i64 a0_4, .int .i64 a0_5]) (t := 30) ?hr ?_; (case hd => rfl); (case hg => rfl); (case hr => first | (go_simp; done) | (go_simp; rfl)); intro gb114 hg w17 hbox hb; have n0_ := am (below_step (bU HB.out) hb); have n1_ := am (hbox); have n2_ := am ((by rw [hg]; exact (below_size (bU HB.out)) : w.heap.size ≤ gb114)); have n3_ := am ((by rw [hg]; exact (below_size (bU HB.out)) : w.heap.size ≤ gb114)); clear HB; have HB := n0_; have BK114 := n1_; have GW114 := n2_; have GE114 := n3_; clear n0_ n1_ n2_ n3_; clear hb hbox hg; obtain ⟨hcz18_0, hcz18_1, hcz18_2, hcz18_3, hcz18_4, hcz18_5⟩ := bc6 BK114.out; obtain ⟨hfz18_0, hfz18_1, hfz18_2, hfz18_3, hfz18_4, hfz18_5⟩ := bf6 BK114.out) | ((with_reducible refine gate_callee (f := 92) rfl ?_); refine goesL_ (some 5) rfl rfl Try.func92 (by kernel_rfl) rfl #[.int .i64 a0_0, .int .i64 1, .int .i64 4] rfl mU ?_; (with_reducible refine (impl_InRange.calls a0_0 1 4 true _ A2.out).mono ?_); rintro e w' ⟨rfl, ⟨nd, rfl⟩⟩; refine ⟨_, rfl, ?_⟩) | (go_at_call 92; (with_reducible refine (impl_InRange.calls a0_1 1 99 true _ A4.out).mono ?_); rintro e w' ⟨rfl, ⟨nd, rfl⟩⟩) | (go_at_call 92; (with_reducible refine (impl_InRange.calls a0_2 0 99 true _ A6.out).mono ?_); rintro e w' ⟨rfl, ⟨nd, rfl⟩⟩) | (go_at_call 92; (with_reducible refine (impl_InRange.calls a0_3 0 9 false _ A8.out).mono ?_); rintro e w' ⟨rfl, ⟨nd, rfl⟩⟩))
     go_ret
     exact ⟨eU, bS HB.out GE114.out⟩
   ·replace c7 := Bool.eq_false_iff.mpr c7
    subst c7
    have H1 : (some false) = some r := by rw [if_neg (show ¬ (false = true) by decide)] at H; exact H
    clear H
    have H := H1
    clear H1
    obtain rfl := Option.some.inj H
    go_enter Try.func73, Try.ntmps73
    go_wp2_with (first | ((with_reducible refine gate_dst (N := 1) rfl ?_); refine box_event ?hg (N := 1) ?hd (cs := #[.int .i64 a0_0, .int .i64 a0_1, .int .i64 a0_2, .int .i64 a0_3, .int .i64 a0_4, .int .i64 a0_5]) (t := 30) ?hr ?_; (case hd => rfl); (case hg => rfl); (case hr => first | (go_simp; done) | (go_simp; rfl)); intro gb114 hg w19 hbox hb; have n0_ := am (below_step (bU HB.out) hb); have n1_ := am (hbox); have n2_ := am ((by rw [hg]; exact (below_size (bU HB.out)) : w.heap.size ≤ gb114)); have n3_ := am ((by rw [hg]; exact (below_size (bU HB.out)) : w.heap.size ≤ gb114)); clear HB; have HB := n0_; have BK114 := n1_; have GW114 := n2_; have GE114 := n3_; clear n0_ n1_ n2_ n3_; clear hb hbox hg; obtain ⟨hcz20_0, hcz20_1, hcz20_2, hcz20_3, hcz20_4, hcz20_5⟩ := bc6 BK114.out; obtain ⟨hfz20_0, hfz20_1, hfz20_2, hfz20_3, hfz20_4, hfz20_5⟩ := bf6 BK114.out) | ((with_reducible refine gate_callee (f := 92) rfl ?_); refine goesL_ (some 5) rfl rfl Try.func92 (by kernel_rfl) rfl #[.int .i64 a0_0, .int .i64 1, .int .i64 4] rfl mU ?_; (with_reducible refine (impl_InRange.calls a0_0 1 4 true _ A2.out).mono ?_); rintro e w' ⟨rfl, ⟨nd, rfl⟩⟩; refine ⟨_, rfl, ?_⟩) | (go_at_call 92; (with_reducible refine (impl_InRange.calls a0_1 1 99 true _ A4.out).mono ?_); rintro e w' ⟨rfl, ⟨nd, rfl⟩⟩) | (go_at_call 92; (with_reducible refine (impl_InRange.calls a0_2 0 99 false _ A6.out).mono ?_); rintro e w' ⟨rfl, ⟨nd, rfl⟩⟩))
    go_ret
    exact ⟨eU, bS HB.out GE114.out⟩
  ·replace c5 := Bool.eq_false_iff.mpr c5
   subst c5
   have H1 : (some false) = some r := by rw [if_neg (show ¬ (false = true) by decide)] at H; exact H
   clear H
   have H := H1
   clear H1
   obtain rfl := Option.some.inj H
   go_enter Try.func73, Try.ntmps73
   go_wp2_with (first | ((with_reducible refine gate_dst (N := 1) rfl ?_); refine box_event ?hg (N := 1) ?hd (cs := #[.int .i64 a0_0, .int .i64 a0_1, .int .i64 a0_2, .int .i64 a0_3, .int .i64 a0_4, .int .i64 a0_5]) (t := 30) ?hr ?_; (case hd => rfl); (case hg => rfl); (case hr => first | (go_simp; done) | (go_simp; rfl)); intro gb114 hg w21 hbox hb; have n0_ := am (below_step (bU HB.out) hb); have n1_ := am (hbox); have n2_ := am ((by rw [hg]; exact (below_size (bU HB.out)) : w.heap.size ≤ gb114)); have n3_ := am ((by rw [hg]; exact (below_size (bU HB.out)) : w.heap.size ≤ gb114)); clear HB; have HB := n0_; have BK114 := n1_; have GW114 := n2_; have GE114 := n3_; clear n0_ n1_ n2_ n3_; clear hb hbox hg; obtain ⟨hcz22_0, hcz22_1, hcz22_2, hcz22_3, hcz22_4, hcz22_5⟩ := bc6 BK114.out; obtain ⟨hfz22_0, hfz22_1, hfz22_2, hfz22_3, hfz22_4, hfz22_5⟩ := bf6 BK114.out) | ((with_reducible refine gate_callee (f := 92) rfl ?_); refine goesL_ (some 5) rfl rfl Try.func92 (by kernel_rfl) rfl #[.int .i64 a0_0, .int .i64 1, .int .i64 4] rfl mU ?_; (with_reducible refine (impl_InRange.calls a0_0 1 4 true _ A2.out).mono ?_); rintro e w' ⟨rfl, ⟨nd, rfl⟩⟩; refine ⟨_, rfl, ?_⟩) | (go_at_call 92; (with_reducible refine (impl_InRange.calls a0_1 1 99 false _ A4.out).mono ?_); rintro e w' ⟨rfl, ⟨nd, rfl⟩⟩))
   go_ret
   exact ⟨eU, bS HB.out GE114.out⟩
 ·replace c3 := Bool.eq_false_iff.mpr c3
  subst c3
  have H1 : (some false) = some r := by rw [if_neg (show ¬ (false = true) by decide)] at H; exact H
  clear H
  have H := H1
  clear H1
  obtain rfl := Option.some.inj H
  go_enter Try.func73, Try.ntmps73
  go_wp2_with (first | ((with_reducible refine gate_dst (N := 1) rfl ?_); refine box_event ?hg (N := 1) ?hd (cs := #[.int .i64 a0_0, .int .i64 a0_1, .int .i64 a0_2, .int .i64 a0_3, .int .i64 a0_4, .int .i64 a0_5]) (t := 30) ?hr ?_; (case hd => rfl); (case hg => rfl); (case hr => first | (go_simp; done) | (go_simp; rfl)); intro gb114 hg w23 hbox hb; have n0_ := am (below_step (bU HB.out) hb); have n1_ := am (hbox); have n2_ := am ((by rw [hg]; exact (below_size (bU HB.out)) : w.heap.size ≤ gb114)); have n3_ := am ((by rw [hg]; exact (below_size (bU HB.out)) : w.heap.size ≤ gb114)); clear HB; have HB := n0_; have BK114 := n1_; have GW114 := n2_; have GE114 := n3_; clear n0_ n1_ n2_ n3_; clear hb hbox hg; obtain ⟨hcz24_0, hcz24_1, hcz24_2, hcz24_3, hcz24_4, hcz24_5⟩ := bc6 BK114.out; obtain ⟨hfz24_0, hfz24_1, hfz24_2, hfz24_3, hfz24_4, hfz24_5⟩ := bf6 BK114.out) | ((with_reducible refine gate_callee (f := 92) rfl ?_); refine goesL_ (some 5) rfl rfl Try.func92 (by kernel_rfl) rfl #[.int .i64 a0_0, .int .i64 1, .int .i64 4] rfl mU ?_; (with_reducible refine (impl_InRange.calls a0_0 1 4 false _ A2.out).mono ?_); rintro e w' ⟨rfl, ⟨nd, rfl⟩⟩; refine ⟨_, rfl, ?_⟩))
  go_ret
  exact ⟨eU, bS HB.out GE114.out⟩
def impl_Node_74.f (l0 : List (S59)) (a1 : Int) (l2 : List (S59)) : Option (List (S59)) := if 0 ≤ a1 ∧ a1 ≤ (l0.length : Int) ∧ 1 ≤ l0.length ∧ l0.length ≤ 1000000 ∧ l2.length = 1 then some (l0.take a1.toNat ++ (l2 ++ l0.drop a1.toNat)) else none
theorem impl_Node_74.copyRun (w : World) (dT sT ty elem : TypeId) (g off dLen dCap : Nat) (ad : Addr) (sLen sCap : Nat) (cur : List Value) (t : TypeId) (cs : List Value) (sz : Nat)
  (hu : Try.prog.underlying dT = some (.slice elem)) (hs : (Try.prog.info? elem).map (·.size) = some sz) (hg : w.heap[g]? = some (.cells cur.toArray t (0, 0))) (hn : cs.length = Nat.min sLen dLen * sz)
  (hsrc : ∀ j v, cs[j]? = some v → w.cell? (ad.add j) = some v) (hfit : off + cs.length ≤ cur.length) (h1 : ∀ v ∈ cs, v.oneCell' = true) :
  (Builtin.copy_ #[dT, sT] ty #[.slice (some ⟨g, off, none⟩) dLen dCap, .slice (some ad) sLen sCap]).run Try.prog w = .ok (goInt (Nat.min sLen dLen)) (w.setRow g (splice cur off cs).toArray) := by
 have hl := run_loadCells_list (P := Try.prog) w ad cs hsrc
 have hst := run_storeCells_at Try.prog g off t cs 0 cur.toArray w hg (by simpa using hfit) h1
 cases hq : Try.prog.info? elem with
 | none => simp [hq] at hs
 | some i =>
  have hi : i.size = sz := by simpa [hq] using hs
  simp [Builtin.copy_, run_underlying hu, Builtin.lenOf, Builtin.firstCells, sizeOf, typeInfo, hq, hi, ← hn, hl, hst, splice]
theorem impl_Node_74.copyStep {ops : Array Oper} {o : Oper} {a : Act} {w : World} {K : Act → World → Prop} {Q : Exit → Act → World → Prop} {E : Prop}
  (hg : o.guard = none) (d x : Operand) (dT sT : TypeId) (hop : o.op = Op.call { callee := Callee.builtin Builtin.copy, args := #[d, x], argTypes := #[dT, sT] })
  (v u : Value) (hd : a.eval d = v) (hx : a.eval x = u) {v' : Value} {w' : World} (hr : (Builtin.copy_ #[dT, sT] o.type #[v, u]).run Try.prog w = .ok v' w') (hK : K (a.put o.dst v') w') :
  if Region.wanted o (yielded ops a.tmps) = true then Oper.wp Try.prog o a w K Q else E := by
 have hw : Region.wanted o (yielded ops a.tmps) = true := by simp [Region.wanted, hg]
 rw [if_pos hw]
 unfold Oper.wp
 simp [execOp, hop, resolve, invoke, builtin, hd, hx, hr, Result.andThen]
 exact hK
theorem impl_Node_74.copyList (w : World) {ops : Array Oper} {rest : List Oper} {o : Oper} {a : Act} {Q : Exit → Act → World → Prop} (hgd : o.guard = none) (d s : Operand) (t t' : TypeId)
  (ho : o.op = .call { callee := .builtin .copy, args := #[d, s], argTypes := #[t, t'] }) (v u : Value) (hd : a.eval d = v) (hs : a.eval s = u) {v' : Value} {w' : World}
  (hr : (Builtin.copy_ #[t, t'] o.type #[v, u]).run Try.prog w = .ok v' w') (h : wpList Try.prog ops Q rest (a.put o.dst v') w') : wpList Try.prog ops Q (o :: rest) a w :=
 wpList_plain hgd fun K hK => by
  unfold Oper.wp
  simp [execOp, ho, resolve, invoke, builtin, hd, hs, hr, Result.andThen]
  exact hK _ _ h
theorem impl_Node_74.setRow_grown (w : World) (g : Nat) (cs : Array Value) : w.grownBy (w.setRow g cs) (some g) :=
 ⟨rfl, rfl, rfl, by simp, fun k _ hne => setRow_other w g k cs (fun e => hne (by rw [e]))⟩
theorem impl_Node_74.splice2 {cur inner news : List Value} {n i : Nat} (hin : cur.take (n * 5) = inner) (hi : i ≤ n) (hnl : news.length = 5) (hlen : (n + 1) * 5 ≤ cur.length) :
  (splice (splice cur ((i + 1) * 5) (inner.drop (i * 5))) (i * 5) news).take ((n + 1) * 5) = inner.take (i * 5) ++ (news ++ inner.drop (i * 5)) := by
 have hil : inner.length = n * 5 := by rw [← hin, List.length_take]; omega
 have hd : (inner.drop (i * 5)).length = (n - i) * 5 := by rw [List.length_drop, hil]; omega
 have e1 : cur.take (i * 5) = inner.take (i * 5) := by rw [← hin, List.take_take, Nat.min_eq_left (by omega)]
 unfold splice
 apply List.ext_getElem?
 intro j
 by_cases hj : j < (n + 1) * 5
 ·rw [List.getElem?_take_of_lt hj]
  by_cases h1 : j < i * 5
  ·rw [List.getElem?_append_left (by simp; omega), List.getElem?_take_of_lt h1, List.getElem?_append_left (by simp; omega), List.getElem?_take_of_lt (by omega), List.getElem?_append_left (by simp; omega), List.getElem?_take_of_lt h1]
   have : (cur.take (i * 5))[j]? = (inner.take (i * 5))[j]? := by rw [e1]
   rw [List.getElem?_take_of_lt h1, List.getElem?_take_of_lt h1] at this
   exact this
  ·by_cases h2 : j < i * 5 + 5
   ·rw [List.getElem?_append_right (by simp; omega), List.getElem?_append_left (by simp; omega), List.getElem?_append_right (by simp; omega), List.getElem?_append_left (by simp; omega)]
    congr 1
    simp
    omega
   ·rw [List.getElem?_append_right (by simp; omega), List.getElem?_append_right (by simp; omega), List.getElem?_drop, List.getElem?_append_right (by simp; omega), List.getElem?_append_left (by simp; omega), List.getElem?_append_right (by simp; omega), List.getElem?_append_right (by simp; omega)]
    congr 1
    simp
    omega
 ·rw [List.getElem?_eq_none (by simp; omega), List.getElem?_eq_none (by simp; omega)]
set_option maxHeartbeats 4000000 in
set_option maxRecDepth 100000 in
theorem impl_Node_74.atEnd (g c n vb vc : Nat) (cur inner news : List Value) (w0 w : World) (hB : Below w0.heap.size w0 w) (hgb : w0.heap.size ≤ g) (hh : w.heap[g]? = some (.cells cur.toArray 59 (0, 0))) (hcs : cur.length = c * 5) (hin : cur.take (n * 5) = inner)
  (hnc : n ≤ c) (hc : c ≤ maxLen) (hn0 : 1 ≤ n) (hn : n ≤ 1000000) (hv : ∀ j u, news[j]? = some u → w.cell? ⟨vb, j, none⟩ = some u) (hnl : news.length = 5) (h2 : ∀ u ∈ news, u.oneCell' = true) :
  Calls Try.prog 74 #[.slice (some ⟨g, 0, none⟩) n c, .int .i64 n, .slice (some ⟨vb, 0, none⟩) 1 vc] w fun e w' => ∃ v' : Value, e = .returned v' ∧ w'.ownsRow w0.heap.size 59 5 v' (n + 1) (inner ++ news) ∧ Below w0.heap.size w0 w' := by
 have hmx : maxLen = 9223372036854775807 := by decide
 obtain ⟨i0, hi, hzz⟩ := Option.map_eq_some_iff.1 info59
 simp only [Prod.mk.injEq] at hzz
 obtain ⟨hz0, hz1, hz2⟩ := hzz
 have hown : w.ownsRow w0.heap.size 59 5 (.slice (some ⟨g, 0, none⟩) n c) n inner :=
  ⟨by rw [← hin, List.length_take]; omega, .inr ⟨g, c, cur.toArray, rfl, hgb, hh, hnc, hc, by simpa using hcs, by simpa using hin⟩⟩
 have HOW := am hown
 have HBB := am hB
 have HV := am hv
 have hsz := hB.size
 clear hown hB hh hv hin hcs
 have hsl : Aside0 (∀ j u, news[j]? = some u → w.cell? ((⟨vb, 0, none⟩ : Addr).add j) = some u) := ⟨fun j u hj => by rw [Addr.add_lit, Nat.zero_add]; exact HV.out j u hj⟩
 by_cases hcn : c = n
 all_goals
  go_enter Try.func74, Try.ntmps74
  go_wp2_with (at_builtin; refine wpList_append_own _ rfl _ _ 26 rfl w0.heap.size 59 i0 _ 5 40 Try.underlying26 hi hz0 hz1 hz2 rfl (by decide) _ _ _ rfl HOW.out ⟨vb, 0, none⟩ 1 vc news rfl ?qc1 ?qc2 ?qc3 ?qc4 ?qc5 ?qc6 ?_)
  case qc1 => exact hnl
  case qc2 => exact hsl.out
  case qc3 => exact h2
  case qc4 => omega
  case qc5 => omega
  case qc6 => exact hsz
  intro v' w1 hown' hgrow hnil
  go_wp2
  go_ret
  exact ⟨v', rfl, hown', HBB.out.grown hgrow hsz (by intro k hk; simp [Value.ownBlock] at hk; omega)⟩
set_option maxHeartbeats 4000000 in
set_option maxRecDepth 100000 in
theorem impl_Node_74.room (g c n i vb vc : Nat) (cur inner news : List Value) (vcur : Array Value) (w0 w : World) (hB : Below w0.heap.size w0 w) (hgb : w0.heap.size ≤ g) (hh : w.heap[g]? = some (.cells cur.toArray 59 (0, 0))) (hcs : cur.length = c * 5) (hin : cur.take (n * 5) = inner)
  (hnc : n + 1 ≤ c) (hc : c ≤ maxLen) (hi : i < n) (hn : n ≤ 1000000) (hvb : vb ≠ g) (hvh : w.heap[vb]? = some (.cells vcur 59 (0, 0))) (hv : ∀ j u, news[j]? = some u → w.cell? ⟨vb, j, none⟩ = some u) (hnl : news.length = 5) (h1 : ∀ u ∈ inner, u.oneCell' = true) (h2 : ∀ u ∈ news, u.oneCell' = true) :
  Calls Try.prog 74 #[.slice (some ⟨g, 0, none⟩) n c, .int .i64 i, .slice (some ⟨vb, 0, none⟩) 1 vc] w fun e w' => ∃ v' : Value, e = .returned v' ∧ w'.ownsRow w0.heap.size 59 5 v' (n + 1) (inner.take (i * 5) ++ (news ++ inner.drop (i * 5))) ∧ Below w0.heap.size w0 w' := by
 have hmx : maxLen = 9223372036854775807 := by decide
 rw [hmx] at hc
 obtain ⟨i0, hi0, hzz⟩ := Option.map_eq_some_iff.1 info59
 simp only [Prod.mk.injEq] at hzz
 obtain ⟨hz0, hz1, hz2⟩ := hzz
 have hs5 : (Try.prog.info? 59).map (·.size) = some 5 := by rw [hi0]; simp [hz1]
 have hz5 : ∀ w, (Go.sizeOf 59).run Try.prog w = .ok 5 w := fun w => by simp [Go.sizeOf, typeInfo, hi0, hz1]
 have hil : inner.length = n * 5 := by rw [← hin, List.length_take]; omega
 have hsa : w.shape? vb = some (59, vcur.size) := by simp [World.shape?, hvh]
 have hsb : w.shape? g = some (59, c * 5) := by simp [World.shape?, hh, hcs]
 have hfa : w.frozen? ⟨vb, 0, none⟩ = false := by simp [World.frozen?, hvh]
 have hfe : w.frozen? ⟨vb, vcur.size, none⟩ = false := by simp [World.frozen?, hvh]
 have hov : ∀ lb cb, (callFunc 104 #[.slice (some ⟨vb, 0, none⟩) 1 vc, .slice (some ⟨g, (i + 1) * 5, none⟩) lb cb]).run Try.prog w = .ok (.value (.bool false)) w := fun lb cb => by
  rw [run_callFunc_extern Try.func104 (by kernel_rfl) (by kernel_rfl) (by kernel_rfl) (e := Extern.SlicesOverlaps.overlaps #[26, 26] #[4]) (by kernel_rfl),
   Lib.run_overlaps_apart w 26 4 59 Try.underlying26 5 hz5 ⟨vb, 0, none⟩ ⟨g, (i + 1) * 5, none⟩ 1 vc lb cb hvb 59 59 vcur.size (c * 5) hsa hsb (by omega) hfa hfe]
  rfl
 have hdl : (inner.drop (i * 5)).length = (n - i) * 5 := by rw [List.length_drop, hil]; omega
 have hmin : Nat.min (n + 1 - i) (n - i) = n - i := by simp only [Nat.min_def]; split <;> omega
 have hcell : ∀ j u, inner[j]? = some u → w.cell? ⟨g, j, none⟩ = some u := fun j u hj => by
  have hjl : j < n * 5 := by rw [← hil]; exact (List.getElem?_eq_some_iff.1 hj).1
  rw [← hin, List.getElem?_take_of_lt hjl] at hj
  simp only [World.cell?, hh]
  simpa using hj
 have hcp1 : ∀ ty dc sc, (Builtin.copy_ #[26, 26] ty #[.slice (some ⟨g, (i + 1) * 5, none⟩) (n - i) dc, .slice (some ⟨g, i * 5, none⟩) (n + 1 - i) sc]).run Try.prog w.drew = .ok (goInt ((n - i : Nat) : Int)) (w.drew.setRow g (splice cur ((i + 1) * 5) (inner.drop (i * 5))).toArray) := fun ty dc sc => by
  have := impl_Node_74.copyRun w.drew 26 26 ty 59 g ((i + 1) * 5) (n - i) dc ⟨g, i * 5, none⟩ (n + 1 - i) sc cur 59 (inner.drop (i * 5)) 5 Try.underlying26 hs5 hh (by rw [hdl, hmin])
   (fun j v hj => by rw [Addr.add_lit]; rw [List.getElem?_drop] at hj; exact hcell _ v hj) (by rw [hdl, hcs]; omega) (fun v hv => h1 v (List.mem_of_mem_drop hv))
  rw [hmin] at this
  exact this
 obtain ⟨W1, hW1⟩ : ∃ W1, W1 = w.drew.setRow g (splice cur ((i + 1) * 5) (inner.drop (i * 5))).toArray := ⟨_, rfl⟩
 have hh1 : W1.heap[g]? = some (.cells (splice cur ((i + 1) * 5) (inner.drop (i * 5))).toArray 59 (0, 0)) := by rw [hW1]; exact setRow_heap w.drew g _ _ _ _ hh
 have hl1 : (splice cur ((i + 1) * 5) (inner.drop (i * 5))).length = c * 5 := by rw [length_splice _ _ _ (by rw [hdl, hcs]; omega), hcs]
 have hv1 : ∀ j u, news[j]? = some u → W1.cell? ⟨vb, j, none⟩ = some u := fun j u hj => by
  rw [hW1, cell_setRow_other _ _ _ _ hvb]
  exact hv j u hj
 have hmin2 : Nat.min 1 (n + 1 - i) = 1 := by simp only [Nat.min_def]; split <;> omega
 have hcp2 : ∀ ty dc, (Builtin.copy_ #[26, 26] ty #[.slice (some ⟨g, i * 5, none⟩) (n + 1 - i) dc, .slice (some ⟨vb, 0, none⟩) 1 vc]).run Try.prog W1 = .ok (goInt 1) (W1.setRow g (splice (splice cur ((i + 1) * 5) (inner.drop (i * 5))) (i * 5) news).toArray) := fun ty dc => by
  have := impl_Node_74.copyRun W1 26 26 ty 59 g (i * 5) (n + 1 - i) dc ⟨vb, 0, none⟩ 1 vc _ 59 news 5 Try.underlying26 hs5 hh1 (by rw [hnl, hmin2])
   (fun j v hj => by rw [Addr.add_lit, Nat.zero_add]; exact hv1 j v hj) (by rw [hnl, hl1]; omega) h2
  rw [hmin2] at this
  exact this
 obtain ⟨W2, hW2⟩ : ∃ W2, W2 = W1.setRow g (splice (splice cur ((i + 1) * 5) (inner.drop (i * 5))) (i * 5) news).toArray := ⟨_, rfl⟩
 have hfin : W2.ownsRow w0.heap.size 59 5 (.slice (some ⟨g, 0, none⟩) (n + 1) c) (n + 1) (inner.take (i * 5) ++ (news ++ inner.drop (i * 5))) := by
  refine ⟨by simp [hnl, hil]; omega, .inr ⟨g, c, _, rfl, hgb, by rw [hW2]; exact setRow_heap W1 g _ _ _ _ hh1, hnc, by rw [hmx]; exact hc, ?_, ?_⟩⟩
  ·rw [List.size_toArray, length_splice _ _ _ (by rw [hnl, hl1]; omega), hl1]
  ·exact impl_Node_74.splice2 hin (by omega) hnl (by rw [hcs]; omega)
 have hbl : Below w0.heap.size w0 W2 := by
  rw [hW2]
  refine below_setRow ?_ hgb _
  rw [hW1]
  exact below_setRow (below_drew hB) hgb _
 have F := am hfin
 have BL := am hbl
 rw [← hW2] at hcp2
 rw [← hW1] at hcp1
 have hb1 : (0 : Int) ≤ (i : Int) + 1 := by omega
 have hw1 : IntKind.i64.wrap ((i : Int) + 1) = (i : Int) + 1 := by rw [IntKind.wrap_i64]; omega
 have htn : ((i : Int) + 1).toNat = i + 1 := by omega
 have hz2 : ¬ ((i : Int) = (n : Int)) := by omega
 have hb2 : ¬ (c = i + 1) := by omega
 have hb3 : (i : Int) ≤ (n : Int) + 1 := by omega
 have hb4 : ¬ (c = i) := by omega
 have hin' : i ≤ n := by omega
 clear hfin hbl hW1 hW2 hh1 hl1 hv1 hmin hmin2 hdl hcell hin hcs hil hh hvh hv hsa hsb hfa hfe hB hz5 hs5 hi0 hz0 hz1 hz2 h1 h2
 go_enter Try.func74, Try.ntmps74
 go_wp2_with (simp only [hov])
 go_region_law (refine impl_Node_74.copyStep rfl _ _ 26 26 rfl _ _ (by simp [Act.eval, Act.put]) (by simp [Act.eval, Act.put]) (hcp1 _ _ _) ?_)
 go_wp2_with (at_builtin; refine impl_Node_74.copyList _ rfl _ _ 26 26 rfl _ _ rfl rfl (hcp2 _ _) ?_)
 go_ret
 exact ⟨_, rfl, F.out, BL.out⟩
theorem impl_Node_74.spliceN {pre z1 z2 inner news : List Value} {n i : Nat} (hpre : pre = inner.take (i * 5)) (hil : inner.length = n * 5) (hi : i ≤ n) (hnl : news.length = 5) (hz : z1.length = (n + 1 - i) * 5) :
  (splice (splice (pre ++ z1 ++ z2) (i * 5) news) ((i + 1) * 5) (inner.drop (i * 5))).take ((n + 1) * 5) = inner.take (i * 5) ++ (news ++ inner.drop (i * 5)) := by
 have hpl : pre.length = i * 5 := by rw [hpre, List.length_take]; omega
 have hd : (inner.drop (i * 5)).length = (n - i) * 5 := by rw [List.length_drop, hil]; omega
 rw [← hpre]
 unfold splice
 apply List.ext_getElem?
 intro j
 by_cases hj : j < (n + 1) * 5
 ·rw [List.getElem?_take_of_lt hj]
  by_cases h1 : j < i * 5
  ·rw [List.getElem?_append_left (by first | omega | (simp; omega)), List.getElem?_take_of_lt (by omega), List.getElem?_append_left (by first | omega | (simp; omega)), List.getElem?_take_of_lt h1, List.getElem?_append_left (by first | omega | (simp; omega)), List.getElem?_append_left (by first | omega | (simp; omega)), List.getElem?_append_left (by first | omega | (simp; omega))]
  ·by_cases h2 : j < i * 5 + 5
   ·rw [List.getElem?_append_left (by first | omega | (simp; omega)), List.getElem?_take_of_lt (by omega), List.getElem?_append_right (by first | omega | (simp; omega)), List.getElem?_append_left (by first | omega | (simp; omega)), List.getElem?_append_right (by first | omega | (simp; omega)), List.getElem?_append_left (by first | omega | (simp; omega))]
    congr 1
    simp
    omega
   ·rw [List.getElem?_append_right (by first | omega | (simp; omega)), List.getElem?_append_left (by first | omega | (simp; omega)), List.getElem?_append_right (by first | omega | (simp; omega)), List.getElem?_append_right (by first | omega | (simp; omega))]
    congr 1
    simp
    omega
 ·rw [List.getElem?_eq_none (by first | omega | (simp; omega)), List.getElem?_eq_none (by first | omega | (simp; omega))]
set_option maxHeartbeats 4000000 in
set_option maxRecDepth 100000 in
theorem impl_Node_74.grow (g c n i vb vc : Nat) (cur inner news : List Value) (w0 w : World) (hB : Below w0.heap.size w0 w) (hh : w.heap[g]? = some (.cells cur.toArray 59 (0, 0))) (hcs : cur.length = c * 5) (hin : cur.take (n * 5) = inner)
  (hnc : n ≤ c) (hroom : c < n + 1) (hi : i < n) (hn : n ≤ 1000000) (hvw : vb < w.heap.size) (hv : ∀ j u, news[j]? = some u → w.cell? ⟨vb, j, none⟩ = some u) (hnl : news.length = 5) (h1 : ∀ u ∈ inner, u.oneCell' = true) (h2 : ∀ u ∈ news, u.oneCell' = true) :
  Calls Try.prog 74 #[.slice (some ⟨g, 0, none⟩) n c, .int .i64 i, .slice (some ⟨vb, 0, none⟩) 1 vc] w fun e w' => ∃ v' : Value, e = .returned v' ∧ w'.ownsRow w0.heap.size 59 5 v' (n + 1) (inner.take (i * 5) ++ (news ++ inner.drop (i * 5))) ∧ Below w0.heap.size w0 w' := by
 have hmx : maxLen = 9223372036854775807 := by decide
 obtain ⟨i0, hi0, hzz⟩ := Option.map_eq_some_iff.1 info59
 simp only [Prod.mk.injEq] at hzz
 obtain ⟨hz0, hz1, hz2⟩ := hzz
 have hs5 : (Try.prog.info? 59).map (·.size) = some 5 := by rw [hi0]; simp [hz1]
 have hil : inner.length = n * 5 := by rw [← hin, List.length_take]; omega
 have hdl : (inner.drop (i * 5)).length = (n - i) * 5 := by rw [List.length_drop, hil]; omega
 have hgw : g < w.heap.size := (Array.getElem?_eq_some_iff.1 hh).1
 have hcell : ∀ j u, inner[j]? = some u → w.cell? ⟨g, j, none⟩ = some u := fun j u hj => by
  have hjl : j < n * 5 := by rw [← hil]; exact (List.getElem?_eq_some_iff.1 hj).1
  rw [← hin, List.getElem?_take_of_lt hjl] at hj
  simp only [World.cell?, hh]
  simpa using hj
 have hkk : (n : Int) + 1 - (i : Int) = ((n + 1 - i : Nat) : Int) := by omega
 have hik : i + (n + 1 - i) = n + 1 := by omega
 have hold : (Builtin.firstCells i0.size i (.slice (some ⟨g, 0, none⟩) i c)).run Try.prog w.drew = .ok (inner.take (i * 5)).toArray w.drew := by
  rw [hz1]
  exact run_firstCells_some w.drew 5 i ⟨g, 0, none⟩ i c (inner.take (i * 5)) (by rw [List.length_take]; omega) (fun j v hj => by
   rw [Addr.add_lit, Nat.zero_add]
   rw [List.getElem?_take] at hj
   split at hj
   ·exact hcell j v hj
   ·cases hj)
 obtain ⟨z, hz⟩ : ∃ z : Value, z = .agg #[.int .i64 0, .int .i64 0, .int .i64 0, .int .i64 0, .int .i64 0] := ⟨_, rfl⟩
 have hzc : z.cells.size = 5 := by rw [hz]; rfl
 rw [← hz] at hz0
 have hrz : ∀ ty, (Builtin.append_ #[26, 3] ty #[.slice (some ⟨g, 0, none⟩) i c, .int .i64 ((n : Int) + 1 - (i : Int))]).run Try.prog w =
   .ok (.slice (some ⟨w.heap.size, 0, none⟩) (n + 1) (grownCap w (n + 1) c 59)) (w.drew.alloc (.cells ((inner.take (i * 5)).toArray ++ Builtin.zeroCells z.cells (n + 1 - i) ++ Builtin.zeroCells z.cells (grownCap w (n + 1) c 59 - (n + 1))) 59)) := fun ty => by
  have h := Lib.run_append_grow_zeros w 26 3 ty 59 i0 _ .i64 .i64 Try.underlying26 Try.underlying3 hi0 hz0 (some ⟨g, 0, none⟩) i c (inner.take (i * 5)) hold (n + 1 - i) (by omega) (by omega) (by omega) (by omega) (by rw [hz2]; omega) (by rw [hz2, hik]; exact growslice_fits hroom (by omega))
  rw [hik] at h
  rw [hkk]
  exact h
 obtain ⟨G, hG⟩ : ∃ G, G = grownCap w (n + 1) c 59 := ⟨_, rfl⟩
 have hGn : n + 1 ≤ G := by rw [hG]; exact grownCap_ge w _ _ _
 have hGm : G ≤ maxLen := by rw [hG]; exact grownCap_le_maxLen w (n + 1) c 59 (by unfold maxLen; omega)
 rw [← hG] at hrz
 obtain ⟨z1, hz1'⟩ : ∃ z1, z1 = (Builtin.zeroCells z.cells (n + 1 - i)).toList := ⟨_, rfl⟩
 obtain ⟨z2, hz2'⟩ : ∃ z2, z2 = (Builtin.zeroCells z.cells (G - (n + 1))).toList := ⟨_, rfl⟩
 have hz1l : z1.length = (n + 1 - i) * 5 := by rw [hz1']; simp [Builtin.zeroCells, hzc]
 have hz2l : z2.length = (G - (n + 1)) * 5 := by rw [hz2']; simp [Builtin.zeroCells, hzc]
 obtain ⟨ROW, hROW⟩ : ∃ ROW : List Value, ROW = inner.take (i * 5) ++ z1 ++ z2 := ⟨_, rfl⟩
 have hRA : (inner.take (i * 5)).toArray ++ Builtin.zeroCells z.cells (n + 1 - i) ++ Builtin.zeroCells z.cells (G - (n + 1)) = ROW.toArray := by
  apply Array.toList_inj.1
  rw [hROW, hz1', hz2']
  simp
 rw [hRA] at hrz
 have hRl : ROW.length = G * 5 := by rw [hROW]; simp [hz1l, hz2l, hil]; omega
 obtain ⟨N, hN⟩ : ∃ N, N = w.heap.size := ⟨_, rfl⟩
 have hNg : N ≠ g := by omega
 have hNv : vb ≠ N := by omega
 rw [← hN] at hrz
 have hhN : (w.drew.alloc (.cells ROW.toArray 59)).heap[N]? = some (.cells ROW.toArray 59 (0, 0)) := by rw [hN]; exact heap_alloc_new w.drew _
 have hOld : ∀ a u, a.block ≠ N → w.cell? a = some u → (w.drew.alloc (.cells ROW.toArray 59)).cell? a = some u := fun a u _ h => Lib.cell?_alloc_some (W := w.drew) _ h
 have hmin2 : Nat.min 1 (n + 1 - i) = 1 := by simp only [Nat.min_def]; split <;> omega
 have hcpA : ∀ (W : World), W.heap = (w.drew.alloc (.cells ROW.toArray 59)).heap → ∀ ty dc, (Builtin.copy_ #[26, 26] ty #[.slice (some ⟨N, i * 5, none⟩) (n + 1 - i) dc, .slice (some ⟨vb, 0, none⟩) 1 vc]).run Try.prog W = .ok (goInt 1) (W.setRow N (splice ROW (i * 5) news).toArray) := fun W hW ty dc => by
  have := impl_Node_74.copyRun W 26 26 ty 59 N (i * 5) (n + 1 - i) dc ⟨vb, 0, none⟩ 1 vc ROW 59 news 5 Try.underlying26 hs5 (by rw [hW]; exact hhN) (by rw [hnl, hmin2])
   (fun j v hj => by
    rw [Addr.add_lit, Nat.zero_add]
    have := hOld ⟨vb, j, none⟩ v hNv (hv j v hj)
    simp only [World.cell?, hW] at this ⊢
    exact this) (by rw [hnl, hRl]; omega) h2
  rw [hmin2] at this
  exact this
 have hl1 : (splice ROW (i * 5) news).length = G * 5 := by rw [length_splice _ _ _ (by rw [hnl, hRl]; omega), hRl]
 have hmin : Nat.min (n - i) (n - i) = n - i := Nat.min_self _
 have hcpB : ∀ (W : World), W.heap = ((w.drew.alloc (.cells ROW.toArray 59)).setRow N (splice ROW (i * 5) news).toArray).heap → ∀ ty dc sc, (Builtin.copy_ #[26, 26] ty #[.slice (some ⟨N, (i + 1) * 5, none⟩) (n - i) dc, .slice (some ⟨g, i * 5, none⟩) (n - i) sc]).run Try.prog W = .ok (goInt ((n - i : Nat) : Int)) (W.setRow N (splice (splice ROW (i * 5) news) ((i + 1) * 5) (inner.drop (i * 5))).toArray) := fun W hW ty dc sc => by
  have := impl_Node_74.copyRun W 26 26 ty 59 N ((i + 1) * 5) (n - i) dc ⟨g, i * 5, none⟩ (n - i) sc _ 59 (inner.drop (i * 5)) 5 Try.underlying26 hs5 (by rw [hW]; exact setRow_heap _ N _ _ _ _ hhN) (by rw [hdl, hmin])
   (fun j v hj => by
    rw [Addr.add_lit]
    rw [List.getElem?_drop] at hj
    have h3 := hOld ⟨g, i * 5 + j, none⟩ v (Ne.symm hNg) (hcell _ v hj)
    have h4 := (cell_setRow_other (w.drew.alloc (.cells ROW.toArray 59)) N (splice ROW (i * 5) news).toArray ⟨g, i * 5 + j, none⟩ (Ne.symm hNg)).trans h3
    simp only [World.cell?, hW] at h4 ⊢
    exact h4) (by rw [hdl, hl1]; omega) (fun v hv => h1 v (List.mem_of_mem_drop hv))
  rw [hmin] at this
  exact this
 have hfin : ∀ W : World, W.heap = (((w.drew.alloc (.cells ROW.toArray 59)).setRow N (splice ROW (i * 5) news).toArray).setRow N (splice (splice ROW (i * 5) news) ((i + 1) * 5) (inner.drop (i * 5))).toArray).heap →
   W.ownsRow w0.heap.size 59 5 (.slice (some ⟨N, 0, none⟩) (n + 1) G) (n + 1) (inner.take (i * 5) ++ (news ++ inner.drop (i * 5))) := fun W hW => by
  refine ⟨by simp [hnl, hil]; omega, .inr ⟨N, G, _, rfl, by rw [hN]; exact hB.size, by rw [hW]; exact setRow_heap _ N _ _ _ _ (setRow_heap _ N _ _ _ _ hhN), hGn, hGm, ?_, ?_⟩⟩
  ·rw [List.size_toArray, length_splice _ _ _ (by rw [hdl, hl1]; omega), hl1]
  ·have := impl_Node_74.spliceN (pre := inner.take (i * 5)) (z1 := z1) (z2 := z2) (n := n) (i := i) rfl hil (by omega) hnl hz1l
   rw [← hROW] at this
   exact this
 have F := am hfin
 have HBB := am hB
 have hE1 : ((w.alloc (.cells ROW.toArray 59)).drew).heap = (w.drew.alloc (.cells ROW.toArray 59)).heap := rfl
 have hE2 : (((w.alloc (.cells ROW.toArray 59)).drew.setRow N (splice ROW (i * 5) news).toArray).drew).heap = ((w.drew.alloc (.cells ROW.toArray 59)).setRow N (splice ROW (i * 5) news).toArray).heap := rfl
 have hBN := hB.size
 rw [hmx] at hGm
 have hb1 : (0 : Int) ≤ (i : Int) + 1 := by omega
 have hw1 : IntKind.i64.wrap ((i : Int) + 1) = (i : Int) + 1 := by rw [IntKind.wrap_i64]; omega
 have htn : ((i : Int) + 1).toNat = i + 1 := by omega
 have hz2 : ¬ ((i : Int) = (n : Int)) := by omega
 have hz3 : (c : Int) < (n : Int) + 1 := by omega
 have hb3 : (i : Int) ≤ (n : Int) := by omega
 have hb4 : ¬ (c = i) := by omega
 have hb5 : ¬ (G = i) := by omega
 have hb6 : ¬ (G = i + 1) := by omega
 have hin' : i ≤ n := by omega
 have hcN : c ≤ 1000000 := by omega
 rw [← hN] at hBN
 have HN := am hN
 clear hfin hl1 hmin hmin2 hdl hcell hin hcs hil hh hv hB hs5 hi0 hz0 hz1 hz2 h1 h2 hkk hik hold hz hzc hG hz1' hz2' hz1l hz2l hROW hRA hRl hhN hOld hN hgw hvw
 go_enter Try.func74, Try.ntmps74
 go_wp2_with (first
  | (at_builtin; refine Lib.wpList_append_run _ rfl _ _ _ _ rfl _ _ rfl rfl _ _ (hrz _) ?_)
  | (at_builtin; refine impl_Node_74.copyList _ rfl _ _ 26 26 rfl _ _ rfl rfl (hcpA _ hE1 _ _) ?_))
 go_region_law (refine impl_Node_74.copyStep rfl _ _ 26 26 rfl (.slice (some ⟨N, (i + 1) * 5, none⟩) (n - i) (G - (i + 1))) (.slice (some ⟨g, i * 5, none⟩) (n - i) (c - i)) (by simp [Act.eval, Act.put]) (by simp [Act.eval, Act.put]) (hcpB _ hE2 3 (G - (i + 1)) (c - i)) ?_)
 go_wp2
 go_ret
 exact ⟨_, rfl, F.out _ rfl, below_setRow (below_drew (below_setRow (below_drew (below_alloc HBB.out _)) hBN _)) hBN _⟩
theorem impl_Node_74.repsTake {α : Type} {R : α → List Value → Prop} {ps : List α} {cs : List Value} (h : Reps R 5 ps cs) (i : Nat) (hi : i ≤ ps.length) : Reps R 5 (ps.take i) (cs.take (i * 5)) := by
 refine ⟨by rw [List.length_take, List.length_take, h.1]; omega, fun j p hj => ?_⟩
 have hji : j < i := by
  have := (List.getElem?_eq_some_iff.1 hj).1
  rw [List.length_take] at this
  omega
 rw [List.getElem?_take_of_lt hji] at hj
 have := h.2 j p hj
 rw [List.drop_take, List.take_take, Nat.min_eq_left (by omega)]
 exact this
theorem impl_Node_74.repsDrop {α : Type} {R : α → List Value → Prop} {ps : List α} {cs : List Value} (h : Reps R 5 ps cs) (i : Nat) (hi : i ≤ ps.length) : Reps R 5 (ps.drop i) (cs.drop (i * 5)) := by
 refine ⟨by rw [List.length_drop, List.length_drop, h.1]; omega, fun j p hj => ?_⟩
 rw [List.getElem?_drop] at hj
 have := h.2 (i + j) p hj
 rw [List.drop_drop, show i * 5 + j * 5 = (i + j) * 5 by omega]
 exact this
theorem impl_Node_74.repsM {w W : World} {B B' : Nat} {okb ok' : Nat → Prop} {l : List S59} {cs : List Value} (h : Reps (k59.M w B okb) 5 l cs) : Reps (k59.M W B' ok') 5 l cs :=
 h.imp_ (fun p c hp => by rw [k59_openM hp]; exact k59_mkM W B' ok' p)
theorem impl_Node_74.repsOne {w : World} {B : Nat} {okb : Nat → Prop} {l : List S59} {cs : List Value} (h : Reps (k59.M w B okb) 5 l cs) : ∀ u ∈ cs, u.oneCell' = true := by
 intro u hu
 obtain ⟨q, hq, rfl⟩ := List.mem_iff_getElem.1 hu
 have hl := h.1
 have hql : q / 5 < l.length := by omega
 have hc := h.2 (q / 5) _ (List.getElem?_eq_getElem hql)
 refine k59.K_one (k59.K_of_M hc) _ ?_
 rw [List.mem_iff_getElem?]
 refine ⟨q % 5, ?_⟩
 rw [List.getElem?_take, if_pos (Nat.mod_lt _ (by decide)), List.getElem?_drop, show q / 5 * 5 + q % 5 = q by omega, List.getElem?_eq_getElem hq]
theorem impl_Node_74.apart {α β : Type} {d : Kd α} {d' : Kd β} {e e' b : Nat} {ok ok' : Nat → Prop} {W W1 : World} {u v : Value} {xs : List α} {ys : List β} (h : Kd.R d e W b ok u xs) (h2 : Kd.R d' e' W1 W.heap.size ok' v ys) :
  ∀ k, u.ownBlock = some k → v.ownBlock = some k → False := fun k a c => by
 have h3 := Kd.R_lt h k a
 have h4 := Kd.R_base h2 k c
 omega
theorem impl_Node_74.own {u v : Value} {ok1 ok2 : Nat → Prop} (l0 : List (S59)) (a1 : Int) (l2 : List (S59)) (r : List (S59)) (w0 w : World) (ho : Kd.R k59 59 w w0.heap.size ok1 u l0) (hv : Kd.R k59 59 w w0.heap.size ok2 v l2)
  (hne : ∀ k, u.ownBlock = some k → v.ownBlock = some k → False) (hB : Below w0.heap.size w0 w) (h : impl_Node_74.f l0 a1 l2 = some r) :
  Calls Try.prog 74 #[u, .int .i64 a1, v] w fun e w' => ∃ v0_ : Value, e = .returned (v0_) ∧ Kd.R k59 59 w' w0.heap.size (fun _ => True) v0_ r ∧ Below w0.heap.size w0 w' := by
 have hcond : 0 ≤ a1 ∧ a1 ≤ (l0.length : Int) ∧ 1 ≤ l0.length ∧ l0.length ≤ 1000000 ∧ l2.length = 1 := by
  by_cases g : 0 ≤ a1 ∧ a1 ≤ (l0.length : Int) ∧ 1 ≤ l0.length ∧ l0.length ≤ 1000000 ∧ l2.length = 1
  ·exact g
  ·unfold impl_Node_74.f at h
   rw [if_neg g] at h
   cases h
 unfold impl_Node_74.f at h
 rw [if_pos hcond] at h
 obtain rfl := Option.some.inj h
 clear h
 obtain ⟨ha0, hal, hl1, hlm, h2l⟩ := hcond
 obtain ⟨i, rfl⟩ := Int.eq_ofNat_of_zero_le ha0
 have hi : i ≤ l0.length := by omega
 rw [Int.toNat_natCast]
 obtain ⟨_, inner, hown, hrep⟩ := ho
 obtain ⟨_, news, hown2, hrep2⟩ := hv
 replace hrep : Reps (k59.M w 0 (fun _ => True)) 5 l0 inner := impl_Node_74.repsM hrep
 replace hrep2 : Reps (k59.M w 0 (fun _ => True)) 5 l2 news := impl_Node_74.repsM hrep2
 have hone := impl_Node_74.repsOne hrep
 have hone2 := impl_Node_74.repsOne hrep2
 have hnl : news.length = 5 := by rw [hrep2.1, h2l]
 rcases hown.2 with ⟨_, h0⟩ | ⟨g, c, cur, rfl, hgb, hh, hnc, hc, hcs, hin⟩
 ·omega
 rcases hown2.2 with ⟨_, h0⟩ | ⟨vb, vc, vcur, rfl, _, hvh, _, _, hvs, hvn⟩
 ·omega
 replace hcs : cur.size = c * 5 := hcs
 have hvb : vb ≠ g := fun e => hne g rfl (by rw [← e]; rfl)
 have hvw : vb < w.heap.size := (Array.getElem?_eq_some_iff.1 hvh).1
 have hv2 : ∀ j u, news[j]? = some u → w.cell? ⟨vb, j, none⟩ = some u := fun j u hj => by
  have hjl : j < 5 := by rw [← hnl]; exact (List.getElem?_eq_some_iff.1 hj).1
  rw [← hvn, List.getElem?_take_of_lt (by show j < l2.length * 5; omega)] at hj
  simp only [World.cell?, hvh]
  simpa using hj
 have hres : Reps (k59.M w 0 (fun _ => True)) 5 (l0.take i ++ (l2 ++ l0.drop i)) (inner.take (i * 5) ++ (news ++ inner.drop (i * 5))) :=
  Kd.reps_append (impl_Node_74.repsTake hrep i hi) (Kd.reps_append hrep2 (impl_Node_74.repsDrop hrep i hi))
 have hrl : (l0.take i ++ (l2 ++ l0.drop i)).length = l0.length + 1 := by simp [h2l]; omega
 rw [h2l]
 have fin : ∀ (e : Ending) (w' : World), (∃ v' : Value, e = .returned v' ∧ w'.ownsRow w0.heap.size 59 5 v' (l0.length + 1) (inner.take (i * 5) ++ (news ++ inner.drop (i * 5))) ∧ Below w0.heap.size w0 w') →
   ∃ v0_ : Value, e = .returned (v0_) ∧ Kd.R k59 59 w' w0.heap.size (fun _ => True) v0_ (l0.take i ++ (l2 ++ l0.drop i)) ∧ Below w0.heap.size w0 w' := by
  rintro e w' ⟨v', he, ho', hb'⟩
  refine ⟨v', he, ⟨fun _ _ => trivial, _, ?_, impl_Node_74.repsM hres⟩, hb'⟩
  rw [hrl]
  exact ho'
 by_cases hin_ : i = l0.length
 ·subst hin_
  refine (impl_Node_74.atEnd g c l0.length vb vc cur.toList inner news w0 w hB hgb (by simpa using hh) (by simpa using hcs) hin hnc hc hl1 hlm hv2 hnl hone2).mono ?_
  rintro e w' ⟨v', he, ho', hb'⟩
  refine fin e w' ⟨v', he, ?_, hb'⟩
  rw [List.take_of_length_le (by rw [hrep.1]; omega), List.drop_eq_nil_of_le (by rw [hrep.1]; omega), List.append_nil]
  exact ho'
 ·by_cases hroom : l0.length + 1 ≤ c
  ·exact (impl_Node_74.room g c l0.length i vb vc cur.toList inner news vcur w0 w hB hgb (by simpa using hh) (by simpa using hcs) hin hroom hc (by omega) hlm hvb hvh hv2 hnl hone hone2).mono fin
  ·exact (impl_Node_74.grow g c l0.length i vb vc cur.toList inner news w0 w hB (by simpa using hh) (by simpa using hcs) hin hnc (by omega) (by omega) hlm hvw hv2 hnl hone hone2).mono fin
def impl_above.l0 : Nat → List (S59) → Int → Int → Option (Bool)
 | 0, _, _, _ => none
 | k + 1, x0, x1, x2 => if x1 = x2 then (some true) else ((impl_NodeOf.f k x0 x1).bind fun t121 => (if t121 ≤ 0 then (some false) else (if 0 ≤ t121 then (if t121 < (x0.length : Int) then (impl_above.l0 k x0 ((rd_T59 x0 t121).f1) x2) else (none)) else (none))))
def impl_above.f (k : Nat) (l0 : List (S59)) (a1 : Int) (a2 : Int) : Option (Bool) := impl_above.l0 k l0 a1 a2
theorem impl_above.mono_l : ∀ k, (∀ y0 y1 y2, LeO (impl_above.l0 k y0 y1 y2) (impl_above.l0 (k + 1) y0 y1 y2))
 | 0 => fun _ _ _ r h => by simp [impl_above.l0] at h
 | k + 1 => by
  have ih0 := impl_above.mono_l k
  ·intro y0 y1 y2
   unfold impl_above.l0
   repeat' first
   | (with_reducible exact ih0 _ _ _)
   | (with_reducible exact impl_NodeOf.mono _ _ _)
   | (with_reducible exact LeO.refl _)
   | (with_reducible exact LeO.none _)
   | (with_reducible refine LeO.ite ?_ ?_)
   | (with_reducible refine LeO.bind ?_ (fun _ => ?_))
   | exact ih0 _ _ _
   | exact impl_NodeOf.mono _ _ _
   | exact LeO.none _
   | refine LeO.ite ?_ ?_
   | refine LeO.bind ?_ (fun _ => ?_)
theorem impl_above.mono : ∀ a0 a1 a2 k, LeO (impl_above.f k a0 a1 a2) (impl_above.f (k + 1) a0 a1 a2) := by
 intro a0 a1 a2 k
 have ih0 := impl_above.mono_l k
 unfold impl_above.f
 repeat' first
   | (with_reducible exact ih0 _ _ _)
   | (with_reducible exact impl_NodeOf.mono _ _ _)
   | (with_reducible exact LeO.refl _)
   | (with_reducible exact LeO.none _)
   | (with_reducible refine LeO.ite ?_ ?_)
   | (with_reducible refine LeO.bind ?_ (fun _ => ?_))
   | exact ih0 _ _ _
   | exact impl_NodeOf.mono _ _ _
   | exact LeO.none _
   | refine LeO.ite ?_ ?_
   | refine LeO.bind ?_ (fun _ => ?_)
set_option maxHeartbeats 8000000 in
set_option maxRecDepth 100000 in
theorem impl_above.calls (k : Nat) (A0 : Option Addr) (c0 : Nat) (l0 : List (S59)) (a1 : Int) (a2 : Int) (r : Bool) (w : World) (hr0 : Kd.C k59 w A0 l0.length l0) (hc0 : l0.length ≤ c0) (h : impl_above.f k l0 a1 a2 = some r) :
  Calls Try.prog 75 #[.slice A0 l0.length c0, .int .i64 a1, .int .i64 a2] w fun e w' => e = .returned (.bool r) ∧ Below w.heap.size w w' := by
 have HR0 := am hr0
 have HC0 := am hc0
 clear hr0 hc0
 have HB := am (Below.refl w.heap.size w)
 have H : (impl_above.l0 k l0 a1 a2) = some r := h
 clear h
 have H' := am H
 clear H
 go_enter Try.func75, Try.ntmps75
 go_wp2
 go_loopg [1] k (fun kq v1 w' => ∃ (x1_1 : Int), v1 = .int .i64 x1_1 ∧ Aside0 (impl_above.l0 kq l0 x1_1 a2 = some r) ∧ Aside0 (kq ≤ k) ∧ Aside0 (Below w.heap.size w w'))
 case atStart => exact ⟨(a1), (by first | rfl | (simp; done) | (simp [*]; done)), H', ⟨Nat.le_refl _⟩, ⟨bU HB.out⟩⟩
 case round =>
  clear H'
  try clear p2
  obtain ⟨x1_1, rfl, HA, HK1, HB⟩ := hrel
  cases gk with
  | zero => exact absurd HA.out (by simp [impl_above.l0])
  | succ k1 =>
   have H := HA.out
   clear HA
   simp only [impl_above.l0] at H
   by_cases c4 : x1_1 = a2
   ·rw [if_pos c4] at H
    have c4b0 : (x1_1 == a2) = true := beq_iff_eq.mpr c4
    have c4b1 : (x1_1 != a2) = false := bne_eq_false_iff_eq.mpr c4
    clear c4
    obtain rfl := Option.some.inj H
    go_wp2
    go_ret
    exact ⟨eU, bU HB.out⟩
   ·rw [if_neg c4] at H
    have c4b0 : (x1_1 == a2) = false := beq_eq_false_iff_ne.mpr c4
    have c4b1 : (x1_1 != a2) = true := bne_iff_ne.mpr c4
    replace H := Option.bind_eq_some_iff.mp H
    obtain ⟨t121, A50, H⟩ := H
    replace H : (if t121 ≤ 0 then (some false) else (if 0 ≤ t121 then (if t121 < (l0.length : Int) then (impl_above.l0 k1 l0 ((rd_T59 l0 t121).f1) a2) else (none)) else (none))) = some r := H
    have A5 := am A50
    clear A50
    by_cases c6 : t121 ≤ 0
    ·rw [if_pos c6] at H
     have c6b0 : decide (t121 ≤ 0) = true := decide_eq_true c6
     clear c6
     obtain rfl := Option.some.inj H
     go_wp2_with (first | ((with_reducible refine gate_callee (f := 40) rfl ?_); refine goesL_ (some 13) rfl rfl Try.func40 (by kernel_rfl) rfl #[.slice A0 l0.length c0, .int .i64 x1_1] rfl mU ?_; (with_reducible refine (impl_NodeOf.calls k1 _ _ l0 x1_1 t121 _ ?side1 ?side2 A5.out).mono ?_); (case side1 => exact cU (Kd.C_below HR0.out HB.out)); (case side2 => exact HC0.out); rintro e w7 ⟨rfl, hb⟩; refine ⟨_, rfl, ?_⟩; have n0_ := am (below_step (bU HB.out) hb); clear HB; have HB := n0_; clear n0_; (try clear hb); (try clear hb2); (try clear hk); (try clear hi)))
     go_ret
     exact ⟨eU, bU HB.out⟩
    ·rw [if_neg c6] at H
     have c6b0 : decide (t121 ≤ 0) = false := decide_eq_false c6
     clear c6
     by_cases c8 : 0 ≤ t121
     ·rw [if_pos c8] at H
      have c8b0 : decide (0 ≤ t121) = true := decide_eq_true c8
      clear c8
      by_cases c9 : t121 < (l0.length : Int)
      ·rw [if_pos c9] at H
       have c9b0 : decide (t121 < (l0.length : Int)) = true := decide_eq_true c9
       clear c9
       have H' := am H
       clear H
       go_wp2_with (first | ((with_reducible refine gate_callee (f := 40) rfl ?_); refine goesL_ (some 13) rfl rfl Try.func40 (by kernel_rfl) rfl #[.slice A0 l0.length c0, .int .i64 x1_1] rfl mU ?_; (with_reducible refine (impl_NodeOf.calls k1 _ _ l0 x1_1 t121 _ ?side1 ?side2 A5.out).mono ?_); (case side1 => exact cU (Kd.C_below HR0.out HB.out)); (case side2 => exact HC0.out); rintro e w10 ⟨rfl, hb⟩; refine ⟨_, rfl, ?_⟩; have n0_ := am (below_step (bU HB.out) hb); clear HB; have HB := n0_; clear n0_; (try clear hb); (try clear hb2); (try clear hk); (try clear hi); have p122 : 0 ≤ (t121 : Int) := dU; have q122 : t121 < (l0.length : Int) := dU; obtain ⟨ad122, e122, hx122_0, hx122_1, hx122_2, hx122_3, hx122_4⟩ := at_T59 HR0.out t121 p122 q122; cases e122; replace hx122_0 := cB HB.out hx122_0; replace hx122_1 := cB HB.out hx122_1; replace hx122_2 := cB HB.out hx122_2; replace hx122_3 := cB HB.out hx122_3; replace hx122_4 := cB HB.out hx122_4; replace p122 := eq_true p122; replace q122 := eq_true q122))
       go_roundg k1
       case measure => have := HK1.out; omega
       case rel => exact ⟨((rd_T59 l0 t121).f1), (by first | rfl | (simp; done) | (simp [*]; done)), H', ⟨by have := HK1.out; omega⟩, ⟨bU HB.out⟩⟩
      ·rw [if_neg c9] at H
       exact absurd H (by simp)
     ·rw [if_neg c8] at H
      exact absurd H (by simp)
end Go.Proofs.Ytiiibfpijmmbfaa.QFnHandles
