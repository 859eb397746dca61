import Derived.Test.YtiiibfpijmmbfaaUp
import Derived.Test.YtiiibfpijmmbfaaQFnExactEditByHandlex0
import Derived.Test.YtiiibfpijmmbfaaQFnExactEditByHandlex2
import Derived.Test.YtiiibfpijmmbfaaQFnExactEditByHandlex3
import Derived.Test.YtiiibfpijmmbfaaQFnExactEditByHandlex4
import Derived.Test.YtiiibfpijmmbfaaQFnExactEditByHandlex5
namespace Go.Proofs.Ytiiibfpijmmbfaa.QFnExactEditByHandle
open Go.RowKit Go.Proofs.YtiiibfpijmmbfaaW.PrintWords Go.Proofs.YtiiibfpijmmbfaaW.PrintLast Go.Proofs.YtiiibfpijmmbfaaW.PrintMore
attribute [local go_sem] max2_int min2_int max_two min_two max_three min_three max_four min_four
set_option linter.unusedVariables false
set_option linter.unusedSimpArgs false
mutual
def spec_ApplyEdit.j0 : Nat → List (S59) → Bool → Int → Int → Int → Int → Int → Int → Option ((List (S59)) × Bool)
 | 0, _, _, _, _, _, _, _, _ => none
 | k + 1, x0, x15, x236000, x236001, x236002, x236003, x236004, x236005 => if x15 = true then ((spec_l5Copy.f x0).bind fun t238 => (some (t238, false))) else ((spec_NodeOf.f k x0 x236001).bind fun t241 => ((spec_l5Copy.f x0).bind fun t242 => (if x236000 = 1 then ((spec_l5Add.f k x0 x236000 x236001 x236002 x236003 x236004 x236005).bind fun bt245 => (some (bt245.1, bt245.2))) else (if x236000 = 2 then ((spec_l5Drop.f k x0 x236001).bind fun bt249 => (some (bt249.1, bt249.2))) else (if t241 < 0 then (spec_ApplyEdit.j1 k t241 t242 true x236000 x236001 x236002 x236003 x236004 x236005) else (if x236000 = 4 then ((spec_NodeOf.f k x0 x236002).bind fun t253 => (if t253 < 0 then (spec_ApplyEdit.j1 k t241 t242 true x236000 x236001 x236002 x236003 x236004 x236005) else (spec_ApplyEdit.j1 k t241 t242 (decide (x236002 ≥ x236001)) x236000 x236001 x236002 x236003 x236004 x236005))) else (spec_ApplyEdit.j1 k t241 t242 false x236000 x236001 x236002 x236003 x236004 x236005)))))))
def spec_ApplyEdit.j1 : Nat → Int → List (S59) → Bool → Int → Int → Int → Int → Int → Int → Option ((List (S59)) × Bool)
 | 0, _, _, _, _, _, _, _, _, _ => none
 | k + 1, x6, x7, x49, x236000, x236001, x236002, x236003, x236004, x236005 => if x49 = true then (some (x7, false)) else (if x236000 = 3 then (if 0 ≤ x6 then (if x6 < (x7.length : Int) then ((some (x7.set (x6 : Int).toNat (⟨(rd_T59 x7 x6).f0, (rd_T59 x7 x6).f1, (rd_T59 x7 x6).f2, x236004, (rd_T59 x7 x6).f4⟩ : S59) : List (S59))).bind fun y254 => (some ((y254.set (x6 : Int).toNat (⟨(rd_T59 y254 x6).f0, (rd_T59 y254 x6).f1, (rd_T59 y254 x6).f2, (rd_T59 y254 x6).f3, x236005⟩ : S59)), true))) else (none)) else (none)) else (if 0 ≤ x6 then (if x6 < (x7.length : Int) then ((some (x7.set (x6 : Int).toNat (⟨(rd_T59 x7 x6).f0, x236002, (rd_T59 x7 x6).f2, (rd_T59 x7 x6).f3, (rd_T59 x7 x6).f4⟩ : S59) : List (S59))).bind fun y256 => (some ((y256.set (x6 : Int).toNat (⟨(rd_T59 y256 x6).f0, (rd_T59 y256 x6).f1, (rd_T59 y256 x6).f2, (rd_T59 y256 x6).f3, x236005⟩ : S59)), true))) else (none)) else (none)))
end
def spec_ApplyEdit.f (k : Nat) (l0 : List (S59)) (a1_0 : Int) (a1_1 : Int) (a1_2 : Int) (a1_3 : Int) (a1_4 : Int) (a1_5 : Int) : Option ((List (S59)) × Bool) := (spec_IsDocument.f k l0).bind fun t236 => (if t236 = true then ((spec_IsEdit.f a1_0 a1_1 a1_2 a1_3 a1_4 a1_5).bind fun t237 => (spec_ApplyEdit.j0 k l0 (!t237) a1_0 a1_1 a1_2 a1_3 a1_4 a1_5)) else (spec_ApplyEdit.j0 k l0 true a1_0 a1_1 a1_2 a1_3 a1_4 a1_5))
theorem spec_ApplyEdit.mono_l : ∀ k, (∀ y0 y1 y2 y3 y4 y5 y6 y7, LeO (spec_ApplyEdit.j0 k y0 y1 y2 y3 y4 y5 y6 y7) (spec_ApplyEdit.j0 (k + 1) y0 y1 y2 y3 y4 y5 y6 y7)) ∧ (∀ y0 y1 y2 y3 y4 y5 y6 y7 y8, LeO (spec_ApplyEdit.j1 k y0 y1 y2 y3 y4 y5 y6 y7 y8) (spec_ApplyEdit.j1 (k + 1) y0 y1 y2 y3 y4 y5 y6 y7 y8))
 | 0 => ⟨fun _ _ _ _ _ _ _ _ r h => by simp [spec_ApplyEdit.j0] at h, fun _ _ _ _ _ _ _ _ _ r h => by simp [spec_ApplyEdit.j1] at h⟩
 | k + 1 => by
  obtain ⟨ih0, ih1⟩ := spec_ApplyEdit.mono_l k
  refine ⟨?_, ?_⟩
  ·intro y0 y1 y2 y3 y4 y5 y6 y7
   unfold spec_ApplyEdit.j0
   repeat' first
   | (with_reducible exact ih0 _ _ _ _ _ _ _ _)
   | (with_reducible exact ih1 _ _ _ _ _ _ _ _ _)
   | (with_reducible exact spec_IsDocument.mono _ _)
   | (with_reducible exact spec_NodeOf.mono _ _ _)
   | (with_reducible exact spec_l5Add.mono _ _ _ _ _ _ _ _)
   | (with_reducible exact spec_l5Drop.mono _ _ _)
   | (with_reducible exact LeO.refl _)
   | (with_reducible exact LeO.none _)
   | (with_reducible refine LeO.ite ?_ ?_)
   | (with_reducible refine LeO.bind ?_ (fun _ => ?_))
   | exact ih0 _ _ _ _ _ _ _ _
   | exact ih1 _ _ _ _ _ _ _ _ _
   | exact spec_IsDocument.mono _ _
   | exact spec_NodeOf.mono _ _ _
   | exact spec_l5Add.mono _ _ _ _ _ _ _ _
   | exact spec_l5Drop.mono _ _ _
   | exact LeO.none _
   | refine LeO.ite ?_ ?_
   | refine LeO.bind ?_ (fun _ => ?_)
  ·intro y0 y1 y2 y3 y4 y5 y6 y7 y8
   unfold spec_ApplyEdit.j1
   repeat' first
   | (with_reducible exact ih0 _ _ _ _ _ _ _ _)
   | (with_reducible exact ih1 _ _ _ _ _ _ _ _ _)
   | (with_reducible exact spec_IsDocument.mono _ _)
   | (with_reducible exact spec_NodeOf.mono _ _ _)
   | (with_reducible exact spec_l5Add.mono _ _ _ _ _ _ _ _)
   | (with_reducible exact spec_l5Drop.mono _ _ _)
   | (with_reducible exact LeO.refl _)
   | (with_reducible exact LeO.none _)
   | (with_reducible refine LeO.ite ?_ ?_)
   | (with_reducible refine LeO.bind ?_ (fun _ => ?_))
   | exact ih0 _ _ _ _ _ _ _ _
   | exact ih1 _ _ _ _ _ _ _ _ _
   | exact spec_IsDocument.mono _ _
   | exact spec_NodeOf.mono _ _ _
   | exact spec_l5Add.mono _ _ _ _ _ _ _ _
   | exact spec_l5Drop.mono _ _ _
   | exact LeO.none _
   | refine LeO.ite ?_ ?_
   | refine LeO.bind ?_ (fun _ => ?_)
theorem spec_ApplyEdit.mono : ∀ a0 a1 a2 a3 a4 a5 a6 k, LeO (spec_ApplyEdit.f k a0 a1 a2 a3 a4 a5 a6) (spec_ApplyEdit.f (k + 1) a0 a1 a2 a3 a4 a5 a6) := by
 intro a0 a1 a2 a3 a4 a5 a6 k
 obtain ⟨ih0, ih1⟩ := spec_ApplyEdit.mono_l k
 unfold spec_ApplyEdit.f
 repeat' first
   | (with_reducible exact ih0 _ _ _ _ _ _ _ _)
   | (with_reducible exact ih1 _ _ _ _ _ _ _ _ _)
   | (with_reducible exact spec_IsDocument.mono _ _)
   | (with_reducible exact spec_NodeOf.mono _ _ _)
   | (with_reducible exact spec_l5Add.mono _ _ _ _ _ _ _ _)
   | (with_reducible exact spec_l5Drop.mono _ _ _)
   | (with_reducible exact LeO.refl _)
   | (with_reducible exact LeO.none _)
   | (with_reducible refine LeO.ite ?_ ?_)
   | (with_reducible refine LeO.bind ?_ (fun _ => ?_))
   | exact ih0 _ _ _ _ _ _ _ _
   | exact ih1 _ _ _ _ _ _ _ _ _
   | exact spec_IsDocument.mono _ _
   | exact spec_NodeOf.mono _ _ _
   | exact spec_l5Add.mono _ _ _ _ _ _ _ _
   | exact spec_l5Drop.mono _ _ _
   | exact LeO.none _
   | refine LeO.ite ?_ ?_
   | refine LeO.bind ?_ (fun _ => ?_)
set_option maxHeartbeats 8000000 in
set_option maxRecDepth 100000 in
theorem spec_ApplyEdit.calls (k : Nat) (A0 : Option Addr) (c0 : Nat) (l0 : List (S59)) (a1_0 : Int) (a1_1 : Int) (a1_2 : Int) (a1_3 : Int) (a1_4 : Int) (a1_5 : Int) (r1 : List (S59)) (r2 : Bool) (w : World) (hr0 : Kd.C k59 w A0 l0.length l0) (hc0 : l0.length ≤ c0) (h : spec_ApplyEdit.f k l0 a1_0 a1_1 a1_2 a1_3 a1_4 a1_5 = some (r1, r2)) :
  Calls Try.prog 15 #[.slice A0 l0.length c0, .agg #[.int .i64 a1_0, .int .i64 a1_1, .int .i64 a1_2, .int .i64 a1_3, .int .i64 a1_4, .int .i64 a1_5]] w fun e w' => ∃ v0_ : Value, e = .returned (.tuple #[v0_, .bool r2]) ∧ Kd.R k59 59 w' w.heap.size (fun _ => True) v0_ r1 ∧ Below w.heap.size w w' := by
 have hu30 := Try.underlying30
 have HR0 := am hr0
 have HC0 := am hc0
 clear hr0 hc0
 have HB := am (Below.refl w.heap.size w)
 have H : ((spec_IsDocument.f k l0).bind fun t236 => (if t236 = true then ((spec_IsEdit.f a1_0 a1_1 a1_2 a1_3 a1_4 a1_5).bind fun t237 => (spec_ApplyEdit.j0 k l0 (!t237) a1_0 a1_1 a1_2 a1_3 a1_4 a1_5)) else (spec_ApplyEdit.j0 k l0 true a1_0 a1_1 a1_2 a1_3 a1_4 a1_5))) = some (r1, r2) := h
 clear h
 have HC3 := am H
 clear H
 go_enter Try.func15, Try.ntmps15
 go_upto_region 1 with (first | ((with_reducible refine gate_dst (N := 3) rfl ?_); refine box_event ?hg (N := 3) ?hd (cs := #[.int .i64 a1_0, .int .i64 a1_1, .int .i64 a1_2, .int .i64 a1_3, .int .i64 a1_4, .int .i64 a1_5]) (t := 30) ?hr ?_; (case hd => rfl); (case hg => rfl); (case hr => first | (go_simp; done) | (go_simp; rfl)); intro gb235 hg w4 hbox hb; have n0_ := am (below_step (bU HB.out) hb); have n1_ := am (hbox); have n2_ := am ((by rw [hg]; exact (below_size (bU HB.out)) : w.heap.size ≤ gb235)); have n3_ := am ((by rw [hg]; exact (below_size (bU HB.out)) : w.heap.size ≤ gb235)); clear HB; have HB := n0_; have BK235 := n1_; have GW235 := n2_; have GE235 := n3_; clear n0_ n1_ n2_ n3_; clear hb hbox hg))
 (try simp only [Act.put, List.setIfInBounds_toArray, List.set_cons_zero, List.set_cons_succ])
 go_cut [15] (fun v15 wc => ∃ (kq : Nat) (x15_2 : Bool), v15 = .bool x15_2 ∧ Aside0 (spec_ApplyEdit.j0 kq l0 x15_2 a1_0 a1_1 a1_2 a1_3 a1_4 a1_5 = some (r1, r2)) ∧ Aside0 (kq ≤ k) ∧ Aside0 (wc.heap[gb235]? = some (.cells #[.int .i64 a1_0, .int .i64 a1_1, .int .i64 a1_2, .int .i64 a1_3, .int .i64 a1_4, .int .i64 a1_5] 30 (0, 0))) ∧ Aside0 (Below w.heap.size w wc))
 case first =>
  have H := HC3.out
  clear HC3
  replace H := Option.bind_eq_some_iff.mp H
  obtain ⟨t236, A50, H⟩ := H
  replace H : (if t236 = true then ((spec_IsEdit.f a1_0 a1_1 a1_2 a1_3 a1_4 a1_5).bind fun t237 => (spec_ApplyEdit.j0 k l0 (!t237) a1_0 a1_1 a1_2 a1_3 a1_4 a1_5)) else (spec_ApplyEdit.j0 k l0 true a1_0 a1_1 a1_2 a1_3 a1_4 a1_5)) = some (r1, r2) := H
  have A5 := am A50
  clear A50
  by_cases c6 : t236 = true
  ·subst c6
   have H1 : ((spec_IsEdit.f a1_0 a1_1 a1_2 a1_3 a1_4 a1_5).bind fun t237 => (spec_ApplyEdit.j0 k l0 (!t237) a1_0 a1_1 a1_2 a1_3 a1_4 a1_5)) = some (r1, r2) := by rw [if_pos rfl] at H; exact H
   clear H
   have H := H1
   clear H1
   replace H := Option.bind_eq_some_iff.mp H
   obtain ⟨t237, A70, H⟩ := H
   replace H : (spec_ApplyEdit.j0 k l0 (!t237) a1_0 a1_1 a1_2 a1_3 a1_4 a1_5) = some (r1, r2) := H
   have A7 := am A70
   clear A70
   have H' := am H
   clear H
   go_wp2_with (first | ((with_reducible refine gate_callee (f := 64) rfl ?_); refine goesL_ (some 9) rfl rfl Try.func64 (by kernel_rfl) rfl #[.slice A0 l0.length c0] rfl mU ?_; (with_reducible refine (spec_IsDocument.calls k _ _ l0 true _ ?side1 ?side2 A5.out).mono ?_); (case side1 => exact cU (Kd.C_below HR0.out HB.out)); (case side2 => exact HC0.out); rintro e w' ⟨rfl, ⟨nd, rfl⟩⟩; refine ⟨_, rfl, ?_⟩; obtain ⟨hcz8_0, hcz8_1, hcz8_2, hcz8_3, hcz8_4, hcz8_5⟩ := bc6 BK235.out; obtain ⟨hfz8_0, hfz8_1, hfz8_2, hfz8_3, hfz8_4, hfz8_5⟩ := bf6 BK235.out) | (go_at_call 65; (with_reducible refine (spec_IsEdit.calls a1_0 a1_1 a1_2 a1_3 a1_4 a1_5 t237 _ A7.out).mono ?_); rintro e w9 ⟨rfl, hb⟩; have n0_ := am (kB BK235.out hb); have n1_ := am (below_step (bS HB.out GE235.out) hb); clear BK235; clear HB; have BK235 := n0_; have HB := n1_; clear n0_ n1_; (try clear hb); (try clear hb2); (try clear hk); (try clear hi)))
   go_meet
   case rel => exact ⟨_, (!t237), (by first | rfl | (simp; done) | (simp [*]; done)), H', ⟨by first | omega | exact Nat.le_refl _⟩, ⟨kU BK235.out⟩, ⟨bS HB.out GE235.out⟩⟩
  ·replace c6 := Bool.eq_false_iff.mpr c6
   subst c6
   have H1 : (spec_ApplyEdit.j0 k l0 true a1_0 a1_1 a1_2 a1_3 a1_4 a1_5) = some (r1, r2) := by rw [if_neg (show ¬ (false = true) by decide)] at H; exact H
   clear H
   have H := H1
   clear H1
   have H' := am H
   clear H
   go_wp2_with (first | ((with_reducible refine gate_callee (f := 64) rfl ?_); refine goesL_ (some 9) rfl rfl Try.func64 (by kernel_rfl) rfl #[.slice A0 l0.length c0] rfl mU ?_; (with_reducible refine (spec_IsDocument.calls k _ _ l0 false _ ?side1 ?side2 A5.out).mono ?_); (case side1 => exact cU (Kd.C_below HR0.out HB.out)); (case side2 => exact HC0.out); rintro e w' ⟨rfl, ⟨nd, rfl⟩⟩; refine ⟨_, rfl, ?_⟩))
   go_meet
   case rel => exact ⟨_, (true), (by first | rfl | (simp; done) | (simp [*]; done)), H', ⟨by first | omega | exact Nat.le_refl _⟩, ⟨kU BK235.out⟩, ⟨bS HB.out GE235.out⟩⟩
 case rest =>
  clear HC3
  try clear c1
  try clear p2
  try clear c6
  try clear hcz8_0 hcz8_1 hcz8_2 hcz8_3 hcz8_4 hcz8_5 hfz8_0 hfz8_1 hfz8_2 hfz8_3 hfz8_4 hfz8_5
  obtain ⟨kq, x15_2, rfl, HA, HJ2, BK235, HB⟩ := hcut
  cases kq with
  | zero => exact absurd HA.out (by simp [spec_ApplyEdit.j0])
  | succ kj2 =>
   have H := HA.out
   clear HA
   simp only [spec_ApplyEdit.j0] at H
   by_cases c10 : x15_2 = true
   ·subst c10
    have H1 : ((spec_l5Copy.f l0).bind fun t238 => (some (t238, false))) = some (r1, r2) := by rw [if_pos rfl] at H; exact H
    clear H
    have H := H1
    clear H1
    replace H := Option.bind_eq_some_iff.mp H
    obtain ⟨t238, A110, H⟩ := H
    replace H : (some (t238, false)) = some (r1, r2) := H
    have A11 := am A110
    clear A110
    simp only [Option.some.injEq, Prod.mk.injEq] at H
    obtain ⟨rfl, rfl⟩ := H
    go_wp2_with (first | ((with_reducible refine gate_callee (f := 66) rfl ?_); refine goesL_ (some 17) rfl rfl Try.func66 (by kernel_rfl) rfl #[.slice A0 l0.length c0] rfl mU ?_; (with_reducible refine (spec_l5Copy.calls _ _ l0 t238 _ ?side1 ?side2 A11.out).mono ?_); (case side1 => exact cU (Kd.C_below HR0.out HB.out)); (case side2 => exact HC0.out); rintro e w12 ⟨v239, rfl, ho0, hb⟩; refine ⟨_, rfl, ?_⟩; have n0_ := am (Kd.R_lower ho0 (below_size (bS HB.out GE235.out))); have n1_ := am (kB BK235.out hb); have n2_ := am (below_step (bS HB.out GE235.out) hb); clear BK235; clear HB; have HO240 := n0_; have BK235 := n1_; have HB := n2_; clear n0_ n1_ n2_; (try clear hb); (try clear hb2); (try clear hk); (try clear hi); (try clear ho0)))
    go_ret2
    exact ⟨_, eU, rU HO240.out, bS HB.out GE235.out⟩
   ·replace c10 := Bool.eq_false_iff.mpr c10
    subst c10
    have H1 : ((spec_NodeOf.f kj2 l0 a1_1).bind fun t241 => ((spec_l5Copy.f l0).bind fun t242 => (if a1_0 = 1 then ((spec_l5Add.f kj2 l0 a1_0 a1_1 a1_2 a1_3 a1_4 a1_5).bind fun bt245 => (some (bt245.1, bt245.2))) else (if a1_0 = 2 then ((spec_l5Drop.f kj2 l0 a1_1).bind fun bt249 => (some (bt249.1, bt249.2))) else (if t241 < 0 then (spec_ApplyEdit.j1 kj2 t241 t242 true a1_0 a1_1 a1_2 a1_3 a1_4 a1_5) else (if a1_0 = 4 then ((spec_NodeOf.f kj2 l0 a1_2).bind fun t253 => (if t253 < 0 then (spec_ApplyEdit.j1 kj2 t241 t242 true a1_0 a1_1 a1_2 a1_3 a1_4 a1_5) else (spec_ApplyEdit.j1 kj2 t241 t242 (decide (a1_2 ≥ a1_1)) a1_0 a1_1 a1_2 a1_3 a1_4 a1_5))) else (spec_ApplyEdit.j1 kj2 t241 t242 false a1_0 a1_1 a1_2 a1_3 a1_4 a1_5))))))) = some (r1, r2) := by rw [if_neg (show ¬ (false = true) by decide)] at H; exact H
    clear H
    have H := H1
    clear H1
    replace H := Option.bind_eq_some_iff.mp H
    obtain ⟨t241, A130, H⟩ := H
    replace H : ((spec_l5Copy.f l0).bind fun t242 => (if a1_0 = 1 then ((spec_l5Add.f kj2 l0 a1_0 a1_1 a1_2 a1_3 a1_4 a1_5).bind fun bt245 => (some (bt245.1, bt245.2))) else (if a1_0 = 2 then ((spec_l5Drop.f kj2 l0 a1_1).bind fun bt249 => (some (bt249.1, bt249.2))) else (if t241 < 0 then (spec_ApplyEdit.j1 kj2 t241 t242 true a1_0 a1_1 a1_2 a1_3 a1_4 a1_5) else (if a1_0 = 4 then ((spec_NodeOf.f kj2 l0 a1_2).bind fun t253 => (if t253 < 0 then (spec_ApplyEdit.j1 kj2 t241 t242 true a1_0 a1_1 a1_2 a1_3 a1_4 a1_5) else (spec_ApplyEdit.j1 kj2 t241 t242 (decide (a1_2 ≥ a1_1)) a1_0 a1_1 a1_2 a1_3 a1_4 a1_5))) else (spec_ApplyEdit.j1 kj2 t241 t242 false a1_0 a1_1 a1_2 a1_3 a1_4 a1_5)))))) = some (r1, r2) := H
    have A13 := am A130
    clear A130
    replace H := Option.bind_eq_some_iff.mp H
    obtain ⟨t242, A140, H⟩ := H
    replace H : (if a1_0 = 1 then ((spec_l5Add.f kj2 l0 a1_0 a1_1 a1_2 a1_3 a1_4 a1_5).bind fun bt245 => (some (bt245.1, bt245.2))) else (if a1_0 = 2 then ((spec_l5Drop.f kj2 l0 a1_1).bind fun bt249 => (some (bt249.1, bt249.2))) else (if t241 < 0 then (spec_ApplyEdit.j1 kj2 t241 t242 true a1_0 a1_1 a1_2 a1_3 a1_4 a1_5) else (if a1_0 = 4 then ((spec_NodeOf.f kj2 l0 a1_2).bind fun t253 => (if t253 < 0 then (spec_ApplyEdit.j1 kj2 t241 t242 true a1_0 a1_1 a1_2 a1_3 a1_4 a1_5) else (spec_ApplyEdit.j1 kj2 t241 t242 (decide (a1_2 ≥ a1_1)) a1_0 a1_1 a1_2 a1_3 a1_4 a1_5))) else (spec_ApplyEdit.j1 kj2 t241 t242 false a1_0 a1_1 a1_2 a1_3 a1_4 a1_5))))) = some (r1, r2) := H
    have A14 := am A140
    clear A140
    by_cases c15 : a1_0 = 1
    ·rw [if_pos c15] at H
     have c15b0 : (a1_0 == 1) = true := beq_iff_eq.mpr c15
     have c15b1 : (a1_0 != 1) = false := bne_eq_false_iff_eq.mpr c15
     clear c15
     replace H := Option.bind_eq_some_iff.mp H
     obtain ⟨⟨t245, t248⟩, A160, H⟩ := H
     replace H : (some (t245, t248)) = some (r1, r2) := H
     have A16 := am A160
     clear A160
     simp only [Option.some.injEq, Prod.mk.injEq] at H
     obtain ⟨rfl, rfl⟩ := H
     obtain ⟨hcz17_0, hcz17_1, hcz17_2, hcz17_3, hcz17_4, hcz17_5⟩ := bc6 BK235.out
     obtain ⟨hfz17_0, hfz17_1, hfz17_2, hfz17_3, hfz17_4, hfz17_5⟩ := bf6 BK235.out
     go_wp2_with (first | ((with_reducible refine gate_callee (f := 67) rfl ?_); refine goesL_ (some 21) rfl rfl Try.func67 (by kernel_rfl) rfl #[.slice A0 l0.length c0, .int .i64 a1_1] rfl mU ?_; (with_reducible refine (spec_NodeOf.calls kj2 _ _ l0 a1_1 t241 _ ?side1 ?side2 A13.out).mono ?_); (case side1 => exact cU (Kd.C_below HR0.out HB.out)); (case side2 => exact HC0.out); rintro e w' ⟨rfl, ⟨nd, rfl⟩⟩; refine ⟨_, rfl, ?_⟩) | ((with_reducible refine gate_callee (f := 66) rfl ?_); refine goesL_ (some 23) rfl rfl Try.func66 (by kernel_rfl) rfl #[.slice A0 l0.length c0] rfl mU ?_; (with_reducible refine (spec_l5Copy.calls _ _ l0 t242 _ ?side1 ?side2 A14.out).mono ?_); (case side1 => repeat (first | exact (Kd.C_below HR0.out (bS HB.out GE235.out)) | (with_reducible refine Kd.C_alloc ?_ _) | (with_reducible refine Kd.C_drewN ?_ _) | (with_reducible refine Kd.C_drew ?_))); (case side2 => exact HC0.out); rintro e w18 ⟨v243, rfl, ho0, hb⟩; refine ⟨_, rfl, ?_⟩; have n0_ := am (Kd.R_lower ho0 (below_size (bS HB.out GE235.out))); have n1_ := am (kB BK235.out hb); have n2_ := am (below_step (bS HB.out GE235.out) hb); clear BK235; clear HB; have HO244 := n0_; have BK235 := n1_; have HB := n2_; clear n0_ n1_ n2_; (try clear hb); (try clear hb2); (try clear hk); (try clear hi); (try clear ho0); obtain ⟨hcz19_0, hcz19_1, hcz19_2, hcz19_3, hcz19_4, hcz19_5⟩ := bc6 BK235.out; obtain ⟨hfz19_0, hfz19_1, hfz19_2, hfz19_3, hfz19_4, hfz19_5⟩ := bf6 BK235.out) | ((with_reducible refine gate_callee (f := 68) rfl ?_); refine goesL_ (some 36) rfl rfl Try.func68 (by kernel_rfl) rfl #[.slice A0 l0.length c0, .agg #[.int .i64 a1_0, .int .i64 a1_1, .int .i64 a1_2, .int .i64 a1_3, .int .i64 a1_4, .int .i64 a1_5]] rfl mU ?_; (with_reducible refine (spec_l5Add.calls kj2 _ _ l0 a1_0 a1_1 a1_2 a1_3 a1_4 a1_5 t245 t248 _ ?side1 ?side2 A16.out).mono ?_); (case side1 => exact cU (Kd.C_below HR0.out HB.out)); (case side2 => exact HC0.out); rintro e w20 ⟨v246, rfl, ho0, hb⟩; refine ⟨_, rfl, ?_⟩; have n0_ := am (Kd.R_elder' (rU HO244.out) (Kd.R_base ho0) hb); have n1_ := am (Kd.R_lower (Kd.R_new' ho0 (Kd.R_lt (rU HO244.out))) (below_size (bS HB.out GE235.out))); have n2_ := am (kB BK235.out hb); have n3_ := am (below_step (bS HB.out GE235.out) hb); clear HO244; clear BK235; clear HB; have HO244 := n0_; have HO247 := n1_; have BK235 := n2_; have HB := n3_; clear n0_ n1_ n2_ n3_; (try clear hb); (try clear hb2); (try clear hk); (try clear hi); (try clear ho0)))
     go_ret2
     exact ⟨_, eU, by (with_reducible repeat (first | apply Kd.R_alloc | apply Kd.R_drewN | apply Kd.R_drew)); exact Kd.R_mono HO247.out (fun _ hk => trivial), bS HB.out GE235.out⟩
    ·rw [if_neg c15] at H
     have c15b0 : (a1_0 == 1) = false := beq_eq_false_iff_ne.mpr c15
     have c15b1 : (a1_0 != 1) = true := bne_iff_ne.mpr c15
     by_cases c21 : a1_0 = 2
     ·rw [if_pos c21] at H
      have c21b0 : (a1_0 == 2) = true := beq_iff_eq.mpr c21
      have c21b1 : (a1_0 != 2) = false := bne_eq_false_iff_eq.mpr c21
      clear c21
      replace H := Option.bind_eq_some_iff.mp H
      obtain ⟨⟨t249, t250⟩, A220, H⟩ := H
      replace H : (some (t249, t250)) = some (r1, r2) := H
      have A22 := am A220
      clear A220
      simp only [Option.some.injEq, Prod.mk.injEq] at H
      obtain ⟨rfl, rfl⟩ := H
      obtain ⟨hcz23_0, hcz23_1, hcz23_2, hcz23_3, hcz23_4, hcz23_5⟩ := bc6 BK235.out
      obtain ⟨hfz23_0, hfz23_1, hfz23_2, hfz23_3, hfz23_4, hfz23_5⟩ := bf6 BK235.out
      go_wp2_with (first | ((with_reducible refine gate_callee (f := 67) rfl ?_); refine goesL_ (some 21) rfl rfl Try.func67 (by kernel_rfl) rfl #[.slice A0 l0.length c0, .int .i64 a1_1] rfl mU ?_; (with_reducible refine (spec_NodeOf.calls kj2 _ _ l0 a1_1 t241 _ ?side1 ?side2 A13.out).mono ?_); (case side1 => exact cU (Kd.C_below HR0.out HB.out)); (case side2 => exact HC0.out); rintro e w' ⟨rfl, ⟨nd, rfl⟩⟩; refine ⟨_, rfl, ?_⟩) | ((with_reducible refine gate_callee (f := 66) rfl ?_); refine goesL_ (some 23) rfl rfl Try.func66 (by kernel_rfl) rfl #[.slice A0 l0.length c0] rfl mU ?_; (with_reducible refine (spec_l5Copy.calls _ _ l0 t242 _ ?side1 ?side2 A14.out).mono ?_); (case side1 => repeat (first | exact (Kd.C_below HR0.out (bS HB.out GE235.out)) | (with_reducible refine Kd.C_alloc ?_ _) | (with_reducible refine Kd.C_drewN ?_ _) | (with_reducible refine Kd.C_drew ?_))); (case side2 => exact HC0.out); rintro e w24 ⟨v243, rfl, ho0, hb⟩; refine ⟨_, rfl, ?_⟩; have n0_ := am (Kd.R_lower ho0 (below_size (bS HB.out GE235.out))); have n1_ := am (kB BK235.out hb); have n2_ := am (below_step (bS HB.out GE235.out) hb); clear BK235; clear HB; have HO244 := n0_; have BK235 := n1_; have HB := n2_; clear n0_ n1_ n2_; (try clear hb); (try clear hb2); (try clear hk); (try clear hi); (try clear ho0); obtain ⟨hcz25_0, hcz25_1, hcz25_2, hcz25_3, hcz25_4, hcz25_5⟩ := bc6 BK235.out; obtain ⟨hfz25_0, hfz25_1, hfz25_2, hfz25_3, hfz25_4, hfz25_5⟩ := bf6 BK235.out) | ((with_reducible refine gate_callee (f := 69) rfl ?_); refine goesL_ (some 46) rfl rfl Try.func69 (by kernel_rfl) rfl #[.slice A0 l0.length c0, .int .i64 a1_1] rfl mU ?_; (with_reducible refine (spec_l5Drop.calls kj2 _ _ l0 a1_1 t249 t250 _ ?side1 ?side2 A22.out).mono ?_); (case side1 => exact cU (Kd.C_below HR0.out HB.out)); (case side2 => exact HC0.out); rintro e w26 ⟨v251, rfl, ho0, hb⟩; refine ⟨_, rfl, ?_⟩; have n0_ := am (Kd.R_elder' (rU HO244.out) (Kd.R_base ho0) hb); have n1_ := am (Kd.R_lower (Kd.R_new' ho0 (Kd.R_lt (rU HO244.out))) (below_size (bS HB.out GE235.out))); have n2_ := am (kB BK235.out hb); have n3_ := am (below_step (bS HB.out GE235.out) hb); clear HO244; clear BK235; clear HB; have HO244 := n0_; have HO252 := n1_; have BK235 := n2_; have HB := n3_; clear n0_ n1_ n2_ n3_; (try clear hb); (try clear hb2); (try clear hk); (try clear hi); (try clear ho0)))
      go_ret2
      exact ⟨_, eU, by (with_reducible repeat (first | apply Kd.R_alloc | apply Kd.R_drewN | apply Kd.R_drew)); exact Kd.R_mono HO252.out (fun _ hk => trivial), bS HB.out GE235.out⟩
     ·rw [if_neg c21] at H
      have c21b0 : (a1_0 == 2) = false := beq_eq_false_iff_ne.mpr c21
      have c21b1 : (a1_0 != 2) = true := bne_iff_ne.mpr c21
      have HC27 := am H
      clear H
      obtain ⟨hcz28_0, hcz28_1, hcz28_2, hcz28_3, hcz28_4, hcz28_5⟩ := bc6 BK235.out
      obtain ⟨hfz28_0, hfz28_1, hfz28_2, hfz28_3, hfz28_4, hfz28_5⟩ := bf6 BK235.out
      go_upto_region 10 with (first | ((with_reducible refine gate_callee (f := 67) rfl ?_); refine goesL_ (some 21) rfl rfl Try.func67 (by kernel_rfl) rfl #[.slice A0 l0.length c0, .int .i64 a1_1] rfl mU ?_; (with_reducible refine (spec_NodeOf.calls kj2 _ _ l0 a1_1 t241 _ ?side1 ?side2 A13.out).mono ?_); (case side1 => exact cU (Kd.C_below HR0.out HB.out)); (case side2 => exact HC0.out); rintro e w' ⟨rfl, ⟨nd, rfl⟩⟩; refine ⟨_, rfl, ?_⟩) | ((with_reducible refine gate_callee (f := 66) rfl ?_); refine goesL_ (some 23) rfl rfl Try.func66 (by kernel_rfl) rfl #[.slice A0 l0.length c0] rfl mU ?_; (with_reducible refine (spec_l5Copy.calls _ _ l0 t242 _ ?side1 ?side2 A14.out).mono ?_); (case side1 => repeat (first | exact (Kd.C_below HR0.out (bS HB.out GE235.out)) | (with_reducible refine Kd.C_alloc ?_ _) | (with_reducible refine Kd.C_drewN ?_ _) | (with_reducible refine Kd.C_drew ?_))); (case side2 => exact HC0.out); rintro e w29 ⟨v243, rfl, ho0, hb⟩; refine ⟨_, rfl, ?_⟩; have n0_ := am (Kd.R_lower ho0 (below_size (bS HB.out GE235.out))); have n1_ := am (kB BK235.out hb); have n2_ := am (below_step (bS HB.out GE235.out) hb); clear BK235; clear HB; have HO244 := n0_; have BK235 := n1_; have HB := n2_; clear n0_ n1_ n2_; (try clear hb); (try clear hb2); (try clear hk); (try clear hi); (try clear ho0); obtain ⟨hcz30_0, hcz30_1, hcz30_2, hcz30_3, hcz30_4, hcz30_5⟩ := bc6 BK235.out; obtain ⟨hfz30_0, hfz30_1, hfz30_2, hfz30_3, hfz30_4, hfz30_5⟩ := bf6 BK235.out))
      (try simp only [Act.put, List.setIfInBounds_toArray, List.set_cons_zero, List.set_cons_succ])
      go_cut [49] (fun v49 wc => ∃ (kq : Nat) (x49_26 : Bool), v49 = .bool x49_26 ∧ Aside0 (spec_ApplyEdit.j1 kq t241 t242 x49_26 a1_0 a1_1 a1_2 a1_3 a1_4 a1_5 = some (r1, r2)) ∧ Aside0 (kq ≤ kj2) ∧ Aside0 (Kd.R k59 59 wc w.heap.size (fun _ => True) v243 t242) ∧ Aside0 (wc.heap[gb235]? = some (.cells #[.int .i64 a1_0, .int .i64 a1_1, .int .i64 a1_2, .int .i64 a1_3, .int .i64 a1_4, .int .i64 a1_5] 30 (0, 0))) ∧ Aside0 (Below w.heap.size w wc))
      case first =>
       have H := HC27.out
       clear HC27
       by_cases c31 : t241 < 0
       ·rw [if_pos c31] at H
        have c31b0 : decide (t241 < 0) = true := decide_eq_true c31
        clear c31
        (first | rw [c31b0] | (simp only [i64_w, i32_w]; rw [c31b0]) | skip)
        have H' := am H
        clear H
        go_wp2
        go_meet
        case rel => exact ⟨_, (true), (by first | rfl | (simp; done) | (simp [*]; done)), H', ⟨by have := HJ2.out; first | omega | exact Nat.le_refl _⟩, ⟨rU HO244.out⟩, ⟨kU BK235.out⟩, ⟨bS HB.out GE235.out⟩⟩
       ·rw [if_neg c31] at H
        have c31b0 : decide (t241 < 0) = false := decide_eq_false c31
        clear c31
        (first | rw [c31b0] | (simp only [i64_w, i32_w]; rw [c31b0]) | skip)
        by_cases c32 : a1_0 = 4
        ·rw [if_pos c32] at H
         have c32b0 : (a1_0 == 4) = true := beq_iff_eq.mpr c32
         have c32b1 : (a1_0 != 4) = false := bne_eq_false_iff_eq.mpr c32
         clear c32
         replace H := Option.bind_eq_some_iff.mp H
         obtain ⟨t253, A330, H⟩ := H
         replace H : (if t253 < 0 then (spec_ApplyEdit.j1 kj2 t241 t242 true a1_0 a1_1 a1_2 a1_3 a1_4 a1_5) else (spec_ApplyEdit.j1 kj2 t241 t242 (decide (a1_2 ≥ a1_1)) a1_0 a1_1 a1_2 a1_3 a1_4 a1_5)) = some (r1, r2) := H
         have A33 := am A330
         clear A330
         by_cases c34 : t253 < 0
         ·rw [if_pos c34] at H
          have c34b0 : decide (t253 < 0) = true := decide_eq_true c34
          clear c34
          have H' := am H
          clear H
          obtain ⟨hcz35_0, hcz35_1, hcz35_2, hcz35_3, hcz35_4, hcz35_5⟩ := bc6 BK235.out
          obtain ⟨hfz35_0, hfz35_1, hfz35_2, hfz35_3, hfz35_4, hfz35_5⟩ := bf6 BK235.out
          go_wp2_with (first | (go_at_call 67; (with_reducible refine (spec_NodeOf.calls kj2 _ _ l0 a1_2 t253 _ ?side1 ?side2 A33.out).mono ?_); (case side1 => exact cU (Kd.C_below HR0.out HB.out)); (case side2 => exact HC0.out); rintro e w' ⟨rfl, ⟨nd, rfl⟩⟩))
          go_meet
          case rel => exact ⟨_, (true), (by first | rfl | (simp; done) | (simp [*]; done)), H', ⟨by have := HJ2.out; first | omega | exact Nat.le_refl _⟩, ⟨rU HO244.out⟩, ⟨kU BK235.out⟩, ⟨bS HB.out GE235.out⟩⟩
         ·rw [if_neg c34] at H
          have c34b0 : decide (t253 < 0) = false := decide_eq_false c34
          clear c34
          have H' := am H
          clear H
          obtain ⟨hcz36_0, hcz36_1, hcz36_2, hcz36_3, hcz36_4, hcz36_5⟩ := bc6 BK235.out
          obtain ⟨hfz36_0, hfz36_1, hfz36_2, hfz36_3, hfz36_4, hfz36_5⟩ := bf6 BK235.out
          go_wp2_with (first | (go_at_call 67; (with_reducible refine (spec_NodeOf.calls kj2 _ _ l0 a1_2 t253 _ ?side1 ?side2 A33.out).mono ?_); (case side1 => exact cU (Kd.C_below HR0.out HB.out)); (case side2 => exact HC0.out); rintro e w' ⟨rfl, ⟨nd, rfl⟩⟩))
          go_meet
          case rel => exact ⟨_, (decide (a1_2 ≥ a1_1)), (by first | rfl | (simp; done) | (simp [*]; done)), H', ⟨by have := HJ2.out; first | omega | exact Nat.le_refl _⟩, ⟨rU HO244.out⟩, ⟨kU BK235.out⟩, ⟨bS HB.out GE235.out⟩⟩
        ·rw [if_neg c32] at H
         have c32b0 : (a1_0 == 4) = false := beq_eq_false_iff_ne.mpr c32
         have c32b1 : (a1_0 != 4) = true := bne_iff_ne.mpr c32
         have H' := am H
         clear H
         obtain ⟨hcz37_0, hcz37_1, hcz37_2, hcz37_3, hcz37_4, hcz37_5⟩ := bc6 BK235.out
         obtain ⟨hfz37_0, hfz37_1, hfz37_2, hfz37_3, hfz37_4, hfz37_5⟩ := bf6 BK235.out
         go_wp2
         go_meet
         case rel => exact ⟨_, (false), (by first | rfl | (simp; done) | (simp [*]; done)), H', ⟨by have := HJ2.out; first | omega | exact Nat.le_refl _⟩, ⟨rU HO244.out⟩, ⟨kU BK235.out⟩, ⟨bS HB.out GE235.out⟩⟩
      case rest =>
       clear HC27
       try clear c1
       try clear c2
       try clear p2
       try clear c3
       try clear c6
       try clear c10
       try clear c15
       try clear c15b0
       try clear c15b1
       try clear c21
       try clear c21b0
       try clear c21b1
       try clear c31
       try clear c31b0
       try clear c32
       try clear c32b0
       try clear c32b1
       try clear c34
       try clear c34b0
       try clear hcz17_0 hcz17_1 hcz17_2 hcz17_3 hcz17_4 hcz17_5
       try clear hcz19_0 hcz19_1 hcz19_2 hcz19_3 hcz19_4 hcz19_5
       try clear hcz23_0 hcz23_1 hcz23_2 hcz23_3 hcz23_4 hcz23_5
       try clear hcz25_0 hcz25_1 hcz25_2 hcz25_3 hcz25_4 hcz25_5
       try clear hcz28_0 hcz28_1 hcz28_2 hcz28_3 hcz28_4 hcz28_5
       try clear hcz30_0 hcz30_1 hcz30_2 hcz30_3 hcz30_4 hcz30_5
       try clear hcz35_0 hcz35_1 hcz35_2 hcz35_3 hcz35_4 hcz35_5
       try clear hcz36_0 hcz36_1 hcz36_2 hcz36_3 hcz36_4 hcz36_5
       try clear hcz37_0 hcz37_1 hcz37_2 hcz37_3 hcz37_4 hcz37_5
       try clear hcz8_0 hcz8_1 hcz8_2 hcz8_3 hcz8_4 hcz8_5
       try clear hfz17_0 hfz17_1 hfz17_2 hfz17_3 hfz17_4 hfz17_5
       try clear hfz19_0 hfz19_1 hfz19_2 hfz19_3 hfz19_4 hfz19_5
       try clear hfz23_0 hfz23_1 hfz23_2 hfz23_3 hfz23_4 hfz23_5
       try clear hfz25_0 hfz25_1 hfz25_2 hfz25_3 hfz25_4 hfz25_5
       try clear hfz28_0 hfz28_1 hfz28_2 hfz28_3 hfz28_4 hfz28_5
       try clear hfz30_0 hfz30_1 hfz30_2 hfz30_3 hfz30_4 hfz30_5
       try clear hfz35_0 hfz35_1 hfz35_2 hfz35_3 hfz35_4 hfz35_5
       try clear hfz36_0 hfz36_1 hfz36_2 hfz36_3 hfz36_4 hfz36_5
       try clear hfz37_0 hfz37_1 hfz37_2 hfz37_3 hfz37_4 hfz37_5
       try clear hfz8_0 hfz8_1 hfz8_2 hfz8_3 hfz8_4 hfz8_5
       try clear p2
       obtain ⟨kq, x49_26, rfl, HA, HJ26, HO_7, BK235, HB⟩ := hcut
       cases kq with
       | zero => exact absurd HA.out (by simp [spec_ApplyEdit.j1])
       | succ kj26 =>
        have H := HA.out
        clear HA
        simp only [spec_ApplyEdit.j1] at H
        by_cases c38 : x49_26 = true
        ·subst c38
         have H1 : (some (t242, false)) = some (r1, r2) := by rw [if_pos rfl] at H; exact H
         clear H
         have H := H1
         clear H1
         simp only [Option.some.injEq, Prod.mk.injEq] at H
         obtain ⟨rfl, rfl⟩ := H
         go_wp2
         go_ret2
         exact ⟨_, eU, rU HO_7.out, bS HB.out GE235.out⟩
        ·replace c38 := Bool.eq_false_iff.mpr c38
         subst c38
         have H1 : (if a1_0 = 3 then (if 0 ≤ t241 then (if t241 < (t242.length : Int) then ((some (t242.set (t241 : Int).toNat (⟨(rd_T59 t242 t241).f0, (rd_T59 t242 t241).f1, (rd_T59 t242 t241).f2, a1_4, (rd_T59 t242 t241).f4⟩ : S59) : List (S59))).bind fun y254 => (some ((y254.set (t241 : Int).toNat (⟨(rd_T59 y254 t241).f0, (rd_T59 y254 t241).f1, (rd_T59 y254 t241).f2, (rd_T59 y254 t241).f3, a1_5⟩ : S59)), true))) else (none)) else (none)) else (if 0 ≤ t241 then (if t241 < (t242.length : Int) then ((some (t242.set (t241 : Int).toNat (⟨(rd_T59 t242 t241).f0, a1_2, (rd_T59 t242 t241).f2, (rd_T59 t242 t241).f3, (rd_T59 t242 t241).f4⟩ : S59) : List (S59))).bind fun y256 => (some ((y256.set (t241 : Int).toNat (⟨(rd_T59 y256 t241).f0, (rd_T59 y256 t241).f1, (rd_T59 y256 t241).f2, (rd_T59 y256 t241).f3, a1_5⟩ : S59)), true))) else (none)) else (none))) = some (r1, r2) := by rw [if_neg (show ¬ (false = true) by decide)] at H; exact H
         clear H
         have H := H1
         clear H1
         by_cases c39 : a1_0 = 3
         ·rw [if_pos c39] at H
          have c39b0 : (a1_0 == 3) = true := beq_iff_eq.mpr c39
          have c39b1 : (a1_0 != 3) = false := bne_eq_false_iff_eq.mpr c39
          clear c39
          by_cases c40 : 0 ≤ t241
          ·rw [if_pos c40] at H
           have c40b0 : decide (0 ≤ t241) = true := decide_eq_true c40
           clear c40
           by_cases c41 : t241 < (t242.length : Int)
           ·rw [if_pos c41] at H
            have c41b0 : decide (t241 < (t242.length : Int)) = true := decide_eq_true c41
            clear c41
            obtain ⟨y254, hy254⟩ : ∃ y_ : List (S59), y_ = (t242.set (t241 : Int).toNat (⟨(rd_T59 t242 t241).f0, (rd_T59 t242 t241).f1, (rd_T59 t242 t241).f2, a1_4, (rd_T59 t242 t241).f4⟩ : S59)) := ⟨_, rfl⟩
            replace H : (some ((y254.set (t241 : Int).toNat (⟨(rd_T59 y254 t241).f0, (rd_T59 y254 t241).f1, (rd_T59 y254 t241).f2, (rd_T59 y254 t241).f3, a1_5⟩ : S59)), true)) = some (r1, r2) := by first | (rw [hy254]; with_reducible exact H) | (have H2_ := (Option.bind_some _ _).symm.trans H; rw [hy254]; with_reducible exact H2_) | (have H2_ := (Option.bind_some _ _).symm.trans H; with_reducible exact H2_) | with_reducible exact H | (rw [hy254]; exact H) | exact H
            have Ny254 := am hy254
            clear hy254
            obtain ⟨y255, hy255⟩ : ∃ y_ : List (S59), y_ = (y254.set (t241 : Int).toNat (⟨(rd_T59 y254 t241).f0, (rd_T59 y254 t241).f1, (rd_T59 y254 t241).f2, (rd_T59 y254 t241).f3, a1_5⟩ : S59)) := ⟨_, rfl⟩
            replace H : (some (y255, true)) = some (r1, r2) := by first | (rw [hy255]; with_reducible exact H) | (have H2_ := (Option.bind_some _ _).symm.trans H; rw [hy255]; with_reducible exact H2_) | (have H2_ := (Option.bind_some _ _).symm.trans H; with_reducible exact H2_) | with_reducible exact H | (rw [hy255]; exact H) | exact H
            have Ny255 := am hy255
            clear hy255
            simp only [Option.some.injEq, Prod.mk.injEq] at H
            obtain ⟨rfl, rfl⟩ := H
            obtain ⟨hcz44_0, hcz44_1, hcz44_2, hcz44_3, hcz44_4, hcz44_5⟩ := bc6 BK235.out
            obtain ⟨hfz44_0, hfz44_1, hfz44_2, hfz44_3, hfz44_4, hfz44_5⟩ := bf6 BK235.out
            have p42 : 0 ≤ (t241 : Int) := dU
            have q42 : (t241 : Int) < ((t242.length : Int) : Int) := dU
            obtain ⟨go42, co42, eo42, gb42, gl42, cl42, HG42⟩ := Kd.R_form HO_7.out (by omega)
            (first | cases eo42 | (injection eo42 with ea_ en_ ec_; (first | subst ea_ | (injection ea_ with ea_; subst ea_)); subst ec_; clear en_))
            have GB42 := am gb42
            have GG42 := am HG42
            clear gb42 gl42 HG42
            obtain ⟨ce42, hcl42, hM42, hcc42, hfr42⟩ := Kd.R_elem HO_7.out z59 (t241 : Int) p42 q42
            obtain rfl := k59_openM hM42
            have hx42_0 : wc.cell? ⟨go42, (t241 : Int).toNat * 5, none⟩ = some (.int .i64 ((rd_T59 t242 t241).f0)) := hcc42 0 _ rfl
            have hx42_1 : wc.cell? ⟨go42, (t241 : Int).toNat * 5 + 1, none⟩ = some (.int .i64 ((rd_T59 t242 t241).f1)) := hcc42 1 _ rfl
            have hx42_2 : wc.cell? ⟨go42, (t241 : Int).toNat * 5 + 2, none⟩ = some (.int .i64 ((rd_T59 t242 t241).f2)) := hcc42 2 _ rfl
            have hx42_3 : wc.cell? ⟨go42, (t241 : Int).toNat * 5 + 3, none⟩ = some (.int .i64 ((rd_T59 t242 t241).f3)) := hcc42 3 _ rfl
            have hx42_4 : wc.cell? ⟨go42, (t241 : Int).toNat * 5 + 4, none⟩ = some (.int .i64 ((rd_T59 t242 t241).f4)) := hcc42 4 _ rfl
            have hf42_0 : wc.frozen? ⟨go42, (t241 : Int).toNat * 5, none⟩ = false := hfr42 0
            have hf42_1 : wc.frozen? ⟨go42, (t241 : Int).toNat * 5 + 1, none⟩ = false := hfr42 1
            have hf42_2 : wc.frozen? ⟨go42, (t241 : Int).toNat * 5 + 2, none⟩ = false := hfr42 2
            have hf42_3 : wc.frozen? ⟨go42, (t241 : Int).toNat * 5 + 3, none⟩ = false := hfr42 3
            have hf42_4 : wc.frozen? ⟨go42, (t241 : Int).toNat * 5 + 4, none⟩ = false := hfr42 4
            clear hcl42 hcc42 hfr42 hM42
            replace p42 := eq_true p42
            replace q42 := eq_true q42
            have HX45 := am (show Kd.R k59 59 wc w.heap.size (fun _ => True) (.slice (some ⟨go42, 0, none⟩) t242.length co42) t242 from (rU HO_7.out))
            obtain ⟨ce45, hcl45, hM45, hcc45, hfr45⟩ := Kd.R_elem HX45.out z59 (t241 : Int) (dU) (by have h_ : (t241 : Int) < ((t242.length : Int) : Int) := dU; first | exact h_ | (have e_ := (Kd.R_reads' HO_7.out).1; omega) | simpa using h_)
            obtain rfl := k59_openM hM45
            have HP45 := Kd.R_seg HX45.out (t241 : Int) (dU) (by have h_ : (t241 : Int) < ((t242.length : Int) : Int) := dU; first | exact h_ | (have e_ := (Kd.R_reads' HO_7.out).1; omega) | simpa using h_) (seg := [.int .i64 a1_4]) (j := 3) hcl45 hcc45 (show 4 ≤ 5 from by decide) (x' := (⟨(rd_T59 t242 t241).f0, (rd_T59 t242 t241).f1, (rd_T59 t242 t241).f2, a1_4, (rd_T59 t242 t241).f4⟩ : S59)) (k59_mkM _ _ _ (⟨(rd_T59 t242 t241).f0, (rd_T59 t242 t241).f1, (rd_T59 t242 t241).f2, a1_4, (rd_T59 t242 t241).f4⟩ : S59) ) (fun _ hk => hk)
            have hx45_3 := hcc45 3 _ rfl
            (try simp only [show (k59).sz = 5 from rfl, Nat.mul_one, Nat.add_zero] at hx45_3)
            have hf45_3 := hfr45 3
            (try simp only [show (k59).sz = 5 from rfl, Nat.mul_one, Nat.add_zero] at hf45_3)
            clear hcl45 hcc45 hfr45 hM45
            go_wp2_with (first | ((with_reducible refine gate_store (t := 3) (p := 81) rfl ?_); refine store_event (t := 3) (p := 81) (v := ?vo_w46) (w1 := (wc.setCell ⟨go42, (t241 : Int).toNat * 5 + 3, none⟩ (.int .i64 a1_4))) ?hg ?ho ?hn ?hr ?_; (case ho => rfl); (case hg => rfl); (case hn => rfl); (case hr => first | (go_simp; done) | (go_simp; rfl)); intro w46 hw; have hg : wc.grownBy w46 (some go42) := (by rw [hw]; exact HP45.2); have hp_ : Kd.R k59 59 w46 w.heap.size (fun _ => True) (.slice (some ⟨go42, 0, none⟩) t242.length co42) y254 := (by rw [hw, Ny254.out]; exact HP45.1); clear HP45; have n0_ := am (hp_); have n1_ := am (kG BK235.out hg (Kd.R_ne HO_7.out BK235.out (by decide))); have n2_ := am ((by rw [hw]; exact below_set (HB.out) GB42.out : Below w.heap.size w w46)); clear HO_7; clear BK235; clear HB; have HO_7 := n0_; have BK235 := n1_; have HB := n2_; clear n0_ n1_ n2_; clear hg hw hp_; obtain ⟨hcz47_0, hcz47_1, hcz47_2, hcz47_3, hcz47_4, hcz47_5⟩ := bc6 BK235.out; obtain ⟨hfz47_0, hfz47_1, hfz47_2, hfz47_3, hfz47_4, hfz47_5⟩ := bf6 BK235.out; have p43 : 0 ≤ (t241 : Int) := dU; have q43 : (t241 : Int) < ((t242.length : Int) : Int) := dU; obtain ⟨ce43, hcl43, hM43, hcc43, hfr43⟩ := Kd.R_elem HO_7.out z59 (t241 : Int) p43 q43; obtain rfl := k59_openM hM43; have hx43_0 : w46.cell? ⟨go42, (t241 : Int).toNat * 5, none⟩ = some (.int .i64 ((rd_T59 y254 t241).f0)) := hcc43 0 _ rfl; have hx43_1 : w46.cell? ⟨go42, (t241 : Int).toNat * 5 + 1, none⟩ = some (.int .i64 ((rd_T59 y254 t241).f1)) := hcc43 1 _ rfl; have hx43_2 : w46.cell? ⟨go42, (t241 : Int).toNat * 5 + 2, none⟩ = some (.int .i64 ((rd_T59 y254 t241).f2)) := hcc43 2 _ rfl; have hx43_3 : w46.cell? ⟨go42, (t241 : Int).toNat * 5 + 3, none⟩ = some (.int .i64 ((rd_T59 y254 t241).f3)) := hcc43 3 _ rfl; have hx43_4 : w46.cell? ⟨go42, (t241 : Int).toNat * 5 + 4, none⟩ = some (.int .i64 ((rd_T59 y254 t241).f4)) := hcc43 4 _ rfl; have hf43_0 : w46.frozen? ⟨go42, (t241 : Int).toNat * 5, none⟩ = false := hfr43 0; have hf43_1 : w46.frozen? ⟨go42, (t241 : Int).toNat * 5 + 1, none⟩ = false := hfr43 1; have hf43_2 : w46.frozen? ⟨go42, (t241 : Int).toNat * 5 + 2, none⟩ = false := hfr43 2; have hf43_3 : w46.frozen? ⟨go42, (t241 : Int).toNat * 5 + 3, none⟩ = false := hfr43 3; have hf43_4 : w46.frozen? ⟨go42, (t241 : Int).toNat * 5 + 4, none⟩ = false := hfr43 4; clear hcl43 hcc43 hfr43 hM43; replace p43 := eq_true p43; replace q43 := eq_true q43; have HX48 := am (show Kd.R k59 59 w46 w.heap.size (fun _ => True) (.slice (some ⟨go42, 0, none⟩) t242.length co42) y254 from (rU HO_7.out)); obtain ⟨ce48, hcl48, hM48, hcc48, hfr48⟩ := Kd.R_elem HX48.out z59 (t241 : Int) (dU) (by have h_ : (t241 : Int) < ((t242.length : Int) : Int) := dU; first | exact h_ | (have e_ := (Kd.R_reads' HO_7.out).1; omega) | simpa using h_); obtain rfl := k59_openM hM48; have HP48 := Kd.R_seg HX48.out (t241 : Int) (dU) (by have h_ : (t241 : Int) < ((t242.length : Int) : Int) := dU; first | exact h_ | (have e_ := (Kd.R_reads' HO_7.out).1; omega) | simpa using h_) (seg := [.int .i64 a1_5]) (j := 4) hcl48 hcc48 (show 5 ≤ 5 from by decide) (x' := (⟨(rd_T59 y254 t241).f0, (rd_T59 y254 t241).f1, (rd_T59 y254 t241).f2, (rd_T59 y254 t241).f3, a1_5⟩ : S59)) (k59_mkM _ _ _ (⟨(rd_T59 y254 t241).f0, (rd_T59 y254 t241).f1, (rd_T59 y254 t241).f2, (rd_T59 y254 t241).f3, a1_5⟩ : S59) ) (fun _ hk => hk); have hx48_4 := hcc48 4 _ rfl; (try simp only [show (k59).sz = 5 from rfl, Nat.mul_one, Nat.add_zero] at hx48_4); have hf48_4 := hfr48 4; (try simp only [show (k59).sz = 5 from rfl, Nat.mul_one, Nat.add_zero] at hf48_4); clear hcl48 hcc48 hfr48 hM48) | ((with_reducible refine gate_store (t := 3) (p := 87) rfl ?_); refine store_event (t := 3) (p := 87) (v := ?vo_w49) (w1 := (w46.setCell ⟨go42, (t241 : Int).toNat * 5 + 4, none⟩ (.int .i64 a1_5))) ?hg ?ho ?hn ?hr ?_; (case ho => rfl); (case hg => rfl); (case hn => rfl); (case hr => first | (go_simp; done) | (go_simp; rfl)); intro w49 hw; have hg : w46.grownBy w49 (some go42) := (by rw [hw]; exact HP48.2); have hp_ : Kd.R k59 59 w49 w.heap.size (fun _ => True) (.slice (some ⟨go42, 0, none⟩) t242.length co42) y255 := (by rw [hw, Ny255.out]; exact HP48.1); clear HP48; have n0_ := am (hp_); have n1_ := am (kG BK235.out hg (Kd.R_ne HO_7.out BK235.out (by decide))); have n2_ := am ((by rw [hw]; exact below_set (HB.out) GB42.out : Below w.heap.size w w49)); clear HO_7; clear BK235; clear HB; have HO_7 := n0_; have BK235 := n1_; have HB := n2_; clear n0_ n1_ n2_; clear hg hw hp_))
            go_ret2
            exact ⟨_, eU, rU HO_7.out, bS HB.out GE235.out⟩
           ·rw [if_neg c41] at H
            exact absurd H (by simp)
          ·rw [if_neg c40] at H
           exact absurd H (by simp)
         ·rw [if_neg c39] at H
          have c39b0 : (a1_0 == 3) = false := beq_eq_false_iff_ne.mpr c39
          have c39b1 : (a1_0 != 3) = true := bne_iff_ne.mpr c39
          by_cases c50 : 0 ≤ t241
          ·rw [if_pos c50] at H
           have c50b0 : decide (0 ≤ t241) = true := decide_eq_true c50
           clear c50
           by_cases c51 : t241 < (t242.length : Int)
           ·rw [if_pos c51] at H
            have c51b0 : decide (t241 < (t242.length : Int)) = true := decide_eq_true c51
            clear c51
            obtain ⟨y256, hy256⟩ : ∃ y_ : List (S59), y_ = (t242.set (t241 : Int).toNat (⟨(rd_T59 t242 t241).f0, a1_2, (rd_T59 t242 t241).f2, (rd_T59 t242 t241).f3, (rd_T59 t242 t241).f4⟩ : S59)) := ⟨_, rfl⟩
            replace H : (some ((y256.set (t241 : Int).toNat (⟨(rd_T59 y256 t241).f0, (rd_T59 y256 t241).f1, (rd_T59 y256 t241).f2, (rd_T59 y256 t241).f3, a1_5⟩ : S59)), true)) = some (r1, r2) := by first | (rw [hy256]; with_reducible exact H) | (have H2_ := (Option.bind_some _ _).symm.trans H; rw [hy256]; with_reducible exact H2_) | (have H2_ := (Option.bind_some _ _).symm.trans H; with_reducible exact H2_) | with_reducible exact H | (rw [hy256]; exact H) | exact H
            have Ny256 := am hy256
            clear hy256
            obtain ⟨y257, hy257⟩ : ∃ y_ : List (S59), y_ = (y256.set (t241 : Int).toNat (⟨(rd_T59 y256 t241).f0, (rd_T59 y256 t241).f1, (rd_T59 y256 t241).f2, (rd_T59 y256 t241).f3, a1_5⟩ : S59)) := ⟨_, rfl⟩
            replace H : (some (y257, true)) = some (r1, r2) := by first | (rw [hy257]; with_reducible exact H) | (have H2_ := (Option.bind_some _ _).symm.trans H; rw [hy257]; with_reducible exact H2_) | (have H2_ := (Option.bind_some _ _).symm.trans H; with_reducible exact H2_) | with_reducible exact H | (rw [hy257]; exact H) | exact H
            have Ny257 := am hy257
            clear hy257
            simp only [Option.some.injEq, Prod.mk.injEq] at H
            obtain ⟨rfl, rfl⟩ := H
            obtain ⟨hcz54_0, hcz54_1, hcz54_2, hcz54_3, hcz54_4, hcz54_5⟩ := bc6 BK235.out
            obtain ⟨hfz54_0, hfz54_1, hfz54_2, hfz54_3, hfz54_4, hfz54_5⟩ := bf6 BK235.out
            have p52 : 0 ≤ (t241 : Int) := dU
            have q52 : (t241 : Int) < ((t242.length : Int) : Int) := dU
            obtain ⟨go52, co52, eo52, gb52, gl52, cl52, HG52⟩ := Kd.R_form HO_7.out (by omega)
            (first | cases eo52 | (injection eo52 with ea_ en_ ec_; (first | subst ea_ | (injection ea_ with ea_; subst ea_)); subst ec_; clear en_))
            have GB52 := am gb52
            have GG52 := am HG52
            clear gb52 gl52 HG52
            obtain ⟨ce52, hcl52, hM52, hcc52, hfr52⟩ := Kd.R_elem HO_7.out z59 (t241 : Int) p52 q52
            obtain rfl := k59_openM hM52
            have hx52_0 : wc.cell? ⟨go52, (t241 : Int).toNat * 5, none⟩ = some (.int .i64 ((rd_T59 t242 t241).f0)) := hcc52 0 _ rfl
            have hx52_1 : wc.cell? ⟨go52, (t241 : Int).toNat * 5 + 1, none⟩ = some (.int .i64 ((rd_T59 t242 t241).f1)) := hcc52 1 _ rfl
            have hx52_2 : wc.cell? ⟨go52, (t241 : Int).toNat * 5 + 2, none⟩ = some (.int .i64 ((rd_T59 t242 t241).f2)) := hcc52 2 _ rfl
            have hx52_3 : wc.cell? ⟨go52, (t241 : Int).toNat * 5 + 3, none⟩ = some (.int .i64 ((rd_T59 t242 t241).f3)) := hcc52 3 _ rfl
            have hx52_4 : wc.cell? ⟨go52, (t241 : Int).toNat * 5 + 4, none⟩ = some (.int .i64 ((rd_T59 t242 t241).f4)) := hcc52 4 _ rfl
            have hf52_0 : wc.frozen? ⟨go52, (t241 : Int).toNat * 5, none⟩ = false := hfr52 0
            have hf52_1 : wc.frozen? ⟨go52, (t241 : Int).toNat * 5 + 1, none⟩ = false := hfr52 1
            have hf52_2 : wc.frozen? ⟨go52, (t241 : Int).toNat * 5 + 2, none⟩ = false := hfr52 2
            have hf52_3 : wc.frozen? ⟨go52, (t241 : Int).toNat * 5 + 3, none⟩ = false := hfr52 3
            have hf52_4 : wc.frozen? ⟨go52, (t241 : Int).toNat * 5 + 4, none⟩ = false := hfr52 4
            clear hcl52 hcc52 hfr52 hM52
            replace p52 := eq_true p52
            replace q52 := eq_true q52
            have HX55 := am (show Kd.R k59 59 wc w.heap.size (fun _ => True) (.slice (some ⟨go52, 0, none⟩) t242.length co52) t242 from (rU HO_7.out))
            obtain ⟨ce55, hcl55, hM55, hcc55, hfr55⟩ := Kd.R_elem HX55.out z59 (t241 : Int) (dU) (by have h_ : (t241 : Int) < ((t242.length : Int) : Int) := dU; first | exact h_ | (have e_ := (Kd.R_reads' HO_7.out).1; omega) | simpa using h_)
            obtain rfl := k59_openM hM55
            have HP55 := Kd.R_seg HX55.out (t241 : Int) (dU) (by have h_ : (t241 : Int) < ((t242.length : Int) : Int) := dU; first | exact h_ | (have e_ := (Kd.R_reads' HO_7.out).1; omega) | simpa using h_) (seg := [.int .i64 a1_2]) (j := 1) hcl55 hcc55 (show 2 ≤ 5 from by decide) (x' := (⟨(rd_T59 t242 t241).f0, a1_2, (rd_T59 t242 t241).f2, (rd_T59 t242 t241).f3, (rd_T59 t242 t241).f4⟩ : S59)) (k59_mkM _ _ _ (⟨(rd_T59 t242 t241).f0, a1_2, (rd_T59 t242 t241).f2, (rd_T59 t242 t241).f3, (rd_T59 t242 t241).f4⟩ : S59) ) (fun _ hk => hk)
            have hx55_1 := hcc55 1 _ rfl
            (try simp only [show (k59).sz = 5 from rfl, Nat.mul_one, Nat.add_zero] at hx55_1)
            have hf55_1 := hfr55 1
            (try simp only [show (k59).sz = 5 from rfl, Nat.mul_one, Nat.add_zero] at hf55_1)
            clear hcl55 hcc55 hfr55 hM55
            go_wp2_with (first | ((with_reducible refine gate_store (t := 3) (p := 29) rfl ?_); refine store_event (t := 3) (p := 29) (v := ?vo_w56) (w1 := (wc.setCell ⟨go52, (t241 : Int).toNat * 5 + 1, none⟩ (.int .i64 a1_2))) ?hg ?ho ?hn ?hr ?_; (case ho => rfl); (case hg => rfl); (case hn => rfl); (case hr => first | (go_simp; done) | (go_simp; rfl)); intro w56 hw; have hg : wc.grownBy w56 (some go52) := (by rw [hw]; exact HP55.2); have hp_ : Kd.R k59 59 w56 w.heap.size (fun _ => True) (.slice (some ⟨go52, 0, none⟩) t242.length co52) y256 := (by rw [hw, Ny256.out]; exact HP55.1); clear HP55; have n0_ := am (hp_); have n1_ := am (kG BK235.out hg (Kd.R_ne HO_7.out BK235.out (by decide))); have n2_ := am ((by rw [hw]; exact below_set (HB.out) GB52.out : Below w.heap.size w w56)); clear HO_7; clear BK235; clear HB; have HO_7 := n0_; have BK235 := n1_; have HB := n2_; clear n0_ n1_ n2_; clear hg hw hp_; obtain ⟨hcz57_0, hcz57_1, hcz57_2, hcz57_3, hcz57_4, hcz57_5⟩ := bc6 BK235.out; obtain ⟨hfz57_0, hfz57_1, hfz57_2, hfz57_3, hfz57_4, hfz57_5⟩ := bf6 BK235.out; have p53 : 0 ≤ (t241 : Int) := dU; have q53 : (t241 : Int) < ((t242.length : Int) : Int) := dU; obtain ⟨ce53, hcl53, hM53, hcc53, hfr53⟩ := Kd.R_elem HO_7.out z59 (t241 : Int) p53 q53; obtain rfl := k59_openM hM53; have hx53_0 : w56.cell? ⟨go52, (t241 : Int).toNat * 5, none⟩ = some (.int .i64 ((rd_T59 y256 t241).f0)) := hcc53 0 _ rfl; have hx53_1 : w56.cell? ⟨go52, (t241 : Int).toNat * 5 + 1, none⟩ = some (.int .i64 ((rd_T59 y256 t241).f1)) := hcc53 1 _ rfl; have hx53_2 : w56.cell? ⟨go52, (t241 : Int).toNat * 5 + 2, none⟩ = some (.int .i64 ((rd_T59 y256 t241).f2)) := hcc53 2 _ rfl; have hx53_3 : w56.cell? ⟨go52, (t241 : Int).toNat * 5 + 3, none⟩ = some (.int .i64 ((rd_T59 y256 t241).f3)) := hcc53 3 _ rfl; have hx53_4 : w56.cell? ⟨go52, (t241 : Int).toNat * 5 + 4, none⟩ = some (.int .i64 ((rd_T59 y256 t241).f4)) := hcc53 4 _ rfl; have hf53_0 : w56.frozen? ⟨go52, (t241 : Int).toNat * 5, none⟩ = false := hfr53 0; have hf53_1 : w56.frozen? ⟨go52, (t241 : Int).toNat * 5 + 1, none⟩ = false := hfr53 1; have hf53_2 : w56.frozen? ⟨go52, (t241 : Int).toNat * 5 + 2, none⟩ = false := hfr53 2; have hf53_3 : w56.frozen? ⟨go52, (t241 : Int).toNat * 5 + 3, none⟩ = false := hfr53 3; have hf53_4 : w56.frozen? ⟨go52, (t241 : Int).toNat * 5 + 4, none⟩ = false := hfr53 4; clear hcl53 hcc53 hfr53 hM53; replace p53 := eq_true p53; replace q53 := eq_true q53; have HX58 := am (show Kd.R k59 59 w56 w.heap.size (fun _ => True) (.slice (some ⟨go52, 0, none⟩) t242.length co52) y256 from (rU HO_7.out)); obtain ⟨ce58, hcl58, hM58, hcc58, hfr58⟩ := Kd.R_elem HX58.out z59 (t241 : Int) (dU) (by have h_ : (t241 : Int) < ((t242.length : Int) : Int) := dU; first | exact h_ | (have e_ := (Kd.R_reads' HO_7.out).1; omega) | simpa using h_); obtain rfl := k59_openM hM58; have HP58 := Kd.R_seg HX58.out (t241 : Int) (dU) (by have h_ : (t241 : Int) < ((t242.length : Int) : Int) := dU; first | exact h_ | (have e_ := (Kd.R_reads' HO_7.out).1; omega) | simpa using h_) (seg := [.int .i64 a1_5]) (j := 4) hcl58 hcc58 (show 5 ≤ 5 from by decide) (x' := (⟨(rd_T59 y256 t241).f0, (rd_T59 y256 t241).f1, (rd_T59 y256 t241).f2, (rd_T59 y256 t241).f3, a1_5⟩ : S59)) (k59_mkM _ _ _ (⟨(rd_T59 y256 t241).f0, (rd_T59 y256 t241).f1, (rd_T59 y256 t241).f2, (rd_T59 y256 t241).f3, a1_5⟩ : S59) ) (fun _ hk => hk); have hx58_4 := hcc58 4 _ rfl; (try simp only [show (k59).sz = 5 from rfl, Nat.mul_one, Nat.add_zero] at hx58_4); have hf58_4 := hfr58 4; (try simp only [show (k59).sz = 5 from rfl, Nat.mul_one, Nat.add_zero] at hf58_4); clear hcl58 hcc58 hfr58 hM58) | ((with_reducible refine gate_store (t := 3) (p := 87) rfl ?_); refine store_event (t := 3) (p := 87) (v := ?vo_w59) (w1 := (w56.setCell ⟨go52, (t241 : Int).toNat * 5 + 4, none⟩ (.int .i64 a1_5))) ?hg ?ho ?hn ?hr ?_; (case ho => rfl); (case hg => rfl); (case hn => rfl); (case hr => first | (go_simp; done) | (go_simp; rfl)); intro w59 hw; have hg : w56.grownBy w59 (some go52) := (by rw [hw]; exact HP58.2); have hp_ : Kd.R k59 59 w59 w.heap.size (fun _ => True) (.slice (some ⟨go52, 0, none⟩) t242.length co52) y257 := (by rw [hw, Ny257.out]; exact HP58.1); clear HP58; have n0_ := am (hp_); have n1_ := am (kG BK235.out hg (Kd.R_ne HO_7.out BK235.out (by decide))); have n2_ := am ((by rw [hw]; exact below_set (HB.out) GB52.out : Below w.heap.size w w59)); clear HO_7; clear BK235; clear HB; have HO_7 := n0_; have BK235 := n1_; have HB := n2_; clear n0_ n1_ n2_; clear hg hw hp_))
            go_ret2
            exact ⟨_, eU, rU HO_7.out, bS HB.out GE235.out⟩
           ·rw [if_neg c51] at H
            exact absurd H (by simp)
          ·rw [if_neg c50] at H
           exact absurd H (by simp)
def spec_l7Has.l0 : Nat → List Int → Int → Int → Option (Bool)
 | 0, _, _, _ => none
 | k + 1, x0, x1, x5 => if x5 < (x0.length : Int) then (if 0 ≤ x5 then (if (rd x0 x5) = x1 then (some true) else (spec_l7Has.l0 k x0 x1 (wrap64 (x5 + 1)))) else (none)) else (some false)
def spec_l7Has.f (k : Nat) (l0 : List Int) (a1 : Int) : Option (Bool) := spec_l7Has.l0 k l0 a1 0
theorem spec_l7Has.mono_l : ∀ k, (∀ y0 y1 y2, LeO (spec_l7Has.l0 k y0 y1 y2) (spec_l7Has.l0 (k + 1) y0 y1 y2))
 | 0 => fun _ _ _ r h => by simp [spec_l7Has.l0] at h
 | k + 1 => by
  have ih0 := spec_l7Has.mono_l k
  ·intro y0 y1 y2
   unfold spec_l7Has.l0
   repeat' first
   | (with_reducible exact ih0 _ _ _)
   | (with_reducible exact LeO.refl _)
   | (with_reducible exact LeO.none _)
   | (with_reducible refine LeO.ite ?_ ?_)
   | (with_reducible refine LeO.bind ?_ (fun _ => ?_))
   | exact ih0 _ _ _
   | exact LeO.none _
   | refine LeO.ite ?_ ?_
   | refine LeO.bind ?_ (fun _ => ?_)
theorem spec_l7Has.mono : ∀ a0 a1 k, LeO (spec_l7Has.f k a0 a1) (spec_l7Has.f (k + 1) a0 a1) := by
 intro a0 a1 k
 have ih0 := spec_l7Has.mono_l k
 unfold spec_l7Has.f
 repeat' first
   | (with_reducible exact ih0 _ _ _)
   | (with_reducible exact LeO.refl _)
   | (with_reducible exact LeO.none _)
   | (with_reducible refine LeO.ite ?_ ?_)
   | (with_reducible refine LeO.bind ?_ (fun _ => ?_))
   | exact ih0 _ _ _
   | exact LeO.none _
   | refine LeO.ite ?_ ?_
   | refine LeO.bind ?_ (fun _ => ?_)
set_option maxHeartbeats 8000000 in
set_option maxRecDepth 100000 in
theorem spec_l7Has.calls (k : Nat) (A0 : Option Addr) (c0 : Nat) (l0 : List Int) (a1 : Int) (r : Bool) (w : World) (hr0 : Kd.C (Kd.int .i64) w A0 l0.length l0) (hc0 : l0.length ≤ c0) (h : spec_l7Has.f k l0 a1 = some r) :
  Calls Try.prog 113 #[.slice A0 l0.length c0, .int .i64 a1] w fun e w' => e = .returned (.bool r) ∧ Drawn0 w w' := by
 have HR0 := am hr0
 have HC0 := am hc0
 clear hr0 hc0
 have H : (spec_l7Has.l0 k l0 a1 0) = some r := h
 clear h
 have H' := am H
 clear H
 go_enter Try.func113, Try.ntmps113
 go_wp2
 go_loopg [5] k (fun kq v5 w' => ∃ (x5_1 : Int), v5 = .int .i64 x5_1 ∧ Aside0 (spec_l7Has.l0 kq l0 a1 x5_1 = some r) ∧ Aside0 (kq ≤ k) ∧ Drawn0 w w')
 case atStart => exact ⟨(0), (by first | rfl | (simp; done) | (simp [*]; done)), H', ⟨Nat.le_refl _⟩, by repeat (first | exact Drawn0.refl _ | apply Drawn0.step)⟩
 case round =>
  clear H'
  try clear c1
  try clear p2
  obtain ⟨x5_1, rfl, HA, HK1, ⟨m1, rfl⟩⟩ := hrel
  cases gk with
  | zero => exact absurd HA.out (by simp [spec_l7Has.l0])
  | succ k1 =>
   have H := HA.out
   clear HA
   simp only [spec_l7Has.l0] at H
   by_cases c3 : x5_1 < (l0.length : Int)
   ·rw [if_pos c3] at H
    have c3b0 : decide (x5_1 < (l0.length : Int)) = true := decide_eq_true c3
    clear c3
    by_cases c4 : 0 ≤ x5_1
    ·rw [if_pos c4] at H
     have c4b0 : decide (0 ≤ x5_1) = true := decide_eq_true c4
     clear c4
     by_cases c5 : (rd l0 x5_1) = a1
     ·rw [if_pos c5] at H
      have c5b0 : ((rd l0 x5_1) == a1) = true := beq_iff_eq.mpr c5
      have c5b1 : ((rd l0 x5_1) != a1) = false := bne_eq_false_iff_eq.mpr c5
      clear c5
      obtain rfl := Option.some.inj H
      have p258 : 0 ≤ (x5_1 : Int) := dU
      have q258 : x5_1 < (l0.length : Int) := dU
      obtain ⟨ad258, e258, hx258_0⟩ := Kd.at_int HR0.out x5_1 p258 q258
      cases e258
      replace p258 := eq_true p258
      replace q258 := eq_true q258
      go_wp2
      go_ret
      exact ⟨by first | rfl | (simp; done) | (simp [*]; done), by repeat (first | exact Drawn0.refl _ | apply Drawn0.step)⟩
     ·rw [if_neg c5] at H
      have c5b0 : ((rd l0 x5_1) == a1) = false := beq_eq_false_iff_ne.mpr c5
      have c5b1 : ((rd l0 x5_1) != a1) = true := bne_iff_ne.mpr c5
      have H' := am H
      clear H
      have p258 : 0 ≤ (x5_1 : Int) := dU
      have q258 : x5_1 < (l0.length : Int) := dU
      obtain ⟨ad258, e258, hx258_0⟩ := Kd.at_int HR0.out x5_1 p258 q258
      cases e258
      replace p258 := eq_true p258
      replace q258 := eq_true q258
      go_wp2
      go_roundg k1
      case measure => have := HK1.out; omega
      case rel => exact ⟨(wrap64 (x5_1 + 1)), (by first | rfl | (simp; done) | (simp [*]; done)), H', ⟨by have := HK1.out; omega⟩, by repeat (first | exact Drawn0.refl _ | apply Drawn0.step)⟩
    ·rw [if_neg c4] at H
     exact absurd H (by simp)
   ·rw [if_neg c3] at H
    have c3b0 : decide (x5_1 < (l0.length : Int)) = false := decide_eq_false c3
    clear c3
    obtain rfl := Option.some.inj H
    go_wp2
    go_ret
    exact ⟨by first | rfl | (simp; done) | (simp [*]; done), by repeat (first | exact Drawn0.refl _ | apply Drawn0.step)⟩
end Go.Proofs.Ytiiibfpijmmbfaa.QFnExactEditByHandle
