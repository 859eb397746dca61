import Derived.Test.YtefppmgcenfemaaDoorUp
import Derived.Test.YtefppmgcenfemaaDoorQFnEditsx0
import Derived.Test.YtefppmgcenfemaaDoorQFnEditsx2
import Derived.Test.YtefppmgcenfemaaDoorQFnEditsx3
import Derived.Test.YtefppmgcenfemaaDoorQFnEditsx4
import Derived.Test.YtefppmgcenfemaaDoorQFnEditsx7
namespace Go.Proofs.YtefppmgcenfemaaDoor.QFnEdits
open Go.RowKit Go.Proofs.YtefppmgcenfemaaDoorW.PrintWords Go.Proofs.YtefppmgcenfemaaDoorW.PrintLast Go.Proofs.YtefppmgcenfemaaDoorW.PrintMore
attribute [local go_sem] max2_int min2_int max_two min_two max_three min_three max_four min_four
set_option linter.unusedVariables false
set_option linter.unusedSimpArgs false
mutual
def impl_ApplyEdit.j0 : Nat → List (S34) → List (S34) → Bool → Int → Int → Int → Int → Int → Int → Option ((List (S34)) × Bool)
 | 0, _, _, _, _, _, _, _, _, _ => none
 | k + 1, x0, x6, x21, x325000, x325001, x325002, x325003, x325004, x325005 => if x21 = true then (some (x6, false)) else ((impl_NodeOf.f k x0 x325001).bind fun t330 => (if x325000 = 1 then (if t330 ≥ 0 then (impl_ApplyEdit.j1 k x0 x6 true x325000 x325001 x325002 x325003 x325004 x325005) else ((impl_NodeOf.f k x0 x325002).bind fun t331 => (if t331 < 0 then (impl_ApplyEdit.j1 k x0 x6 true x325000 x325001 x325002 x325003 x325004 x325005) else (if x325002 > x325001 then (impl_ApplyEdit.j1 k x0 x6 true x325000 x325001 x325002 x325003 x325004 x325005) else (impl_ApplyEdit.j1 k x0 x6 (decide ((x0.length : Int) ≥ 16)) x325000 x325001 x325002 x325003 x325004 x325005))))) else (if x325000 = 2 then (if t330 < 0 then (some (x6, false)) else (impl_ApplyEdit.l1 k x0 (([] : List (S34))) x0 (x0.length : Int) 0 x325000 x325001 x325002 x325003 x325004 x325005)) else (if x325000 = 3 then (if t330 < 0 then (some (x6, false)) else (if 0 ≤ t330 then (if t330 < (x6.length : Int) then ((some (x6.set (t330 : Int).toNat (⟨(rd_T34 x6 t330).f0, (rd_T34 x6 t330).f1, (rd_T34 x6 t330).f2, x325004, (rd_T34 x6 t330).f4⟩ : S34) : List (S34))).bind fun y348 => (some ((y348.set (t330 : Int).toNat (⟨(rd_T34 y348 t330).f0, (rd_T34 y348 t330).f1, (rd_T34 y348 t330).f2, (rd_T34 y348 t330).f3, x325005⟩ : S34)), true))) else (none)) else (none))) else (if t330 < 0 then (some (x6, false)) else ((impl_NodeOf.f k x0 x325002).bind fun t350 => (if t350 < 0 then (some (x6, false)) else (if x325002 ≥ x325001 then (some (x6, false)) else (if 0 ≤ t330 then (if t330 < (x6.length : Int) then ((some (x6.set (t330 : Int).toNat (⟨(rd_T34 x6 t330).f0, x325002, (rd_T34 x6 t330).f2, (rd_T34 x6 t330).f3, (rd_T34 x6 t330).f4⟩ : S34) : List (S34))).bind fun y351 => (some ((y351.set (t330 : Int).toNat (⟨(rd_T34 y351 t330).f0, (rd_T34 y351 t330).f1, (rd_T34 y351 t330).f2, (rd_T34 y351 t330).f3, x325005⟩ : S34)), true))) else (none)) else (none))))))))))
def impl_ApplyEdit.j1 : Nat → List (S34) → List (S34) → Bool → Int → Int → Int → Int → Int → Int → Option ((List (S34)) × Bool)
 | 0, _, _, _, _, _, _, _, _, _ => none
 | k + 1, x0, x6, x51, x325000, x325001, x325002, x325003, x325004, x325005 => if x51 = true then (some (x6, false)) else (impl_ApplyEdit.l0 k x0 x6 0 x325000 x325001 x325002 x325003 x325004 x325005)
def impl_ApplyEdit.j3 : Nat → List (S34) → Int → Int → Int → Int → Int → Int → Int → Option ((List (S34)) × Bool)
 | 0, _, _, _, _, _, _, _, _ => none
 | k + 1, x6, x8, x325000, x325001, x325002, x325003, x325004, x325005 => (impl_Node_36.f x6 x8 (([(⟨x325001, x325002, x325003, x325004, x325005⟩ : S34)] : List (S34)))).bind fun t336 => (some (t336, true))
def impl_ApplyEdit.l0 : Nat → List (S34) → List (S34) → Int → Int → Int → Int → Int → Int → Int → Option ((List (S34)) × Bool)
 | 0, _, _, _, _, _, _, _, _, _ => none
 | k + 1, x0, x6, x8, x325000, x325001, x325002, x325003, x325004, x325005 => if x8 < (x0.length : Int) then (if 0 ≤ x8 then (if ((rd_T34 x0 x8).f0) < x325001 then (impl_ApplyEdit.l0 k x0 x6 (wrap64 (x8 + 1)) x325000 x325001 x325002 x325003 x325004 x325005) else (impl_ApplyEdit.j3 k x6 x8 x325000 x325001 x325002 x325003 x325004 x325005)) else (none)) else (impl_ApplyEdit.j3 k x6 x8 x325000 x325001 x325002 x325003 x325004 x325005)
def impl_ApplyEdit.l1 : Nat → List (S34) → List (S34) → List (S34) → Int → Int → Int → Int → Int → Int → Int → Int → Option ((List (S34)) × Bool)
 | 0, _, _, _, _, _, _, _, _, _, _, _ => none
 | k + 1, x0, x9, x90, x91, x92, x325000, x325001, x325002, x325003, x325004, x325005 => if x92 < x91 then (if 0 ≤ x92 then (if x92 < (x90.length : Int) then ((impl_above.f k x0 ((rd_T34 x90 x92).f0) x325001).bind fun t344 => (if t344 = true then (impl_ApplyEdit.l1 k x0 x9 x90 x91 (wrap64 (x92 + 1)) x325000 x325001 x325002 x325003 x325004 x325005) else (if x9.length < 3518437208883 then (impl_ApplyEdit.l1 k x0 (x9 ++ [(⟨(rd_T34 x90 x92).f0, (rd_T34 x90 x92).f1, (rd_T34 x90 x92).f2, (rd_T34 x90 x92).f3, (rd_T34 x90 x92).f4⟩ : S34)]) x90 x91 (wrap64 (x92 + 1)) x325000 x325001 x325002 x325003 x325004 x325005) else (none)))) else (none)) else (none)) else (some (x9, true))
end
def impl_ApplyEdit.f (k : Nat) (l0 : List (S34)) (a1_0 : Int) (a1_1 : Int) (a1_2 : Int) (a1_3 : Int) (a1_4 : Int) (a1_5 : Int) : Option ((List (S34)) × Bool) := (impl_Node_35.f l0).bind fun t325 => ((impl_IsDocument.f k l0).bind fun t328 => (if t328 = true then ((impl_IsEdit.f a1_0 a1_1 a1_2 a1_3 a1_4 a1_5).bind fun t329 => (impl_ApplyEdit.j0 k l0 t325 (!t329) a1_0 a1_1 a1_2 a1_3 a1_4 a1_5)) else (impl_ApplyEdit.j0 k l0 t325 true a1_0 a1_1 a1_2 a1_3 a1_4 a1_5)))
theorem impl_ApplyEdit.mono_l : ∀ k, (∀ y0 y1 y2 y3 y4 y5 y6 y7 y8, LeO (impl_ApplyEdit.j0 k y0 y1 y2 y3 y4 y5 y6 y7 y8) (impl_ApplyEdit.j0 (k + 1) y0 y1 y2 y3 y4 y5 y6 y7 y8)) ∧ (∀ y0 y1 y2 y3 y4 y5 y6 y7 y8, LeO (impl_ApplyEdit.j1 k y0 y1 y2 y3 y4 y5 y6 y7 y8) (impl_ApplyEdit.j1 (k + 1) y0 y1 y2 y3 y4 y5 y6 y7 y8)) ∧ (∀ y0 y1 y2 y3 y4 y5 y6 y7, LeO (impl_ApplyEdit.j3 k y0 y1 y2 y3 y4 y5 y6 y7) (impl_ApplyEdit.j3 (k + 1) y0 y1 y2 y3 y4 y5 y6 y7)) ∧ (∀ y0 y1 y2 y3 y4 y5 y6 y7 y8, LeO (impl_ApplyEdit.l0 k y0 y1 y2 y3 y4 y5 y6 y7 y8) (impl_ApplyEdit.l0 (k + 1) y0 y1 y2 y3 y4 y5 y6 y7 y8)) ∧ (∀ y0 y1 y2 y3 y4 y5 y6 y7 y8 y9 y10, LeO (impl_ApplyEdit.l1 k y0 y1 y2 y3 y4 y5 y6 y7 y8 y9 y10) (impl_ApplyEdit.l1 (k + 1) y0 y1 y2 y3 y4 y5 y6 y7 y8 y9 y10))
 | 0 => ⟨fun _ _ _ _ _ _ _ _ _ r h => by simp [impl_ApplyEdit.j0] at h, fun _ _ _ _ _ _ _ _ _ r h => by simp [impl_ApplyEdit.j1] at h, fun _ _ _ _ _ _ _ _ r h => by simp [impl_ApplyEdit.j3] at h, fun _ _ _ _ _ _ _ _ _ r h => by simp [impl_ApplyEdit.l0] at h, fun _ _ _ _ _ _ _ _ _ _ _ r h => by simp [impl_ApplyEdit.l1] at h⟩
 | k + 1 => by
  obtain ⟨ih0, ih1, ih2, ih3, ih4⟩ := impl_ApplyEdit.mono_l k
  refine ⟨?_, ?_, ?_, ?_, ?_⟩
  ·intro y0 y1 y2 y3 y4 y5 y6 y7 y8
   unfold impl_ApplyEdit.j0
   repeat' first
   | (with_reducible exact ih0 _ _ _ _ _ _ _ _ _)
   | (with_reducible exact ih1 _ _ _ _ _ _ _ _ _)
   | (with_reducible exact ih2 _ _ _ _ _ _ _ _)
   | (with_reducible exact ih3 _ _ _ _ _ _ _ _ _)
   | (with_reducible exact ih4 _ _ _ _ _ _ _ _ _ _ _)
   | (with_reducible exact impl_IsDocument.mono _ _)
   | (with_reducible exact impl_NodeOf.mono _ _ _)
   | (with_reducible exact impl_above.mono _ _ _ _)
   | (with_reducible exact LeO.refl _)
   | (with_reducible exact LeO.none _)
   | (with_reducible refine LeO.ite ?_ ?_)
   | (with_reducible refine LeO.bind ?_ (fun _ => ?_))
   | exact ih0 _ _ _ _ _ _ _ _ _
   | exact ih1 _ _ _ _ _ _ _ _ _
   | exact ih2 _ _ _ _ _ _ _ _
   | exact ih3 _ _ _ _ _ _ _ _ _
   | exact ih4 _ _ _ _ _ _ _ _ _ _ _
   | exact impl_IsDocument.mono _ _
   | exact impl_NodeOf.mono _ _ _
   | exact impl_above.mono _ _ _ _
   | exact LeO.none _
   | refine LeO.ite ?_ ?_
   | refine LeO.bind ?_ (fun _ => ?_)
  ·intro y0 y1 y2 y3 y4 y5 y6 y7 y8
   unfold impl_ApplyEdit.j1
   repeat' first
   | (with_reducible exact ih0 _ _ _ _ _ _ _ _ _)
   | (with_reducible exact ih1 _ _ _ _ _ _ _ _ _)
   | (with_reducible exact ih2 _ _ _ _ _ _ _ _)
   | (with_reducible exact ih3 _ _ _ _ _ _ _ _ _)
   | (with_reducible exact ih4 _ _ _ _ _ _ _ _ _ _ _)
   | (with_reducible exact impl_IsDocument.mono _ _)
   | (with_reducible exact impl_NodeOf.mono _ _ _)
   | (with_reducible exact impl_above.mono _ _ _ _)
   | (with_reducible exact LeO.refl _)
   | (with_reducible exact LeO.none _)
   | (with_reducible refine LeO.ite ?_ ?_)
   | (with_reducible refine LeO.bind ?_ (fun _ => ?_))
   | exact ih0 _ _ _ _ _ _ _ _ _
   | exact ih1 _ _ _ _ _ _ _ _ _
   | exact ih2 _ _ _ _ _ _ _ _
   | exact ih3 _ _ _ _ _ _ _ _ _
   | exact ih4 _ _ _ _ _ _ _ _ _ _ _
   | exact impl_IsDocument.mono _ _
   | exact impl_NodeOf.mono _ _ _
   | exact impl_above.mono _ _ _ _
   | exact LeO.none _
   | refine LeO.ite ?_ ?_
   | refine LeO.bind ?_ (fun _ => ?_)
  ·intro y0 y1 y2 y3 y4 y5 y6 y7
   unfold impl_ApplyEdit.j3
   repeat' first
   | (with_reducible exact ih0 _ _ _ _ _ _ _ _ _)
   | (with_reducible exact ih1 _ _ _ _ _ _ _ _ _)
   | (with_reducible exact ih2 _ _ _ _ _ _ _ _)
   | (with_reducible exact ih3 _ _ _ _ _ _ _ _ _)
   | (with_reducible exact ih4 _ _ _ _ _ _ _ _ _ _ _)
   | (with_reducible exact impl_IsDocument.mono _ _)
   | (with_reducible exact impl_NodeOf.mono _ _ _)
   | (with_reducible exact impl_above.mono _ _ _ _)
   | (with_reducible exact LeO.refl _)
   | (with_reducible exact LeO.none _)
   | (with_reducible refine LeO.ite ?_ ?_)
   | (with_reducible refine LeO.bind ?_ (fun _ => ?_))
   | exact ih0 _ _ _ _ _ _ _ _ _
   | exact ih1 _ _ _ _ _ _ _ _ _
   | exact ih2 _ _ _ _ _ _ _ _
   | exact ih3 _ _ _ _ _ _ _ _ _
   | exact ih4 _ _ _ _ _ _ _ _ _ _ _
   | exact impl_IsDocument.mono _ _
   | exact impl_NodeOf.mono _ _ _
   | exact impl_above.mono _ _ _ _
   | exact LeO.none _
   | refine LeO.ite ?_ ?_
   | refine LeO.bind ?_ (fun _ => ?_)
  ·intro y0 y1 y2 y3 y4 y5 y6 y7 y8
   unfold impl_ApplyEdit.l0
   repeat' first
   | (with_reducible exact ih0 _ _ _ _ _ _ _ _ _)
   | (with_reducible exact ih1 _ _ _ _ _ _ _ _ _)
   | (with_reducible exact ih2 _ _ _ _ _ _ _ _)
   | (with_reducible exact ih3 _ _ _ _ _ _ _ _ _)
   | (with_reducible exact ih4 _ _ _ _ _ _ _ _ _ _ _)
   | (with_reducible exact impl_IsDocument.mono _ _)
   | (with_reducible exact impl_NodeOf.mono _ _ _)
   | (with_reducible exact impl_above.mono _ _ _ _)
   | (with_reducible exact LeO.refl _)
   | (with_reducible exact LeO.none _)
   | (with_reducible refine LeO.ite ?_ ?_)
   | (with_reducible refine LeO.bind ?_ (fun _ => ?_))
   | exact ih0 _ _ _ _ _ _ _ _ _
   | exact ih1 _ _ _ _ _ _ _ _ _
   | exact ih2 _ _ _ _ _ _ _ _
   | exact ih3 _ _ _ _ _ _ _ _ _
   | exact ih4 _ _ _ _ _ _ _ _ _ _ _
   | exact impl_IsDocument.mono _ _
   | exact impl_NodeOf.mono _ _ _
   | exact impl_above.mono _ _ _ _
   | exact LeO.none _
   | refine LeO.ite ?_ ?_
   | refine LeO.bind ?_ (fun _ => ?_)
  ·intro y0 y1 y2 y3 y4 y5 y6 y7 y8 y9 y10
   unfold impl_ApplyEdit.l1
   repeat' first
   | (with_reducible exact ih0 _ _ _ _ _ _ _ _ _)
   | (with_reducible exact ih1 _ _ _ _ _ _ _ _ _)
   | (with_reducible exact ih2 _ _ _ _ _ _ _ _)
   | (with_reducible exact ih3 _ _ _ _ _ _ _ _ _)
   | (with_reducible exact ih4 _ _ _ _ _ _ _ _ _ _ _)
   | (with_reducible exact impl_IsDocument.mono _ _)
   | (with_reducible exact impl_NodeOf.mono _ _ _)
   | (with_reducible exact impl_above.mono _ _ _ _)
   | (with_reducible exact LeO.refl _)
   | (with_reducible exact LeO.none _)
   | (with_reducible refine LeO.ite ?_ ?_)
   | (with_reducible refine LeO.bind ?_ (fun _ => ?_))
   | exact ih0 _ _ _ _ _ _ _ _ _
   | exact ih1 _ _ _ _ _ _ _ _ _
   | exact ih2 _ _ _ _ _ _ _ _
   | exact ih3 _ _ _ _ _ _ _ _ _
   | exact ih4 _ _ _ _ _ _ _ _ _ _ _
   | exact impl_IsDocument.mono _ _
   | exact impl_NodeOf.mono _ _ _
   | exact impl_above.mono _ _ _ _
   | exact LeO.none _
   | refine LeO.ite ?_ ?_
   | refine LeO.bind ?_ (fun _ => ?_)
theorem impl_ApplyEdit.mono : ∀ a0 a1 a2 a3 a4 a5 a6 k, LeO (impl_ApplyEdit.f k a0 a1 a2 a3 a4 a5 a6) (impl_ApplyEdit.f (k + 1) a0 a1 a2 a3 a4 a5 a6) := by
 intro a0 a1 a2 a3 a4 a5 a6 k
 obtain ⟨ih0, ih1, ih2, ih3, ih4⟩ := impl_ApplyEdit.mono_l k
 unfold impl_ApplyEdit.f
 repeat' first
   | (with_reducible exact ih0 _ _ _ _ _ _ _ _ _)
   | (with_reducible exact ih1 _ _ _ _ _ _ _ _ _)
   | (with_reducible exact ih2 _ _ _ _ _ _ _ _)
   | (with_reducible exact ih3 _ _ _ _ _ _ _ _ _)
   | (with_reducible exact ih4 _ _ _ _ _ _ _ _ _ _ _)
   | (with_reducible exact impl_IsDocument.mono _ _)
   | (with_reducible exact impl_NodeOf.mono _ _ _)
   | (with_reducible exact impl_above.mono _ _ _ _)
   | (with_reducible exact LeO.refl _)
   | (with_reducible exact LeO.none _)
   | (with_reducible refine LeO.ite ?_ ?_)
   | (with_reducible refine LeO.bind ?_ (fun _ => ?_))
   | exact ih0 _ _ _ _ _ _ _ _ _
   | exact ih1 _ _ _ _ _ _ _ _ _
   | exact ih2 _ _ _ _ _ _ _ _
   | exact ih3 _ _ _ _ _ _ _ _ _
   | exact ih4 _ _ _ _ _ _ _ _ _ _ _
   | exact impl_IsDocument.mono _ _
   | exact impl_NodeOf.mono _ _ _
   | exact impl_above.mono _ _ _ _
   | exact LeO.none _
   | refine LeO.ite ?_ ?_
   | refine LeO.bind ?_ (fun _ => ?_)
set_option maxHeartbeats 8000000 in
set_option maxRecDepth 100000 in
theorem impl_ApplyEdit.calls (k : Nat) (A0 : Option Addr) (c0 : Nat) (l0 : List (S34)) (a1_0 : Int) (a1_1 : Int) (a1_2 : Int) (a1_3 : Int) (a1_4 : Int) (a1_5 : Int) (r1 : List (S34)) (r2 : Bool) (w : World) (hr0 : Kd.C k34 w A0 l0.length l0) (hc0 : l0.length ≤ c0) (h : impl_ApplyEdit.f k l0 a1_0 a1_1 a1_2 a1_3 a1_4 a1_5 = some (r1, r2)) :
  Calls Tryd.prog 17 #[.slice A0 l0.length c0, .agg #[.int .i64 a1_0, .int .i64 a1_1, .int .i64 a1_2, .int .i64 a1_3, .int .i64 a1_4, .int .i64 a1_5]] w fun e w' => ∃ v0_ : Value, e = .returned (.tuple #[v0_, .bool r2]) ∧ Kd.R k34 34 w' w.heap.size (fun _ => True) v0_ r1 ∧ Below w.heap.size w w' := by
 have hu40 := Tryd.underlying40
 have hu34 := Tryd.underlying34
 have HR0 := am hr0
 have HC0 := am hc0
 clear hr0 hc0
 have HB := am (Below.refl w.heap.size w)
 have H : ((impl_Node_35.f l0).bind fun t325 => ((impl_IsDocument.f k l0).bind fun t328 => (if t328 = true then ((impl_IsEdit.f a1_0 a1_1 a1_2 a1_3 a1_4 a1_5).bind fun t329 => (impl_ApplyEdit.j0 k l0 t325 (!t329) a1_0 a1_1 a1_2 a1_3 a1_4 a1_5)) else (impl_ApplyEdit.j0 k l0 t325 true a1_0 a1_1 a1_2 a1_3 a1_4 a1_5)))) = some (r1, r2) := h
 clear h
 replace H := Option.bind_eq_some_iff.mp H
 obtain ⟨t325, A30, H⟩ := H
 replace H : ((impl_IsDocument.f k l0).bind fun t328 => (if t328 = true then ((impl_IsEdit.f a1_0 a1_1 a1_2 a1_3 a1_4 a1_5).bind fun t329 => (impl_ApplyEdit.j0 k l0 t325 (!t329) a1_0 a1_1 a1_2 a1_3 a1_4 a1_5)) else (impl_ApplyEdit.j0 k l0 t325 true a1_0 a1_1 a1_2 a1_3 a1_4 a1_5))) = some (r1, r2) := H
 have A3 := am A30
 clear A30
 have HC4 := am H
 clear H
 go_enter Tryd.func17, Tryd.ntmps17
 go_upto_region 2 with (first | ((with_reducible refine gate_dst (N := 3) rfl ?_); (try (refine gate_guard (by rfl) ?_; dsimp only)); refine box_event ?hg (N := 3) ?hd (cs := #[.int .i64 a1_0, .int .i64 a1_1, .int .i64 a1_2, .int .i64 a1_3, .int .i64 a1_4, .int .i64 a1_5]) (t := 40) ?hr ?_; (case hd => rfl); (case hg => rfl); (case hr => first | (go_simp; done) | (go_simp; rfl)); intro gb324 hg w5 hbox hb; have n0_ := am (below_step (bU HB.out) hb); have n1_ := am (hbox); have n2_ := am ((by rw [hg]; exact (below_size (bU HB.out)) : w.heap.size ≤ gb324)); have n3_ := am ((by rw [hg]; exact (below_size (bU HB.out)) : w.heap.size ≤ gb324)); clear HB; have HB := n0_; have BK324 := n1_; have GW324 := n2_; have GE324 := n3_; clear n0_ n1_ n2_ n3_; clear hb hbox hg) | ((with_reducible refine gate_callee (f := 35) rfl ?_); refine goesL_ (some 13) rfl rfl Tryd.func35 (by kernel_rfl) rfl #[.slice A0 l0.length c0] rfl mU ?_; (with_reducible refine (impl_Node_35.calls _ _ l0 t325 _ ?side1 ?side2 A3.out).mono ?_); (case side1 => exact cU (Kd.C_below HR0.out HB.out)); (case side2 => exact HC0.out); rintro e w6 ⟨v326, rfl, ho0, hb⟩; refine ⟨_, rfl, ?_⟩; have n0_ := am (Kd.R_lower ho0 (below_size (bS HB.out GE324.out))); have n1_ := am (kB BK324.out hb); have n2_ := am (below_step (bS HB.out GE324.out) hb); clear BK324; clear HB; have HO327 := n0_; have BK324 := n1_; have HB := n2_; clear n0_ n1_ n2_; (try clear hb); (try clear hb2); (try clear hk); (try clear hi); (try clear ho0)))
 (try simp only [Act.put, List.setIfInBounds_toArray, List.set_cons_zero, List.set_cons_succ])
 go_cut [21] (fun v21 wc => ∃ (kq : Nat) (x21_3 : Bool), v21 = .bool x21_3 ∧ Aside0 (impl_ApplyEdit.j0 kq l0 t325 x21_3 a1_0 a1_1 a1_2 a1_3 a1_4 a1_5 = some (r1, r2)) ∧ Aside0 (kq ≤ k) ∧ Aside0 (Kd.R k34 34 wc w.heap.size (fun _ => True) v326 t325) ∧ Aside0 (wc.heap[gb324]? = some (.cells #[.int .i64 a1_0, .int .i64 a1_1, .int .i64 a1_2, .int .i64 a1_3, .int .i64 a1_4, .int .i64 a1_5] 40 (0, 0))) ∧ Aside0 (Below w.heap.size w wc))
 case first =>
  have H := HC4.out
  clear HC4
  replace H := Option.bind_eq_some_iff.mp H
  obtain ⟨t328, A70, H⟩ := H
  replace H : (if t328 = true then ((impl_IsEdit.f a1_0 a1_1 a1_2 a1_3 a1_4 a1_5).bind fun t329 => (impl_ApplyEdit.j0 k l0 t325 (!t329) a1_0 a1_1 a1_2 a1_3 a1_4 a1_5)) else (impl_ApplyEdit.j0 k l0 t325 true a1_0 a1_1 a1_2 a1_3 a1_4 a1_5)) = some (r1, r2) := H
  have A7 := am A70
  clear A70
  by_cases c8 : t328 = true
  ·subst c8
   have H1 : ((impl_IsEdit.f a1_0 a1_1 a1_2 a1_3 a1_4 a1_5).bind fun t329 => (impl_ApplyEdit.j0 k l0 t325 (!t329) a1_0 a1_1 a1_2 a1_3 a1_4 a1_5)) = some (r1, r2) := by rw [if_pos rfl] at H; exact H
   clear H
   have H := H1
   clear H1
   replace H := Option.bind_eq_some_iff.mp H
   obtain ⟨t329, A90, H⟩ := H
   replace H : (impl_ApplyEdit.j0 k l0 t325 (!t329) a1_0 a1_1 a1_2 a1_3 a1_4 a1_5) = some (r1, r2) := H
   have A9 := am A90
   clear A90
   have H' := am H
   clear H
   go_wp2_with (first | ((with_reducible refine gate_callee (f := 8) rfl ?_); refine goesL_ (some 15) rfl rfl Tryd.func8 (by kernel_rfl) rfl #[.slice A0 l0.length c0] rfl mU ?_; (with_reducible refine (impl_IsDocument.calls k _ _ l0 true _ ?side1 ?side2 A7.out).mono ?_); (case side1 => exact cU (Kd.C_below HR0.out HB.out)); (case side2 => exact HC0.out); rintro e w10 ⟨rfl, hb⟩; refine ⟨_, rfl, ?_⟩; have n0_ := am (Kd.R_below (rU HO327.out) hb); have n1_ := am (kB BK324.out hb); have n2_ := am (below_step (bS HB.out GE324.out) hb); clear HO327; clear BK324; clear HB; have HO327 := n0_; have BK324 := n1_; have HB := n2_; clear n0_ n1_ n2_; (try clear hb); (try clear hb2); (try clear hk); (try clear hi); obtain ⟨hcz11_0, hcz11_1, hcz11_2, hcz11_3, hcz11_4, hcz11_5⟩ := bc6 BK324.out; obtain ⟨hfz11_0, hfz11_1, hfz11_2, hfz11_3, hfz11_4, hfz11_5⟩ := bf6 BK324.out) | (go_at_call 18; (with_reducible refine (impl_IsEdit.calls a1_0 a1_1 a1_2 a1_3 a1_4 a1_5 t329 _ A9.out).mono ?_); rintro e w12 ⟨rfl, hb⟩; have n0_ := am (Kd.R_below (rU HO327.out) hb); have n1_ := am (kB BK324.out hb); have n2_ := am (below_step (bS HB.out GE324.out) hb); clear HO327; clear BK324; clear HB; have HO327 := n0_; have BK324 := n1_; have HB := n2_; clear n0_ n1_ n2_; (try clear hb); (try clear hb2); (try clear hk); (try clear hi)))
   go_meet
   case rel => exact ⟨_, (!t329), (by first | rfl | (simp; done) | (simp [*]; done)), H', ⟨by first | omega | exact Nat.le_refl _⟩, ⟨rU HO327.out⟩, ⟨kU BK324.out⟩, ⟨bS HB.out GE324.out⟩⟩
  ·replace c8 := Bool.eq_false_iff.mpr c8
   subst c8
   have H1 : (impl_ApplyEdit.j0 k l0 t325 true a1_0 a1_1 a1_2 a1_3 a1_4 a1_5) = some (r1, r2) := by rw [if_neg (show ¬ (false = true) by decide)] at H; exact H
   clear H
   have H := H1
   clear H1
   have H' := am H
   clear H
   go_wp2_with (first | ((with_reducible refine gate_callee (f := 8) rfl ?_); refine goesL_ (some 15) rfl rfl Tryd.func8 (by kernel_rfl) rfl #[.slice A0 l0.length c0] rfl mU ?_; (with_reducible refine (impl_IsDocument.calls k _ _ l0 false _ ?side1 ?side2 A7.out).mono ?_); (case side1 => exact cU (Kd.C_below HR0.out HB.out)); (case side2 => exact HC0.out); rintro e w13 ⟨rfl, hb⟩; refine ⟨_, rfl, ?_⟩; have n0_ := am (Kd.R_below (rU HO327.out) hb); have n1_ := am (kB BK324.out hb); have n2_ := am (below_step (bS HB.out GE324.out) hb); clear HO327; clear BK324; clear HB; have HO327 := n0_; have BK324 := n1_; have HB := n2_; clear n0_ n1_ n2_; (try clear hb); (try clear hb2); (try clear hk); (try clear hi)))
   go_meet
   case rel => exact ⟨_, (true), (by first | rfl | (simp; done) | (simp [*]; done)), H', ⟨by first | omega | exact Nat.le_refl _⟩, ⟨rU HO327.out⟩, ⟨kU BK324.out⟩, ⟨bS HB.out GE324.out⟩⟩
 case rest =>
  clear HC4
  try clear c1
  try clear p2
  try clear c3
  try clear c8
  try clear hcz11_0 hcz11_1 hcz11_2 hcz11_3 hcz11_4 hcz11_5 hfz11_0 hfz11_1 hfz11_2 hfz11_3 hfz11_4 hfz11_5
  obtain ⟨kq, x21_3, rfl, HA, HJ3, HO_6, BK324, HB⟩ := hcut
  cases kq with
  | zero => exact absurd HA.out (by simp [impl_ApplyEdit.j0])
  | succ kj3 =>
   have H := HA.out
   clear HA
   simp only [impl_ApplyEdit.j0] at H
   by_cases c14 : x21_3 = true
   ·subst c14
    have H1 : (some (t325, false)) = some (r1, r2) := by rw [if_pos rfl] at H; exact H
    clear H
    have H := H1
    clear H1
    simp only [Option.some.injEq, Prod.mk.injEq] at H
    obtain ⟨rfl, rfl⟩ := H
    go_wp2
    go_ret2
    exact ⟨_, eU, rU HO_6.out, bS HB.out GE324.out⟩
   ·replace c14 := Bool.eq_false_iff.mpr c14
    subst c14
    have H1 : ((impl_NodeOf.f kj3 l0 a1_1).bind fun t330 => (if a1_0 = 1 then (if t330 ≥ 0 then (impl_ApplyEdit.j1 kj3 l0 t325 true a1_0 a1_1 a1_2 a1_3 a1_4 a1_5) else ((impl_NodeOf.f kj3 l0 a1_2).bind fun t331 => (if t331 < 0 then (impl_ApplyEdit.j1 kj3 l0 t325 true a1_0 a1_1 a1_2 a1_3 a1_4 a1_5) else (if a1_2 > a1_1 then (impl_ApplyEdit.j1 kj3 l0 t325 true a1_0 a1_1 a1_2 a1_3 a1_4 a1_5) else (impl_ApplyEdit.j1 kj3 l0 t325 (decide ((l0.length : Int) ≥ 16)) a1_0 a1_1 a1_2 a1_3 a1_4 a1_5))))) else (if a1_0 = 2 then (if t330 < 0 then (some (t325, false)) else (impl_ApplyEdit.l1 kj3 l0 (([] : List (S34))) l0 (l0.length : Int) 0 a1_0 a1_1 a1_2 a1_3 a1_4 a1_5)) else (if a1_0 = 3 then (if t330 < 0 then (some (t325, false)) else (if 0 ≤ t330 then (if t330 < (t325.length : Int) then ((some (t325.set (t330 : Int).toNat (⟨(rd_T34 t325 t330).f0, (rd_T34 t325 t330).f1, (rd_T34 t325 t330).f2, a1_4, (rd_T34 t325 t330).f4⟩ : S34) : List (S34))).bind fun y348 => (some ((y348.set (t330 : Int).toNat (⟨(rd_T34 y348 t330).f0, (rd_T34 y348 t330).f1, (rd_T34 y348 t330).f2, (rd_T34 y348 t330).f3, a1_5⟩ : S34)), true))) else (none)) else (none))) else (if t330 < 0 then (some (t325, false)) else ((impl_NodeOf.f kj3 l0 a1_2).bind fun t350 => (if t350 < 0 then (some (t325, false)) else (if a1_2 ≥ a1_1 then (some (t325, false)) else (if 0 ≤ t330 then (if t330 < (t325.length : Int) then ((some (t325.set (t330 : Int).toNat (⟨(rd_T34 t325 t330).f0, a1_2, (rd_T34 t325 t330).f2, (rd_T34 t325 t330).f3, (rd_T34 t325 t330).f4⟩ : S34) : List (S34))).bind fun y351 => (some ((y351.set (t330 : Int).toNat (⟨(rd_T34 y351 t330).f0, (rd_T34 y351 t330).f1, (rd_T34 y351 t330).f2, (rd_T34 y351 t330).f3, a1_5⟩ : S34)), true))) else (none)) else (none)))))))))) = some (r1, r2) := by rw [if_neg (show ¬ (false = true) by decide)] at H; exact H
    clear H
    have H := H1
    clear H1
    replace H := Option.bind_eq_some_iff.mp H
    obtain ⟨t330, A150, H⟩ := H
    replace H : (if a1_0 = 1 then (if t330 ≥ 0 then (impl_ApplyEdit.j1 kj3 l0 t325 true a1_0 a1_1 a1_2 a1_3 a1_4 a1_5) else ((impl_NodeOf.f kj3 l0 a1_2).bind fun t331 => (if t331 < 0 then (impl_ApplyEdit.j1 kj3 l0 t325 true a1_0 a1_1 a1_2 a1_3 a1_4 a1_5) else (if a1_2 > a1_1 then (impl_ApplyEdit.j1 kj3 l0 t325 true a1_0 a1_1 a1_2 a1_3 a1_4 a1_5) else (impl_ApplyEdit.j1 kj3 l0 t325 (decide ((l0.length : Int) ≥ 16)) a1_0 a1_1 a1_2 a1_3 a1_4 a1_5))))) else (if a1_0 = 2 then (if t330 < 0 then (some (t325, false)) else (impl_ApplyEdit.l1 kj3 l0 (([] : List (S34))) l0 (l0.length : Int) 0 a1_0 a1_1 a1_2 a1_3 a1_4 a1_5)) else (if a1_0 = 3 then (if t330 < 0 then (some (t325, false)) else (if 0 ≤ t330 then (if t330 < (t325.length : Int) then ((some (t325.set (t330 : Int).toNat (⟨(rd_T34 t325 t330).f0, (rd_T34 t325 t330).f1, (rd_T34 t325 t330).f2, a1_4, (rd_T34 t325 t330).f4⟩ : S34) : List (S34))).bind fun y348 => (some ((y348.set (t330 : Int).toNat (⟨(rd_T34 y348 t330).f0, (rd_T34 y348 t330).f1, (rd_T34 y348 t330).f2, (rd_T34 y348 t330).f3, a1_5⟩ : S34)), true))) else (none)) else (none))) else (if t330 < 0 then (some (t325, false)) else ((impl_NodeOf.f kj3 l0 a1_2).bind fun t350 => (if t350 < 0 then (some (t325, false)) else (if a1_2 ≥ a1_1 then (some (t325, false)) else (if 0 ≤ t330 then (if t330 < (t325.length : Int) then ((some (t325.set (t330 : Int).toNat (⟨(rd_T34 t325 t330).f0, a1_2, (rd_T34 t325 t330).f2, (rd_T34 t325 t330).f3, (rd_T34 t325 t330).f4⟩ : S34) : List (S34))).bind fun y351 => (some ((y351.set (t330 : Int).toNat (⟨(rd_T34 y351 t330).f0, (rd_T34 y351 t330).f1, (rd_T34 y351 t330).f2, (rd_T34 y351 t330).f3, a1_5⟩ : S34)), true))) else (none)) else (none))))))))) = some (r1, r2) := H
    have A15 := am A150
    clear A150
    by_cases c16 : a1_0 = 1
    ·rw [if_pos c16] at H
     have c16b0 : (a1_0 == 1) = true := beq_iff_eq.mpr c16
     have c16b1 : (a1_0 != 1) = false := bne_eq_false_iff_eq.mpr c16
     clear c16
     have HC17 := am H
     clear H
     obtain ⟨hcz18_0, hcz18_1, hcz18_2, hcz18_3, hcz18_4, hcz18_5⟩ := bc6 BK324.out
     obtain ⟨hfz18_0, hfz18_1, hfz18_2, hfz18_3, hfz18_4, hfz18_5⟩ := bf6 BK324.out
     go_upto_region 7 with (first | ((with_reducible refine gate_callee (f := 10) rfl ?_); refine goesL_ (some 26) rfl rfl Tryd.func10 (by kernel_rfl) rfl #[.slice A0 l0.length c0, .int .i64 a1_1] rfl mU ?_; (with_reducible refine (impl_NodeOf.calls kj3 _ _ l0 a1_1 t330 _ ?side1 ?side2 A15.out).mono ?_); (case side1 => exact cU (Kd.C_below HR0.out HB.out)); (case side2 => exact HC0.out); rintro e w19 ⟨rfl, hb⟩; refine ⟨_, rfl, ?_⟩; have n0_ := am (Kd.R_below (rU HO_6.out) hb); have n1_ := am (kB BK324.out hb); have n2_ := am (below_step (bS HB.out GE324.out) hb); clear HO_6; clear BK324; clear HB; have HO_6 := n0_; have BK324 := n1_; have HB := n2_; clear n0_ n1_ n2_; (try clear hb); (try clear hb2); (try clear hk); (try clear hi); obtain ⟨hcz20_0, hcz20_1, hcz20_2, hcz20_3, hcz20_4, hcz20_5⟩ := bc6 BK324.out; obtain ⟨hfz20_0, hfz20_1, hfz20_2, hfz20_3, hfz20_4, hfz20_5⟩ := bf6 BK324.out))
     (try simp only [Act.put, List.setIfInBounds_toArray, List.set_cons_zero, List.set_cons_succ])
     go_cut [51] (fun v51 wc => ∃ (kq : Nat) (x51_16 : Bool), v51 = .bool x51_16 ∧ Aside0 (impl_ApplyEdit.j1 kq l0 t325 x51_16 a1_0 a1_1 a1_2 a1_3 a1_4 a1_5 = some (r1, r2)) ∧ Aside0 (kq ≤ kj3) ∧ Aside0 (Kd.R k34 34 wc w.heap.size (fun _ => True) v326 t325) ∧ Aside0 (wc.heap[gb324]? = some (.cells #[.int .i64 a1_0, .int .i64 a1_1, .int .i64 a1_2, .int .i64 a1_3, .int .i64 a1_4, .int .i64 a1_5] 40 (0, 0))) ∧ Aside0 (Below w.heap.size w wc))
     case first =>
      have H := HC17.out
      clear HC17
      by_cases c21 : t330 ≥ 0
      ·rw [if_pos c21] at H
       have c21b0 : decide (0 ≤ t330) = true := decide_eq_true c21
       clear c21
       (first | rw [c21b0] | (simp only [i64_w, i32_w]; rw [c21b0]) | skip)
       have H' := am H
       clear H
       go_wp2
       go_meet
       case rel => exact ⟨_, (true), (by first | rfl | (simp; done) | (simp [*]; done)), H', ⟨by have := HJ3.out; first | omega | exact Nat.le_refl _⟩, ⟨rU HO_6.out⟩, ⟨kU BK324.out⟩, ⟨bS HB.out GE324.out⟩⟩
      ·rw [if_neg c21] at H
       have c21b0 : decide (0 ≤ t330) = false := decide_eq_false c21
       clear c21
       (first | rw [c21b0] | (simp only [i64_w, i32_w]; rw [c21b0]) | skip)
       replace H := Option.bind_eq_some_iff.mp H
       obtain ⟨t331, A220, H⟩ := H
       replace H : (if t331 < 0 then (impl_ApplyEdit.j1 kj3 l0 t325 true a1_0 a1_1 a1_2 a1_3 a1_4 a1_5) else (if a1_2 > a1_1 then (impl_ApplyEdit.j1 kj3 l0 t325 true a1_0 a1_1 a1_2 a1_3 a1_4 a1_5) else (impl_ApplyEdit.j1 kj3 l0 t325 (decide ((l0.length : Int) ≥ 16)) a1_0 a1_1 a1_2 a1_3 a1_4 a1_5))) = some (r1, r2) := H
       have A22 := am A220
       clear A220
       by_cases c23 : t331 < 0
       ·rw [if_pos c23] at H
        have c23b0 : decide (t331 < 0) = true := decide_eq_true c23
        clear c23
        have H' := am H
        clear H
        obtain ⟨hcz24_0, hcz24_1, hcz24_2, hcz24_3, hcz24_4, hcz24_5⟩ := bc6 BK324.out
        obtain ⟨hfz24_0, hfz24_1, hfz24_2, hfz24_3, hfz24_4, hfz24_5⟩ := bf6 BK324.out
        go_wp2_with (first | (go_at_call 10; (with_reducible refine (impl_NodeOf.calls kj3 _ _ l0 a1_2 t331 _ ?side1 ?side2 A22.out).mono ?_); (case side1 => exact cU (Kd.C_below HR0.out HB.out)); (case side2 => exact HC0.out); rintro e w25 ⟨rfl, hb⟩; have n0_ := am (Kd.R_below (rU HO_6.out) hb); have n1_ := am (kB BK324.out hb); have n2_ := am (below_step (bS HB.out GE324.out) hb); clear HO_6; clear BK324; clear HB; have HO_6 := n0_; have BK324 := n1_; have HB := n2_; clear n0_ n1_ n2_; (try clear hb); (try clear hb2); (try clear hk); (try clear hi)))
        go_meet
        case rel => exact ⟨_, (true), (by first | rfl | (simp; done) | (simp [*]; done)), H', ⟨by have := HJ3.out; first | omega | exact Nat.le_refl _⟩, ⟨rU HO_6.out⟩, ⟨kU BK324.out⟩, ⟨bS HB.out GE324.out⟩⟩
       ·rw [if_neg c23] at H
        have c23b0 : decide (t331 < 0) = false := decide_eq_false c23
        clear c23
        by_cases c26 : a1_2 > a1_1
        ·rw [if_pos c26] at H
         have c26b0 : decide (a1_1 < a1_2) = true := decide_eq_true c26
         clear c26
         have H' := am H
         clear H
         obtain ⟨hcz27_0, hcz27_1, hcz27_2, hcz27_3, hcz27_4, hcz27_5⟩ := bc6 BK324.out
         obtain ⟨hfz27_0, hfz27_1, hfz27_2, hfz27_3, hfz27_4, hfz27_5⟩ := bf6 BK324.out
         go_wp2_with (first | (go_at_call 10; (with_reducible refine (impl_NodeOf.calls kj3 _ _ l0 a1_2 t331 _ ?side1 ?side2 A22.out).mono ?_); (case side1 => exact cU (Kd.C_below HR0.out HB.out)); (case side2 => exact HC0.out); rintro e w28 ⟨rfl, hb⟩; have n0_ := am (Kd.R_below (rU HO_6.out) hb); have n1_ := am (kB BK324.out hb); have n2_ := am (below_step (bS HB.out GE324.out) hb); clear HO_6; clear BK324; clear HB; have HO_6 := n0_; have BK324 := n1_; have HB := n2_; clear n0_ n1_ n2_; (try clear hb); (try clear hb2); (try clear hk); (try clear hi); obtain ⟨hcz29_0, hcz29_1, hcz29_2, hcz29_3, hcz29_4, hcz29_5⟩ := bc6 BK324.out; obtain ⟨hfz29_0, hfz29_1, hfz29_2, hfz29_3, hfz29_4, hfz29_5⟩ := bf6 BK324.out))
         go_meet
         case rel => exact ⟨_, (true), (by first | rfl | (simp; done) | (simp [*]; done)), H', ⟨by have := HJ3.out; first | omega | exact Nat.le_refl _⟩, ⟨rU HO_6.out⟩, ⟨kU BK324.out⟩, ⟨bS HB.out GE324.out⟩⟩
        ·rw [if_neg c26] at H
         have c26b0 : decide (a1_1 < a1_2) = false := decide_eq_false c26
         clear c26
         have H' := am H
         clear H
         obtain ⟨hcz30_0, hcz30_1, hcz30_2, hcz30_3, hcz30_4, hcz30_5⟩ := bc6 BK324.out
         obtain ⟨hfz30_0, hfz30_1, hfz30_2, hfz30_3, hfz30_4, hfz30_5⟩ := bf6 BK324.out
         go_wp2_with (first | (go_at_call 10; (with_reducible refine (impl_NodeOf.calls kj3 _ _ l0 a1_2 t331 _ ?side1 ?side2 A22.out).mono ?_); (case side1 => exact cU (Kd.C_below HR0.out HB.out)); (case side2 => exact HC0.out); rintro e w31 ⟨rfl, hb⟩; have n0_ := am (Kd.R_below (rU HO_6.out) hb); have n1_ := am (kB BK324.out hb); have n2_ := am (below_step (bS HB.out GE324.out) hb); clear HO_6; clear BK324; clear HB; have HO_6 := n0_; have BK324 := n1_; have HB := n2_; clear n0_ n1_ n2_; (try clear hb); (try clear hb2); (try clear hk); (try clear hi); obtain ⟨hcz32_0, hcz32_1, hcz32_2, hcz32_3, hcz32_4, hcz32_5⟩ := bc6 BK324.out; obtain ⟨hfz32_0, hfz32_1, hfz32_2, hfz32_3, hfz32_4, hfz32_5⟩ := bf6 BK324.out))
         go_meet
         case rel => exact ⟨_, (decide ((l0.length : Int) ≥ 16)), (by first | rfl | (simp; done) | (simp [*]; done)), H', ⟨by have := HJ3.out; first | omega | exact Nat.le_refl _⟩, ⟨rU HO_6.out⟩, ⟨kU BK324.out⟩, ⟨bS HB.out GE324.out⟩⟩
     case rest =>
      clear HC17
      try clear c1
      try clear c2
      try clear p2
      try clear c3
      try clear c8
      try clear c10
      try clear c14
      try clear c16
      try clear c16b0
      try clear c16b1
      try clear c17
      try clear c21
      try clear c21b0
      try clear c23
      try clear c23b0
      try clear c26
      try clear c26b0
      try clear hcz11_0 hcz11_1 hcz11_2 hcz11_3 hcz11_4 hcz11_5
      try clear hcz18_0 hcz18_1 hcz18_2 hcz18_3 hcz18_4 hcz18_5
      try clear hcz20_0 hcz20_1 hcz20_2 hcz20_3 hcz20_4 hcz20_5
      try clear hcz24_0 hcz24_1 hcz24_2 hcz24_3 hcz24_4 hcz24_5
      try clear hcz27_0 hcz27_1 hcz27_2 hcz27_3 hcz27_4 hcz27_5
      try clear hcz29_0 hcz29_1 hcz29_2 hcz29_3 hcz29_4 hcz29_5
      try clear hcz30_0 hcz30_1 hcz30_2 hcz30_3 hcz30_4 hcz30_5
      try clear hcz32_0 hcz32_1 hcz32_2 hcz32_3 hcz32_4 hcz32_5
      try clear hfz11_0 hfz11_1 hfz11_2 hfz11_3 hfz11_4 hfz11_5
      try clear hfz18_0 hfz18_1 hfz18_2 hfz18_3 hfz18_4 hfz18_5
      try clear hfz20_0 hfz20_1 hfz20_2 hfz20_3 hfz20_4 hfz20_5
      try clear hfz24_0 hfz24_1 hfz24_2 hfz24_3 hfz24_4 hfz24_5
      try clear hfz27_0 hfz27_1 hfz27_2 hfz27_3 hfz27_4 hfz27_5
      try clear hfz29_0 hfz29_1 hfz29_2 hfz29_3 hfz29_4 hfz29_5
      try clear hfz30_0 hfz30_1 hfz30_2 hfz30_3 hfz30_4 hfz30_5
      try clear hfz32_0 hfz32_1 hfz32_2 hfz32_3 hfz32_4 hfz32_5
      try clear p2
      obtain ⟨kq, x51_16, rfl, HA, HJ16, HO_6, BK324, HB⟩ := hcut
      cases kq with
      | zero => exact absurd HA.out (by simp [impl_ApplyEdit.j1])
      | succ kj16 =>
       have H := HA.out
       clear HA
       simp only [impl_ApplyEdit.j1] at H
       by_cases c33 : x51_16 = true
       ·subst c33
        have H1 : (some (t325, false)) = some (r1, r2) := by rw [if_pos rfl] at H; exact H
        clear H
        have H := H1
        clear H1
        simp only [Option.some.injEq, Prod.mk.injEq] at H
        obtain ⟨rfl, rfl⟩ := H
        go_wp2
        go_ret2
        exact ⟨_, eU, rU HO_6.out, bS HB.out GE324.out⟩
       ·replace c33 := Bool.eq_false_iff.mpr c33
        subst c33
        have H1 : (impl_ApplyEdit.l0 kj16 l0 t325 0 a1_0 a1_1 a1_2 a1_3 a1_4 a1_5) = some (r1, r2) := by rw [if_neg (show ¬ (false = true) by decide)] at H; exact H
        clear H
        have H := H1
        clear H1
        have HC34 := am H
        clear H
        go_upto_block 1 with (fail)
        go_cut [8] (fun v8 wc => ∃ (kq : Nat) (x8_33 : Int), v8 = .int .i64 x8_33 ∧ Aside0 (impl_ApplyEdit.j3 kq t325 x8_33 a1_0 a1_1 a1_2 a1_3 a1_4 a1_5 = some (r1, r2)) ∧ Aside0 (kq ≤ kj16) ∧ Aside0 (Kd.R k34 34 wc w.heap.size (fun _ => True) v326 t325) ∧ Aside0 (wc.heap[gb324]? = some (.cells #[.int .i64 a1_0, .int .i64 a1_1, .int .i64 a1_2, .int .i64 a1_3, .int .i64 a1_4, .int .i64 a1_5] 40 (0, 0))) ∧ Aside0 (Below w.heap.size w wc))
        case first =>
         have H := HC34.out
         clear HC34
         have H' := am H
         clear H
         go_wp2
         go_loopg [8] kj16 (fun kq v8 w' => ∃ (x8_3 : Int), v8 = .int .i64 x8_3 ∧ Aside0 (impl_ApplyEdit.l0 kq l0 t325 x8_3 a1_0 a1_1 a1_2 a1_3 a1_4 a1_5 = some (r1, r2)) ∧ Aside0 (kq ≤ kj16) ∧ Aside0 (Kd.R k34 34 w' w.heap.size (fun _ => True) v326 t325) ∧ Aside0 (w'.heap[gb324]? = some (.cells #[.int .i64 a1_0, .int .i64 a1_1, .int .i64 a1_2, .int .i64 a1_3, .int .i64 a1_4, .int .i64 a1_5] 40 (0, 0))) ∧ Aside0 (Below w.heap.size w w'))
         case atStart => exact ⟨(0), (by first | rfl | (simp; done) | (simp [*]; done)), H', ⟨Nat.le_refl _⟩, ⟨rU HO_6.out⟩, ⟨kU BK324.out⟩, ⟨bS HB.out GE324.out⟩⟩
         case round =>
          clear H'
          try clear c1
          try clear c2
          try clear p2
          try clear c3
          try clear c8
          try clear c10
          try clear c14
          try clear c16
          try clear c16b0
          try clear c16b1
          try clear c17
          try clear c21
          try clear c21b0
          try clear c23
          try clear c23b0
          try clear c26
          try clear c26b0
          try clear c33
          try clear hcz11_0 hcz11_1 hcz11_2 hcz11_3 hcz11_4 hcz11_5
          try clear hcz18_0 hcz18_1 hcz18_2 hcz18_3 hcz18_4 hcz18_5
          try clear hcz20_0 hcz20_1 hcz20_2 hcz20_3 hcz20_4 hcz20_5
          try clear hcz24_0 hcz24_1 hcz24_2 hcz24_3 hcz24_4 hcz24_5
          try clear hcz27_0 hcz27_1 hcz27_2 hcz27_3 hcz27_4 hcz27_5
          try clear hcz29_0 hcz29_1 hcz29_2 hcz29_3 hcz29_4 hcz29_5
          try clear hcz30_0 hcz30_1 hcz30_2 hcz30_3 hcz30_4 hcz30_5
          try clear hcz32_0 hcz32_1 hcz32_2 hcz32_3 hcz32_4 hcz32_5
          try clear hfz11_0 hfz11_1 hfz11_2 hfz11_3 hfz11_4 hfz11_5
          try clear hfz18_0 hfz18_1 hfz18_2 hfz18_3 hfz18_4 hfz18_5
          try clear hfz20_0 hfz20_1 hfz20_2 hfz20_3 hfz20_4 hfz20_5
          try clear hfz24_0 hfz24_1 hfz24_2 hfz24_3 hfz24_4 hfz24_5
          try clear hfz27_0 hfz27_1 hfz27_2 hfz27_3 hfz27_4 hfz27_5
          try clear hfz29_0 hfz29_1 hfz29_2 hfz29_3 hfz29_4 hfz29_5
          try clear hfz30_0 hfz30_1 hfz30_2 hfz30_3 hfz30_4 hfz30_5
          try clear hfz32_0 hfz32_1 hfz32_2 hfz32_3 hfz32_4 hfz32_5
          try clear p2
          obtain ⟨x8_3, rfl, HA, HK3, HO_6, BK324, HB⟩ := hrel
          cases gk with
          | zero => exact absurd HA.out (by simp [impl_ApplyEdit.l0])
          | succ k3 =>
           have H := HA.out
           clear HA
           simp only [impl_ApplyEdit.l0] at H
           by_cases c35 : x8_3 < (l0.length : Int)
           ·rw [if_pos c35] at H
            have c35b0 : decide (x8_3 < (l0.length : Int)) = true := decide_eq_true c35
            clear c35
            (first | rw [c35b0] | (simp only [i64_w, i32_w]; rw [c35b0]) | skip)
            by_cases c36 : 0 ≤ x8_3
            ·rw [if_pos c36] at H
             have c36b0 : decide (0 ≤ x8_3) = true := decide_eq_true c36
             clear c36
             by_cases c37 : ((rd_T34 l0 x8_3).f0) < a1_1
             ·rw [if_pos c37] at H
              have c37b0 : decide (((rd_T34 l0 x8_3).f0) < a1_1) = true := decide_eq_true c37
              clear c37
              have H' := am H
              clear H
              have p332 : 0 ≤ (x8_3 : Int) := dU
              have q332 : x8_3 < (l0.length : Int) := dU
              obtain ⟨ad332, e332, hx332_0, hx332_1, hx332_2, hx332_3, hx332_4⟩ := at_T34 HR0.out x8_3 p332 q332
              cases e332
              replace hx332_0 := cB HB.out hx332_0
              replace hx332_1 := cB HB.out hx332_1
              replace hx332_2 := cB HB.out hx332_2
              replace hx332_3 := cB HB.out hx332_3
              replace hx332_4 := cB HB.out hx332_4
              replace p332 := eq_true p332
              replace q332 := eq_true q332
              obtain ⟨hcz38_0, hcz38_1, hcz38_2, hcz38_3, hcz38_4, hcz38_5⟩ := bc6 BK324.out
              obtain ⟨hfz38_0, hfz38_1, hfz38_2, hfz38_3, hfz38_4, hfz38_5⟩ := bf6 BK324.out
              go_wp2
              go_quiet (fail)
              go_wp2
              go_roundg k3
              case measure => have := HJ3.out; have := HJ16.out; have := HK3.out; omega
              case rel => exact ⟨(wrap64 (x8_3 + 1)), (by first | rfl | (simp; done) | (simp [*]; done)), H', ⟨by have := HJ3.out; have := HJ16.out; have := HK3.out; omega⟩, ⟨rU HO_6.out⟩, ⟨kU BK324.out⟩, ⟨bS HB.out GE324.out⟩⟩
             ·rw [if_neg c37] at H
              have c37b0 : decide (((rd_T34 l0 x8_3).f0) < a1_1) = false := decide_eq_false c37
              clear c37
              have H' := am H
              clear H
              have p332 : 0 ≤ (x8_3 : Int) := dU
              have q332 : x8_3 < (l0.length : Int) := dU
              obtain ⟨ad332, e332, hx332_0, hx332_1, hx332_2, hx332_3, hx332_4⟩ := at_T34 HR0.out x8_3 p332 q332
              cases e332
              replace hx332_0 := cB HB.out hx332_0
              replace hx332_1 := cB HB.out hx332_1
              replace hx332_2 := cB HB.out hx332_2
              replace hx332_3 := cB HB.out hx332_3
              replace hx332_4 := cB HB.out hx332_4
              replace p332 := eq_true p332
              replace q332 := eq_true q332
              obtain ⟨hcz39_0, hcz39_1, hcz39_2, hcz39_3, hcz39_4, hcz39_5⟩ := bc6 BK324.out
              obtain ⟨hfz39_0, hfz39_1, hfz39_2, hfz39_3, hfz39_4, hfz39_5⟩ := bf6 BK324.out
              go_wp2
              go_quiet (fail)
              go_wp2
              go_meet
              case rel => exact ⟨_, (x8_3), (by first | rfl | (simp; done) | (simp [*]; done)), H', ⟨by have := HJ3.out; have := HJ16.out; have := HK3.out; first | omega | exact Nat.le_refl _⟩, ⟨rU HO_6.out⟩, ⟨kU BK324.out⟩, ⟨bS HB.out GE324.out⟩⟩
            ·rw [if_neg c36] at H
             exact absurd H (by simp)
           ·rw [if_neg c35] at H
            have c35b0 : decide (x8_3 < (l0.length : Int)) = false := decide_eq_false c35
            clear c35
            (first | rw [c35b0] | (simp only [i64_w, i32_w]; rw [c35b0]) | skip)
            have H' := am H
            clear H
            go_wp2
            go_quiet (fail)
            go_wp2
            go_meet
            case rel => exact ⟨_, (x8_3), (by first | rfl | (simp; done) | (simp [*]; done)), H', ⟨by have := HJ3.out; have := HJ16.out; have := HK3.out; first | omega | exact Nat.le_refl _⟩, ⟨rU HO_6.out⟩, ⟨kU BK324.out⟩, ⟨bS HB.out GE324.out⟩⟩
        case rest =>
         clear HC34
         try clear c1
         try clear c2
         try clear p2
         try clear c3
         try clear p3
         try clear q3
         try clear hx3
         try clear p6
         try clear c8
         try clear c10
         try clear c14
         try clear c16
         try clear c16b0
         try clear c16b1
         try clear c17
         try clear c21
         try clear c21b0
         try clear c23
         try clear c23b0
         try clear c26
         try clear c26b0
         try clear c33
         try clear p33
         try clear q33
         try clear hx33
         try clear c35
         try clear c35b0
         try clear c36
         try clear c36b0
         try clear c37
         try clear c37b0
         try clear hcz11_0 hcz11_1 hcz11_2 hcz11_3 hcz11_4 hcz11_5
         try clear hcz18_0 hcz18_1 hcz18_2 hcz18_3 hcz18_4 hcz18_5
         try clear hcz20_0 hcz20_1 hcz20_2 hcz20_3 hcz20_4 hcz20_5
         try clear hcz24_0 hcz24_1 hcz24_2 hcz24_3 hcz24_4 hcz24_5
         try clear hcz27_0 hcz27_1 hcz27_2 hcz27_3 hcz27_4 hcz27_5
         try clear hcz29_0 hcz29_1 hcz29_2 hcz29_3 hcz29_4 hcz29_5
         try clear hcz30_0 hcz30_1 hcz30_2 hcz30_3 hcz30_4 hcz30_5
         try clear hcz32_0 hcz32_1 hcz32_2 hcz32_3 hcz32_4 hcz32_5
         try clear hcz38_0 hcz38_1 hcz38_2 hcz38_3 hcz38_4 hcz38_5
         try clear hcz39_0 hcz39_1 hcz39_2 hcz39_3 hcz39_4 hcz39_5
         try clear hfz11_0 hfz11_1 hfz11_2 hfz11_3 hfz11_4 hfz11_5
         try clear hfz18_0 hfz18_1 hfz18_2 hfz18_3 hfz18_4 hfz18_5
         try clear hfz20_0 hfz20_1 hfz20_2 hfz20_3 hfz20_4 hfz20_5
         try clear hfz24_0 hfz24_1 hfz24_2 hfz24_3 hfz24_4 hfz24_5
         try clear hfz27_0 hfz27_1 hfz27_2 hfz27_3 hfz27_4 hfz27_5
         try clear hfz29_0 hfz29_1 hfz29_2 hfz29_3 hfz29_4 hfz29_5
         try clear hfz30_0 hfz30_1 hfz30_2 hfz30_3 hfz30_4 hfz30_5
         try clear hfz32_0 hfz32_1 hfz32_2 hfz32_3 hfz32_4 hfz32_5
         try clear hfz38_0 hfz38_1 hfz38_2 hfz38_3 hfz38_4 hfz38_5
         try clear hfz39_0 hfz39_1 hfz39_2 hfz39_3 hfz39_4 hfz39_5
         try clear hx332_0
         try clear hx332_1
         try clear hx332_2
         try clear hx332_3
         try clear hx332_4
         try clear p2
         try clear p332
         try clear q332
         obtain ⟨kq, x8_33, rfl, HA, HJ33, HO_6, BK324, HB⟩ := hcut
         cases kq with
         | zero => exact absurd HA.out (by simp [impl_ApplyEdit.j3])
         | succ kj33 =>
          have H := HA.out
          clear HA
          simp only [impl_ApplyEdit.j3] at H
          obtain ⟨y333, hy333⟩ : ∃ y_ : List (S34), y_ = (([(⟨a1_1, a1_2, a1_3, a1_4, a1_5⟩ : S34)] : List (S34))) := ⟨_, rfl⟩
          replace H : ((impl_Node_36.f t325 x8_33 y333).bind fun t336 => (some (t336, true))) = some (r1, r2) := by first | (rw [hy333]; with_reducible exact H) | (have H2_ := (Option.bind_some _ _).symm.trans H; rw [hy333]; with_reducible exact H2_) | (have H2_ := (Option.bind_some _ _).symm.trans H; with_reducible exact H2_) | with_reducible exact H | (rw [hy333]; exact H) | exact H
          have Ny333 := am hy333
          clear hy333
          replace H := Option.bind_eq_some_iff.mp H
          obtain ⟨t336, A400, H⟩ := H
          replace H : (some (t336, true)) = some (r1, r2) := H
          have A40 := am A400
          clear A400
          simp only [Option.some.injEq, Prod.mk.injEq] at H
          obtain ⟨rfl, rfl⟩ := H
          obtain ⟨hcz41_0, hcz41_1, hcz41_2, hcz41_3, hcz41_4, hcz41_5⟩ := bc6 BK324.out
          obtain ⟨hfz41_0, hfz41_1, hfz41_2, hfz41_3, hfz41_4, hfz41_5⟩ := bf6 BK324.out
          go_wp2_with (first | ((with_reducible refine gate_dst (N := 82) rfl ?_); (try (refine gate_guard (by rfl) ?_; dsimp only)); refine Kd.R_lit k34 _ 34 ?hg (N := 82) ?hd (xs := ([(⟨a1_1, a1_2, a1_3, a1_4, a1_5⟩ : S34)] : List (S34))) (inner := [.int .i64 a1_1, .int .i64 a1_2, .int .i64 a1_3, .int .i64 a1_4, .int .i64 a1_5]) (ok := fun _ => True) (okp := fun _ => True) ?hr ?hp (fun _ hk => hk) trivial (Below.refl _ _) (Nat.le_refl _) (by simp) ?_; (case hd => rfl); (case hg => rfl); (case hr => first | (go_simp; done) | (go_simp; rfl)); (case hp => exact (Reps.c5 (show Kd.M k34 _ _ _ (⟨a1_1, a1_2, a1_3, a1_4, a1_5⟩ : S34) [.int .i64 a1_1, .int .i64 a1_2, .int .i64 a1_3, .int .i64 a1_4, .int .i64 a1_5] from (k34_mkM _ _ _ (⟨a1_1, a1_2, a1_3, a1_4, a1_5⟩ : S34) )) (Reps.none _ _))); intro v334 w42 ho43 hb hg_ hnew_; clear hg_ hnew_; (first | rw [← Ny333.out] at ho43 | (simp only [Int.reduceToNat] at ho43; rw [← Ny333.out] at ho43)); have NE_ := am (impl_Node_36.apart (rU HO_6.out) ho43); have n0_ := am (Kd.R_elder' (rU HO_6.out) (Kd.R_base ho43) hb); have n1_ := am (Kd.R_lower (Kd.R_new' ho43 (Kd.R_lt (rU HO_6.out))) (below_size (bS HB.out GE324.out))); have n2_ := am (kB BK324.out hb); have n3_ := am (below_step (bS HB.out GE324.out) hb); clear HO_6; clear BK324; clear HB; have HO_6 := n0_; have HO335 := n1_; have BK324 := n2_; have HB := n3_; clear n0_ n1_ n2_ n3_; clear hb ho43; obtain ⟨Ao44, co44, eo44⟩ := Kd.R_slice HO_6.out; subst eo44; obtain ⟨Ao45, co45, eo45⟩ := Kd.R_slice HO335.out; subst eo45) | ((with_reducible refine gate_callee (f := 36) rfl ?_); refine goesL_ (some 83) rfl rfl Tryd.func36 (by kernel_rfl) rfl #[.slice Ao44 t325.length co44, .int .i64 x8_33, .slice Ao45 y333.length co45] rfl mU ?_; (with_reducible refine (impl_Node_36.own t325 x8_33 y333 t336 _ _ HO_6.out HO335.out NE_.out HB.out A40.out).mono ?_); rintro e w46 ⟨v337, rfl, ho0, hb⟩; refine ⟨_, rfl, ?_⟩; have n0_ := am ho0; have n1_ := am hb; clear HO_6; clear HO335; clear HB; have HO338 := n0_; have HB := n1_; clear n0_ n1_))
          go_ret2
          exact ⟨_, eU, by (with_reducible repeat (first | apply Kd.R_alloc | apply Kd.R_drewN | apply Kd.R_drew)); exact Kd.R_mono HO338.out (fun _ hk => trivial), bS HB.out GE324.out⟩
    ·rw [if_neg c16] at H
     have c16b0 : (a1_0 == 1) = false := beq_eq_false_iff_ne.mpr c16
     have c16b1 : (a1_0 != 1) = true := bne_iff_ne.mpr c16
     by_cases c47 : a1_0 = 2
     ·rw [if_pos c47] at H
      have c47b0 : (a1_0 == 2) = true := beq_iff_eq.mpr c47
      have c47b1 : (a1_0 != 2) = false := bne_eq_false_iff_eq.mpr c47
      clear c47
      by_cases c48 : t330 < 0
      ·rw [if_pos c48] at H
       have c48b0 : decide (t330 < 0) = true := decide_eq_true c48
       clear c48
       simp only [Option.some.injEq, Prod.mk.injEq] at H
       obtain ⟨rfl, rfl⟩ := H
       obtain ⟨hcz49_0, hcz49_1, hcz49_2, hcz49_3, hcz49_4, hcz49_5⟩ := bc6 BK324.out
       obtain ⟨hfz49_0, hfz49_1, hfz49_2, hfz49_3, hfz49_4, hfz49_5⟩ := bf6 BK324.out
       go_wp2_with (first | ((with_reducible refine gate_callee (f := 10) rfl ?_); refine goesL_ (some 26) rfl rfl Tryd.func10 (by kernel_rfl) rfl #[.slice A0 l0.length c0, .int .i64 a1_1] rfl mU ?_; (with_reducible refine (impl_NodeOf.calls kj3 _ _ l0 a1_1 t330 _ ?side1 ?side2 A15.out).mono ?_); (case side1 => exact cU (Kd.C_below HR0.out HB.out)); (case side2 => exact HC0.out); rintro e w50 ⟨rfl, hb⟩; refine ⟨_, rfl, ?_⟩; have n0_ := am (Kd.R_below (rU HO_6.out) hb); have n1_ := am (kB BK324.out hb); have n2_ := am (below_step (bS HB.out GE324.out) hb); clear HO_6; clear BK324; clear HB; have HO_6 := n0_; have BK324 := n1_; have HB := n2_; clear n0_ n1_ n2_; (try clear hb); (try clear hb2); (try clear hk); (try clear hi); obtain ⟨hcz51_0, hcz51_1, hcz51_2, hcz51_3, hcz51_4, hcz51_5⟩ := bc6 BK324.out; obtain ⟨hfz51_0, hfz51_1, hfz51_2, hfz51_3, hfz51_4, hfz51_5⟩ := bf6 BK324.out))
       go_ret2
       exact ⟨_, eU, rU HO_6.out, bS HB.out GE324.out⟩
      ·rw [if_neg c48] at H
       have c48b0 : decide (t330 < 0) = false := decide_eq_false c48
       clear c48
       obtain ⟨y339, hy339⟩ : ∃ y_ : List (S34), y_ = (([] : List (S34))) := ⟨_, rfl⟩
       replace H : (impl_ApplyEdit.l1 kj3 l0 y339 l0 (l0.length : Int) 0 a1_0 a1_1 a1_2 a1_3 a1_4 a1_5) = some (r1, r2) := by first | (rw [hy339]; with_reducible exact H) | (have H2_ := (Option.bind_some _ _).symm.trans H; rw [hy339]; with_reducible exact H2_) | (have H2_ := (Option.bind_some _ _).symm.trans H; with_reducible exact H2_) | with_reducible exact H | (rw [hy339]; exact H) | exact H
       have Ny339 := am hy339
       clear hy339
       have H' := am H
       clear H
       obtain ⟨hcz52_0, hcz52_1, hcz52_2, hcz52_3, hcz52_4, hcz52_5⟩ := bc6 BK324.out
       obtain ⟨hfz52_0, hfz52_1, hfz52_2, hfz52_3, hfz52_4, hfz52_5⟩ := bf6 BK324.out
       go_wp2_with (first | ((with_reducible refine gate_callee (f := 10) rfl ?_); refine goesL_ (some 26) rfl rfl Tryd.func10 (by kernel_rfl) rfl #[.slice A0 l0.length c0, .int .i64 a1_1] rfl mU ?_; (with_reducible refine (impl_NodeOf.calls kj3 _ _ l0 a1_1 t330 _ ?side1 ?side2 A15.out).mono ?_); (case side1 => exact cU (Kd.C_below HR0.out HB.out)); (case side2 => exact HC0.out); rintro e w53 ⟨rfl, hb⟩; refine ⟨_, rfl, ?_⟩; have n0_ := am (Kd.R_below (rU HO_6.out) hb); have n1_ := am (kB BK324.out hb); have n2_ := am (below_step (bS HB.out GE324.out) hb); clear HO_6; clear BK324; clear HB; have HO_6 := n0_; have BK324 := n1_; have HB := n2_; clear n0_ n1_ n2_; (try clear hb); (try clear hb2); (try clear hk); (try clear hi); obtain ⟨hcz54_0, hcz54_1, hcz54_2, hcz54_3, hcz54_4, hcz54_5⟩ := bc6 BK324.out; obtain ⟨hfz54_0, hfz54_1, hfz54_2, hfz54_3, hfz54_4, hfz54_5⟩ := bf6 BK324.out) | ((with_reducible refine gate_dst (N := 89) rfl ?_); (try (refine gate_guard (by rfl) ?_; dsimp only)); refine Kd.R_lit k34 _ 34 ?hg (N := 89) ?hd (xs := ([] : List (S34))) (inner := []) (ok := fun _ => True) (okp := fun _ => True) ?hr ?hp (fun _ hk => hk) trivial (Below.refl _ _) (Nat.le_refl _) (by simp) ?_; (case hd => rfl); (case hg => rfl); (case hr => first | (go_simp; done) | (go_simp; rfl)); (case hp => exact (Reps.none _ _)); intro v340 w55 ho56 hb hg_ hnew_; clear hg_ hnew_; (first | rw [← Ny339.out] at ho56 | (simp only [Int.reduceToNat] at ho56; rw [← Ny339.out] at ho56)); have n0_ := am (Kd.R_elder' (rU HO_6.out) (Kd.R_base ho56) hb); have n1_ := am (Kd.R_lower (Kd.R_new' ho56 (Kd.R_lt (rU HO_6.out))) (below_size (bS HB.out GE324.out))); have n2_ := am (kB BK324.out hb); have n3_ := am (below_step (bS HB.out GE324.out) hb); clear HO_6; clear BK324; clear HB; have HO_6 := n0_; have HO341 := n1_; have BK324 := n2_; have HB := n3_; clear n0_ n1_ n2_ n3_; clear hb ho56))
       go_loopg [9, 92] kj3 (fun kq v9 v92 w' => ∃ (x9_2 : List (S34)) (x92_2 : Int), v92 = .int .i64 x92_2 ∧ Aside0 (impl_ApplyEdit.l1 kq l0 x9_2 l0 (l0.length : Int) x92_2 a1_0 a1_1 a1_2 a1_3 a1_4 a1_5 = some (r1, r2)) ∧ Aside0 (kq ≤ kj3) ∧ Aside0 (Kd.R k34 34 w' w.heap.size (fun _ => True) v9 x9_2) ∧ Aside0 (w'.heap[gb324]? = some (.cells #[.int .i64 a1_0, .int .i64 a1_1, .int .i64 a1_2, .int .i64 a1_3, .int .i64 a1_4, .int .i64 a1_5] 40 (0, 0))) ∧ Aside0 (Below w.heap.size w w'))
       case atStart => exact ⟨(y339), (0), (by first | rfl | (simp; done) | (simp [*]; done)), H', ⟨Nat.le_refl _⟩, ⟨by (with_reducible repeat (first | apply Kd.R_alloc | apply Kd.R_drewN | apply Kd.R_drew)); exact Kd.R_mono HO341.out (fun _ hk => trivial)⟩, ⟨kU BK324.out⟩, ⟨bS HB.out GE324.out⟩⟩
       case round =>
        clear H'
        try clear c1
        try clear c2
        try clear p2
        try clear c3
        try clear p3
        try clear q3
        try clear hx3
        try clear c4
        try clear c5
        try clear p6
        try clear c8
        try clear c10
        try clear c14
        try clear c16
        try clear c16b0
        try clear c16b1
        try clear c17
        try clear c21
        try clear c21b0
        try clear c23
        try clear c23b0
        try clear c26
        try clear c26b0
        try clear c33
        try clear p33
        try clear q33
        try clear hx33
        try clear c35
        try clear c35b0
        try clear c36
        try clear c36b0
        try clear c37
        try clear c37b0
        try clear c47
        try clear c47b0
        try clear c47b1
        try clear c48
        try clear c48b0
        try clear hcz11_0 hcz11_1 hcz11_2 hcz11_3 hcz11_4 hcz11_5
        try clear hcz18_0 hcz18_1 hcz18_2 hcz18_3 hcz18_4 hcz18_5
        try clear hcz20_0 hcz20_1 hcz20_2 hcz20_3 hcz20_4 hcz20_5
        try clear hcz24_0 hcz24_1 hcz24_2 hcz24_3 hcz24_4 hcz24_5
        try clear hcz27_0 hcz27_1 hcz27_2 hcz27_3 hcz27_4 hcz27_5
        try clear hcz29_0 hcz29_1 hcz29_2 hcz29_3 hcz29_4 hcz29_5
        try clear hcz30_0 hcz30_1 hcz30_2 hcz30_3 hcz30_4 hcz30_5
        try clear hcz32_0 hcz32_1 hcz32_2 hcz32_3 hcz32_4 hcz32_5
        try clear hcz38_0 hcz38_1 hcz38_2 hcz38_3 hcz38_4 hcz38_5
        try clear hcz39_0 hcz39_1 hcz39_2 hcz39_3 hcz39_4 hcz39_5
        try clear hcz41_0 hcz41_1 hcz41_2 hcz41_3 hcz41_4 hcz41_5
        try clear hcz49_0 hcz49_1 hcz49_2 hcz49_3 hcz49_4 hcz49_5
        try clear hcz51_0 hcz51_1 hcz51_2 hcz51_3 hcz51_4 hcz51_5
        try clear hcz52_0 hcz52_1 hcz52_2 hcz52_3 hcz52_4 hcz52_5
        try clear hcz54_0 hcz54_1 hcz54_2 hcz54_3 hcz54_4 hcz54_5
        try clear hfz11_0 hfz11_1 hfz11_2 hfz11_3 hfz11_4 hfz11_5
        try clear hfz18_0 hfz18_1 hfz18_2 hfz18_3 hfz18_4 hfz18_5
        try clear hfz20_0 hfz20_1 hfz20_2 hfz20_3 hfz20_4 hfz20_5
        try clear hfz24_0 hfz24_1 hfz24_2 hfz24_3 hfz24_4 hfz24_5
        try clear hfz27_0 hfz27_1 hfz27_2 hfz27_3 hfz27_4 hfz27_5
        try clear hfz29_0 hfz29_1 hfz29_2 hfz29_3 hfz29_4 hfz29_5
        try clear hfz30_0 hfz30_1 hfz30_2 hfz30_3 hfz30_4 hfz30_5
        try clear hfz32_0 hfz32_1 hfz32_2 hfz32_3 hfz32_4 hfz32_5
        try clear hfz38_0 hfz38_1 hfz38_2 hfz38_3 hfz38_4 hfz38_5
        try clear hfz39_0 hfz39_1 hfz39_2 hfz39_3 hfz39_4 hfz39_5
        try clear hfz41_0 hfz41_1 hfz41_2 hfz41_3 hfz41_4 hfz41_5
        try clear hfz49_0 hfz49_1 hfz49_2 hfz49_3 hfz49_4 hfz49_5
        try clear hfz51_0 hfz51_1 hfz51_2 hfz51_3 hfz51_4 hfz51_5
        try clear hfz52_0 hfz52_1 hfz52_2 hfz52_3 hfz52_4 hfz52_5
        try clear hfz54_0 hfz54_1 hfz54_2 hfz54_3 hfz54_4 hfz54_5
        try clear hx332_0
        try clear hx332_1
        try clear hx332_2
        try clear hx332_3
        try clear hx332_4
        try clear p2
        try clear p3
        try clear p33
        try clear p332
        try clear p6
        try clear q3
        try clear q33
        try clear q332
        obtain ⟨x9_2, x92_2, rfl, HA, HK2, HO_9, BK324, HB⟩ := hrel
        cases gk with
        | zero => exact absurd HA.out (by simp [impl_ApplyEdit.l1])
        | succ k2 =>
         have H := HA.out
         clear HA
         simp only [impl_ApplyEdit.l1] at H
         by_cases c57 : x92_2 < (l0.length : Int)
         ·rw [if_pos c57] at H
          have c57b0 : decide (x92_2 < (l0.length : Int)) = true := decide_eq_true c57
          clear c57
          by_cases c58 : 0 ≤ x92_2
          ·rw [if_pos c58] at H
           have c58b0 : decide (0 ≤ x92_2) = true := decide_eq_true c58
           clear c58
           by_cases c59 : x92_2 < (l0.length : Int)
           ·rw [if_pos c59] at H
            have c59b0 : decide (x92_2 < (l0.length : Int)) = true := decide_eq_true c59
            clear c59
            replace H := Option.bind_eq_some_iff.mp H
            obtain ⟨t344, A600, H⟩ := H
            replace H : (if t344 = true then (impl_ApplyEdit.l1 k2 l0 x9_2 l0 (l0.length : Int) (wrap64 (x92_2 + 1)) a1_0 a1_1 a1_2 a1_3 a1_4 a1_5) else (if x9_2.length < 3518437208883 then (impl_ApplyEdit.l1 k2 l0 (x9_2 ++ [(⟨(rd_T34 l0 x92_2).f0, (rd_T34 l0 x92_2).f1, (rd_T34 l0 x92_2).f2, (rd_T34 l0 x92_2).f3, (rd_T34 l0 x92_2).f4⟩ : S34)]) l0 (l0.length : Int) (wrap64 (x92_2 + 1)) a1_0 a1_1 a1_2 a1_3 a1_4 a1_5) else (none))) = some (r1, r2) := H
            have A60 := am A600
            clear A600
            by_cases c61 : t344 = true
            ·subst c61
             have H1 : (impl_ApplyEdit.l1 k2 l0 x9_2 l0 (l0.length : Int) (wrap64 (x92_2 + 1)) a1_0 a1_1 a1_2 a1_3 a1_4 a1_5) = some (r1, r2) := by rw [if_pos rfl] at H; exact H
             clear H
             have H := H1
             clear H1
             have H' := am H
             clear H
             have p342 : 0 ≤ (x92_2 : Int) := dU
             have q342 : x92_2 < (l0.length : Int) := dU
             obtain ⟨ad342, e342, hx342_0, hx342_1, hx342_2, hx342_3, hx342_4⟩ := at_T34 HR0.out x92_2 p342 q342
             cases e342
             replace hx342_0 := cB HB.out hx342_0
             replace hx342_1 := cB HB.out hx342_1
             replace hx342_2 := cB HB.out hx342_2
             replace hx342_3 := cB HB.out hx342_3
             replace hx342_4 := cB HB.out hx342_4
             replace p342 := eq_true p342
             replace q342 := eq_true q342
             go_wp2_with (first | ((with_reducible refine gate_dst (N := 11) rfl ?_); (try (refine gate_guard (by rfl) ?_; dsimp only)); refine box_event ?hg (N := 11) ?hd (cs := #[.int .i64 0, .int .i64 0, .int .i64 0, .int .i64 0, .int .i64 0]) (t := 34) ?hr ?_; (case hd => rfl); (case hg => rfl); (case hr => first | (go_simp; done) | (go_simp; rfl)); intro gb343 hg w62 hbox hb; have n0_ := am (Kd.R_below (Kd.R_elderB (rU HO_9.out) gb343 (Nat.le_of_eq hg.symm)) hb); have n1_ := am (kB BK324.out hb); have n2_ := am (below_step (bS HB.out GE324.out) hb); have n3_ := am (hbox); have n4_ := am ((by rw [hg]; exact (below_size (bS HB.out GE324.out)) : w.heap.size ≤ gb343)); have n5_ := am ((by rw [hg]; exact (below_size (bS HB.out GE324.out)) : w.heap.size ≤ gb343)); have n6_ := am ((by rw [hg]; exact Nat.ne_of_lt (kL BK324.out) : gb324 ≠ gb343)); have n7_ := am ((by rw [hg]; exact Nat.ne_of_gt (kL BK324.out) : gb343 ≠ gb324)); clear HO_9; clear BK324; clear HB; have HO_9 := n0_; have BK324 := n1_; have HB := n2_; have BK343 := n3_; have GW343 := n4_; have GE343 := n5_; have NB324_343 := n6_; have NB343_324 := n7_; clear n0_ n1_ n2_ n3_ n4_ n5_ n6_ n7_; clear hb hbox hg; have hnb63 := NB343_324.out; have hnc63 := NB324_343.out; obtain ⟨hcz64_0, hcz64_1, hcz64_2, hcz64_3, hcz64_4⟩ := bc5 BK343.out; obtain ⟨hfz64_0, hfz64_1, hfz64_2, hfz64_3, hfz64_4⟩ := bf5 BK343.out; obtain ⟨hcz65_0, hcz65_1, hcz65_2, hcz65_3, hcz65_4, hcz65_5⟩ := bc6 BK324.out; obtain ⟨hfz65_0, hfz65_1, hfz65_2, hfz65_3, hfz65_4, hfz65_5⟩ := bf6 BK324.out) | ((with_reducible refine gate_callee (f := 25) rfl ?_); refine goesL_ (some 101) rfl rfl Tryd.func25 (by kernel_rfl) rfl #[.slice (some ad342) l0.length c0, .int .i64 ((rd_T34 l0 x92_2).f0), .int .i64 a1_1] rfl mU ?_; (with_reducible refine (impl_above.calls k2 _ _ l0 ((rd_T34 l0 x92_2).f0) a1_1 true _ ?side1 ?side2 A60.out).mono ?_); (case side1 => exact Kd.C_below HR0.out (by repeat (first | (with_reducible first | exact HB.out | apply below_alloc | apply pw_below_drewN | apply below_drew1 | refine below_set ?_ GE324.out | refine below_set ?_ GE343.out) | exact HB.out))); (case side2 => exact HC0.out); rintro e w66 ⟨rfl, hb⟩; refine ⟨_, rfl, ?_⟩; have n0_ := am (Kd.R_below (by (with_reducible repeat (first | apply Kd.R_alloc | apply Kd.R_drewN | apply Kd.R_drew)); exact (Kd.R_mono (Kd.R_far (p := ⟨gb343, 4, none⟩) (Kd.R_far (p := ⟨gb343, 3, none⟩) (Kd.R_far (p := ⟨gb343, 2, none⟩) (Kd.R_far (p := ⟨gb343, 1, none⟩) (Kd.R_far (p := ⟨gb343, 0, none⟩) (Kd.R_mono HO_9.out (fun k_ hk => (⟨hk, hk.2⟩ : _ ∧ k_ ≠ gb343))) (fun _ hk => hk.2) (.int .i64 ((rd_T34 l0 x92_2).f0))) (fun _ hk => hk.2) (.int .i64 ((rd_T34 l0 x92_2).f1))) (fun _ hk => hk.2) (.int .i64 ((rd_T34 l0 x92_2).f2))) (fun _ hk => hk.2) (.int .i64 ((rd_T34 l0 x92_2).f3))) (fun _ hk => hk.2) (.int .i64 ((rd_T34 l0 x92_2).f4))) (fun _ h_ => h_.1))) hb); have n1_ := am (blk_below (g := gb324) (o := .cells #[.int .i64 a1_0, .int .i64 a1_1, .int .i64 a1_2, .int .i64 a1_3, .int .i64 a1_4, .int .i64 a1_5] 40 (0, 0)) (by (with_reducible repeat (first | refine blk_drewN ?_ _ | refine blk_drew ?_ | refine blk_alloc ?_ _)); refine blk_far ?_ NB324_343.out _; (with_reducible repeat (first | refine blk_drewN ?_ _ | refine blk_drew ?_ | refine blk_alloc ?_ _)); refine blk_far ?_ NB324_343.out _; (with_reducible repeat (first | refine blk_drewN ?_ _ | refine blk_drew ?_ | refine blk_alloc ?_ _)); refine blk_far ?_ NB324_343.out _; (with_reducible repeat (first | refine blk_drewN ?_ _ | refine blk_drew ?_ | refine blk_alloc ?_ _)); refine blk_far ?_ NB324_343.out _; (with_reducible repeat (first | refine blk_drewN ?_ _ | refine blk_drew ?_ | refine blk_alloc ?_ _)); refine blk_far ?_ NB324_343.out _; exact kU BK324.out) hb); have n2_ := am (blk_below (g := gb343) (o := .cells #[.int .i64 ((rd_T34 l0 x92_2).f0), .int .i64 ((rd_T34 l0 x92_2).f1), .int .i64 ((rd_T34 l0 x92_2).f2), .int .i64 ((rd_T34 l0 x92_2).f3), .int .i64 ((rd_T34 l0 x92_2).f4)] 34 (0, 0)) (by (with_reducible repeat (first | refine blk_drewN ?_ _ | refine blk_drew ?_ | refine blk_alloc ?_ _)); refine blk_put (cs := #[.int .i64 ((rd_T34 l0 x92_2).f0), .int .i64 ((rd_T34 l0 x92_2).f1), .int .i64 ((rd_T34 l0 x92_2).f2), .int .i64 ((rd_T34 l0 x92_2).f3), .int .i64 0]) ?_ 4 _ rfl; (with_reducible repeat (first | refine blk_drewN ?_ _ | refine blk_drew ?_ | refine blk_alloc ?_ _)); refine blk_put (cs := #[.int .i64 ((rd_T34 l0 x92_2).f0), .int .i64 ((rd_T34 l0 x92_2).f1), .int .i64 ((rd_T34 l0 x92_2).f2), .int .i64 0, .int .i64 0]) ?_ 3 _ rfl; (with_reducible repeat (first | refine blk_drewN ?_ _ | refine blk_drew ?_ | refine blk_alloc ?_ _)); refine blk_put (cs := #[.int .i64 ((rd_T34 l0 x92_2).f0), .int .i64 ((rd_T34 l0 x92_2).f1), .int .i64 0, .int .i64 0, .int .i64 0]) ?_ 2 _ rfl; (with_reducible repeat (first | refine blk_drewN ?_ _ | refine blk_drew ?_ | refine blk_alloc ?_ _)); refine blk_put (cs := #[.int .i64 ((rd_T34 l0 x92_2).f0), .int .i64 0, .int .i64 0, .int .i64 0, .int .i64 0]) ?_ 1 _ rfl; (with_reducible repeat (first | refine blk_drewN ?_ _ | refine blk_drew ?_ | refine blk_alloc ?_ _)); refine blk_put (cs := #[.int .i64 0, .int .i64 0, .int .i64 0, .int .i64 0, .int .i64 0]) ?_ 0 _ rfl; exact kU BK343.out) hb); have n3_ := am (below_step (by repeat (first | (with_reducible first | exact HB.out | apply below_alloc | apply pw_below_drewN | apply below_drew1 | refine below_set ?_ GE324.out | refine below_set ?_ GE343.out) | exact HB.out)) hb); clear HO_9; clear BK324; clear BK343; clear HB; have HO_9 := n0_; have BK324 := n1_; have BK343 := n2_; have HB := n3_; clear n0_ n1_ n2_ n3_; (try clear hb); (try clear hb2); (try clear hk); (try clear hi)))
             go_roundg k2
             case measure => have := HJ3.out; have := HK2.out; omega
             case rel => exact ⟨(x9_2), (wrap64 (x92_2 + 1)), (by first | rfl | (simp; done) | (simp [*]; done)), H', ⟨by have := HJ3.out; have := HK2.out; omega⟩, ⟨by (with_reducible repeat (first | apply Kd.R_alloc | apply Kd.R_drewN | apply Kd.R_drew)); exact Kd.R_mono HO_9.out (fun _ hk => trivial)⟩, ⟨kU BK324.out⟩, ⟨by repeat (first | (with_reducible first | exact HB.out | apply below_alloc | apply pw_below_drewN | apply below_drew1 | refine below_set ?_ GE324.out | refine below_set ?_ GE343.out) | exact HB.out)⟩⟩
            ·replace c61 := Bool.eq_false_iff.mpr c61
             subst c61
             have H1 : (if x9_2.length < 3518437208883 then (impl_ApplyEdit.l1 k2 l0 (x9_2 ++ [(⟨(rd_T34 l0 x92_2).f0, (rd_T34 l0 x92_2).f1, (rd_T34 l0 x92_2).f2, (rd_T34 l0 x92_2).f3, (rd_T34 l0 x92_2).f4⟩ : S34)]) l0 (l0.length : Int) (wrap64 (x92_2 + 1)) a1_0 a1_1 a1_2 a1_3 a1_4 a1_5) else (none)) = some (r1, r2) := by rw [if_neg (show ¬ (false = true) by decide)] at H; exact H
             clear H
             have H := H1
             clear H1
             by_cases c67 : x9_2.length < 3518437208883
             ·rw [if_pos c67] at H
              have LMc67 := am c67
              clear c67
              obtain ⟨y345, hy345⟩ : ∃ y_ : List (S34), y_ = (x9_2 ++ [(⟨(rd_T34 l0 x92_2).f0, (rd_T34 l0 x92_2).f1, (rd_T34 l0 x92_2).f2, (rd_T34 l0 x92_2).f3, (rd_T34 l0 x92_2).f4⟩ : S34)]) := ⟨_, rfl⟩
              replace H : (impl_ApplyEdit.l1 k2 l0 y345 l0 (l0.length : Int) (wrap64 (x92_2 + 1)) a1_0 a1_1 a1_2 a1_3 a1_4 a1_5) = some (r1, r2) := by first | (rw [hy345]; with_reducible exact H) | (have H2_ := (Option.bind_some _ _).symm.trans H; rw [hy345]; with_reducible exact H2_) | (have H2_ := (Option.bind_some _ _).symm.trans H; with_reducible exact H2_) | with_reducible exact H | (rw [hy345]; exact H) | exact H
              have Ny345 := am hy345
              clear hy345
              have H' := am H
              clear H
              have p342 : 0 ≤ (x92_2 : Int) := dU
              have q342 : x92_2 < (l0.length : Int) := dU
              obtain ⟨ad342, e342, hx342_0, hx342_1, hx342_2, hx342_3, hx342_4⟩ := at_T34 HR0.out x92_2 p342 q342
              cases e342
              replace hx342_0 := cB HB.out hx342_0
              replace hx342_1 := cB HB.out hx342_1
              replace hx342_2 := cB HB.out hx342_2
              replace hx342_3 := cB HB.out hx342_3
              replace hx342_4 := cB HB.out hx342_4
              replace p342 := eq_true p342
              replace q342 := eq_true q342
              go_wp2_with (first | ((with_reducible refine gate_dst (N := 11) rfl ?_); (try (refine gate_guard (by rfl) ?_; dsimp only)); refine box_event ?hg (N := 11) ?hd (cs := #[.int .i64 0, .int .i64 0, .int .i64 0, .int .i64 0, .int .i64 0]) (t := 34) ?hr ?_; (case hd => rfl); (case hg => rfl); (case hr => first | (go_simp; done) | (go_simp; rfl)); intro gb343 hg w68 hbox hb; have n0_ := am (Kd.R_below (Kd.R_elderB (rU HO_9.out) gb343 (Nat.le_of_eq hg.symm)) hb); have n1_ := am (kB BK324.out hb); have n2_ := am (below_step (bS HB.out GE324.out) hb); have n3_ := am (hbox); have n4_ := am ((by rw [hg]; exact (below_size (bS HB.out GE324.out)) : w.heap.size ≤ gb343)); have n5_ := am ((by rw [hg]; exact (below_size (bS HB.out GE324.out)) : w.heap.size ≤ gb343)); have n6_ := am ((by rw [hg]; exact Nat.ne_of_lt (kL BK324.out) : gb324 ≠ gb343)); have n7_ := am ((by rw [hg]; exact Nat.ne_of_gt (kL BK324.out) : gb343 ≠ gb324)); clear HO_9; clear BK324; clear HB; have HO_9 := n0_; have BK324 := n1_; have HB := n2_; have BK343 := n3_; have GW343 := n4_; have GE343 := n5_; have NB324_343 := n6_; have NB343_324 := n7_; clear n0_ n1_ n2_ n3_ n4_ n5_ n6_ n7_; clear hb hbox hg; have hnb69 := NB343_324.out; have hnc69 := NB324_343.out; obtain ⟨hcz70_0, hcz70_1, hcz70_2, hcz70_3, hcz70_4⟩ := bc5 BK343.out; obtain ⟨hfz70_0, hfz70_1, hfz70_2, hfz70_3, hfz70_4⟩ := bf5 BK343.out; obtain ⟨hcz71_0, hcz71_1, hcz71_2, hcz71_3, hcz71_4, hcz71_5⟩ := bc6 BK324.out; obtain ⟨hfz71_0, hfz71_1, hfz71_2, hfz71_3, hfz71_4, hfz71_5⟩ := bf6 BK324.out) | ((with_reducible refine gate_callee (f := 25) rfl ?_); refine goesL_ (some 101) rfl rfl Tryd.func25 (by kernel_rfl) rfl #[.slice (some ad342) l0.length c0, .int .i64 ((rd_T34 l0 x92_2).f0), .int .i64 a1_1] rfl mU ?_; (with_reducible refine (impl_above.calls k2 _ _ l0 ((rd_T34 l0 x92_2).f0) a1_1 false _ ?side1 ?side2 A60.out).mono ?_); (case side1 => exact Kd.C_below HR0.out (by repeat (first | (with_reducible first | exact HB.out | apply below_alloc | apply pw_below_drewN | apply below_drew1 | refine below_set ?_ GE324.out | refine below_set ?_ GE343.out) | exact HB.out))); (case side2 => exact HC0.out); rintro e w72 ⟨rfl, hb⟩; refine ⟨_, rfl, ?_⟩; have n0_ := am (Kd.R_below (by (with_reducible repeat (first | apply Kd.R_alloc | apply Kd.R_drewN | apply Kd.R_drew)); exact (Kd.R_mono (Kd.R_far (p := ⟨gb343, 4, none⟩) (Kd.R_far (p := ⟨gb343, 3, none⟩) (Kd.R_far (p := ⟨gb343, 2, none⟩) (Kd.R_far (p := ⟨gb343, 1, none⟩) (Kd.R_far (p := ⟨gb343, 0, none⟩) (Kd.R_mono HO_9.out (fun k_ hk => (⟨hk, hk.2⟩ : _ ∧ k_ ≠ gb343))) (fun _ hk => hk.2) (.int .i64 ((rd_T34 l0 x92_2).f0))) (fun _ hk => hk.2) (.int .i64 ((rd_T34 l0 x92_2).f1))) (fun _ hk => hk.2) (.int .i64 ((rd_T34 l0 x92_2).f2))) (fun _ hk => hk.2) (.int .i64 ((rd_T34 l0 x92_2).f3))) (fun _ hk => hk.2) (.int .i64 ((rd_T34 l0 x92_2).f4))) (fun _ h_ => h_.1))) hb); have n1_ := am (blk_below (g := gb324) (o := .cells #[.int .i64 a1_0, .int .i64 a1_1, .int .i64 a1_2, .int .i64 a1_3, .int .i64 a1_4, .int .i64 a1_5] 40 (0, 0)) (by (with_reducible repeat (first | refine blk_drewN ?_ _ | refine blk_drew ?_ | refine blk_alloc ?_ _)); refine blk_far ?_ NB324_343.out _; (with_reducible repeat (first | refine blk_drewN ?_ _ | refine blk_drew ?_ | refine blk_alloc ?_ _)); refine blk_far ?_ NB324_343.out _; (with_reducible repeat (first | refine blk_drewN ?_ _ | refine blk_drew ?_ | refine blk_alloc ?_ _)); refine blk_far ?_ NB324_343.out _; (with_reducible repeat (first | refine blk_drewN ?_ _ | refine blk_drew ?_ | refine blk_alloc ?_ _)); refine blk_far ?_ NB324_343.out _; (with_reducible repeat (first | refine blk_drewN ?_ _ | refine blk_drew ?_ | refine blk_alloc ?_ _)); refine blk_far ?_ NB324_343.out _; exact kU BK324.out) hb); have n2_ := am (blk_below (g := gb343) (o := .cells #[.int .i64 ((rd_T34 l0 x92_2).f0), .int .i64 ((rd_T34 l0 x92_2).f1), .int .i64 ((rd_T34 l0 x92_2).f2), .int .i64 ((rd_T34 l0 x92_2).f3), .int .i64 ((rd_T34 l0 x92_2).f4)] 34 (0, 0)) (by (with_reducible repeat (first | refine blk_drewN ?_ _ | refine blk_drew ?_ | refine blk_alloc ?_ _)); refine blk_put (cs := #[.int .i64 ((rd_T34 l0 x92_2).f0), .int .i64 ((rd_T34 l0 x92_2).f1), .int .i64 ((rd_T34 l0 x92_2).f2), .int .i64 ((rd_T34 l0 x92_2).f3), .int .i64 0]) ?_ 4 _ rfl; (with_reducible repeat (first | refine blk_drewN ?_ _ | refine blk_drew ?_ | refine blk_alloc ?_ _)); refine blk_put (cs := #[.int .i64 ((rd_T34 l0 x92_2).f0), .int .i64 ((rd_T34 l0 x92_2).f1), .int .i64 ((rd_T34 l0 x92_2).f2), .int .i64 0, .int .i64 0]) ?_ 3 _ rfl; (with_reducible repeat (first | refine blk_drewN ?_ _ | refine blk_drew ?_ | refine blk_alloc ?_ _)); refine blk_put (cs := #[.int .i64 ((rd_T34 l0 x92_2).f0), .int .i64 ((rd_T34 l0 x92_2).f1), .int .i64 0, .int .i64 0, .int .i64 0]) ?_ 2 _ rfl; (with_reducible repeat (first | refine blk_drewN ?_ _ | refine blk_drew ?_ | refine blk_alloc ?_ _)); refine blk_put (cs := #[.int .i64 ((rd_T34 l0 x92_2).f0), .int .i64 0, .int .i64 0, .int .i64 0, .int .i64 0]) ?_ 1 _ rfl; (with_reducible repeat (first | refine blk_drewN ?_ _ | refine blk_drew ?_ | refine blk_alloc ?_ _)); refine blk_put (cs := #[.int .i64 0, .int .i64 0, .int .i64 0, .int .i64 0, .int .i64 0]) ?_ 0 _ rfl; exact kU BK343.out) hb); have n3_ := am (below_step (by repeat (first | (with_reducible first | exact HB.out | apply below_alloc | apply pw_below_drewN | apply below_drew1 | refine below_set ?_ GE324.out | refine below_set ?_ GE343.out) | exact HB.out)) hb); clear HO_9; clear BK324; clear BK343; clear HB; have HO_9 := n0_; have BK324 := n1_; have BK343 := n2_; have HB := n3_; clear n0_ n1_ n2_ n3_; (try clear hb); (try clear hb2); (try clear hk); (try clear hi); obtain ⟨hcz73_0, hcz73_1, hcz73_2, hcz73_3, hcz73_4⟩ := bc5 BK343.out; obtain ⟨hfz73_0, hfz73_1, hfz73_2, hfz73_3, hfz73_4⟩ := bf5 BK343.out) | ((with_reducible refine gate_builtin (b := .append) (xs := #[.tmp 103, .tmp 105]) rfl ?_); (try (refine gate_guard (by rfl) ?_; dsimp only)); at_builtin; refine Kd.R_append k34 (w0 := w) w.heap.size rfl (.tmp 103) (.tmp 105) 24 34 (.agg #[(.int .i64 0), (.int .i64 0), (.int .i64 0), (.int .i64 0), (.int .i64 0)]) 40 rfl Tryd.underlying24 info34 rfl (by decide) (by omega) u9 x9_2 (⟨(rd_T34 l0 x92_2).f0, (rd_T34 l0 x92_2).f1, (rd_T34 l0 x92_2).f2, (rd_T34 l0 x92_2).f3, (rd_T34 l0 x92_2).f4⟩ : S34) [.int .i64 ((rd_T34 l0 x92_2).f0), .int .i64 ((rd_T34 l0 x92_2).f1), .int .i64 ((rd_T34 l0 x92_2).f2), .int .i64 ((rd_T34 l0 x92_2).f3), .int .i64 ((rd_T34 l0 x92_2).f4)] (fun k_ => k_ ≠ gb343) (fun _ => False) rfl rfl ?aP (fun _ hk => hk.elim) ?aF ?aO ?aB ?aS ?aL ?_; (case aP => exact k34_mkM _ _ _ (⟨(rd_T34 l0 x92_2).f0, (rd_T34 l0 x92_2).f1, (rd_T34 l0 x92_2).f2, (rd_T34 l0 x92_2).f3, (rd_T34 l0 x92_2).f4⟩ : S34)); (case aB => exact (by repeat (first | (with_reducible first | exact HB.out | apply below_alloc | apply pw_below_drewN | apply below_drew1 | refine below_set ?_ GE324.out | refine below_set ?_ GE343.out) | exact HB.out))); (case aF => exact (fun k_ hk => Kd.freshB (g := gb343) (o := .cells #[.int .i64 ((rd_T34 l0 x92_2).f0), .int .i64 ((rd_T34 l0 x92_2).f1), .int .i64 ((rd_T34 l0 x92_2).f2), .int .i64 ((rd_T34 l0 x92_2).f3), .int .i64 ((rd_T34 l0 x92_2).f4)] 34 (0, 0)) (kU BK343.out) k_ hk)); (case aO => exact (by (with_reducible repeat (first | apply Kd.R_alloc | apply Kd.R_drewN | apply Kd.R_drew)); exact Kd.R_mono HO_9.out (fun _ hk => hk.2))); (case aS => exact (below_size (by repeat (first | (with_reducible first | exact HB.out | apply below_alloc | apply pw_below_drewN | apply below_drew1 | refine below_set ?_ GE324.out | refine below_set ?_ GE343.out) | exact HB.out)))); (case aL => have := LMc67.out; omega); intro v346 w74 ho hb hg hat; rw [← Ny345.out] at ho; have n0_ := am (kG BK324.out hg (Kd.R_ne HO_9.out BK324.out (by decide))); have n1_ := am (kG BK343.out hg (Kd.R_away HO_9.out (fun _ hk => hk.2))); have n2_ := am (hb); have n3_ := am (ho); clear BK324; clear BK343; clear HB; clear HO_9; have BK324 := n0_; have BK343 := n1_; have HB := n2_; have HO347 := n3_; clear n0_ n1_ n2_ n3_; clear ho hb hg hat))
              go_roundg k2
              case measure => have := HJ3.out; have := HK2.out; omega
              case rel => exact ⟨(y345), (wrap64 (x92_2 + 1)), (by first | rfl | (simp; done) | (simp [*]; done)), H', ⟨by have := HJ3.out; have := HK2.out; omega⟩, ⟨by (with_reducible repeat (first | apply Kd.R_alloc | apply Kd.R_drewN | apply Kd.R_drew)); exact Kd.R_mono HO347.out (fun _ hk => trivial)⟩, ⟨kU BK324.out⟩, ⟨by repeat (first | (with_reducible first | exact HB.out | apply below_alloc | apply pw_below_drewN | apply below_drew1 | refine below_set ?_ GE324.out | refine below_set ?_ GE343.out) | exact HB.out)⟩⟩
             ·rw [if_neg c67] at H
              exact absurd H (by simp)
           ·rw [if_neg c59] at H
            exact absurd H (by simp)
          ·rw [if_neg c58] at H
           exact absurd H (by simp)
         ·rw [if_neg c57] at H
          have c57b0 : decide (x92_2 < (l0.length : Int)) = false := decide_eq_false c57
          clear c57
          simp only [Option.some.injEq, Prod.mk.injEq] at H
          obtain ⟨rfl, rfl⟩ := H
          go_wp2
          go_ret2
          exact ⟨_, eU, rU HO_9.out, bS HB.out GE324.out⟩
     ·rw [if_neg c47] at H
      have c47b0 : (a1_0 == 2) = false := beq_eq_false_iff_ne.mpr c47
      have c47b1 : (a1_0 != 2) = true := bne_iff_ne.mpr c47
      by_cases c75 : a1_0 = 3
      ·rw [if_pos c75] at H
       have c75b0 : (a1_0 == 3) = true := beq_iff_eq.mpr c75
       have c75b1 : (a1_0 != 3) = false := bne_eq_false_iff_eq.mpr c75
       clear c75
       by_cases c76 : t330 < 0
       ·rw [if_pos c76] at H
        have c76b0 : decide (t330 < 0) = true := decide_eq_true c76
        clear c76
        simp only [Option.some.injEq, Prod.mk.injEq] at H
        obtain ⟨rfl, rfl⟩ := H
        obtain ⟨hcz77_0, hcz77_1, hcz77_2, hcz77_3, hcz77_4, hcz77_5⟩ := bc6 BK324.out
        obtain ⟨hfz77_0, hfz77_1, hfz77_2, hfz77_3, hfz77_4, hfz77_5⟩ := bf6 BK324.out
        go_wp2_with (first | ((with_reducible refine gate_callee (f := 10) rfl ?_); refine goesL_ (some 26) rfl rfl Tryd.func10 (by kernel_rfl) rfl #[.slice A0 l0.length c0, .int .i64 a1_1] rfl mU ?_; (with_reducible refine (impl_NodeOf.calls kj3 _ _ l0 a1_1 t330 _ ?side1 ?side2 A15.out).mono ?_); (case side1 => exact cU (Kd.C_below HR0.out HB.out)); (case side2 => exact HC0.out); rintro e w78 ⟨rfl, hb⟩; refine ⟨_, rfl, ?_⟩; have n0_ := am (Kd.R_below (rU HO_6.out) hb); have n1_ := am (kB BK324.out hb); have n2_ := am (below_step (bS HB.out GE324.out) hb); clear HO_6; clear BK324; clear HB; have HO_6 := n0_; have BK324 := n1_; have HB := n2_; clear n0_ n1_ n2_; (try clear hb); (try clear hb2); (try clear hk); (try clear hi); obtain ⟨hcz79_0, hcz79_1, hcz79_2, hcz79_3, hcz79_4, hcz79_5⟩ := bc6 BK324.out; obtain ⟨hfz79_0, hfz79_1, hfz79_2, hfz79_3, hfz79_4, hfz79_5⟩ := bf6 BK324.out))
        go_ret2
        exact ⟨_, eU, rU HO_6.out, bS HB.out GE324.out⟩
       ·rw [if_neg c76] at H
        have c76b0 : decide (t330 < 0) = false := decide_eq_false c76
        clear c76
        by_cases c80 : 0 ≤ t330
        ·rw [if_pos c80] at H
         have c80b0 : decide (0 ≤ t330) = true := decide_eq_true c80
         clear c80
         by_cases c81 : t330 < (t325.length : Int)
         ·rw [if_pos c81] at H
          have c81b0 : decide (t330 < (t325.length : Int)) = true := decide_eq_true c81
          clear c81
          obtain ⟨y348, hy348⟩ : ∃ y_ : List (S34), y_ = (t325.set (t330 : Int).toNat (⟨(rd_T34 t325 t330).f0, (rd_T34 t325 t330).f1, (rd_T34 t325 t330).f2, a1_4, (rd_T34 t325 t330).f4⟩ : S34)) := ⟨_, rfl⟩
          replace H : (some ((y348.set (t330 : Int).toNat (⟨(rd_T34 y348 t330).f0, (rd_T34 y348 t330).f1, (rd_T34 y348 t330).f2, (rd_T34 y348 t330).f3, a1_5⟩ : S34)), true)) = some (r1, r2) := by first | (rw [hy348]; with_reducible exact H) | (have H2_ := (Option.bind_some _ _).symm.trans H; rw [hy348]; with_reducible exact H2_) | (have H2_ := (Option.bind_some _ _).symm.trans H; with_reducible exact H2_) | with_reducible exact H | (rw [hy348]; exact H) | exact H
          have Ny348 := am hy348
          clear hy348
          obtain ⟨y349, hy349⟩ : ∃ y_ : List (S34), y_ = (y348.set (t330 : Int).toNat (⟨(rd_T34 y348 t330).f0, (rd_T34 y348 t330).f1, (rd_T34 y348 t330).f2, (rd_T34 y348 t330).f3, a1_5⟩ : S34)) := ⟨_, rfl⟩
          replace H : (some (y349, true)) = some (r1, r2) := by first | (rw [hy349]; with_reducible exact H) | (have H2_ := (Option.bind_some _ _).symm.trans H; rw [hy349]; with_reducible exact H2_) | (have H2_ := (Option.bind_some _ _).symm.trans H; with_reducible exact H2_) | with_reducible exact H | (rw [hy349]; exact H) | exact H
          have Ny349 := am hy349
          clear hy349
          simp only [Option.some.injEq, Prod.mk.injEq] at H
          obtain ⟨rfl, rfl⟩ := H
          obtain ⟨hcz84_0, hcz84_1, hcz84_2, hcz84_3, hcz84_4, hcz84_5⟩ := bc6 BK324.out
          obtain ⟨hfz84_0, hfz84_1, hfz84_2, hfz84_3, hfz84_4, hfz84_5⟩ := bf6 BK324.out
          go_wp2_with (first | ((with_reducible refine gate_callee (f := 10) rfl ?_); refine goesL_ (some 26) rfl rfl Tryd.func10 (by kernel_rfl) rfl #[.slice A0 l0.length c0, .int .i64 a1_1] rfl mU ?_; (with_reducible refine (impl_NodeOf.calls kj3 _ _ l0 a1_1 t330 _ ?side1 ?side2 A15.out).mono ?_); (case side1 => exact cU (Kd.C_below HR0.out HB.out)); (case side2 => exact HC0.out); rintro e w85 ⟨rfl, hb⟩; refine ⟨_, rfl, ?_⟩; have n0_ := am (Kd.R_below (rU HO_6.out) hb); have n1_ := am (kB BK324.out hb); have n2_ := am (below_step (bS HB.out GE324.out) hb); clear HO_6; clear BK324; clear HB; have HO_6 := n0_; have BK324 := n1_; have HB := n2_; clear n0_ n1_ n2_; (try clear hb); (try clear hb2); (try clear hk); (try clear hi); obtain ⟨hcz86_0, hcz86_1, hcz86_2, hcz86_3, hcz86_4, hcz86_5⟩ := bc6 BK324.out; obtain ⟨hfz86_0, hfz86_1, hfz86_2, hfz86_3, hfz86_4, hfz86_5⟩ := bf6 BK324.out; have p82 : 0 ≤ (t330 : Int) := dU; have q82 : (t330 : Int) < ((t325.length : Int) : Int) := dU; obtain ⟨go82, co82, eo82, gb82, gl82, cl82, HG82⟩ := Kd.R_form HO_6.out (by omega); (first | cases eo82 | (injection eo82 with ea_ en_ ec_; (first | subst ea_ | (injection ea_ with ea_; subst ea_)); subst ec_; clear en_)); have GB82 := am gb82; have GG82 := am HG82; clear gb82 gl82 HG82; obtain ⟨ce82, hcl82, hM82, hcc82, hfr82⟩ := Kd.R_elem HO_6.out z34 (t330 : Int) p82 q82; obtain rfl := k34_openM hM82; have hx82_0 : w85.cell? ⟨go82, (t330 : Int).toNat * 5, none⟩ = some (.int .i64 ((rd_T34 t325 t330).f0)) := hcc82 0 _ rfl; have hx82_1 : w85.cell? ⟨go82, (t330 : Int).toNat * 5 + 1, none⟩ = some (.int .i64 ((rd_T34 t325 t330).f1)) := hcc82 1 _ rfl; have hx82_2 : w85.cell? ⟨go82, (t330 : Int).toNat * 5 + 2, none⟩ = some (.int .i64 ((rd_T34 t325 t330).f2)) := hcc82 2 _ rfl; have hx82_3 : w85.cell? ⟨go82, (t330 : Int).toNat * 5 + 3, none⟩ = some (.int .i64 ((rd_T34 t325 t330).f3)) := hcc82 3 _ rfl; have hx82_4 : w85.cell? ⟨go82, (t330 : Int).toNat * 5 + 4, none⟩ = some (.int .i64 ((rd_T34 t325 t330).f4)) := hcc82 4 _ rfl; have hf82_0 : w85.frozen? ⟨go82, (t330 : Int).toNat * 5, none⟩ = false := hfr82 0; have hf82_1 : w85.frozen? ⟨go82, (t330 : Int).toNat * 5 + 1, none⟩ = false := hfr82 1; have hf82_2 : w85.frozen? ⟨go82, (t330 : Int).toNat * 5 + 2, none⟩ = false := hfr82 2; have hf82_3 : w85.frozen? ⟨go82, (t330 : Int).toNat * 5 + 3, none⟩ = false := hfr82 3; have hf82_4 : w85.frozen? ⟨go82, (t330 : Int).toNat * 5 + 4, none⟩ = false := hfr82 4; clear hcl82 hcc82 hfr82 hM82; replace p82 := eq_true p82; replace q82 := eq_true q82))
          (have HX87 := am (show Kd.R k34 34 w85 w.heap.size (fun _ => True) (.slice (some ⟨go82, 0, none⟩) t325.length co82) t325 from (rU HO_6.out)); obtain ⟨ce87, hcl87, hM87, hcc87, hfr87⟩ := Kd.R_elem HX87.out z34 (t330 : Int) (dU) (by have h_ : (t330 : Int) < ((t325.length : Int) : Int) := dU; first | exact h_ | (have e_ := (Kd.R_reads' HO_6.out).1; omega) | simpa using h_); obtain rfl := k34_openM hM87; have HP87 := Kd.R_seg HX87.out (t330 : Int) (dU) (by have h_ : (t330 : Int) < ((t325.length : Int) : Int) := dU; first | exact h_ | (have e_ := (Kd.R_reads' HO_6.out).1; omega) | simpa using h_) (seg := [.int .i64 a1_4]) (j := 3) hcl87 hcc87 (show 4 ≤ 5 from by decide) (x' := (⟨(rd_T34 t325 t330).f0, (rd_T34 t325 t330).f1, (rd_T34 t325 t330).f2, a1_4, (rd_T34 t325 t330).f4⟩ : S34)) (k34_mkM _ _ _ (⟨(rd_T34 t325 t330).f0, (rd_T34 t325 t330).f1, (rd_T34 t325 t330).f2, a1_4, (rd_T34 t325 t330).f4⟩ : S34) ) (fun _ hk => hk))
          obtain ⟨W1_, hW1_⟩ : ∃ W1_, W1_ = w85.setCell ⟨go82, (t330 : Int).toNat * 5 + 3, none⟩ (.int .i64 a1_4) := ⟨_, rfl⟩
          have hp1_ : Kd.R k34 34 W1_ w.heap.size (fun _ => True) (.slice (some ⟨go82, 0, none⟩) t325.length co82) y348 := by rw [hW1_, Ny348.out]; exact HP87.1
          (obtain ⟨ce89, hcl89, hM89, hcc89, hfr89⟩ := Kd.R_elem hp1_ z34 (t330 : Int) (dU) (by have h_ : (t330 : Int) < ((t325.length : Int) : Int) := dU; first | exact h_ | (have e_ := (Kd.R_reads' hp1_).1; omega) | simpa using h_); obtain rfl := k34_openM hM89; have HP89 := Kd.R_seg hp1_ (t330 : Int) (dU) (by have h_ : (t330 : Int) < ((t325.length : Int) : Int) := dU; first | exact h_ | (have e_ := (Kd.R_reads' hp1_).1; omega) | simpa using h_) (seg := [.int .i64 a1_5]) (j := 4) hcl89 hcc89 (show 5 ≤ 5 from by decide) (x' := (⟨(rd_T34 y348 t330).f0, (rd_T34 y348 t330).f1, (rd_T34 y348 t330).f2, (rd_T34 y348 t330).f3, a1_5⟩ : S34)) (k34_mkM _ _ _ (⟨(rd_T34 y348 t330).f0, (rd_T34 y348 t330).f1, (rd_T34 y348 t330).f2, (rd_T34 y348 t330).f3, a1_5⟩ : S34) ) (fun _ hk => hk))
          have hp2_ : Kd.R k34 34 (W1_.setCell ⟨go82, (t330 : Int).toNat * 5 + 4, none⟩ (.int .i64 a1_5)) w.heap.size (fun _ => True) (.slice (some ⟨go82, 0, none⟩) t325.length co82) y349 := by rw [Ny349.out]; exact HP89.1
          rw [hW1_] at hp2_
          have HP2_ := am hp2_
          have HB2_ := am (show Below w.heap.size w ((w85.setCell ⟨go82, (t330 : Int).toNat * 5 + 3, none⟩ (.int .i64 a1_4)).setCell ⟨go82, (t330 : Int).toNat * 5 + 4, none⟩ (.int .i64 a1_5)) from below_set (below_set HB.out GB82.out) GB82.out)
          clear hp1_ hp2_ hW1_ HP87 HP89 hcl87 hcc87 hfr87 hM87 hcl89 hcc89 hfr89 hM89
          go_region
          all_goals
           go_wp2
           go_ret2
           exact ⟨_, eU, rU HP2_.out, by repeat (first | (with_reducible first | exact HB2_.out | apply below_alloc | apply pw_below_drewN | apply below_drew1) | exact HB2_.out)⟩
         ·rw [if_neg c81] at H
          exact absurd H (by simp)
        ·rw [if_neg c80] at H
         exact absurd H (by simp)
      ·rw [if_neg c75] at H
       have c75b0 : (a1_0 == 3) = false := beq_eq_false_iff_ne.mpr c75
       have c75b1 : (a1_0 != 3) = true := bne_iff_ne.mpr c75
       by_cases c91 : t330 < 0
       ·rw [if_pos c91] at H
        have c91b0 : decide (t330 < 0) = true := decide_eq_true c91
        clear c91
        simp only [Option.some.injEq, Prod.mk.injEq] at H
        obtain ⟨rfl, rfl⟩ := H
        obtain ⟨hcz92_0, hcz92_1, hcz92_2, hcz92_3, hcz92_4, hcz92_5⟩ := bc6 BK324.out
        obtain ⟨hfz92_0, hfz92_1, hfz92_2, hfz92_3, hfz92_4, hfz92_5⟩ := bf6 BK324.out
        go_wp2_with (first | ((with_reducible refine gate_callee (f := 10) rfl ?_); refine goesL_ (some 26) rfl rfl Tryd.func10 (by kernel_rfl) rfl #[.slice A0 l0.length c0, .int .i64 a1_1] rfl mU ?_; (with_reducible refine (impl_NodeOf.calls kj3 _ _ l0 a1_1 t330 _ ?side1 ?side2 A15.out).mono ?_); (case side1 => exact cU (Kd.C_below HR0.out HB.out)); (case side2 => exact HC0.out); rintro e w93 ⟨rfl, hb⟩; refine ⟨_, rfl, ?_⟩; have n0_ := am (Kd.R_below (rU HO_6.out) hb); have n1_ := am (kB BK324.out hb); have n2_ := am (below_step (bS HB.out GE324.out) hb); clear HO_6; clear BK324; clear HB; have HO_6 := n0_; have BK324 := n1_; have HB := n2_; clear n0_ n1_ n2_; (try clear hb); (try clear hb2); (try clear hk); (try clear hi); obtain ⟨hcz94_0, hcz94_1, hcz94_2, hcz94_3, hcz94_4, hcz94_5⟩ := bc6 BK324.out; obtain ⟨hfz94_0, hfz94_1, hfz94_2, hfz94_3, hfz94_4, hfz94_5⟩ := bf6 BK324.out))
        go_ret2
        exact ⟨_, eU, rU HO_6.out, bS HB.out GE324.out⟩
       ·rw [if_neg c91] at H
        have c91b0 : decide (t330 < 0) = false := decide_eq_false c91
        clear c91
        replace H := Option.bind_eq_some_iff.mp H
        obtain ⟨t350, A950, H⟩ := H
        replace H : (if t350 < 0 then (some (t325, false)) else (if a1_2 ≥ a1_1 then (some (t325, false)) else (if 0 ≤ t330 then (if t330 < (t325.length : Int) then ((some (t325.set (t330 : Int).toNat (⟨(rd_T34 t325 t330).f0, a1_2, (rd_T34 t325 t330).f2, (rd_T34 t325 t330).f3, (rd_T34 t325 t330).f4⟩ : S34) : List (S34))).bind fun y351 => (some ((y351.set (t330 : Int).toNat (⟨(rd_T34 y351 t330).f0, (rd_T34 y351 t330).f1, (rd_T34 y351 t330).f2, (rd_T34 y351 t330).f3, a1_5⟩ : S34)), true))) else (none)) else (none)))) = some (r1, r2) := H
        have A95 := am A950
        clear A950
        by_cases c96 : t350 < 0
        ·rw [if_pos c96] at H
         have c96b0 : decide (t350 < 0) = true := decide_eq_true c96
         clear c96
         simp only [Option.some.injEq, Prod.mk.injEq] at H
         obtain ⟨rfl, rfl⟩ := H
         obtain ⟨hcz97_0, hcz97_1, hcz97_2, hcz97_3, hcz97_4, hcz97_5⟩ := bc6 BK324.out
         obtain ⟨hfz97_0, hfz97_1, hfz97_2, hfz97_3, hfz97_4, hfz97_5⟩ := bf6 BK324.out
         go_wp2_with (first | ((with_reducible refine gate_callee (f := 10) rfl ?_); refine goesL_ (some 26) rfl rfl Tryd.func10 (by kernel_rfl) rfl #[.slice A0 l0.length c0, .int .i64 a1_1] rfl mU ?_; (with_reducible refine (impl_NodeOf.calls kj3 _ _ l0 a1_1 t330 _ ?side1 ?side2 A15.out).mono ?_); (case side1 => exact cU (Kd.C_below HR0.out HB.out)); (case side2 => exact HC0.out); rintro e w98 ⟨rfl, hb⟩; refine ⟨_, rfl, ?_⟩; have n0_ := am (Kd.R_below (rU HO_6.out) hb); have n1_ := am (kB BK324.out hb); have n2_ := am (below_step (bS HB.out GE324.out) hb); clear HO_6; clear BK324; clear HB; have HO_6 := n0_; have BK324 := n1_; have HB := n2_; clear n0_ n1_ n2_; (try clear hb); (try clear hb2); (try clear hk); (try clear hi); obtain ⟨hcz99_0, hcz99_1, hcz99_2, hcz99_3, hcz99_4, hcz99_5⟩ := bc6 BK324.out; obtain ⟨hfz99_0, hfz99_1, hfz99_2, hfz99_3, hfz99_4, hfz99_5⟩ := bf6 BK324.out) | (go_at_call 10; (with_reducible refine (impl_NodeOf.calls kj3 _ _ l0 a1_2 t350 _ ?side1 ?side2 A95.out).mono ?_); (case side1 => exact cU (Kd.C_below HR0.out HB.out)); (case side2 => exact HC0.out); rintro e w100 ⟨rfl, hb⟩; have n0_ := am (Kd.R_below (rU HO_6.out) hb); have n1_ := am (kB BK324.out hb); have n2_ := am (below_step (bS HB.out GE324.out) hb); clear HO_6; clear BK324; clear HB; have HO_6 := n0_; have BK324 := n1_; have HB := n2_; clear n0_ n1_ n2_; (try clear hb); (try clear hb2); (try clear hk); (try clear hi)))
         go_ret2
         exact ⟨_, eU, rU HO_6.out, bS HB.out GE324.out⟩
        ·rw [if_neg c96] at H
         have c96b0 : decide (t350 < 0) = false := decide_eq_false c96
         clear c96
         by_cases c101 : a1_2 ≥ a1_1
         ·rw [if_pos c101] at H
          have c101b0 : decide (a1_1 ≤ a1_2) = true := decide_eq_true c101
          clear c101
          simp only [Option.some.injEq, Prod.mk.injEq] at H
          obtain ⟨rfl, rfl⟩ := H
          obtain ⟨hcz102_0, hcz102_1, hcz102_2, hcz102_3, hcz102_4, hcz102_5⟩ := bc6 BK324.out
          obtain ⟨hfz102_0, hfz102_1, hfz102_2, hfz102_3, hfz102_4, hfz102_5⟩ := bf6 BK324.out
          go_wp2_with (first | ((with_reducible refine gate_callee (f := 10) rfl ?_); refine goesL_ (some 26) rfl rfl Tryd.func10 (by kernel_rfl) rfl #[.slice A0 l0.length c0, .int .i64 a1_1] rfl mU ?_; (with_reducible refine (impl_NodeOf.calls kj3 _ _ l0 a1_1 t330 _ ?side1 ?side2 A15.out).mono ?_); (case side1 => exact cU (Kd.C_below HR0.out HB.out)); (case side2 => exact HC0.out); rintro e w103 ⟨rfl, hb⟩; refine ⟨_, rfl, ?_⟩; have n0_ := am (Kd.R_below (rU HO_6.out) hb); have n1_ := am (kB BK324.out hb); have n2_ := am (below_step (bS HB.out GE324.out) hb); clear HO_6; clear BK324; clear HB; have HO_6 := n0_; have BK324 := n1_; have HB := n2_; clear n0_ n1_ n2_; (try clear hb); (try clear hb2); (try clear hk); (try clear hi); obtain ⟨hcz104_0, hcz104_1, hcz104_2, hcz104_3, hcz104_4, hcz104_5⟩ := bc6 BK324.out; obtain ⟨hfz104_0, hfz104_1, hfz104_2, hfz104_3, hfz104_4, hfz104_5⟩ := bf6 BK324.out) | (go_at_call 10; (with_reducible refine (impl_NodeOf.calls kj3 _ _ l0 a1_2 t350 _ ?side1 ?side2 A95.out).mono ?_); (case side1 => exact cU (Kd.C_below HR0.out HB.out)); (case side2 => exact HC0.out); rintro e w105 ⟨rfl, hb⟩; have n0_ := am (Kd.R_below (rU HO_6.out) hb); have n1_ := am (kB BK324.out hb); have n2_ := am (below_step (bS HB.out GE324.out) hb); clear HO_6; clear BK324; clear HB; have HO_6 := n0_; have BK324 := n1_; have HB := n2_; clear n0_ n1_ n2_; (try clear hb); (try clear hb2); (try clear hk); (try clear hi); obtain ⟨hcz106_0, hcz106_1, hcz106_2, hcz106_3, hcz106_4, hcz106_5⟩ := bc6 BK324.out; obtain ⟨hfz106_0, hfz106_1, hfz106_2, hfz106_3, hfz106_4, hfz106_5⟩ := bf6 BK324.out))
          go_ret2
          exact ⟨_, eU, rU HO_6.out, bS HB.out GE324.out⟩
         ·rw [if_neg c101] at H
          have c101b0 : decide (a1_1 ≤ a1_2) = false := decide_eq_false c101
          clear c101
          by_cases c107 : 0 ≤ t330
          ·rw [if_pos c107] at H
           have c107b0 : decide (0 ≤ t330) = true := decide_eq_true c107
           clear c107
           by_cases c108 : t330 < (t325.length : Int)
           ·rw [if_pos c108] at H
            have c108b0 : decide (t330 < (t325.length : Int)) = true := decide_eq_true c108
            clear c108
            obtain ⟨y351, hy351⟩ : ∃ y_ : List (S34), y_ = (t325.set (t330 : Int).toNat (⟨(rd_T34 t325 t330).f0, a1_2, (rd_T34 t325 t330).f2, (rd_T34 t325 t330).f3, (rd_T34 t325 t330).f4⟩ : S34)) := ⟨_, rfl⟩
            replace H : (some ((y351.set (t330 : Int).toNat (⟨(rd_T34 y351 t330).f0, (rd_T34 y351 t330).f1, (rd_T34 y351 t330).f2, (rd_T34 y351 t330).f3, a1_5⟩ : S34)), true)) = some (r1, r2) := by first | (rw [hy351]; with_reducible exact H) | (have H2_ := (Option.bind_some _ _).symm.trans H; rw [hy351]; with_reducible exact H2_) | (have H2_ := (Option.bind_some _ _).symm.trans H; with_reducible exact H2_) | with_reducible exact H | (rw [hy351]; exact H) | exact H
            have Ny351 := am hy351
            clear hy351
            obtain ⟨y352, hy352⟩ : ∃ y_ : List (S34), y_ = (y351.set (t330 : Int).toNat (⟨(rd_T34 y351 t330).f0, (rd_T34 y351 t330).f1, (rd_T34 y351 t330).f2, (rd_T34 y351 t330).f3, a1_5⟩ : S34)) := ⟨_, rfl⟩
            replace H : (some (y352, true)) = some (r1, r2) := by first | (rw [hy352]; with_reducible exact H) | (have H2_ := (Option.bind_some _ _).symm.trans H; rw [hy352]; with_reducible exact H2_) | (have H2_ := (Option.bind_some _ _).symm.trans H; with_reducible exact H2_) | with_reducible exact H | (rw [hy352]; exact H) | exact H
            have Ny352 := am hy352
            clear hy352
            simp only [Option.some.injEq, Prod.mk.injEq] at H
            obtain ⟨rfl, rfl⟩ := H
            obtain ⟨hcz111_0, hcz111_1, hcz111_2, hcz111_3, hcz111_4, hcz111_5⟩ := bc6 BK324.out
            obtain ⟨hfz111_0, hfz111_1, hfz111_2, hfz111_3, hfz111_4, hfz111_5⟩ := bf6 BK324.out
            go_wp2_with (first | ((with_reducible refine gate_callee (f := 10) rfl ?_); refine goesL_ (some 26) rfl rfl Tryd.func10 (by kernel_rfl) rfl #[.slice A0 l0.length c0, .int .i64 a1_1] rfl mU ?_; (with_reducible refine (impl_NodeOf.calls kj3 _ _ l0 a1_1 t330 _ ?side1 ?side2 A15.out).mono ?_); (case side1 => exact cU (Kd.C_below HR0.out HB.out)); (case side2 => exact HC0.out); rintro e w112 ⟨rfl, hb⟩; refine ⟨_, rfl, ?_⟩; have n0_ := am (Kd.R_below (rU HO_6.out) hb); have n1_ := am (kB BK324.out hb); have n2_ := am (below_step (bS HB.out GE324.out) hb); clear HO_6; clear BK324; clear HB; have HO_6 := n0_; have BK324 := n1_; have HB := n2_; clear n0_ n1_ n2_; (try clear hb); (try clear hb2); (try clear hk); (try clear hi); obtain ⟨hcz113_0, hcz113_1, hcz113_2, hcz113_3, hcz113_4, hcz113_5⟩ := bc6 BK324.out; obtain ⟨hfz113_0, hfz113_1, hfz113_2, hfz113_3, hfz113_4, hfz113_5⟩ := bf6 BK324.out) | (go_at_call 10; (with_reducible refine (impl_NodeOf.calls kj3 _ _ l0 a1_2 t350 _ ?side1 ?side2 A95.out).mono ?_); (case side1 => exact cU (Kd.C_below HR0.out HB.out)); (case side2 => exact HC0.out); rintro e w114 ⟨rfl, hb⟩; have n0_ := am (Kd.R_below (rU HO_6.out) hb); have n1_ := am (kB BK324.out hb); have n2_ := am (below_step (bS HB.out GE324.out) hb); clear HO_6; clear BK324; clear HB; have HO_6 := n0_; have BK324 := n1_; have HB := n2_; clear n0_ n1_ n2_; (try clear hb); (try clear hb2); (try clear hk); (try clear hi); obtain ⟨hcz115_0, hcz115_1, hcz115_2, hcz115_3, hcz115_4, hcz115_5⟩ := bc6 BK324.out; obtain ⟨hfz115_0, hfz115_1, hfz115_2, hfz115_3, hfz115_4, hfz115_5⟩ := bf6 BK324.out; have p109 : 0 ≤ (t330 : Int) := dU; have q109 : (t330 : Int) < ((t325.length : Int) : Int) := dU; obtain ⟨go109, co109, eo109, gb109, gl109, cl109, HG109⟩ := Kd.R_form HO_6.out (by omega); (first | cases eo109 | (injection eo109 with ea_ en_ ec_; (first | subst ea_ | (injection ea_ with ea_; subst ea_)); subst ec_; clear en_)); have GB109 := am gb109; have GG109 := am HG109; clear gb109 gl109 HG109; obtain ⟨ce109, hcl109, hM109, hcc109, hfr109⟩ := Kd.R_elem HO_6.out z34 (t330 : Int) p109 q109; obtain rfl := k34_openM hM109; have hx109_0 : w114.cell? ⟨go109, (t330 : Int).toNat * 5, none⟩ = some (.int .i64 ((rd_T34 t325 t330).f0)) := hcc109 0 _ rfl; have hx109_1 : w114.cell? ⟨go109, (t330 : Int).toNat * 5 + 1, none⟩ = some (.int .i64 ((rd_T34 t325 t330).f1)) := hcc109 1 _ rfl; have hx109_2 : w114.cell? ⟨go109, (t330 : Int).toNat * 5 + 2, none⟩ = some (.int .i64 ((rd_T34 t325 t330).f2)) := hcc109 2 _ rfl; have hx109_3 : w114.cell? ⟨go109, (t330 : Int).toNat * 5 + 3, none⟩ = some (.int .i64 ((rd_T34 t325 t330).f3)) := hcc109 3 _ rfl; have hx109_4 : w114.cell? ⟨go109, (t330 : Int).toNat * 5 + 4, none⟩ = some (.int .i64 ((rd_T34 t325 t330).f4)) := hcc109 4 _ rfl; have hf109_0 : w114.frozen? ⟨go109, (t330 : Int).toNat * 5, none⟩ = false := hfr109 0; have hf109_1 : w114.frozen? ⟨go109, (t330 : Int).toNat * 5 + 1, none⟩ = false := hfr109 1; have hf109_2 : w114.frozen? ⟨go109, (t330 : Int).toNat * 5 + 2, none⟩ = false := hfr109 2; have hf109_3 : w114.frozen? ⟨go109, (t330 : Int).toNat * 5 + 3, none⟩ = false := hfr109 3; have hf109_4 : w114.frozen? ⟨go109, (t330 : Int).toNat * 5 + 4, none⟩ = false := hfr109 4; clear hcl109 hcc109 hfr109 hM109; replace p109 := eq_true p109; replace q109 := eq_true q109))
            (have HX116 := am (show Kd.R k34 34 w114 w.heap.size (fun _ => True) (.slice (some ⟨go109, 0, none⟩) t325.length co109) t325 from (rU HO_6.out)); obtain ⟨ce116, hcl116, hM116, hcc116, hfr116⟩ := Kd.R_elem HX116.out z34 (t330 : Int) (dU) (by have h_ : (t330 : Int) < ((t325.length : Int) : Int) := dU; first | exact h_ | (have e_ := (Kd.R_reads' HO_6.out).1; omega) | simpa using h_); obtain rfl := k34_openM hM116; have HP116 := Kd.R_seg HX116.out (t330 : Int) (dU) (by have h_ : (t330 : Int) < ((t325.length : Int) : Int) := dU; first | exact h_ | (have e_ := (Kd.R_reads' HO_6.out).1; omega) | simpa using h_) (seg := [.int .i64 a1_2]) (j := 1) hcl116 hcc116 (show 2 ≤ 5 from by decide) (x' := (⟨(rd_T34 t325 t330).f0, a1_2, (rd_T34 t325 t330).f2, (rd_T34 t325 t330).f3, (rd_T34 t325 t330).f4⟩ : S34)) (k34_mkM _ _ _ (⟨(rd_T34 t325 t330).f0, a1_2, (rd_T34 t325 t330).f2, (rd_T34 t325 t330).f3, (rd_T34 t325 t330).f4⟩ : S34) ) (fun _ hk => hk))
            obtain ⟨W1_, hW1_⟩ : ∃ W1_, W1_ = w114.setCell ⟨go109, (t330 : Int).toNat * 5 + 1, none⟩ (.int .i64 a1_2) := ⟨_, rfl⟩
            have hp1_ : Kd.R k34 34 W1_ w.heap.size (fun _ => True) (.slice (some ⟨go109, 0, none⟩) t325.length co109) y351 := by rw [hW1_, Ny351.out]; exact HP116.1
            (obtain ⟨ce118, hcl118, hM118, hcc118, hfr118⟩ := Kd.R_elem hp1_ z34 (t330 : Int) (dU) (by have h_ : (t330 : Int) < ((t325.length : Int) : Int) := dU; first | exact h_ | (have e_ := (Kd.R_reads' hp1_).1; omega) | simpa using h_); obtain rfl := k34_openM hM118; have HP118 := Kd.R_seg hp1_ (t330 : Int) (dU) (by have h_ : (t330 : Int) < ((t325.length : Int) : Int) := dU; first | exact h_ | (have e_ := (Kd.R_reads' hp1_).1; omega) | simpa using h_) (seg := [.int .i64 a1_5]) (j := 4) hcl118 hcc118 (show 5 ≤ 5 from by decide) (x' := (⟨(rd_T34 y351 t330).f0, (rd_T34 y351 t330).f1, (rd_T34 y351 t330).f2, (rd_T34 y351 t330).f3, a1_5⟩ : S34)) (k34_mkM _ _ _ (⟨(rd_T34 y351 t330).f0, (rd_T34 y351 t330).f1, (rd_T34 y351 t330).f2, (rd_T34 y351 t330).f3, a1_5⟩ : S34) ) (fun _ hk => hk))
            have hp2_ : Kd.R k34 34 (W1_.setCell ⟨go109, (t330 : Int).toNat * 5 + 4, none⟩ (.int .i64 a1_5)) w.heap.size (fun _ => True) (.slice (some ⟨go109, 0, none⟩) t325.length co109) y352 := by rw [Ny352.out]; exact HP118.1
            rw [hW1_] at hp2_
            have HP2_ := am hp2_
            have HB2_ := am (show Below w.heap.size w ((w114.setCell ⟨go109, (t330 : Int).toNat * 5 + 1, none⟩ (.int .i64 a1_2)).setCell ⟨go109, (t330 : Int).toNat * 5 + 4, none⟩ (.int .i64 a1_5)) from below_set (below_set HB.out GB109.out) GB109.out)
            clear hp1_ hp2_ hW1_ HP116 HP118 hcl116 hcc116 hfr116 hM116 hcl118 hcc118 hfr118 hM118
            go_region
            all_goals
             go_wp2
             go_ret2
             exact ⟨_, eU, rU HP2_.out, by repeat (first | (with_reducible first | exact HB2_.out | apply below_alloc | apply pw_below_drewN | apply below_drew1) | exact HB2_.out)⟩
           ·rw [if_neg c108] at H
            exact absurd H (by simp)
          ·rw [if_neg c107] at H
           exact absurd H (by simp)
end Go.Proofs.YtefppmgcenfemaaDoor.QFnEdits
