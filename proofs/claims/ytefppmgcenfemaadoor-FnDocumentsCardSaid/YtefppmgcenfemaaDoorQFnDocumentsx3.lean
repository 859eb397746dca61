import Derived.Test.YtefppmgcenfemaaDoorUp
import Derived.Test.YtefppmgcenfemaaDoorQFnDocumentsx0
import Derived.Test.YtefppmgcenfemaaDoorQFnDocumentsx2
namespace Go.Proofs.YtefppmgcenfemaaDoor.QFnDocuments
open Go.RowKit Go.Proofs.YtefppmgcenfemaaDoorW.PrintWords Go.Proofs.YtefppmgcenfemaaDoorW.PrintLast Go.Proofs.YtefppmgcenfemaaDoorW.PrintMore
attribute [local go_sem] max2_int min2_int max_two min_two max_three min_three max_four min_four
set_option linter.unusedVariables false
set_option linter.unusedSimpArgs false
def spec_l4Any.l0 : Nat → List (S34) → List Int → Int → Int → Option ((List (S34)) × Int × Int)
 | 0, _, _, _, _ => none
 | k + 1, x3, x1000, x1001, x1002 => if (x3.length : Int) < 17 then (if x3.length < 3518437208883 then (spec_l4Any.l0 k (x3 ++ [(⟨wrap64 (100 + (x3.length : Int)), 0, 0, 0, 0⟩ : S34)]) x1000 x1001 x1002) else (none)) else (some (x3, x1001, x1002))
def spec_l4Any.f (k : Nat) (s0_0 : List Int) (s0_1 : Int) (s0_2 : Int) : Option ((List (S34)) × Int × Int) := (spec_l4Draw.f k s0_0 s0_1 s0_2).bind fun bt146 => ((spec_l1Below.f s0_0 bt146.2.1 bt146.2.2 (bt146.1.length : Int)).bind fun bt151 => ((spec_l1Below.f s0_0 bt151.2.1 bt151.2.2 12).bind fun bt154 => (if bt154.1 = 0 then (if 0 ≤ bt151.1 then (if bt151.1 < (bt146.1.length : Int) then ((spec_l1Int.f s0_0 bt154.2.1 bt154.2.2 (([(-1), (-2), 0, 99, (rd_T34 bt146.1 bt151.1).f0] : List Int))).bind fun bt161 => (some ((bt146.1.set (bt151.1 : Int).toNat (⟨(rd_T34 bt146.1 bt151.1).f0, bt161.1, (rd_T34 bt146.1 bt151.1).f2, (rd_T34 bt146.1 bt151.1).f3, (rd_T34 bt146.1 bt151.1).f4⟩ : S34)), bt161.2.1, bt161.2.2))) else (none)) else (none)) else (if bt154.1 = 1 then ((spec_l1Int.f s0_0 bt154.2.1 bt154.2.2 (([(-1), 9, 10] : List Int))).bind fun bt168 => (if 0 ≤ bt151.1 then (if bt151.1 < (bt146.1.length : Int) then (some ((bt146.1.set (bt151.1 : Int).toNat (⟨(rd_T34 bt146.1 bt151.1).f0, (rd_T34 bt146.1 bt151.1).f1, bt168.1, (rd_T34 bt146.1 bt151.1).f3, (rd_T34 bt146.1 bt151.1).f4⟩ : S34)), bt168.2.1, bt168.2.2)) else (none)) else (none))) else (if bt154.1 = 2 then ((spec_l1Int.f s0_0 bt154.2.1 bt154.2.2 (([(-1), 999, 1000] : List Int))).bind fun bt175 => (if 0 ≤ bt151.1 then (if bt151.1 < (bt146.1.length : Int) then (some ((bt146.1.set (bt151.1 : Int).toNat (⟨(rd_T34 bt146.1 bt151.1).f0, (rd_T34 bt146.1 bt151.1).f1, (rd_T34 bt146.1 bt151.1).f2, bt175.1, (rd_T34 bt146.1 bt151.1).f4⟩ : S34)), bt175.2.1, bt175.2.2)) else (none)) else (none))) else (if bt154.1 = 3 then ((spec_l1Int.f s0_0 bt154.2.1 bt154.2.2 (([(-1), 5, 6] : List Int))).bind fun bt182 => (if 0 ≤ bt151.1 then (if bt151.1 < (bt146.1.length : Int) then (some ((bt146.1.set (bt151.1 : Int).toNat (⟨(rd_T34 bt146.1 bt151.1).f0, (rd_T34 bt146.1 bt151.1).f1, (rd_T34 bt146.1 bt151.1).f2, (rd_T34 bt146.1 bt151.1).f3, bt182.1⟩ : S34)), bt182.2.1, bt182.2.2)) else (none)) else (none))) else (if bt154.1 = 4 then ((spec_l1Int.f s0_0 bt154.2.1 bt154.2.2 (([(-1), 0, 5, 9223372036854775807] : List Int))).bind fun bt189 => (if 0 ≤ bt151.1 then (if bt151.1 < (bt146.1.length : Int) then (some ((bt146.1.set (bt151.1 : Int).toNat (⟨bt189.1, (rd_T34 bt146.1 bt151.1).f1, (rd_T34 bt146.1 bt151.1).f2, (rd_T34 bt146.1 bt151.1).f3, (rd_T34 bt146.1 bt151.1).f4⟩ : S34)), bt189.2.1, bt189.2.2)) else (none)) else (none))) else (if bt154.1 = 5 then (some (([] : List (S34)), bt154.2.1, bt154.2.2)) else (if bt154.1 = 6 then (spec_l4Any.l0 k bt146.1 s0_0 bt154.2.1 bt154.2.2) else (some (bt146.1, bt154.2.1, bt154.2.2)))))))))))
theorem spec_l4Any.mono_l : ∀ k, (∀ y0 y1 y2 y3, LeO (spec_l4Any.l0 k y0 y1 y2 y3) (spec_l4Any.l0 (k + 1) y0 y1 y2 y3))
 | 0 => fun _ _ _ _ r h => by simp [spec_l4Any.l0] at h
 | k + 1 => by
  have ih0 := spec_l4Any.mono_l k
  ·intro y0 y1 y2 y3
   unfold spec_l4Any.l0
   repeat' first
   | (with_reducible exact ih0 _ _ _ _)
   | (with_reducible exact spec_l4Draw.mono _ _ _ _)
   | (with_reducible exact LeO.refl _)
   | (with_reducible exact LeO.none _)
   | (with_reducible refine LeO.ite ?_ ?_)
   | (with_reducible refine LeO.bind ?_ (fun _ => ?_))
   | exact ih0 _ _ _ _
   | exact spec_l4Draw.mono _ _ _ _
   | exact LeO.none _
   | refine LeO.ite ?_ ?_
   | refine LeO.bind ?_ (fun _ => ?_)
theorem spec_l4Any.mono : ∀ a0 a1 a2 k, LeO (spec_l4Any.f k a0 a1 a2) (spec_l4Any.f (k + 1) a0 a1 a2) := by
 intro a0 a1 a2 k
 have ih0 := spec_l4Any.mono_l k
 unfold spec_l4Any.f
 repeat' first
   | (with_reducible exact ih0 _ _ _ _)
   | (with_reducible exact spec_l4Draw.mono _ _ _ _)
   | (with_reducible exact LeO.refl _)
   | (with_reducible exact LeO.none _)
   | (with_reducible refine LeO.ite ?_ ?_)
   | (with_reducible refine LeO.bind ?_ (fun _ => ?_))
   | exact ih0 _ _ _ _
   | exact spec_l4Draw.mono _ _ _ _
   | exact LeO.none _
   | refine LeO.ite ?_ ?_
   | refine LeO.bind ?_ (fun _ => ?_)
set_option maxHeartbeats 8000000 in
set_option maxRecDepth 100000 in
theorem spec_l4Any.calls (k : Nat) (g : Nat) (s0_0 : List Int) (s0_1 : Int) (s0_2 : Int) (r1 : List (S34)) (r2 : Int) (r3 : Int) (w0 w : World) (hI : IsS65 w0 w g s0_0 s0_1 s0_2) (hB : Below w0.heap.size w0 w) (h : spec_l4Any.f k s0_0 s0_1 s0_2 = some (r1, r2, r3)) :
  Calls Tryd.prog 23 #[.pointer (some ⟨g, 0, none⟩)] w fun e w' => ∃ v0_ : Value, e = .returned (v0_) ∧ Kd.R k34 34 w' w.heap.size (fun _ => True) v0_ r1 ∧ IsS65 w0 w' g s0_0 r2 r3 ∧ Below w0.heap.size w0 w' ∧ KeepBut w w' g none := by
 have hu34 := Tryd.underlying34
 have HI0 := am hI
 have HK := am (KeepBut.refl w g none)
 have HL := am hB.size
 clear hI
 have HW0 := am hB.size
 have HB := am hB
 clear hB
 have H : ((spec_l4Draw.f k s0_0 s0_1 s0_2).bind fun bt146 => ((spec_l1Below.f s0_0 bt146.2.1 bt146.2.2 (bt146.1.length : Int)).bind fun bt151 => ((spec_l1Below.f s0_0 bt151.2.1 bt151.2.2 12).bind fun bt154 => (if bt154.1 = 0 then (if 0 ≤ bt151.1 then (if bt151.1 < (bt146.1.length : Int) then ((spec_l1Int.f s0_0 bt154.2.1 bt154.2.2 (([(-1), (-2), 0, 99, (rd_T34 bt146.1 bt151.1).f0] : List Int))).bind fun bt161 => (some ((bt146.1.set (bt151.1 : Int).toNat (⟨(rd_T34 bt146.1 bt151.1).f0, bt161.1, (rd_T34 bt146.1 bt151.1).f2, (rd_T34 bt146.1 bt151.1).f3, (rd_T34 bt146.1 bt151.1).f4⟩ : S34)), bt161.2.1, bt161.2.2))) else (none)) else (none)) else (if bt154.1 = 1 then ((spec_l1Int.f s0_0 bt154.2.1 bt154.2.2 (([(-1), 9, 10] : List Int))).bind fun bt168 => (if 0 ≤ bt151.1 then (if bt151.1 < (bt146.1.length : Int) then (some ((bt146.1.set (bt151.1 : Int).toNat (⟨(rd_T34 bt146.1 bt151.1).f0, (rd_T34 bt146.1 bt151.1).f1, bt168.1, (rd_T34 bt146.1 bt151.1).f3, (rd_T34 bt146.1 bt151.1).f4⟩ : S34)), bt168.2.1, bt168.2.2)) else (none)) else (none))) else (if bt154.1 = 2 then ((spec_l1Int.f s0_0 bt154.2.1 bt154.2.2 (([(-1), 999, 1000] : List Int))).bind fun bt175 => (if 0 ≤ bt151.1 then (if bt151.1 < (bt146.1.length : Int) then (some ((bt146.1.set (bt151.1 : Int).toNat (⟨(rd_T34 bt146.1 bt151.1).f0, (rd_T34 bt146.1 bt151.1).f1, (rd_T34 bt146.1 bt151.1).f2, bt175.1, (rd_T34 bt146.1 bt151.1).f4⟩ : S34)), bt175.2.1, bt175.2.2)) else (none)) else (none))) else (if bt154.1 = 3 then ((spec_l1Int.f s0_0 bt154.2.1 bt154.2.2 (([(-1), 5, 6] : List Int))).bind fun bt182 => (if 0 ≤ bt151.1 then (if bt151.1 < (bt146.1.length : Int) then (some ((bt146.1.set (bt151.1 : Int).toNat (⟨(rd_T34 bt146.1 bt151.1).f0, (rd_T34 bt146.1 bt151.1).f1, (rd_T34 bt146.1 bt151.1).f2, (rd_T34 bt146.1 bt151.1).f3, bt182.1⟩ : S34)), bt182.2.1, bt182.2.2)) else (none)) else (none))) else (if bt154.1 = 4 then ((spec_l1Int.f s0_0 bt154.2.1 bt154.2.2 (([(-1), 0, 5, 9223372036854775807] : List Int))).bind fun bt189 => (if 0 ≤ bt151.1 then (if bt151.1 < (bt146.1.length : Int) then (some ((bt146.1.set (bt151.1 : Int).toNat (⟨bt189.1, (rd_T34 bt146.1 bt151.1).f1, (rd_T34 bt146.1 bt151.1).f2, (rd_T34 bt146.1 bt151.1).f3, (rd_T34 bt146.1 bt151.1).f4⟩ : S34)), bt189.2.1, bt189.2.2)) else (none)) else (none))) else (if bt154.1 = 5 then (some (([] : List (S34)), bt154.2.1, bt154.2.2)) else (if bt154.1 = 6 then (spec_l4Any.l0 k bt146.1 s0_0 bt154.2.1 bt154.2.2) else (some (bt146.1, bt154.2.1, bt154.2.2)))))))))))) = some (r1, r2, r3) := h
 clear h
 replace H := Option.bind_eq_some_iff.mp H
 obtain ⟨⟨t146, t149, t150⟩, A20, H⟩ := H
 replace H : ((spec_l1Below.f s0_0 t149 t150 (t146.length : Int)).bind fun bt151 => ((spec_l1Below.f s0_0 bt151.2.1 bt151.2.2 12).bind fun bt154 => (if bt154.1 = 0 then (if 0 ≤ bt151.1 then (if bt151.1 < (t146.length : Int) then ((spec_l1Int.f s0_0 bt154.2.1 bt154.2.2 (([(-1), (-2), 0, 99, (rd_T34 t146 bt151.1).f0] : List Int))).bind fun bt161 => (some ((t146.set (bt151.1 : Int).toNat (⟨(rd_T34 t146 bt151.1).f0, bt161.1, (rd_T34 t146 bt151.1).f2, (rd_T34 t146 bt151.1).f3, (rd_T34 t146 bt151.1).f4⟩ : S34)), bt161.2.1, bt161.2.2))) else (none)) else (none)) else (if bt154.1 = 1 then ((spec_l1Int.f s0_0 bt154.2.1 bt154.2.2 (([(-1), 9, 10] : List Int))).bind fun bt168 => (if 0 ≤ bt151.1 then (if bt151.1 < (t146.length : Int) then (some ((t146.set (bt151.1 : Int).toNat (⟨(rd_T34 t146 bt151.1).f0, (rd_T34 t146 bt151.1).f1, bt168.1, (rd_T34 t146 bt151.1).f3, (rd_T34 t146 bt151.1).f4⟩ : S34)), bt168.2.1, bt168.2.2)) else (none)) else (none))) else (if bt154.1 = 2 then ((spec_l1Int.f s0_0 bt154.2.1 bt154.2.2 (([(-1), 999, 1000] : List Int))).bind fun bt175 => (if 0 ≤ bt151.1 then (if bt151.1 < (t146.length : Int) then (some ((t146.set (bt151.1 : Int).toNat (⟨(rd_T34 t146 bt151.1).f0, (rd_T34 t146 bt151.1).f1, (rd_T34 t146 bt151.1).f2, bt175.1, (rd_T34 t146 bt151.1).f4⟩ : S34)), bt175.2.1, bt175.2.2)) else (none)) else (none))) else (if bt154.1 = 3 then ((spec_l1Int.f s0_0 bt154.2.1 bt154.2.2 (([(-1), 5, 6] : List Int))).bind fun bt182 => (if 0 ≤ bt151.1 then (if bt151.1 < (t146.length : Int) then (some ((t146.set (bt151.1 : Int).toNat (⟨(rd_T34 t146 bt151.1).f0, (rd_T34 t146 bt151.1).f1, (rd_T34 t146 bt151.1).f2, (rd_T34 t146 bt151.1).f3, bt182.1⟩ : S34)), bt182.2.1, bt182.2.2)) else (none)) else (none))) else (if bt154.1 = 4 then ((spec_l1Int.f s0_0 bt154.2.1 bt154.2.2 (([(-1), 0, 5, 9223372036854775807] : List Int))).bind fun bt189 => (if 0 ≤ bt151.1 then (if bt151.1 < (t146.length : Int) then (some ((t146.set (bt151.1 : Int).toNat (⟨bt189.1, (rd_T34 t146 bt151.1).f1, (rd_T34 t146 bt151.1).f2, (rd_T34 t146 bt151.1).f3, (rd_T34 t146 bt151.1).f4⟩ : S34)), bt189.2.1, bt189.2.2)) else (none)) else (none))) else (if bt154.1 = 5 then (some (([] : List (S34)), bt154.2.1, bt154.2.2)) else (if bt154.1 = 6 then (spec_l4Any.l0 k t146 s0_0 bt154.2.1 bt154.2.2) else (some (t146, bt154.2.1, bt154.2.2))))))))))) = some (r1, r2, r3) := H
 have A2 := am A20
 clear A20
 replace H := Option.bind_eq_some_iff.mp H
 obtain ⟨⟨t151, t152, t153⟩, A30, H⟩ := H
 replace H : ((spec_l1Below.f s0_0 t152 t153 12).bind fun bt154 => (if bt154.1 = 0 then (if 0 ≤ t151 then (if t151 < (t146.length : Int) then ((spec_l1Int.f s0_0 bt154.2.1 bt154.2.2 (([(-1), (-2), 0, 99, (rd_T34 t146 t151).f0] : List Int))).bind fun bt161 => (some ((t146.set (t151 : Int).toNat (⟨(rd_T34 t146 t151).f0, bt161.1, (rd_T34 t146 t151).f2, (rd_T34 t146 t151).f3, (rd_T34 t146 t151).f4⟩ : S34)), bt161.2.1, bt161.2.2))) else (none)) else (none)) else (if bt154.1 = 1 then ((spec_l1Int.f s0_0 bt154.2.1 bt154.2.2 (([(-1), 9, 10] : List Int))).bind fun bt168 => (if 0 ≤ t151 then (if t151 < (t146.length : Int) then (some ((t146.set (t151 : Int).toNat (⟨(rd_T34 t146 t151).f0, (rd_T34 t146 t151).f1, bt168.1, (rd_T34 t146 t151).f3, (rd_T34 t146 t151).f4⟩ : S34)), bt168.2.1, bt168.2.2)) else (none)) else (none))) else (if bt154.1 = 2 then ((spec_l1Int.f s0_0 bt154.2.1 bt154.2.2 (([(-1), 999, 1000] : List Int))).bind fun bt175 => (if 0 ≤ t151 then (if t151 < (t146.length : Int) then (some ((t146.set (t151 : Int).toNat (⟨(rd_T34 t146 t151).f0, (rd_T34 t146 t151).f1, (rd_T34 t146 t151).f2, bt175.1, (rd_T34 t146 t151).f4⟩ : S34)), bt175.2.1, bt175.2.2)) else (none)) else (none))) else (if bt154.1 = 3 then ((spec_l1Int.f s0_0 bt154.2.1 bt154.2.2 (([(-1), 5, 6] : List Int))).bind fun bt182 => (if 0 ≤ t151 then (if t151 < (t146.length : Int) then (some ((t146.set (t151 : Int).toNat (⟨(rd_T34 t146 t151).f0, (rd_T34 t146 t151).f1, (rd_T34 t146 t151).f2, (rd_T34 t146 t151).f3, bt182.1⟩ : S34)), bt182.2.1, bt182.2.2)) else (none)) else (none))) else (if bt154.1 = 4 then ((spec_l1Int.f s0_0 bt154.2.1 bt154.2.2 (([(-1), 0, 5, 9223372036854775807] : List Int))).bind fun bt189 => (if 0 ≤ t151 then (if t151 < (t146.length : Int) then (some ((t146.set (t151 : Int).toNat (⟨bt189.1, (rd_T34 t146 t151).f1, (rd_T34 t146 t151).f2, (rd_T34 t146 t151).f3, (rd_T34 t146 t151).f4⟩ : S34)), bt189.2.1, bt189.2.2)) else (none)) else (none))) else (if bt154.1 = 5 then (some (([] : List (S34)), bt154.2.1, bt154.2.2)) else (if bt154.1 = 6 then (spec_l4Any.l0 k t146 s0_0 bt154.2.1 bt154.2.2) else (some (t146, bt154.2.1, bt154.2.2)))))))))) = some (r1, r2, r3) := H
 have A3 := am A30
 clear A30
 replace H := Option.bind_eq_some_iff.mp H
 obtain ⟨⟨t154, t155, t156⟩, A40, H⟩ := H
 replace H : (if t154 = 0 then (if 0 ≤ t151 then (if t151 < (t146.length : Int) then ((spec_l1Int.f s0_0 t155 t156 (([(-1), (-2), 0, 99, (rd_T34 t146 t151).f0] : List Int))).bind fun bt161 => (some ((t146.set (t151 : Int).toNat (⟨(rd_T34 t146 t151).f0, bt161.1, (rd_T34 t146 t151).f2, (rd_T34 t146 t151).f3, (rd_T34 t146 t151).f4⟩ : S34)), bt161.2.1, bt161.2.2))) else (none)) else (none)) else (if t154 = 1 then ((spec_l1Int.f s0_0 t155 t156 (([(-1), 9, 10] : List Int))).bind fun bt168 => (if 0 ≤ t151 then (if t151 < (t146.length : Int) then (some ((t146.set (t151 : Int).toNat (⟨(rd_T34 t146 t151).f0, (rd_T34 t146 t151).f1, bt168.1, (rd_T34 t146 t151).f3, (rd_T34 t146 t151).f4⟩ : S34)), bt168.2.1, bt168.2.2)) else (none)) else (none))) else (if t154 = 2 then ((spec_l1Int.f s0_0 t155 t156 (([(-1), 999, 1000] : List Int))).bind fun bt175 => (if 0 ≤ t151 then (if t151 < (t146.length : Int) then (some ((t146.set (t151 : Int).toNat (⟨(rd_T34 t146 t151).f0, (rd_T34 t146 t151).f1, (rd_T34 t146 t151).f2, bt175.1, (rd_T34 t146 t151).f4⟩ : S34)), bt175.2.1, bt175.2.2)) else (none)) else (none))) else (if t154 = 3 then ((spec_l1Int.f s0_0 t155 t156 (([(-1), 5, 6] : List Int))).bind fun bt182 => (if 0 ≤ t151 then (if t151 < (t146.length : Int) then (some ((t146.set (t151 : Int).toNat (⟨(rd_T34 t146 t151).f0, (rd_T34 t146 t151).f1, (rd_T34 t146 t151).f2, (rd_T34 t146 t151).f3, bt182.1⟩ : S34)), bt182.2.1, bt182.2.2)) else (none)) else (none))) else (if t154 = 4 then ((spec_l1Int.f s0_0 t155 t156 (([(-1), 0, 5, 9223372036854775807] : List Int))).bind fun bt189 => (if 0 ≤ t151 then (if t151 < (t146.length : Int) then (some ((t146.set (t151 : Int).toNat (⟨bt189.1, (rd_T34 t146 t151).f1, (rd_T34 t146 t151).f2, (rd_T34 t146 t151).f3, (rd_T34 t146 t151).f4⟩ : S34)), bt189.2.1, bt189.2.2)) else (none)) else (none))) else (if t154 = 5 then (some (([] : List (S34)), t155, t156)) else (if t154 = 6 then (spec_l4Any.l0 k t146 s0_0 t155 t156) else (some (t146, t155, t156))))))))) = some (r1, r2, r3) := H
 have A4 := am A40
 clear A40
 by_cases c5 : t154 = 0
 ·rw [if_pos c5] at H
  have c5b0 : (t154 == 0) = true := beq_iff_eq.mpr c5
  have c5b1 : (t154 != 0) = false := bne_eq_false_iff_eq.mpr c5
  clear c5
  by_cases c6 : 0 ≤ t151
  ·rw [if_pos c6] at H
   have c6b0 : decide (0 ≤ t151) = true := decide_eq_true c6
   clear c6
   by_cases c7 : t151 < (t146.length : Int)
   ·rw [if_pos c7] at H
    have c7b0 : decide (t151 < (t146.length : Int)) = true := decide_eq_true c7
    clear c7
    obtain ⟨y158, hy158⟩ : ∃ y_ : List Int, y_ = (([(-1), (-2), 0, 99, (rd_T34 t146 t151).f0] : List Int)) := ⟨_, rfl⟩
    replace H : ((spec_l1Int.f s0_0 t155 t156 y158).bind fun bt161 => (some ((t146.set (t151 : Int).toNat (⟨(rd_T34 t146 t151).f0, bt161.1, (rd_T34 t146 t151).f2, (rd_T34 t146 t151).f3, (rd_T34 t146 t151).f4⟩ : S34)), bt161.2.1, bt161.2.2))) = some (r1, r2, r3) := by first | (rw [hy158]; with_reducible exact H) | (have H2_ := (Option.bind_some _ _).symm.trans H; rw [hy158]; with_reducible exact H2_) | (have H2_ := (Option.bind_some _ _).symm.trans H; with_reducible exact H2_) | with_reducible exact H | (rw [hy158]; exact H) | exact H
    have Ny158 := am hy158
    clear hy158
    replace H := Option.bind_eq_some_iff.mp H
    obtain ⟨⟨t161, t162, t163⟩, A80, H⟩ := H
    replace H : (some ((t146.set (t151 : Int).toNat (⟨(rd_T34 t146 t151).f0, t161, (rd_T34 t146 t151).f2, (rd_T34 t146 t151).f3, (rd_T34 t146 t151).f4⟩ : S34)), t162, t163)) = some (r1, r2, r3) := H
    have A8 := am A80
    clear A80
    obtain ⟨y164, hy164⟩ : ∃ y_ : List (S34), y_ = (t146.set (t151 : Int).toNat (⟨(rd_T34 t146 t151).f0, t161, (rd_T34 t146 t151).f2, (rd_T34 t146 t151).f3, (rd_T34 t146 t151).f4⟩ : S34)) := ⟨_, rfl⟩
    replace H : (some (y164, t162, t163)) = some (r1, r2, r3) := by first | (rw [hy164]; with_reducible exact H) | (have H2_ := (Option.bind_some _ _).symm.trans H; rw [hy164]; with_reducible exact H2_) | (have H2_ := (Option.bind_some _ _).symm.trans H; with_reducible exact H2_) | with_reducible exact H | (rw [hy164]; exact H) | exact H
    have Ny164 := am hy164
    clear hy164
    simp only [Option.some.injEq, Prod.mk.injEq] at H
    obtain ⟨rfl, rfl, rfl⟩ := H
    go_enter Tryd.func23, Tryd.ntmps23
    go_wp2_with (first | ((with_reducible refine gate_callee (f := 33) rfl ?_); refine goesL_ (some 6) rfl rfl Tryd.func33 (by kernel_rfl) rfl #[.pointer (some ⟨g, 0, none⟩)] rfl mU ?_; (with_reducible refine (spec_l4Draw.calls k g s0_0 s0_1 s0_2 t146 t149 t150 w0 _ ?side1 ?side2 A2.out).mono ?_); (case side1 => repeat (first | (with_reducible first | exact HI0.out | apply IsS65.alloc | apply IsS65.drewN | apply IsS65.drew | apply IsS65.set_1 | apply IsS65.set_2) | exact HI0.out)); (case side2 => repeat (first | (with_reducible first | exact HB.out | apply below_alloc | apply pw_below_drewN | apply below_drew1 | refine below_set ?_ (IsS65.ge HI0.out)) | exact HB.out)); rintro e w10 ⟨v147, rfl, ho0, hi, hb, hk⟩; refine ⟨_, rfl, ?_⟩; have n0_ := am (Kd.R_lower ho0 (keep_size (w := w) (g := g) (row := none) (by repeat (first | (with_reducible first | exact HK.out | apply KeepBut.set_ | apply keep_drewN | apply keep_drew | apply keep_alloc) | exact HK.out)))); have n1_ := am (KeepBut.trans (by repeat (first | (with_reducible first | exact HK.out | apply KeepBut.set_ | apply keep_drewN | apply keep_drew | apply keep_alloc) | exact HK.out)) hk (.inl rfl)); have n2_ := am (hb); have n3_ := am (hi); clear HK; clear HB; clear HI0; have HO148 := n0_; have HK := n1_; have HB := n2_; have HI0 := n3_; clear n0_ n1_ n2_ n3_; (try clear hb); (try clear hb2); (try clear hk); (try clear hi); (try clear ho0); obtain ⟨Ao11, co11, eo11⟩ := Kd.R_slice HO148.out; subst eo11) | ((with_reducible refine gate_callee (f := 24) rfl ?_); refine goesL_ (some 10) rfl rfl Tryd.func24 (by kernel_rfl) rfl #[.pointer (some ⟨g, 0, none⟩), .int .i64 (t146.length : Int)] rfl mU ?_; (with_reducible refine (spec_l1Below.calls g s0_0 t149 t150 (t146.length : Int) t151 t152 t153 w0 _ ?side1 ?side2 A3.out).mono ?_); (case side1 => repeat (first | (with_reducible first | exact HI0.out | apply IsS65.alloc | apply IsS65.drewN | apply IsS65.drew | apply IsS65.set_1 | apply IsS65.set_2) | exact HI0.out)); (case side2 => repeat (first | (with_reducible first | exact HB.out | apply below_alloc | apply pw_below_drewN | apply below_drew1 | refine below_set ?_ (IsS65.ge HI0.out)) | exact HB.out)); rintro e w12 ⟨rfl, hi, hb, hk⟩; refine ⟨_, rfl, ?_⟩; have n0_ := am (Kd.R_mono (Kd.R_keep (IsS65.apart (show IsS65 w0 _ g s0_0 t149 t150 from by repeat (first | (with_reducible first | exact HI0.out | apply IsS65.alloc | apply IsS65.drewN | apply IsS65.drew | apply IsS65.set_1 | apply IsS65.set_2) | exact HI0.out)) (rU HO148.out) (by decide)) hk (fun _ h => h.2)) (fun _ h => h.1)); have n1_ := am (KeepBut.trans (by repeat (first | (with_reducible first | exact HK.out | apply KeepBut.set_ | apply keep_drewN | apply keep_drew | apply keep_alloc) | exact HK.out)) hk (.inl rfl)); have n2_ := am (hb); have n3_ := am (hi); clear HO148; clear HK; clear HB; clear HI0; have HO148 := n0_; have HK := n1_; have HB := n2_; have HI0 := n3_; clear n0_ n1_ n2_ n3_; (try clear hb); (try clear hb2); (try clear hk); (try clear hi)) | ((with_reducible refine gate_callee (f := 24) rfl ?_); refine goesL_ (some 12) rfl rfl Tryd.func24 (by kernel_rfl) rfl #[.pointer (some ⟨g, 0, none⟩), .int .i64 12] rfl mU ?_; (with_reducible refine (spec_l1Below.calls g s0_0 t152 t153 12 t154 t155 t156 w0 _ ?side1 ?side2 A4.out).mono ?_); (case side1 => repeat (first | (with_reducible first | exact HI0.out | apply IsS65.alloc | apply IsS65.drewN | apply IsS65.drew | apply IsS65.set_1 | apply IsS65.set_2) | exact HI0.out)); (case side2 => repeat (first | (with_reducible first | exact HB.out | apply below_alloc | apply pw_below_drewN | apply below_drew1 | refine below_set ?_ (IsS65.ge HI0.out)) | exact HB.out)); rintro e w13 ⟨rfl, hi, hb, hk⟩; refine ⟨_, rfl, ?_⟩; have n0_ := am (Kd.R_mono (Kd.R_keep (IsS65.apart (show IsS65 w0 _ g s0_0 t152 t153 from by repeat (first | (with_reducible first | exact HI0.out | apply IsS65.alloc | apply IsS65.drewN | apply IsS65.drew | apply IsS65.set_1 | apply IsS65.set_2) | exact HI0.out)) (rU HO148.out) (by decide)) hk (fun _ h => h.2)) (fun _ h => h.1)); have n1_ := am (KeepBut.trans (by repeat (first | (with_reducible first | exact HK.out | apply KeepBut.set_ | apply keep_drewN | apply keep_drew | apply keep_alloc) | exact HK.out)) hk (.inl rfl)); have n2_ := am (hb); have n3_ := am (hi); clear HO148; clear HK; clear HB; clear HI0; have HO148 := n0_; have HK := n1_; have HB := n2_; have HI0 := n3_; clear n0_ n1_ n2_ n3_; (try clear hb); (try clear hb2); (try clear hk); (try clear hi); have p157 : 0 ≤ (t151 : Int) := dU; have q157 : t151 < (t146.length : Int) := dU; obtain ⟨ad157, e157, hx157_0, hx157_1, hx157_2, hx157_3, hx157_4⟩ := at_T34 (Kd.R_reads' HO148.out).2.2 t151 p157 q157; cases e157; replace p157 := eq_true p157; replace q157 := eq_true q157) | ((with_reducible refine gate_dst (N := 23) rfl ?_); refine Kd.R_lit (Kd.int .i64) _ 3 ?hg (N := 23) ?hd (xs := ([(-1), (-2), 0, 99, (rd_T34 t146 t151).f0] : List Int)) (inner := [.int .i64 (-1), .int .i64 (-2), .int .i64 0, .int .i64 99, .int .i64 ((rd_T34 t146 t151).f0)]) (ok := fun _ => True) (okp := fun _ => True) ?hr ?hp (fun _ hk => hk) trivial (Below.refl _ _) (Nat.le_refl _) (by simp) ?_; (case hd => rfl); (case hg => rfl); (case hr => first | (go_simp; done) | (go_simp; rfl)); (case hp => exact (Reps.one (show Kd.M (Kd.int .i64) _ _ _ (-1) [.int .i64 (-1)] from rfl) (Reps.one (show Kd.M (Kd.int .i64) _ _ _ (-2) [.int .i64 (-2)] from rfl) (Reps.one (show Kd.M (Kd.int .i64) _ _ _ 0 [.int .i64 0] from rfl) (Reps.one (show Kd.M (Kd.int .i64) _ _ _ 99 [.int .i64 99] from rfl) (Reps.one (show Kd.M (Kd.int .i64) _ _ _ ((rd_T34 t146 t151).f0) [.int .i64 ((rd_T34 t146 t151).f0)] from rfl) (Reps.none _ _))))))); intro v159 w14 ho15 hb hg_ hnew_; clear hg_ hnew_; (first | rw [← Ny158.out] at ho15 | (simp only [Int.reduceToNat] at ho15; rw [← Ny158.out] at ho15)); have n0_ := am (Kd.R_below (rU HO148.out) hb); have n1_ := am (Kd.R_lower ho15 (keep_size (w := w) (g := g) (row := none) (by repeat (first | (with_reducible first | exact HK.out | apply KeepBut.set_ | apply keep_drewN | apply keep_drew | apply keep_alloc) | exact HK.out)))); have n2_ := am (IsS65.below (by repeat (first | (with_reducible first | exact HI0.out | apply IsS65.alloc | apply IsS65.drewN | apply IsS65.drew | apply IsS65.set_1 | apply IsS65.set_2) | exact HI0.out)) hb); have n3_ := am (KeepBut.trans (by repeat (first | (with_reducible first | exact HK.out | apply KeepBut.set_ | apply keep_drewN | apply keep_drew | apply keep_alloc) | exact HK.out)) (KeepBut.of_below hb g none) (.inl rfl)); have n4_ := am (below_step (by repeat (first | (with_reducible first | exact HB.out | apply below_alloc | apply pw_below_drewN | apply below_drew1 | refine below_set ?_ (IsS65.ge HI0.out)) | exact HB.out)) hb); clear HO148; clear HI0; clear HK; clear HB; have HO148 := n0_; have HO160 := n1_; have HI0 := n2_; have HK := n3_; have HB := n4_; clear n0_ n1_ n2_ n3_ n4_; clear hb ho15; obtain ⟨Ao16, co16, eo16⟩ := Kd.R_slice HO160.out; subst eo16) | ((with_reducible refine gate_callee (f := 38) rfl ?_); refine goesL_ (some 24) rfl rfl Tryd.func38 (by kernel_rfl) rfl #[.pointer (some ⟨g, 0, none⟩), .slice Ao16 y158.length co16] rfl mU ?_; (with_reducible refine (spec_l1Int.calls g s0_0 t155 t156 _ _ y158 t161 t162 t163 w0 _ ?side1 ?side2 ?side3 ?side4 ?side5 A8.out).mono ?_); (case side1 => repeat (first | (with_reducible first | exact HI0.out | apply IsS65.alloc | apply IsS65.drewN | apply IsS65.drew | apply IsS65.set_1 | apply IsS65.set_2) | exact HI0.out)); (case side2 => repeat (first | (with_reducible first | exact HB.out | apply below_alloc | apply pw_below_drewN | apply below_drew1 | refine below_set ?_ (IsS65.ge HI0.out)) | exact HB.out)); (case side3 => exact cU (Kd.R_reads' HO160.out).2.2); (case side4 => exact (Kd.R_reads' HO160.out).2.1); (case side5 => exact far_slice (IsS65.own_ne HI0.out HO160.out (by decide))); rintro e w17 ⟨rfl, hi, hb, hk⟩; refine ⟨_, rfl, ?_⟩; have n0_ := am (Kd.R_mono (Kd.R_keep (IsS65.apart (show IsS65 w0 _ g s0_0 t155 t156 from by repeat (first | (with_reducible first | exact HI0.out | apply IsS65.alloc | apply IsS65.drewN | apply IsS65.drew | apply IsS65.set_1 | apply IsS65.set_2) | exact HI0.out)) (rU HO148.out) (by decide)) hk (fun _ h => h.2)) (fun _ h => h.1)); have n1_ := am (Kd.R_mono (Kd.R_keep (IsS65.apart (show IsS65 w0 _ g s0_0 t155 t156 from by repeat (first | (with_reducible first | exact HI0.out | apply IsS65.alloc | apply IsS65.drewN | apply IsS65.drew | apply IsS65.set_1 | apply IsS65.set_2) | exact HI0.out)) (rU HO160.out) (by decide)) hk (fun _ h => h.2)) (fun _ h => h.1)); have n2_ := am (KeepBut.trans (by repeat (first | (with_reducible first | exact HK.out | apply KeepBut.set_ | apply keep_drewN | apply keep_drew | apply keep_alloc) | exact HK.out)) hk (.inl rfl)); have n3_ := am (hb); have n4_ := am (hi); clear HO148; clear HO160; clear HK; clear HB; clear HI0; have HO148 := n0_; have HO160 := n1_; have HK := n2_; have HB := n3_; have HI0 := n4_; clear n0_ n1_ n2_ n3_ n4_; (try clear hb); (try clear hb2); (try clear hk); (try clear hi); have p9 : 0 ≤ (t151 : Int) := dU; have q9 : (t151 : Int) < ((t146.length : Int) : Int) := dU; obtain ⟨go9, co9, eo9, gb9, gl9, cl9, HG9⟩ := Kd.R_form HO148.out (by omega); (first | cases eo9 | (injection eo9 with ea_ en_ ec_; (first | subst ea_ | (injection ea_ with ea_; subst ea_)); subst ec_; clear en_)); have GB9 := am gb9; have GG9 := am HG9; clear gb9 gl9 HG9; (first | simp only [add_plain] at hx157_0 | skip); (first | simp only [add_plain] at hx157_1 | skip); (first | simp only [add_plain] at hx157_2 | skip); (first | simp only [add_plain] at hx157_3 | skip); (first | simp only [add_plain] at hx157_4 | skip); obtain ⟨ce9, hcl9, hM9, hcc9, hfr9⟩ := Kd.R_elem HO148.out z34 (t151 : Int) p9 q9; obtain rfl := k34_openM hM9; have hx9_0 : w17.cell? ⟨go9, (t151 : Int).toNat * 5, none⟩ = some (.int .i64 ((rd_T34 t146 t151).f0)) := hcc9 0 _ rfl; have hx9_1 : w17.cell? ⟨go9, (t151 : Int).toNat * 5 + 1, none⟩ = some (.int .i64 ((rd_T34 t146 t151).f1)) := hcc9 1 _ rfl; have hx9_2 : w17.cell? ⟨go9, (t151 : Int).toNat * 5 + 2, none⟩ = some (.int .i64 ((rd_T34 t146 t151).f2)) := hcc9 2 _ rfl; have hx9_3 : w17.cell? ⟨go9, (t151 : Int).toNat * 5 + 3, none⟩ = some (.int .i64 ((rd_T34 t146 t151).f3)) := hcc9 3 _ rfl; have hx9_4 : w17.cell? ⟨go9, (t151 : Int).toNat * 5 + 4, none⟩ = some (.int .i64 ((rd_T34 t146 t151).f4)) := hcc9 4 _ rfl; have hf9_0 : w17.frozen? ⟨go9, (t151 : Int).toNat * 5, none⟩ = false := hfr9 0; have hf9_1 : w17.frozen? ⟨go9, (t151 : Int).toNat * 5 + 1, none⟩ = false := hfr9 1; have hf9_2 : w17.frozen? ⟨go9, (t151 : Int).toNat * 5 + 2, none⟩ = false := hfr9 2; have hf9_3 : w17.frozen? ⟨go9, (t151 : Int).toNat * 5 + 3, none⟩ = false := hfr9 3; have hf9_4 : w17.frozen? ⟨go9, (t151 : Int).toNat * 5 + 4, none⟩ = false := hfr9 4; clear hcl9 hcc9 hfr9 hM9; replace p9 := eq_true p9; replace q9 := eq_true q9; have HX18 := am (show Kd.R k34 34 w17 w.heap.size (fun _ => True) (.slice (some ⟨go9, 0, none⟩) t146.length co11) t146 from (rU HO148.out)); obtain ⟨ce18, hcl18, hM18, hcc18, hfr18⟩ := Kd.R_elem HX18.out z34 (t151 : Int) (dU) (by have h_ : (t151 : Int) < ((t146.length : Int) : Int) := dU; first | exact h_ | (have e_ := (Kd.R_reads' HO148.out).1; omega) | simpa using h_); obtain rfl := k34_openM hM18; have HP18 := Kd.R_seg HX18.out (t151 : Int) (dU) (by have h_ : (t151 : Int) < ((t146.length : Int) : Int) := dU; first | exact h_ | (have e_ := (Kd.R_reads' HO148.out).1; omega) | simpa using h_) (seg := [.int .i64 t161]) (j := 1) hcl18 hcc18 (show 2 ≤ 5 from by decide) (x' := (⟨(rd_T34 t146 t151).f0, t161, (rd_T34 t146 t151).f2, (rd_T34 t146 t151).f3, (rd_T34 t146 t151).f4⟩ : S34)) (k34_mkM _ _ _ (⟨(rd_T34 t146 t151).f0, t161, (rd_T34 t146 t151).f2, (rd_T34 t146 t151).f3, (rd_T34 t146 t151).f4⟩ : S34) ) (fun _ hk => hk); have hx18_1 := hcc18 1 _ rfl; (try simp only [show (k34).sz = 5 from rfl, Nat.mul_one, Nat.add_zero] at hx18_1); have hf18_1 := hfr18 1; (try simp only [show (k34).sz = 5 from rfl, Nat.mul_one, Nat.add_zero] at hf18_1); clear hcl18 hcc18 hfr18 hM18) | ((with_reducible refine gate_store (t := 3) (p := 26) rfl ?_); refine store_event (t := 3) (p := 26) (v := ?vo_w19) (w1 := (w17.setCell ⟨go9, (t151 : Int).toNat * 5 + 1, none⟩ (.int .i64 t161))) ?hg ?ho ?hn ?hr ?_; (case ho => rfl); (case hg => rfl); (case hn => rfl); (case hr => first | (go_simp; done) | (go_simp; rfl)); intro w19 hw; have hg : w17.grownBy w19 (some go9) := (by rw [hw]; exact HP18.2); have hp_ : Kd.R k34 34 w19 w.heap.size (fun _ => True) (.slice (some ⟨go9, 0, none⟩) t146.length co11) y164 := (by rw [hw, Ny164.out]; exact HP18.1); clear HP18; have n0_ := am (IsS65.grown (by repeat (first | (with_reducible first | exact HI0.out | apply IsS65.alloc | apply IsS65.drewN | apply IsS65.drew | apply IsS65.set_1 | apply IsS65.set_2) | exact HI0.out)) hg (IsS65.own_ne HI0.out HO148.out (by decide))); have n1_ := am (hp_); have n2_ := am (Kd.R_over' (v := (.slice (some ⟨go9, 0, none⟩) t146.length co11)) (rU HO160.out) (Kd.R_typed HO148.out) (by decide) hg); have n3_ := am ((by rw [hw]; exact below_set (HB.out) (Nat.le_trans HL.out GB9.out) : Below w0.heap.size w0 w19)); have n4_ := am (KeepBut.trans (by repeat (first | (with_reducible first | exact HK.out | apply KeepBut.set_ | apply keep_drewN | apply keep_drew | apply keep_alloc) | exact HK.out)) (KeepBut.of_grown hg g) (Kd.R_base2 HO148.out)); clear HI0; clear HO148; clear HO160; clear HB; clear HK; have HI0 := n0_; have HO148 := n1_; have HO160 := n2_; have HB := n3_; have HK := n4_; clear n0_ n1_ n2_ n3_ n4_; clear hg hw hp_))
    go_ret
    exact ⟨_, eU, rU HO148.out, by repeat (first | (with_reducible first | exact HI0.out | apply IsS65.alloc | apply IsS65.drewN | apply IsS65.drew | apply IsS65.set_1 | apply IsS65.set_2) | exact HI0.out), by repeat (first | (with_reducible first | exact HB.out | apply below_alloc | apply pw_below_drewN | apply below_drew1 | refine below_set ?_ (IsS65.ge HI0.out)) | exact HB.out), by repeat (first | (with_reducible first | exact HK.out | apply KeepBut.set_ | apply keep_drewN | apply keep_drew | apply keep_alloc) | exact HK.out)⟩
   ·rw [if_neg c7] at H
    exact absurd H (by simp)
  ·rw [if_neg c6] at H
   exact absurd H (by simp)
 ·rw [if_neg c5] at H
  have c5b0 : (t154 == 0) = false := beq_eq_false_iff_ne.mpr c5
  have c5b1 : (t154 != 0) = true := bne_iff_ne.mpr c5
  by_cases c20 : t154 = 1
  ·rw [if_pos c20] at H
   have c20b0 : (t154 == 1) = true := beq_iff_eq.mpr c20
   have c20b1 : (t154 != 1) = false := bne_eq_false_iff_eq.mpr c20
   clear c20
   obtain ⟨y165, hy165⟩ : ∃ y_ : List Int, y_ = (([(-1), 9, 10] : List Int)) := ⟨_, rfl⟩
   replace H : ((spec_l1Int.f s0_0 t155 t156 y165).bind fun bt168 => (if 0 ≤ t151 then (if t151 < (t146.length : Int) then (some ((t146.set (t151 : Int).toNat (⟨(rd_T34 t146 t151).f0, (rd_T34 t146 t151).f1, bt168.1, (rd_T34 t146 t151).f3, (rd_T34 t146 t151).f4⟩ : S34)), bt168.2.1, bt168.2.2)) else (none)) else (none))) = some (r1, r2, r3) := by first | (rw [hy165]; with_reducible exact H) | (have H2_ := (Option.bind_some _ _).symm.trans H; rw [hy165]; with_reducible exact H2_) | (have H2_ := (Option.bind_some _ _).symm.trans H; with_reducible exact H2_) | with_reducible exact H | (rw [hy165]; exact H) | exact H
   have Ny165 := am hy165
   clear hy165
   replace H := Option.bind_eq_some_iff.mp H
   obtain ⟨⟨t168, t169, t170⟩, A210, H⟩ := H
   replace H : (if 0 ≤ t151 then (if t151 < (t146.length : Int) then (some ((t146.set (t151 : Int).toNat (⟨(rd_T34 t146 t151).f0, (rd_T34 t146 t151).f1, t168, (rd_T34 t146 t151).f3, (rd_T34 t146 t151).f4⟩ : S34)), t169, t170)) else (none)) else (none)) = some (r1, r2, r3) := H
   have A21 := am A210
   clear A210
   by_cases c22 : 0 ≤ t151
   ·rw [if_pos c22] at H
    have c22b0 : decide (0 ≤ t151) = true := decide_eq_true c22
    clear c22
    by_cases c23 : t151 < (t146.length : Int)
    ·rw [if_pos c23] at H
     have c23b0 : decide (t151 < (t146.length : Int)) = true := decide_eq_true c23
     clear c23
     obtain ⟨y171, hy171⟩ : ∃ y_ : List (S34), y_ = (t146.set (t151 : Int).toNat (⟨(rd_T34 t146 t151).f0, (rd_T34 t146 t151).f1, t168, (rd_T34 t146 t151).f3, (rd_T34 t146 t151).f4⟩ : S34)) := ⟨_, rfl⟩
     replace H : (some (y171, t169, t170)) = some (r1, r2, r3) := by first | (rw [hy171]; with_reducible exact H) | (have H2_ := (Option.bind_some _ _).symm.trans H; rw [hy171]; with_reducible exact H2_) | (have H2_ := (Option.bind_some _ _).symm.trans H; with_reducible exact H2_) | with_reducible exact H | (rw [hy171]; exact H) | exact H
     have Ny171 := am hy171
     clear hy171
     simp only [Option.some.injEq, Prod.mk.injEq] at H
     obtain ⟨rfl, rfl, rfl⟩ := H
     go_enter Tryd.func23, Tryd.ntmps23
     go_wp2_with (first | ((with_reducible refine gate_callee (f := 33) rfl ?_); refine goesL_ (some 6) rfl rfl Tryd.func33 (by kernel_rfl) rfl #[.pointer (some ⟨g, 0, none⟩)] rfl mU ?_; (with_reducible refine (spec_l4Draw.calls k g s0_0 s0_1 s0_2 t146 t149 t150 w0 _ ?side1 ?side2 A2.out).mono ?_); (case side1 => repeat (first | (with_reducible first | exact HI0.out | apply IsS65.alloc | apply IsS65.drewN | apply IsS65.drew | apply IsS65.set_1 | apply IsS65.set_2) | exact HI0.out)); (case side2 => repeat (first | (with_reducible first | exact HB.out | apply below_alloc | apply pw_below_drewN | apply below_drew1 | refine below_set ?_ (IsS65.ge HI0.out)) | exact HB.out)); rintro e w25 ⟨v147, rfl, ho0, hi, hb, hk⟩; refine ⟨_, rfl, ?_⟩; have n0_ := am (Kd.R_lower ho0 (keep_size (w := w) (g := g) (row := none) (by repeat (first | (with_reducible first | exact HK.out | apply KeepBut.set_ | apply keep_drewN | apply keep_drew | apply keep_alloc) | exact HK.out)))); have n1_ := am (KeepBut.trans (by repeat (first | (with_reducible first | exact HK.out | apply KeepBut.set_ | apply keep_drewN | apply keep_drew | apply keep_alloc) | exact HK.out)) hk (.inl rfl)); have n2_ := am (hb); have n3_ := am (hi); clear HK; clear HB; clear HI0; have HO148 := n0_; have HK := n1_; have HB := n2_; have HI0 := n3_; clear n0_ n1_ n2_ n3_; (try clear hb); (try clear hb2); (try clear hk); (try clear hi); (try clear ho0); obtain ⟨Ao26, co26, eo26⟩ := Kd.R_slice HO148.out; subst eo26) | ((with_reducible refine gate_callee (f := 24) rfl ?_); refine goesL_ (some 10) rfl rfl Tryd.func24 (by kernel_rfl) rfl #[.pointer (some ⟨g, 0, none⟩), .int .i64 (t146.length : Int)] rfl mU ?_; (with_reducible refine (spec_l1Below.calls g s0_0 t149 t150 (t146.length : Int) t151 t152 t153 w0 _ ?side1 ?side2 A3.out).mono ?_); (case side1 => repeat (first | (with_reducible first | exact HI0.out | apply IsS65.alloc | apply IsS65.drewN | apply IsS65.drew | apply IsS65.set_1 | apply IsS65.set_2) | exact HI0.out)); (case side2 => repeat (first | (with_reducible first | exact HB.out | apply below_alloc | apply pw_below_drewN | apply below_drew1 | refine below_set ?_ (IsS65.ge HI0.out)) | exact HB.out)); rintro e w27 ⟨rfl, hi, hb, hk⟩; refine ⟨_, rfl, ?_⟩; have n0_ := am (Kd.R_mono (Kd.R_keep (IsS65.apart (show IsS65 w0 _ g s0_0 t149 t150 from by repeat (first | (with_reducible first | exact HI0.out | apply IsS65.alloc | apply IsS65.drewN | apply IsS65.drew | apply IsS65.set_1 | apply IsS65.set_2) | exact HI0.out)) (rU HO148.out) (by decide)) hk (fun _ h => h.2)) (fun _ h => h.1)); have n1_ := am (KeepBut.trans (by repeat (first | (with_reducible first | exact HK.out | apply KeepBut.set_ | apply keep_drewN | apply keep_drew | apply keep_alloc) | exact HK.out)) hk (.inl rfl)); have n2_ := am (hb); have n3_ := am (hi); clear HO148; clear HK; clear HB; clear HI0; have HO148 := n0_; have HK := n1_; have HB := n2_; have HI0 := n3_; clear n0_ n1_ n2_ n3_; (try clear hb); (try clear hb2); (try clear hk); (try clear hi)) | ((with_reducible refine gate_callee (f := 24) rfl ?_); refine goesL_ (some 12) rfl rfl Tryd.func24 (by kernel_rfl) rfl #[.pointer (some ⟨g, 0, none⟩), .int .i64 12] rfl mU ?_; (with_reducible refine (spec_l1Below.calls g s0_0 t152 t153 12 t154 t155 t156 w0 _ ?side1 ?side2 A4.out).mono ?_); (case side1 => repeat (first | (with_reducible first | exact HI0.out | apply IsS65.alloc | apply IsS65.drewN | apply IsS65.drew | apply IsS65.set_1 | apply IsS65.set_2) | exact HI0.out)); (case side2 => repeat (first | (with_reducible first | exact HB.out | apply below_alloc | apply pw_below_drewN | apply below_drew1 | refine below_set ?_ (IsS65.ge HI0.out)) | exact HB.out)); rintro e w28 ⟨rfl, hi, hb, hk⟩; refine ⟨_, rfl, ?_⟩; have n0_ := am (Kd.R_mono (Kd.R_keep (IsS65.apart (show IsS65 w0 _ g s0_0 t152 t153 from by repeat (first | (with_reducible first | exact HI0.out | apply IsS65.alloc | apply IsS65.drewN | apply IsS65.drew | apply IsS65.set_1 | apply IsS65.set_2) | exact HI0.out)) (rU HO148.out) (by decide)) hk (fun _ h => h.2)) (fun _ h => h.1)); have n1_ := am (KeepBut.trans (by repeat (first | (with_reducible first | exact HK.out | apply KeepBut.set_ | apply keep_drewN | apply keep_drew | apply keep_alloc) | exact HK.out)) hk (.inl rfl)); have n2_ := am (hb); have n3_ := am (hi); clear HO148; clear HK; clear HB; clear HI0; have HO148 := n0_; have HK := n1_; have HB := n2_; have HI0 := n3_; clear n0_ n1_ n2_ n3_; (try clear hb); (try clear hb2); (try clear hk); (try clear hi)) | ((with_reducible refine gate_dst (N := 32) rfl ?_); refine Kd.R_lit (Kd.int .i64) _ 3 ?hg (N := 32) ?hd (xs := ([(-1), 9, 10] : List Int)) (inner := [.int .i64 (-1), .int .i64 9, .int .i64 10]) (ok := fun _ => True) (okp := fun _ => True) ?hr ?hp (fun _ hk => hk) trivial (Below.refl _ _) (Nat.le_refl _) (by simp) ?_; (case hd => rfl); (case hg => rfl); (case hr => first | (go_simp; done) | (go_simp; rfl)); (case hp => exact (Reps.one (show Kd.M (Kd.int .i64) _ _ _ (-1) [.int .i64 (-1)] from rfl) (Reps.one (show Kd.M (Kd.int .i64) _ _ _ 9 [.int .i64 9] from rfl) (Reps.one (show Kd.M (Kd.int .i64) _ _ _ 10 [.int .i64 10] from rfl) (Reps.none _ _))))); intro v166 w29 ho30 hb hg_ hnew_; clear hg_ hnew_; (first | rw [← Ny165.out] at ho30 | (simp only [Int.reduceToNat] at ho30; rw [← Ny165.out] at ho30)); have n0_ := am (Kd.R_below (rU HO148.out) hb); have n1_ := am (Kd.R_lower ho30 (keep_size (w := w) (g := g) (row := none) (by repeat (first | (with_reducible first | exact HK.out | apply KeepBut.set_ | apply keep_drewN | apply keep_drew | apply keep_alloc) | exact HK.out)))); have n2_ := am (IsS65.below (by repeat (first | (with_reducible first | exact HI0.out | apply IsS65.alloc | apply IsS65.drewN | apply IsS65.drew | apply IsS65.set_1 | apply IsS65.set_2) | exact HI0.out)) hb); have n3_ := am (KeepBut.trans (by repeat (first | (with_reducible first | exact HK.out | apply KeepBut.set_ | apply keep_drewN | apply keep_drew | apply keep_alloc) | exact HK.out)) (KeepBut.of_below hb g none) (.inl rfl)); have n4_ := am (below_step (by repeat (first | (with_reducible first | exact HB.out | apply below_alloc | apply pw_below_drewN | apply below_drew1 | refine below_set ?_ (IsS65.ge HI0.out)) | exact HB.out)) hb); clear HO148; clear HI0; clear HK; clear HB; have HO148 := n0_; have HO167 := n1_; have HI0 := n2_; have HK := n3_; have HB := n4_; clear n0_ n1_ n2_ n3_ n4_; clear hb ho30; obtain ⟨Ao31, co31, eo31⟩ := Kd.R_slice HO167.out; subst eo31) | ((with_reducible refine gate_callee (f := 38) rfl ?_); refine goesL_ (some 33) rfl rfl Tryd.func38 (by kernel_rfl) rfl #[.pointer (some ⟨g, 0, none⟩), .slice Ao31 y165.length co31] rfl mU ?_; (with_reducible refine (spec_l1Int.calls g s0_0 t155 t156 _ _ y165 t168 t169 t170 w0 _ ?side1 ?side2 ?side3 ?side4 ?side5 A21.out).mono ?_); (case side1 => repeat (first | (with_reducible first | exact HI0.out | apply IsS65.alloc | apply IsS65.drewN | apply IsS65.drew | apply IsS65.set_1 | apply IsS65.set_2) | exact HI0.out)); (case side2 => repeat (first | (with_reducible first | exact HB.out | apply below_alloc | apply pw_below_drewN | apply below_drew1 | refine below_set ?_ (IsS65.ge HI0.out)) | exact HB.out)); (case side3 => exact cU (Kd.R_reads' HO167.out).2.2); (case side4 => exact (Kd.R_reads' HO167.out).2.1); (case side5 => exact far_slice (IsS65.own_ne HI0.out HO167.out (by decide))); rintro e w32 ⟨rfl, hi, hb, hk⟩; refine ⟨_, rfl, ?_⟩; have n0_ := am (Kd.R_mono (Kd.R_keep (IsS65.apart (show IsS65 w0 _ g s0_0 t155 t156 from by repeat (first | (with_reducible first | exact HI0.out | apply IsS65.alloc | apply IsS65.drewN | apply IsS65.drew | apply IsS65.set_1 | apply IsS65.set_2) | exact HI0.out)) (rU HO148.out) (by decide)) hk (fun _ h => h.2)) (fun _ h => h.1)); have n1_ := am (Kd.R_mono (Kd.R_keep (IsS65.apart (show IsS65 w0 _ g s0_0 t155 t156 from by repeat (first | (with_reducible first | exact HI0.out | apply IsS65.alloc | apply IsS65.drewN | apply IsS65.drew | apply IsS65.set_1 | apply IsS65.set_2) | exact HI0.out)) (rU HO167.out) (by decide)) hk (fun _ h => h.2)) (fun _ h => h.1)); have n2_ := am (KeepBut.trans (by repeat (first | (with_reducible first | exact HK.out | apply KeepBut.set_ | apply keep_drewN | apply keep_drew | apply keep_alloc) | exact HK.out)) hk (.inl rfl)); have n3_ := am (hb); have n4_ := am (hi); clear HO148; clear HO167; clear HK; clear HB; clear HI0; have HO148 := n0_; have HO167 := n1_; have HK := n2_; have HB := n3_; have HI0 := n4_; clear n0_ n1_ n2_ n3_ n4_; (try clear hb); (try clear hb2); (try clear hk); (try clear hi); have p24 : 0 ≤ (t151 : Int) := dU; have q24 : (t151 : Int) < ((t146.length : Int) : Int) := dU; obtain ⟨go24, co24, eo24, gb24, gl24, cl24, HG24⟩ := Kd.R_form HO148.out (by omega); (first | cases eo24 | (injection eo24 with ea_ en_ ec_; (first | subst ea_ | (injection ea_ with ea_; subst ea_)); subst ec_; clear en_)); have GB24 := am gb24; have GG24 := am HG24; clear gb24 gl24 HG24; obtain ⟨ce24, hcl24, hM24, hcc24, hfr24⟩ := Kd.R_elem HO148.out z34 (t151 : Int) p24 q24; obtain rfl := k34_openM hM24; have hx24_0 : w32.cell? ⟨go24, (t151 : Int).toNat * 5, none⟩ = some (.int .i64 ((rd_T34 t146 t151).f0)) := hcc24 0 _ rfl; have hx24_1 : w32.cell? ⟨go24, (t151 : Int).toNat * 5 + 1, none⟩ = some (.int .i64 ((rd_T34 t146 t151).f1)) := hcc24 1 _ rfl; have hx24_2 : w32.cell? ⟨go24, (t151 : Int).toNat * 5 + 2, none⟩ = some (.int .i64 ((rd_T34 t146 t151).f2)) := hcc24 2 _ rfl; have hx24_3 : w32.cell? ⟨go24, (t151 : Int).toNat * 5 + 3, none⟩ = some (.int .i64 ((rd_T34 t146 t151).f3)) := hcc24 3 _ rfl; have hx24_4 : w32.cell? ⟨go24, (t151 : Int).toNat * 5 + 4, none⟩ = some (.int .i64 ((rd_T34 t146 t151).f4)) := hcc24 4 _ rfl; have hf24_0 : w32.frozen? ⟨go24, (t151 : Int).toNat * 5, none⟩ = false := hfr24 0; have hf24_1 : w32.frozen? ⟨go24, (t151 : Int).toNat * 5 + 1, none⟩ = false := hfr24 1; have hf24_2 : w32.frozen? ⟨go24, (t151 : Int).toNat * 5 + 2, none⟩ = false := hfr24 2; have hf24_3 : w32.frozen? ⟨go24, (t151 : Int).toNat * 5 + 3, none⟩ = false := hfr24 3; have hf24_4 : w32.frozen? ⟨go24, (t151 : Int).toNat * 5 + 4, none⟩ = false := hfr24 4; clear hcl24 hcc24 hfr24 hM24; replace p24 := eq_true p24; replace q24 := eq_true q24; have HX33 := am (show Kd.R k34 34 w32 w.heap.size (fun _ => True) (.slice (some ⟨go24, 0, none⟩) t146.length co26) t146 from (rU HO148.out)); obtain ⟨ce33, hcl33, hM33, hcc33, hfr33⟩ := Kd.R_elem HX33.out z34 (t151 : Int) (dU) (by have h_ : (t151 : Int) < ((t146.length : Int) : Int) := dU; first | exact h_ | (have e_ := (Kd.R_reads' HO148.out).1; omega) | simpa using h_); obtain rfl := k34_openM hM33; have HP33 := Kd.R_seg HX33.out (t151 : Int) (dU) (by have h_ : (t151 : Int) < ((t146.length : Int) : Int) := dU; first | exact h_ | (have e_ := (Kd.R_reads' HO148.out).1; omega) | simpa using h_) (seg := [.int .i64 t168]) (j := 2) hcl33 hcc33 (show 3 ≤ 5 from by decide) (x' := (⟨(rd_T34 t146 t151).f0, (rd_T34 t146 t151).f1, t168, (rd_T34 t146 t151).f3, (rd_T34 t146 t151).f4⟩ : S34)) (k34_mkM _ _ _ (⟨(rd_T34 t146 t151).f0, (rd_T34 t146 t151).f1, t168, (rd_T34 t146 t151).f3, (rd_T34 t146 t151).f4⟩ : S34) ) (fun _ hk => hk); have hx33_2 := hcc33 2 _ rfl; (try simp only [show (k34).sz = 5 from rfl, Nat.mul_one, Nat.add_zero] at hx33_2); have hf33_2 := hfr33 2; (try simp only [show (k34).sz = 5 from rfl, Nat.mul_one, Nat.add_zero] at hf33_2); clear hcl33 hcc33 hfr33 hM33) | ((with_reducible refine gate_store (t := 3) (p := 35) rfl ?_); refine store_event (t := 3) (p := 35) (v := ?vo_w34) (w1 := (w32.setCell ⟨go24, (t151 : Int).toNat * 5 + 2, none⟩ (.int .i64 t168))) ?hg ?ho ?hn ?hr ?_; (case ho => rfl); (case hg => rfl); (case hn => rfl); (case hr => first | (go_simp; done) | (go_simp; rfl)); intro w34 hw; have hg : w32.grownBy w34 (some go24) := (by rw [hw]; exact HP33.2); have hp_ : Kd.R k34 34 w34 w.heap.size (fun _ => True) (.slice (some ⟨go24, 0, none⟩) t146.length co26) y171 := (by rw [hw, Ny171.out]; exact HP33.1); clear HP33; have n0_ := am (IsS65.grown (by repeat (first | (with_reducible first | exact HI0.out | apply IsS65.alloc | apply IsS65.drewN | apply IsS65.drew | apply IsS65.set_1 | apply IsS65.set_2) | exact HI0.out)) hg (IsS65.own_ne HI0.out HO148.out (by decide))); have n1_ := am (hp_); have n2_ := am (Kd.R_over' (v := (.slice (some ⟨go24, 0, none⟩) t146.length co26)) (rU HO167.out) (Kd.R_typed HO148.out) (by decide) hg); have n3_ := am ((by rw [hw]; exact below_set (HB.out) (Nat.le_trans HL.out GB24.out) : Below w0.heap.size w0 w34)); have n4_ := am (KeepBut.trans (by repeat (first | (with_reducible first | exact HK.out | apply KeepBut.set_ | apply keep_drewN | apply keep_drew | apply keep_alloc) | exact HK.out)) (KeepBut.of_grown hg g) (Kd.R_base2 HO148.out)); clear HI0; clear HO148; clear HO167; clear HB; clear HK; have HI0 := n0_; have HO148 := n1_; have HO167 := n2_; have HB := n3_; have HK := n4_; clear n0_ n1_ n2_ n3_ n4_; clear hg hw hp_))
     go_ret
     exact ⟨_, eU, rU HO148.out, by repeat (first | (with_reducible first | exact HI0.out | apply IsS65.alloc | apply IsS65.drewN | apply IsS65.drew | apply IsS65.set_1 | apply IsS65.set_2) | exact HI0.out), by repeat (first | (with_reducible first | exact HB.out | apply below_alloc | apply pw_below_drewN | apply below_drew1 | refine below_set ?_ (IsS65.ge HI0.out)) | exact HB.out), by repeat (first | (with_reducible first | exact HK.out | apply KeepBut.set_ | apply keep_drewN | apply keep_drew | apply keep_alloc) | exact HK.out)⟩
    ·rw [if_neg c23] at H
     exact absurd H (by simp)
   ·rw [if_neg c22] at H
    exact absurd H (by simp)
  ·rw [if_neg c20] at H
   have c20b0 : (t154 == 1) = false := beq_eq_false_iff_ne.mpr c20
   have c20b1 : (t154 != 1) = true := bne_iff_ne.mpr c20
   by_cases c35 : t154 = 2
   ·rw [if_pos c35] at H
    have c35b0 : (t154 == 2) = true := beq_iff_eq.mpr c35
    have c35b1 : (t154 != 2) = false := bne_eq_false_iff_eq.mpr c35
    clear c35
    obtain ⟨y172, hy172⟩ : ∃ y_ : List Int, y_ = (([(-1), 999, 1000] : List Int)) := ⟨_, rfl⟩
    replace H : ((spec_l1Int.f s0_0 t155 t156 y172).bind fun bt175 => (if 0 ≤ t151 then (if t151 < (t146.length : Int) then (some ((t146.set (t151 : Int).toNat (⟨(rd_T34 t146 t151).f0, (rd_T34 t146 t151).f1, (rd_T34 t146 t151).f2, bt175.1, (rd_T34 t146 t151).f4⟩ : S34)), bt175.2.1, bt175.2.2)) else (none)) else (none))) = some (r1, r2, r3) := by first | (rw [hy172]; with_reducible exact H) | (have H2_ := (Option.bind_some _ _).symm.trans H; rw [hy172]; with_reducible exact H2_) | (have H2_ := (Option.bind_some _ _).symm.trans H; with_reducible exact H2_) | with_reducible exact H | (rw [hy172]; exact H) | exact H
    have Ny172 := am hy172
    clear hy172
    replace H := Option.bind_eq_some_iff.mp H
    obtain ⟨⟨t175, t176, t177⟩, A360, H⟩ := H
    replace H : (if 0 ≤ t151 then (if t151 < (t146.length : Int) then (some ((t146.set (t151 : Int).toNat (⟨(rd_T34 t146 t151).f0, (rd_T34 t146 t151).f1, (rd_T34 t146 t151).f2, t175, (rd_T34 t146 t151).f4⟩ : S34)), t176, t177)) else (none)) else (none)) = some (r1, r2, r3) := H
    have A36 := am A360
    clear A360
    by_cases c37 : 0 ≤ t151
    ·rw [if_pos c37] at H
     have c37b0 : decide (0 ≤ t151) = true := decide_eq_true c37
     clear c37
     by_cases c38 : t151 < (t146.length : Int)
     ·rw [if_pos c38] at H
      have c38b0 : decide (t151 < (t146.length : Int)) = true := decide_eq_true c38
      clear c38
      obtain ⟨y178, hy178⟩ : ∃ y_ : List (S34), y_ = (t146.set (t151 : Int).toNat (⟨(rd_T34 t146 t151).f0, (rd_T34 t146 t151).f1, (rd_T34 t146 t151).f2, t175, (rd_T34 t146 t151).f4⟩ : S34)) := ⟨_, rfl⟩
      replace H : (some (y178, t176, t177)) = some (r1, r2, r3) := by first | (rw [hy178]; with_reducible exact H) | (have H2_ := (Option.bind_some _ _).symm.trans H; rw [hy178]; with_reducible exact H2_) | (have H2_ := (Option.bind_some _ _).symm.trans H; with_reducible exact H2_) | with_reducible exact H | (rw [hy178]; exact H) | exact H
      have Ny178 := am hy178
      clear hy178
      simp only [Option.some.injEq, Prod.mk.injEq] at H
      obtain ⟨rfl, rfl, rfl⟩ := H
      go_enter Tryd.func23, Tryd.ntmps23
      go_wp2_with (first | ((with_reducible refine gate_callee (f := 33) rfl ?_); refine goesL_ (some 6) rfl rfl Tryd.func33 (by kernel_rfl) rfl #[.pointer (some ⟨g, 0, none⟩)] rfl mU ?_; (with_reducible refine (spec_l4Draw.calls k g s0_0 s0_1 s0_2 t146 t149 t150 w0 _ ?side1 ?side2 A2.out).mono ?_); (case side1 => repeat (first | (with_reducible first | exact HI0.out | apply IsS65.alloc | apply IsS65.drewN | apply IsS65.drew | apply IsS65.set_1 | apply IsS65.set_2) | exact HI0.out)); (case side2 => repeat (first | (with_reducible first | exact HB.out | apply below_alloc | apply pw_below_drewN | apply below_drew1 | refine below_set ?_ (IsS65.ge HI0.out)) | exact HB.out)); rintro e w40 ⟨v147, rfl, ho0, hi, hb, hk⟩; refine ⟨_, rfl, ?_⟩; have n0_ := am (Kd.R_lower ho0 (keep_size (w := w) (g := g) (row := none) (by repeat (first | (with_reducible first | exact HK.out | apply KeepBut.set_ | apply keep_drewN | apply keep_drew | apply keep_alloc) | exact HK.out)))); have n1_ := am (KeepBut.trans (by repeat (first | (with_reducible first | exact HK.out | apply KeepBut.set_ | apply keep_drewN | apply keep_drew | apply keep_alloc) | exact HK.out)) hk (.inl rfl)); have n2_ := am (hb); have n3_ := am (hi); clear HK; clear HB; clear HI0; have HO148 := n0_; have HK := n1_; have HB := n2_; have HI0 := n3_; clear n0_ n1_ n2_ n3_; (try clear hb); (try clear hb2); (try clear hk); (try clear hi); (try clear ho0); obtain ⟨Ao41, co41, eo41⟩ := Kd.R_slice HO148.out; subst eo41) | ((with_reducible refine gate_callee (f := 24) rfl ?_); refine goesL_ (some 10) rfl rfl Tryd.func24 (by kernel_rfl) rfl #[.pointer (some ⟨g, 0, none⟩), .int .i64 (t146.length : Int)] rfl mU ?_; (with_reducible refine (spec_l1Below.calls g s0_0 t149 t150 (t146.length : Int) t151 t152 t153 w0 _ ?side1 ?side2 A3.out).mono ?_); (case side1 => repeat (first | (with_reducible first | exact HI0.out | apply IsS65.alloc | apply IsS65.drewN | apply IsS65.drew | apply IsS65.set_1 | apply IsS65.set_2) | exact HI0.out)); (case side2 => repeat (first | (with_reducible first | exact HB.out | apply below_alloc | apply pw_below_drewN | apply below_drew1 | refine below_set ?_ (IsS65.ge HI0.out)) | exact HB.out)); rintro e w42 ⟨rfl, hi, hb, hk⟩; refine ⟨_, rfl, ?_⟩; have n0_ := am (Kd.R_mono (Kd.R_keep (IsS65.apart (show IsS65 w0 _ g s0_0 t149 t150 from by repeat (first | (with_reducible first | exact HI0.out | apply IsS65.alloc | apply IsS65.drewN | apply IsS65.drew | apply IsS65.set_1 | apply IsS65.set_2) | exact HI0.out)) (rU HO148.out) (by decide)) hk (fun _ h => h.2)) (fun _ h => h.1)); have n1_ := am (KeepBut.trans (by repeat (first | (with_reducible first | exact HK.out | apply KeepBut.set_ | apply keep_drewN | apply keep_drew | apply keep_alloc) | exact HK.out)) hk (.inl rfl)); have n2_ := am (hb); have n3_ := am (hi); clear HO148; clear HK; clear HB; clear HI0; have HO148 := n0_; have HK := n1_; have HB := n2_; have HI0 := n3_; clear n0_ n1_ n2_ n3_; (try clear hb); (try clear hb2); (try clear hk); (try clear hi)) | ((with_reducible refine gate_callee (f := 24) rfl ?_); refine goesL_ (some 12) rfl rfl Tryd.func24 (by kernel_rfl) rfl #[.pointer (some ⟨g, 0, none⟩), .int .i64 12] rfl mU ?_; (with_reducible refine (spec_l1Below.calls g s0_0 t152 t153 12 t154 t155 t156 w0 _ ?side1 ?side2 A4.out).mono ?_); (case side1 => repeat (first | (with_reducible first | exact HI0.out | apply IsS65.alloc | apply IsS65.drewN | apply IsS65.drew | apply IsS65.set_1 | apply IsS65.set_2) | exact HI0.out)); (case side2 => repeat (first | (with_reducible first | exact HB.out | apply below_alloc | apply pw_below_drewN | apply below_drew1 | refine below_set ?_ (IsS65.ge HI0.out)) | exact HB.out)); rintro e w43 ⟨rfl, hi, hb, hk⟩; refine ⟨_, rfl, ?_⟩; have n0_ := am (Kd.R_mono (Kd.R_keep (IsS65.apart (show IsS65 w0 _ g s0_0 t152 t153 from by repeat (first | (with_reducible first | exact HI0.out | apply IsS65.alloc | apply IsS65.drewN | apply IsS65.drew | apply IsS65.set_1 | apply IsS65.set_2) | exact HI0.out)) (rU HO148.out) (by decide)) hk (fun _ h => h.2)) (fun _ h => h.1)); have n1_ := am (KeepBut.trans (by repeat (first | (with_reducible first | exact HK.out | apply KeepBut.set_ | apply keep_drewN | apply keep_drew | apply keep_alloc) | exact HK.out)) hk (.inl rfl)); have n2_ := am (hb); have n3_ := am (hi); clear HO148; clear HK; clear HB; clear HI0; have HO148 := n0_; have HK := n1_; have HB := n2_; have HI0 := n3_; clear n0_ n1_ n2_ n3_; (try clear hb); (try clear hb2); (try clear hk); (try clear hi)) | ((with_reducible refine gate_dst (N := 41) rfl ?_); refine Kd.R_lit (Kd.int .i64) _ 3 ?hg (N := 41) ?hd (xs := ([(-1), 999, 1000] : List Int)) (inner := [.int .i64 (-1), .int .i64 999, .int .i64 1000]) (ok := fun _ => True) (okp := fun _ => True) ?hr ?hp (fun _ hk => hk) trivial (Below.refl _ _) (Nat.le_refl _) (by simp) ?_; (case hd => rfl); (case hg => rfl); (case hr => first | (go_simp; done) | (go_simp; rfl)); (case hp => exact (Reps.one (show Kd.M (Kd.int .i64) _ _ _ (-1) [.int .i64 (-1)] from rfl) (Reps.one (show Kd.M (Kd.int .i64) _ _ _ 999 [.int .i64 999] from rfl) (Reps.one (show Kd.M (Kd.int .i64) _ _ _ 1000 [.int .i64 1000] from rfl) (Reps.none _ _))))); intro v173 w44 ho45 hb hg_ hnew_; clear hg_ hnew_; (first | rw [← Ny172.out] at ho45 | (simp only [Int.reduceToNat] at ho45; rw [← Ny172.out] at ho45)); have n0_ := am (Kd.R_below (rU HO148.out) hb); have n1_ := am (Kd.R_lower ho45 (keep_size (w := w) (g := g) (row := none) (by repeat (first | (with_reducible first | exact HK.out | apply KeepBut.set_ | apply keep_drewN | apply keep_drew | apply keep_alloc) | exact HK.out)))); have n2_ := am (IsS65.below (by repeat (first | (with_reducible first | exact HI0.out | apply IsS65.alloc | apply IsS65.drewN | apply IsS65.drew | apply IsS65.set_1 | apply IsS65.set_2) | exact HI0.out)) hb); have n3_ := am (KeepBut.trans (by repeat (first | (with_reducible first | exact HK.out | apply KeepBut.set_ | apply keep_drewN | apply keep_drew | apply keep_alloc) | exact HK.out)) (KeepBut.of_below hb g none) (.inl rfl)); have n4_ := am (below_step (by repeat (first | (with_reducible first | exact HB.out | apply below_alloc | apply pw_below_drewN | apply below_drew1 | refine below_set ?_ (IsS65.ge HI0.out)) | exact HB.out)) hb); clear HO148; clear HI0; clear HK; clear HB; have HO148 := n0_; have HO174 := n1_; have HI0 := n2_; have HK := n3_; have HB := n4_; clear n0_ n1_ n2_ n3_ n4_; clear hb ho45; obtain ⟨Ao46, co46, eo46⟩ := Kd.R_slice HO174.out; subst eo46) | ((with_reducible refine gate_callee (f := 38) rfl ?_); refine goesL_ (some 42) rfl rfl Tryd.func38 (by kernel_rfl) rfl #[.pointer (some ⟨g, 0, none⟩), .slice Ao46 y172.length co46] rfl mU ?_; (with_reducible refine (spec_l1Int.calls g s0_0 t155 t156 _ _ y172 t175 t176 t177 w0 _ ?side1 ?side2 ?side3 ?side4 ?side5 A36.out).mono ?_); (case side1 => repeat (first | (with_reducible first | exact HI0.out | apply IsS65.alloc | apply IsS65.drewN | apply IsS65.drew | apply IsS65.set_1 | apply IsS65.set_2) | exact HI0.out)); (case side2 => repeat (first | (with_reducible first | exact HB.out | apply below_alloc | apply pw_below_drewN | apply below_drew1 | refine below_set ?_ (IsS65.ge HI0.out)) | exact HB.out)); (case side3 => exact cU (Kd.R_reads' HO174.out).2.2); (case side4 => exact (Kd.R_reads' HO174.out).2.1); (case side5 => exact far_slice (IsS65.own_ne HI0.out HO174.out (by decide))); rintro e w47 ⟨rfl, hi, hb, hk⟩; refine ⟨_, rfl, ?_⟩; have n0_ := am (Kd.R_mono (Kd.R_keep (IsS65.apart (show IsS65 w0 _ g s0_0 t155 t156 from by repeat (first | (with_reducible first | exact HI0.out | apply IsS65.alloc | apply IsS65.drewN | apply IsS65.drew | apply IsS65.set_1 | apply IsS65.set_2) | exact HI0.out)) (rU HO148.out) (by decide)) hk (fun _ h => h.2)) (fun _ h => h.1)); have n1_ := am (Kd.R_mono (Kd.R_keep (IsS65.apart (show IsS65 w0 _ g s0_0 t155 t156 from by repeat (first | (with_reducible first | exact HI0.out | apply IsS65.alloc | apply IsS65.drewN | apply IsS65.drew | apply IsS65.set_1 | apply IsS65.set_2) | exact HI0.out)) (rU HO174.out) (by decide)) hk (fun _ h => h.2)) (fun _ h => h.1)); have n2_ := am (KeepBut.trans (by repeat (first | (with_reducible first | exact HK.out | apply KeepBut.set_ | apply keep_drewN | apply keep_drew | apply keep_alloc) | exact HK.out)) hk (.inl rfl)); have n3_ := am (hb); have n4_ := am (hi); clear HO148; clear HO174; clear HK; clear HB; clear HI0; have HO148 := n0_; have HO174 := n1_; have HK := n2_; have HB := n3_; have HI0 := n4_; clear n0_ n1_ n2_ n3_ n4_; (try clear hb); (try clear hb2); (try clear hk); (try clear hi); have p39 : 0 ≤ (t151 : Int) := dU; have q39 : (t151 : Int) < ((t146.length : Int) : Int) := dU; obtain ⟨go39, co39, eo39, gb39, gl39, cl39, HG39⟩ := Kd.R_form HO148.out (by omega); (first | cases eo39 | (injection eo39 with ea_ en_ ec_; (first | subst ea_ | (injection ea_ with ea_; subst ea_)); subst ec_; clear en_)); have GB39 := am gb39; have GG39 := am HG39; clear gb39 gl39 HG39; obtain ⟨ce39, hcl39, hM39, hcc39, hfr39⟩ := Kd.R_elem HO148.out z34 (t151 : Int) p39 q39; obtain rfl := k34_openM hM39; have hx39_0 : w47.cell? ⟨go39, (t151 : Int).toNat * 5, none⟩ = some (.int .i64 ((rd_T34 t146 t151).f0)) := hcc39 0 _ rfl; have hx39_1 : w47.cell? ⟨go39, (t151 : Int).toNat * 5 + 1, none⟩ = some (.int .i64 ((rd_T34 t146 t151).f1)) := hcc39 1 _ rfl; have hx39_2 : w47.cell? ⟨go39, (t151 : Int).toNat * 5 + 2, none⟩ = some (.int .i64 ((rd_T34 t146 t151).f2)) := hcc39 2 _ rfl; have hx39_3 : w47.cell? ⟨go39, (t151 : Int).toNat * 5 + 3, none⟩ = some (.int .i64 ((rd_T34 t146 t151).f3)) := hcc39 3 _ rfl; have hx39_4 : w47.cell? ⟨go39, (t151 : Int).toNat * 5 + 4, none⟩ = some (.int .i64 ((rd_T34 t146 t151).f4)) := hcc39 4 _ rfl; have hf39_0 : w47.frozen? ⟨go39, (t151 : Int).toNat * 5, none⟩ = false := hfr39 0; have hf39_1 : w47.frozen? ⟨go39, (t151 : Int).toNat * 5 + 1, none⟩ = false := hfr39 1; have hf39_2 : w47.frozen? ⟨go39, (t151 : Int).toNat * 5 + 2, none⟩ = false := hfr39 2; have hf39_3 : w47.frozen? ⟨go39, (t151 : Int).toNat * 5 + 3, none⟩ = false := hfr39 3; have hf39_4 : w47.frozen? ⟨go39, (t151 : Int).toNat * 5 + 4, none⟩ = false := hfr39 4; clear hcl39 hcc39 hfr39 hM39; replace p39 := eq_true p39; replace q39 := eq_true q39; have HX48 := am (show Kd.R k34 34 w47 w.heap.size (fun _ => True) (.slice (some ⟨go39, 0, none⟩) t146.length co41) t146 from (rU HO148.out)); obtain ⟨ce48, hcl48, hM48, hcc48, hfr48⟩ := Kd.R_elem HX48.out z34 (t151 : Int) (dU) (by have h_ : (t151 : Int) < ((t146.length : Int) : Int) := dU; first | exact h_ | (have e_ := (Kd.R_reads' HO148.out).1; omega) | simpa using h_); obtain rfl := k34_openM hM48; have HP48 := Kd.R_seg HX48.out (t151 : Int) (dU) (by have h_ : (t151 : Int) < ((t146.length : Int) : Int) := dU; first | exact h_ | (have e_ := (Kd.R_reads' HO148.out).1; omega) | simpa using h_) (seg := [.int .i64 t175]) (j := 3) hcl48 hcc48 (show 4 ≤ 5 from by decide) (x' := (⟨(rd_T34 t146 t151).f0, (rd_T34 t146 t151).f1, (rd_T34 t146 t151).f2, t175, (rd_T34 t146 t151).f4⟩ : S34)) (k34_mkM _ _ _ (⟨(rd_T34 t146 t151).f0, (rd_T34 t146 t151).f1, (rd_T34 t146 t151).f2, t175, (rd_T34 t146 t151).f4⟩ : S34) ) (fun _ hk => hk); have hx48_3 := hcc48 3 _ rfl; (try simp only [show (k34).sz = 5 from rfl, Nat.mul_one, Nat.add_zero] at hx48_3); have hf48_3 := hfr48 3; (try simp only [show (k34).sz = 5 from rfl, Nat.mul_one, Nat.add_zero] at hf48_3); clear hcl48 hcc48 hfr48 hM48) | ((with_reducible refine gate_store (t := 3) (p := 44) rfl ?_); refine store_event (t := 3) (p := 44) (v := ?vo_w49) (w1 := (w47.setCell ⟨go39, (t151 : Int).toNat * 5 + 3, none⟩ (.int .i64 t175))) ?hg ?ho ?hn ?hr ?_; (case ho => rfl); (case hg => rfl); (case hn => rfl); (case hr => first | (go_simp; done) | (go_simp; rfl)); intro w49 hw; have hg : w47.grownBy w49 (some go39) := (by rw [hw]; exact HP48.2); have hp_ : Kd.R k34 34 w49 w.heap.size (fun _ => True) (.slice (some ⟨go39, 0, none⟩) t146.length co41) y178 := (by rw [hw, Ny178.out]; exact HP48.1); clear HP48; have n0_ := am (IsS65.grown (by repeat (first | (with_reducible first | exact HI0.out | apply IsS65.alloc | apply IsS65.drewN | apply IsS65.drew | apply IsS65.set_1 | apply IsS65.set_2) | exact HI0.out)) hg (IsS65.own_ne HI0.out HO148.out (by decide))); have n1_ := am (hp_); have n2_ := am (Kd.R_over' (v := (.slice (some ⟨go39, 0, none⟩) t146.length co41)) (rU HO174.out) (Kd.R_typed HO148.out) (by decide) hg); have n3_ := am ((by rw [hw]; exact below_set (HB.out) (Nat.le_trans HL.out GB39.out) : Below w0.heap.size w0 w49)); have n4_ := am (KeepBut.trans (by repeat (first | (with_reducible first | exact HK.out | apply KeepBut.set_ | apply keep_drewN | apply keep_drew | apply keep_alloc) | exact HK.out)) (KeepBut.of_grown hg g) (Kd.R_base2 HO148.out)); clear HI0; clear HO148; clear HO174; clear HB; clear HK; have HI0 := n0_; have HO148 := n1_; have HO174 := n2_; have HB := n3_; have HK := n4_; clear n0_ n1_ n2_ n3_ n4_; clear hg hw hp_))
      go_ret
      exact ⟨_, eU, rU HO148.out, by repeat (first | (with_reducible first | exact HI0.out | apply IsS65.alloc | apply IsS65.drewN | apply IsS65.drew | apply IsS65.set_1 | apply IsS65.set_2) | exact HI0.out), by repeat (first | (with_reducible first | exact HB.out | apply below_alloc | apply pw_below_drewN | apply below_drew1 | refine below_set ?_ (IsS65.ge HI0.out)) | exact HB.out), by repeat (first | (with_reducible first | exact HK.out | apply KeepBut.set_ | apply keep_drewN | apply keep_drew | apply keep_alloc) | exact HK.out)⟩
     ·rw [if_neg c38] at H
      exact absurd H (by simp)
    ·rw [if_neg c37] at H
     exact absurd H (by simp)
   ·rw [if_neg c35] at H
    have c35b0 : (t154 == 2) = false := beq_eq_false_iff_ne.mpr c35
    have c35b1 : (t154 != 2) = true := bne_iff_ne.mpr c35
    by_cases c50 : t154 = 3
    ·rw [if_pos c50] at H
     have c50b0 : (t154 == 3) = true := beq_iff_eq.mpr c50
     have c50b1 : (t154 != 3) = false := bne_eq_false_iff_eq.mpr c50
     clear c50
     obtain ⟨y179, hy179⟩ : ∃ y_ : List Int, y_ = (([(-1), 5, 6] : List Int)) := ⟨_, rfl⟩
     replace H : ((spec_l1Int.f s0_0 t155 t156 y179).bind fun bt182 => (if 0 ≤ t151 then (if t151 < (t146.length : Int) then (some ((t146.set (t151 : Int).toNat (⟨(rd_T34 t146 t151).f0, (rd_T34 t146 t151).f1, (rd_T34 t146 t151).f2, (rd_T34 t146 t151).f3, bt182.1⟩ : S34)), bt182.2.1, bt182.2.2)) else (none)) else (none))) = some (r1, r2, r3) := by first | (rw [hy179]; with_reducible exact H) | (have H2_ := (Option.bind_some _ _).symm.trans H; rw [hy179]; with_reducible exact H2_) | (have H2_ := (Option.bind_some _ _).symm.trans H; with_reducible exact H2_) | with_reducible exact H | (rw [hy179]; exact H) | exact H
     have Ny179 := am hy179
     clear hy179
     replace H := Option.bind_eq_some_iff.mp H
     obtain ⟨⟨t182, t183, t184⟩, A510, H⟩ := H
     replace H : (if 0 ≤ t151 then (if t151 < (t146.length : Int) then (some ((t146.set (t151 : Int).toNat (⟨(rd_T34 t146 t151).f0, (rd_T34 t146 t151).f1, (rd_T34 t146 t151).f2, (rd_T34 t146 t151).f3, t182⟩ : S34)), t183, t184)) else (none)) else (none)) = some (r1, r2, r3) := H
     have A51 := am A510
     clear A510
     by_cases c52 : 0 ≤ t151
     ·rw [if_pos c52] at H
      have c52b0 : decide (0 ≤ t151) = true := decide_eq_true c52
      clear c52
      by_cases c53 : t151 < (t146.length : Int)
      ·rw [if_pos c53] at H
       have c53b0 : decide (t151 < (t146.length : Int)) = true := decide_eq_true c53
       clear c53
       obtain ⟨y185, hy185⟩ : ∃ y_ : List (S34), y_ = (t146.set (t151 : Int).toNat (⟨(rd_T34 t146 t151).f0, (rd_T34 t146 t151).f1, (rd_T34 t146 t151).f2, (rd_T34 t146 t151).f3, t182⟩ : S34)) := ⟨_, rfl⟩
       replace H : (some (y185, t183, t184)) = some (r1, r2, r3) := by first | (rw [hy185]; with_reducible exact H) | (have H2_ := (Option.bind_some _ _).symm.trans H; rw [hy185]; with_reducible exact H2_) | (have H2_ := (Option.bind_some _ _).symm.trans H; with_reducible exact H2_) | with_reducible exact H | (rw [hy185]; exact H) | exact H
       have Ny185 := am hy185
       clear hy185
       simp only [Option.some.injEq, Prod.mk.injEq] at H
       obtain ⟨rfl, rfl, rfl⟩ := H
       go_enter Tryd.func23, Tryd.ntmps23
       go_wp2_with (first | ((with_reducible refine gate_callee (f := 33) rfl ?_); refine goesL_ (some 6) rfl rfl Tryd.func33 (by kernel_rfl) rfl #[.pointer (some ⟨g, 0, none⟩)] rfl mU ?_; (with_reducible refine (spec_l4Draw.calls k g s0_0 s0_1 s0_2 t146 t149 t150 w0 _ ?side1 ?side2 A2.out).mono ?_); (case side1 => repeat (first | (with_reducible first | exact HI0.out | apply IsS65.alloc | apply IsS65.drewN | apply IsS65.drew | apply IsS65.set_1 | apply IsS65.set_2) | exact HI0.out)); (case side2 => repeat (first | (with_reducible first | exact HB.out | apply below_alloc | apply pw_below_drewN | apply below_drew1 | refine below_set ?_ (IsS65.ge HI0.out)) | exact HB.out)); rintro e w55 ⟨v147, rfl, ho0, hi, hb, hk⟩; refine ⟨_, rfl, ?_⟩; have n0_ := am (Kd.R_lower ho0 (keep_size (w := w) (g := g) (row := none) (by repeat (first | (with_reducible first | exact HK.out | apply KeepBut.set_ | apply keep_drewN | apply keep_drew | apply keep_alloc) | exact HK.out)))); have n1_ := am (KeepBut.trans (by repeat (first | (with_reducible first | exact HK.out | apply KeepBut.set_ | apply keep_drewN | apply keep_drew | apply keep_alloc) | exact HK.out)) hk (.inl rfl)); have n2_ := am (hb); have n3_ := am (hi); clear HK; clear HB; clear HI0; have HO148 := n0_; have HK := n1_; have HB := n2_; have HI0 := n3_; clear n0_ n1_ n2_ n3_; (try clear hb); (try clear hb2); (try clear hk); (try clear hi); (try clear ho0); obtain ⟨Ao56, co56, eo56⟩ := Kd.R_slice HO148.out; subst eo56) | ((with_reducible refine gate_callee (f := 24) rfl ?_); refine goesL_ (some 10) rfl rfl Tryd.func24 (by kernel_rfl) rfl #[.pointer (some ⟨g, 0, none⟩), .int .i64 (t146.length : Int)] rfl mU ?_; (with_reducible refine (spec_l1Below.calls g s0_0 t149 t150 (t146.length : Int) t151 t152 t153 w0 _ ?side1 ?side2 A3.out).mono ?_); (case side1 => repeat (first | (with_reducible first | exact HI0.out | apply IsS65.alloc | apply IsS65.drewN | apply IsS65.drew | apply IsS65.set_1 | apply IsS65.set_2) | exact HI0.out)); (case side2 => repeat (first | (with_reducible first | exact HB.out | apply below_alloc | apply pw_below_drewN | apply below_drew1 | refine below_set ?_ (IsS65.ge HI0.out)) | exact HB.out)); rintro e w57 ⟨rfl, hi, hb, hk⟩; refine ⟨_, rfl, ?_⟩; have n0_ := am (Kd.R_mono (Kd.R_keep (IsS65.apart (show IsS65 w0 _ g s0_0 t149 t150 from by repeat (first | (with_reducible first | exact HI0.out | apply IsS65.alloc | apply IsS65.drewN | apply IsS65.drew | apply IsS65.set_1 | apply IsS65.set_2) | exact HI0.out)) (rU HO148.out) (by decide)) hk (fun _ h => h.2)) (fun _ h => h.1)); have n1_ := am (KeepBut.trans (by repeat (first | (with_reducible first | exact HK.out | apply KeepBut.set_ | apply keep_drewN | apply keep_drew | apply keep_alloc) | exact HK.out)) hk (.inl rfl)); have n2_ := am (hb); have n3_ := am (hi); clear HO148; clear HK; clear HB; clear HI0; have HO148 := n0_; have HK := n1_; have HB := n2_; have HI0 := n3_; clear n0_ n1_ n2_ n3_; (try clear hb); (try clear hb2); (try clear hk); (try clear hi)) | ((with_reducible refine gate_callee (f := 24) rfl ?_); refine goesL_ (some 12) rfl rfl Tryd.func24 (by kernel_rfl) rfl #[.pointer (some ⟨g, 0, none⟩), .int .i64 12] rfl mU ?_; (with_reducible refine (spec_l1Below.calls g s0_0 t152 t153 12 t154 t155 t156 w0 _ ?side1 ?side2 A4.out).mono ?_); (case side1 => repeat (first | (with_reducible first | exact HI0.out | apply IsS65.alloc | apply IsS65.drewN | apply IsS65.drew | apply IsS65.set_1 | apply IsS65.set_2) | exact HI0.out)); (case side2 => repeat (first | (with_reducible first | exact HB.out | apply below_alloc | apply pw_below_drewN | apply below_drew1 | refine below_set ?_ (IsS65.ge HI0.out)) | exact HB.out)); rintro e w58 ⟨rfl, hi, hb, hk⟩; refine ⟨_, rfl, ?_⟩; have n0_ := am (Kd.R_mono (Kd.R_keep (IsS65.apart (show IsS65 w0 _ g s0_0 t152 t153 from by repeat (first | (with_reducible first | exact HI0.out | apply IsS65.alloc | apply IsS65.drewN | apply IsS65.drew | apply IsS65.set_1 | apply IsS65.set_2) | exact HI0.out)) (rU HO148.out) (by decide)) hk (fun _ h => h.2)) (fun _ h => h.1)); have n1_ := am (KeepBut.trans (by repeat (first | (with_reducible first | exact HK.out | apply KeepBut.set_ | apply keep_drewN | apply keep_drew | apply keep_alloc) | exact HK.out)) hk (.inl rfl)); have n2_ := am (hb); have n3_ := am (hi); clear HO148; clear HK; clear HB; clear HI0; have HO148 := n0_; have HK := n1_; have HB := n2_; have HI0 := n3_; clear n0_ n1_ n2_ n3_; (try clear hb); (try clear hb2); (try clear hk); (try clear hi)) | ((with_reducible refine gate_dst (N := 50) rfl ?_); refine Kd.R_lit (Kd.int .i64) _ 3 ?hg (N := 50) ?hd (xs := ([(-1), 5, 6] : List Int)) (inner := [.int .i64 (-1), .int .i64 5, .int .i64 6]) (ok := fun _ => True) (okp := fun _ => True) ?hr ?hp (fun _ hk => hk) trivial (Below.refl _ _) (Nat.le_refl _) (by simp) ?_; (case hd => rfl); (case hg => rfl); (case hr => first | (go_simp; done) | (go_simp; rfl)); (case hp => exact (Reps.one (show Kd.M (Kd.int .i64) _ _ _ (-1) [.int .i64 (-1)] from rfl) (Reps.one (show Kd.M (Kd.int .i64) _ _ _ 5 [.int .i64 5] from rfl) (Reps.one (show Kd.M (Kd.int .i64) _ _ _ 6 [.int .i64 6] from rfl) (Reps.none _ _))))); intro v180 w59 ho60 hb hg_ hnew_; clear hg_ hnew_; (first | rw [← Ny179.out] at ho60 | (simp only [Int.reduceToNat] at ho60; rw [← Ny179.out] at ho60)); have n0_ := am (Kd.R_below (rU HO148.out) hb); have n1_ := am (Kd.R_lower ho60 (keep_size (w := w) (g := g) (row := none) (by repeat (first | (with_reducible first | exact HK.out | apply KeepBut.set_ | apply keep_drewN | apply keep_drew | apply keep_alloc) | exact HK.out)))); have n2_ := am (IsS65.below (by repeat (first | (with_reducible first | exact HI0.out | apply IsS65.alloc | apply IsS65.drewN | apply IsS65.drew | apply IsS65.set_1 | apply IsS65.set_2) | exact HI0.out)) hb); have n3_ := am (KeepBut.trans (by repeat (first | (with_reducible first | exact HK.out | apply KeepBut.set_ | apply keep_drewN | apply keep_drew | apply keep_alloc) | exact HK.out)) (KeepBut.of_below hb g none) (.inl rfl)); have n4_ := am (below_step (by repeat (first | (with_reducible first | exact HB.out | apply below_alloc | apply pw_below_drewN | apply below_drew1 | refine below_set ?_ (IsS65.ge HI0.out)) | exact HB.out)) hb); clear HO148; clear HI0; clear HK; clear HB; have HO148 := n0_; have HO181 := n1_; have HI0 := n2_; have HK := n3_; have HB := n4_; clear n0_ n1_ n2_ n3_ n4_; clear hb ho60; obtain ⟨Ao61, co61, eo61⟩ := Kd.R_slice HO181.out; subst eo61) | ((with_reducible refine gate_callee (f := 38) rfl ?_); refine goesL_ (some 51) rfl rfl Tryd.func38 (by kernel_rfl) rfl #[.pointer (some ⟨g, 0, none⟩), .slice Ao61 y179.length co61] rfl mU ?_; (with_reducible refine (spec_l1Int.calls g s0_0 t155 t156 _ _ y179 t182 t183 t184 w0 _ ?side1 ?side2 ?side3 ?side4 ?side5 A51.out).mono ?_); (case side1 => repeat (first | (with_reducible first | exact HI0.out | apply IsS65.alloc | apply IsS65.drewN | apply IsS65.drew | apply IsS65.set_1 | apply IsS65.set_2) | exact HI0.out)); (case side2 => repeat (first | (with_reducible first | exact HB.out | apply below_alloc | apply pw_below_drewN | apply below_drew1 | refine below_set ?_ (IsS65.ge HI0.out)) | exact HB.out)); (case side3 => exact cU (Kd.R_reads' HO181.out).2.2); (case side4 => exact (Kd.R_reads' HO181.out).2.1); (case side5 => exact far_slice (IsS65.own_ne HI0.out HO181.out (by decide))); rintro e w62 ⟨rfl, hi, hb, hk⟩; refine ⟨_, rfl, ?_⟩; have n0_ := am (Kd.R_mono (Kd.R_keep (IsS65.apart (show IsS65 w0 _ g s0_0 t155 t156 from by repeat (first | (with_reducible first | exact HI0.out | apply IsS65.alloc | apply IsS65.drewN | apply IsS65.drew | apply IsS65.set_1 | apply IsS65.set_2) | exact HI0.out)) (rU HO148.out) (by decide)) hk (fun _ h => h.2)) (fun _ h => h.1)); have n1_ := am (Kd.R_mono (Kd.R_keep (IsS65.apart (show IsS65 w0 _ g s0_0 t155 t156 from by repeat (first | (with_reducible first | exact HI0.out | apply IsS65.alloc | apply IsS65.drewN | apply IsS65.drew | apply IsS65.set_1 | apply IsS65.set_2) | exact HI0.out)) (rU HO181.out) (by decide)) hk (fun _ h => h.2)) (fun _ h => h.1)); have n2_ := am (KeepBut.trans (by repeat (first | (with_reducible first | exact HK.out | apply KeepBut.set_ | apply keep_drewN | apply keep_drew | apply keep_alloc) | exact HK.out)) hk (.inl rfl)); have n3_ := am (hb); have n4_ := am (hi); clear HO148; clear HO181; clear HK; clear HB; clear HI0; have HO148 := n0_; have HO181 := n1_; have HK := n2_; have HB := n3_; have HI0 := n4_; clear n0_ n1_ n2_ n3_ n4_; (try clear hb); (try clear hb2); (try clear hk); (try clear hi); have p54 : 0 ≤ (t151 : Int) := dU; have q54 : (t151 : Int) < ((t146.length : Int) : Int) := dU; obtain ⟨go54, co54, eo54, gb54, gl54, cl54, HG54⟩ := Kd.R_form HO148.out (by omega); (first | cases eo54 | (injection eo54 with ea_ en_ ec_; (first | subst ea_ | (injection ea_ with ea_; subst ea_)); subst ec_; clear en_)); have GB54 := am gb54; have GG54 := am HG54; clear gb54 gl54 HG54; obtain ⟨ce54, hcl54, hM54, hcc54, hfr54⟩ := Kd.R_elem HO148.out z34 (t151 : Int) p54 q54; obtain rfl := k34_openM hM54; have hx54_0 : w62.cell? ⟨go54, (t151 : Int).toNat * 5, none⟩ = some (.int .i64 ((rd_T34 t146 t151).f0)) := hcc54 0 _ rfl; have hx54_1 : w62.cell? ⟨go54, (t151 : Int).toNat * 5 + 1, none⟩ = some (.int .i64 ((rd_T34 t146 t151).f1)) := hcc54 1 _ rfl; have hx54_2 : w62.cell? ⟨go54, (t151 : Int).toNat * 5 + 2, none⟩ = some (.int .i64 ((rd_T34 t146 t151).f2)) := hcc54 2 _ rfl; have hx54_3 : w62.cell? ⟨go54, (t151 : Int).toNat * 5 + 3, none⟩ = some (.int .i64 ((rd_T34 t146 t151).f3)) := hcc54 3 _ rfl; have hx54_4 : w62.cell? ⟨go54, (t151 : Int).toNat * 5 + 4, none⟩ = some (.int .i64 ((rd_T34 t146 t151).f4)) := hcc54 4 _ rfl; have hf54_0 : w62.frozen? ⟨go54, (t151 : Int).toNat * 5, none⟩ = false := hfr54 0; have hf54_1 : w62.frozen? ⟨go54, (t151 : Int).toNat * 5 + 1, none⟩ = false := hfr54 1; have hf54_2 : w62.frozen? ⟨go54, (t151 : Int).toNat * 5 + 2, none⟩ = false := hfr54 2; have hf54_3 : w62.frozen? ⟨go54, (t151 : Int).toNat * 5 + 3, none⟩ = false := hfr54 3; have hf54_4 : w62.frozen? ⟨go54, (t151 : Int).toNat * 5 + 4, none⟩ = false := hfr54 4; clear hcl54 hcc54 hfr54 hM54; replace p54 := eq_true p54; replace q54 := eq_true q54; have HX63 := am (show Kd.R k34 34 w62 w.heap.size (fun _ => True) (.slice (some ⟨go54, 0, none⟩) t146.length co56) t146 from (rU HO148.out)); obtain ⟨ce63, hcl63, hM63, hcc63, hfr63⟩ := Kd.R_elem HX63.out z34 (t151 : Int) (dU) (by have h_ : (t151 : Int) < ((t146.length : Int) : Int) := dU; first | exact h_ | (have e_ := (Kd.R_reads' HO148.out).1; omega) | simpa using h_); obtain rfl := k34_openM hM63; have HP63 := Kd.R_seg HX63.out (t151 : Int) (dU) (by have h_ : (t151 : Int) < ((t146.length : Int) : Int) := dU; first | exact h_ | (have e_ := (Kd.R_reads' HO148.out).1; omega) | simpa using h_) (seg := [.int .i64 t182]) (j := 4) hcl63 hcc63 (show 5 ≤ 5 from by decide) (x' := (⟨(rd_T34 t146 t151).f0, (rd_T34 t146 t151).f1, (rd_T34 t146 t151).f2, (rd_T34 t146 t151).f3, t182⟩ : S34)) (k34_mkM _ _ _ (⟨(rd_T34 t146 t151).f0, (rd_T34 t146 t151).f1, (rd_T34 t146 t151).f2, (rd_T34 t146 t151).f3, t182⟩ : S34) ) (fun _ hk => hk); have hx63_4 := hcc63 4 _ rfl; (try simp only [show (k34).sz = 5 from rfl, Nat.mul_one, Nat.add_zero] at hx63_4); have hf63_4 := hfr63 4; (try simp only [show (k34).sz = 5 from rfl, Nat.mul_one, Nat.add_zero] at hf63_4); clear hcl63 hcc63 hfr63 hM63) | ((with_reducible refine gate_store (t := 3) (p := 53) rfl ?_); refine store_event (t := 3) (p := 53) (v := ?vo_w64) (w1 := (w62.setCell ⟨go54, (t151 : Int).toNat * 5 + 4, none⟩ (.int .i64 t182))) ?hg ?ho ?hn ?hr ?_; (case ho => rfl); (case hg => rfl); (case hn => rfl); (case hr => first | (go_simp; done) | (go_simp; rfl)); intro w64 hw; have hg : w62.grownBy w64 (some go54) := (by rw [hw]; exact HP63.2); have hp_ : Kd.R k34 34 w64 w.heap.size (fun _ => True) (.slice (some ⟨go54, 0, none⟩) t146.length co56) y185 := (by rw [hw, Ny185.out]; exact HP63.1); clear HP63; have n0_ := am (IsS65.grown (by repeat (first | (with_reducible first | exact HI0.out | apply IsS65.alloc | apply IsS65.drewN | apply IsS65.drew | apply IsS65.set_1 | apply IsS65.set_2) | exact HI0.out)) hg (IsS65.own_ne HI0.out HO148.out (by decide))); have n1_ := am (hp_); have n2_ := am (Kd.R_over' (v := (.slice (some ⟨go54, 0, none⟩) t146.length co56)) (rU HO181.out) (Kd.R_typed HO148.out) (by decide) hg); have n3_ := am ((by rw [hw]; exact below_set (HB.out) (Nat.le_trans HL.out GB54.out) : Below w0.heap.size w0 w64)); have n4_ := am (KeepBut.trans (by repeat (first | (with_reducible first | exact HK.out | apply KeepBut.set_ | apply keep_drewN | apply keep_drew | apply keep_alloc) | exact HK.out)) (KeepBut.of_grown hg g) (Kd.R_base2 HO148.out)); clear HI0; clear HO148; clear HO181; clear HB; clear HK; have HI0 := n0_; have HO148 := n1_; have HO181 := n2_; have HB := n3_; have HK := n4_; clear n0_ n1_ n2_ n3_ n4_; clear hg hw hp_))
       go_ret
       exact ⟨_, eU, rU HO148.out, by repeat (first | (with_reducible first | exact HI0.out | apply IsS65.alloc | apply IsS65.drewN | apply IsS65.drew | apply IsS65.set_1 | apply IsS65.set_2) | exact HI0.out), by repeat (first | (with_reducible first | exact HB.out | apply below_alloc | apply pw_below_drewN | apply below_drew1 | refine below_set ?_ (IsS65.ge HI0.out)) | exact HB.out), by repeat (first | (with_reducible first | exact HK.out | apply KeepBut.set_ | apply keep_drewN | apply keep_drew | apply keep_alloc) | exact HK.out)⟩
      ·rw [if_neg c53] at H
       exact absurd H (by simp)
     ·rw [if_neg c52] at H
      exact absurd H (by simp)
    ·rw [if_neg c50] at H
     have c50b0 : (t154 == 3) = false := beq_eq_false_iff_ne.mpr c50
     have c50b1 : (t154 != 3) = true := bne_iff_ne.mpr c50
     by_cases c65 : t154 = 4
     ·rw [if_pos c65] at H
      have c65b0 : (t154 == 4) = true := beq_iff_eq.mpr c65
      have c65b1 : (t154 != 4) = false := bne_eq_false_iff_eq.mpr c65
      clear c65
      obtain ⟨y186, hy186⟩ : ∃ y_ : List Int, y_ = (([(-1), 0, 5, 9223372036854775807] : List Int)) := ⟨_, rfl⟩
      replace H : ((spec_l1Int.f s0_0 t155 t156 y186).bind fun bt189 => (if 0 ≤ t151 then (if t151 < (t146.length : Int) then (some ((t146.set (t151 : Int).toNat (⟨bt189.1, (rd_T34 t146 t151).f1, (rd_T34 t146 t151).f2, (rd_T34 t146 t151).f3, (rd_T34 t146 t151).f4⟩ : S34)), bt189.2.1, bt189.2.2)) else (none)) else (none))) = some (r1, r2, r3) := by first | (rw [hy186]; with_reducible exact H) | (have H2_ := (Option.bind_some _ _).symm.trans H; rw [hy186]; with_reducible exact H2_) | (have H2_ := (Option.bind_some _ _).symm.trans H; with_reducible exact H2_) | with_reducible exact H | (rw [hy186]; exact H) | exact H
      have Ny186 := am hy186
      clear hy186
      replace H := Option.bind_eq_some_iff.mp H
      obtain ⟨⟨t189, t190, t191⟩, A660, H⟩ := H
      replace H : (if 0 ≤ t151 then (if t151 < (t146.length : Int) then (some ((t146.set (t151 : Int).toNat (⟨t189, (rd_T34 t146 t151).f1, (rd_T34 t146 t151).f2, (rd_T34 t146 t151).f3, (rd_T34 t146 t151).f4⟩ : S34)), t190, t191)) else (none)) else (none)) = some (r1, r2, r3) := H
      have A66 := am A660
      clear A660
      by_cases c67 : 0 ≤ t151
      ·rw [if_pos c67] at H
       have c67b0 : decide (0 ≤ t151) = true := decide_eq_true c67
       clear c67
       by_cases c68 : t151 < (t146.length : Int)
       ·rw [if_pos c68] at H
        have c68b0 : decide (t151 < (t146.length : Int)) = true := decide_eq_true c68
        clear c68
        obtain ⟨y192, hy192⟩ : ∃ y_ : List (S34), y_ = (t146.set (t151 : Int).toNat (⟨t189, (rd_T34 t146 t151).f1, (rd_T34 t146 t151).f2, (rd_T34 t146 t151).f3, (rd_T34 t146 t151).f4⟩ : S34)) := ⟨_, rfl⟩
        replace H : (some (y192, t190, t191)) = some (r1, r2, r3) := by first | (rw [hy192]; with_reducible exact H) | (have H2_ := (Option.bind_some _ _).symm.trans H; rw [hy192]; with_reducible exact H2_) | (have H2_ := (Option.bind_some _ _).symm.trans H; with_reducible exact H2_) | with_reducible exact H | (rw [hy192]; exact H) | exact H
        have Ny192 := am hy192
        clear hy192
        simp only [Option.some.injEq, Prod.mk.injEq] at H
        obtain ⟨rfl, rfl, rfl⟩ := H
        go_enter Tryd.func23, Tryd.ntmps23
        go_wp2_with (first | ((with_reducible refine gate_callee (f := 33) rfl ?_); refine goesL_ (some 6) rfl rfl Tryd.func33 (by kernel_rfl) rfl #[.pointer (some ⟨g, 0, none⟩)] rfl mU ?_; (with_reducible refine (spec_l4Draw.calls k g s0_0 s0_1 s0_2 t146 t149 t150 w0 _ ?side1 ?side2 A2.out).mono ?_); (case side1 => repeat (first | (with_reducible first | exact HI0.out | apply IsS65.alloc | apply IsS65.drewN | apply IsS65.drew | apply IsS65.set_1 | apply IsS65.set_2) | exact HI0.out)); (case side2 => repeat (first | (with_reducible first | exact HB.out | apply below_alloc | apply pw_below_drewN | apply below_drew1 | refine below_set ?_ (IsS65.ge HI0.out)) | exact HB.out)); rintro e w70 ⟨v147, rfl, ho0, hi, hb, hk⟩; refine ⟨_, rfl, ?_⟩; have n0_ := am (Kd.R_lower ho0 (keep_size (w := w) (g := g) (row := none) (by repeat (first | (with_reducible first | exact HK.out | apply KeepBut.set_ | apply keep_drewN | apply keep_drew | apply keep_alloc) | exact HK.out)))); have n1_ := am (KeepBut.trans (by repeat (first | (with_reducible first | exact HK.out | apply KeepBut.set_ | apply keep_drewN | apply keep_drew | apply keep_alloc) | exact HK.out)) hk (.inl rfl)); have n2_ := am (hb); have n3_ := am (hi); clear HK; clear HB; clear HI0; have HO148 := n0_; have HK := n1_; have HB := n2_; have HI0 := n3_; clear n0_ n1_ n2_ n3_; (try clear hb); (try clear hb2); (try clear hk); (try clear hi); (try clear ho0); obtain ⟨Ao71, co71, eo71⟩ := Kd.R_slice HO148.out; subst eo71) | ((with_reducible refine gate_callee (f := 24) rfl ?_); refine goesL_ (some 10) rfl rfl Tryd.func24 (by kernel_rfl) rfl #[.pointer (some ⟨g, 0, none⟩), .int .i64 (t146.length : Int)] rfl mU ?_; (with_reducible refine (spec_l1Below.calls g s0_0 t149 t150 (t146.length : Int) t151 t152 t153 w0 _ ?side1 ?side2 A3.out).mono ?_); (case side1 => repeat (first | (with_reducible first | exact HI0.out | apply IsS65.alloc | apply IsS65.drewN | apply IsS65.drew | apply IsS65.set_1 | apply IsS65.set_2) | exact HI0.out)); (case side2 => repeat (first | (with_reducible first | exact HB.out | apply below_alloc | apply pw_below_drewN | apply below_drew1 | refine below_set ?_ (IsS65.ge HI0.out)) | exact HB.out)); rintro e w72 ⟨rfl, hi, hb, hk⟩; refine ⟨_, rfl, ?_⟩; have n0_ := am (Kd.R_mono (Kd.R_keep (IsS65.apart (show IsS65 w0 _ g s0_0 t149 t150 from by repeat (first | (with_reducible first | exact HI0.out | apply IsS65.alloc | apply IsS65.drewN | apply IsS65.drew | apply IsS65.set_1 | apply IsS65.set_2) | exact HI0.out)) (rU HO148.out) (by decide)) hk (fun _ h => h.2)) (fun _ h => h.1)); have n1_ := am (KeepBut.trans (by repeat (first | (with_reducible first | exact HK.out | apply KeepBut.set_ | apply keep_drewN | apply keep_drew | apply keep_alloc) | exact HK.out)) hk (.inl rfl)); have n2_ := am (hb); have n3_ := am (hi); clear HO148; clear HK; clear HB; clear HI0; have HO148 := n0_; have HK := n1_; have HB := n2_; have HI0 := n3_; clear n0_ n1_ n2_ n3_; (try clear hb); (try clear hb2); (try clear hk); (try clear hi)) | ((with_reducible refine gate_callee (f := 24) rfl ?_); refine goesL_ (some 12) rfl rfl Tryd.func24 (by kernel_rfl) rfl #[.pointer (some ⟨g, 0, none⟩), .int .i64 12] rfl mU ?_; (with_reducible refine (spec_l1Below.calls g s0_0 t152 t153 12 t154 t155 t156 w0 _ ?side1 ?side2 A4.out).mono ?_); (case side1 => repeat (first | (with_reducible first | exact HI0.out | apply IsS65.alloc | apply IsS65.drewN | apply IsS65.drew | apply IsS65.set_1 | apply IsS65.set_2) | exact HI0.out)); (case side2 => repeat (first | (with_reducible first | exact HB.out | apply below_alloc | apply pw_below_drewN | apply below_drew1 | refine below_set ?_ (IsS65.ge HI0.out)) | exact HB.out)); rintro e w73 ⟨rfl, hi, hb, hk⟩; refine ⟨_, rfl, ?_⟩; have n0_ := am (Kd.R_mono (Kd.R_keep (IsS65.apart (show IsS65 w0 _ g s0_0 t152 t153 from by repeat (first | (with_reducible first | exact HI0.out | apply IsS65.alloc | apply IsS65.drewN | apply IsS65.drew | apply IsS65.set_1 | apply IsS65.set_2) | exact HI0.out)) (rU HO148.out) (by decide)) hk (fun _ h => h.2)) (fun _ h => h.1)); have n1_ := am (KeepBut.trans (by repeat (first | (with_reducible first | exact HK.out | apply KeepBut.set_ | apply keep_drewN | apply keep_drew | apply keep_alloc) | exact HK.out)) hk (.inl rfl)); have n2_ := am (hb); have n3_ := am (hi); clear HO148; clear HK; clear HB; clear HI0; have HO148 := n0_; have HK := n1_; have HB := n2_; have HI0 := n3_; clear n0_ n1_ n2_ n3_; (try clear hb); (try clear hb2); (try clear hk); (try clear hi)) | ((with_reducible refine gate_dst (N := 59) rfl ?_); refine Kd.R_lit (Kd.int .i64) _ 3 ?hg (N := 59) ?hd (xs := ([(-1), 0, 5, 9223372036854775807] : List Int)) (inner := [.int .i64 (-1), .int .i64 0, .int .i64 5, .int .i64 9223372036854775807]) (ok := fun _ => True) (okp := fun _ => True) ?hr ?hp (fun _ hk => hk) trivial (Below.refl _ _) (Nat.le_refl _) (by simp) ?_; (case hd => rfl); (case hg => rfl); (case hr => first | (go_simp; done) | (go_simp; rfl)); (case hp => exact (Reps.one (show Kd.M (Kd.int .i64) _ _ _ (-1) [.int .i64 (-1)] from rfl) (Reps.one (show Kd.M (Kd.int .i64) _ _ _ 0 [.int .i64 0] from rfl) (Reps.one (show Kd.M (Kd.int .i64) _ _ _ 5 [.int .i64 5] from rfl) (Reps.one (show Kd.M (Kd.int .i64) _ _ _ 9223372036854775807 [.int .i64 9223372036854775807] from rfl) (Reps.none _ _)))))); intro v187 w74 ho75 hb hg_ hnew_; clear hg_ hnew_; (first | rw [← Ny186.out] at ho75 | (simp only [Int.reduceToNat] at ho75; rw [← Ny186.out] at ho75)); have n0_ := am (Kd.R_below (rU HO148.out) hb); have n1_ := am (Kd.R_lower ho75 (keep_size (w := w) (g := g) (row := none) (by repeat (first | (with_reducible first | exact HK.out | apply KeepBut.set_ | apply keep_drewN | apply keep_drew | apply keep_alloc) | exact HK.out)))); have n2_ := am (IsS65.below (by repeat (first | (with_reducible first | exact HI0.out | apply IsS65.alloc | apply IsS65.drewN | apply IsS65.drew | apply IsS65.set_1 | apply IsS65.set_2) | exact HI0.out)) hb); have n3_ := am (KeepBut.trans (by repeat (first | (with_reducible first | exact HK.out | apply KeepBut.set_ | apply keep_drewN | apply keep_drew | apply keep_alloc) | exact HK.out)) (KeepBut.of_below hb g none) (.inl rfl)); have n4_ := am (below_step (by repeat (first | (with_reducible first | exact HB.out | apply below_alloc | apply pw_below_drewN | apply below_drew1 | refine below_set ?_ (IsS65.ge HI0.out)) | exact HB.out)) hb); clear HO148; clear HI0; clear HK; clear HB; have HO148 := n0_; have HO188 := n1_; have HI0 := n2_; have HK := n3_; have HB := n4_; clear n0_ n1_ n2_ n3_ n4_; clear hb ho75; obtain ⟨Ao76, co76, eo76⟩ := Kd.R_slice HO188.out; subst eo76) | ((with_reducible refine gate_callee (f := 38) rfl ?_); refine goesL_ (some 60) rfl rfl Tryd.func38 (by kernel_rfl) rfl #[.pointer (some ⟨g, 0, none⟩), .slice Ao76 y186.length co76] rfl mU ?_; (with_reducible refine (spec_l1Int.calls g s0_0 t155 t156 _ _ y186 t189 t190 t191 w0 _ ?side1 ?side2 ?side3 ?side4 ?side5 A66.out).mono ?_); (case side1 => repeat (first | (with_reducible first | exact HI0.out | apply IsS65.alloc | apply IsS65.drewN | apply IsS65.drew | apply IsS65.set_1 | apply IsS65.set_2) | exact HI0.out)); (case side2 => repeat (first | (with_reducible first | exact HB.out | apply below_alloc | apply pw_below_drewN | apply below_drew1 | refine below_set ?_ (IsS65.ge HI0.out)) | exact HB.out)); (case side3 => exact cU (Kd.R_reads' HO188.out).2.2); (case side4 => exact (Kd.R_reads' HO188.out).2.1); (case side5 => exact far_slice (IsS65.own_ne HI0.out HO188.out (by decide))); rintro e w77 ⟨rfl, hi, hb, hk⟩; refine ⟨_, rfl, ?_⟩; have n0_ := am (Kd.R_mono (Kd.R_keep (IsS65.apart (show IsS65 w0 _ g s0_0 t155 t156 from by repeat (first | (with_reducible first | exact HI0.out | apply IsS65.alloc | apply IsS65.drewN | apply IsS65.drew | apply IsS65.set_1 | apply IsS65.set_2) | exact HI0.out)) (rU HO148.out) (by decide)) hk (fun _ h => h.2)) (fun _ h => h.1)); have n1_ := am (Kd.R_mono (Kd.R_keep (IsS65.apart (show IsS65 w0 _ g s0_0 t155 t156 from by repeat (first | (with_reducible first | exact HI0.out | apply IsS65.alloc | apply IsS65.drewN | apply IsS65.drew | apply IsS65.set_1 | apply IsS65.set_2) | exact HI0.out)) (rU HO188.out) (by decide)) hk (fun _ h => h.2)) (fun _ h => h.1)); have n2_ := am (KeepBut.trans (by repeat (first | (with_reducible first | exact HK.out | apply KeepBut.set_ | apply keep_drewN | apply keep_drew | apply keep_alloc) | exact HK.out)) hk (.inl rfl)); have n3_ := am (hb); have n4_ := am (hi); clear HO148; clear HO188; clear HK; clear HB; clear HI0; have HO148 := n0_; have HO188 := n1_; have HK := n2_; have HB := n3_; have HI0 := n4_; clear n0_ n1_ n2_ n3_ n4_; (try clear hb); (try clear hb2); (try clear hk); (try clear hi); have p69 : 0 ≤ (t151 : Int) := dU; have q69 : (t151 : Int) < ((t146.length : Int) : Int) := dU; obtain ⟨go69, co69, eo69, gb69, gl69, cl69, HG69⟩ := Kd.R_form HO148.out (by omega); (first | cases eo69 | (injection eo69 with ea_ en_ ec_; (first | subst ea_ | (injection ea_ with ea_; subst ea_)); subst ec_; clear en_)); have GB69 := am gb69; have GG69 := am HG69; clear gb69 gl69 HG69; obtain ⟨ce69, hcl69, hM69, hcc69, hfr69⟩ := Kd.R_elem HO148.out z34 (t151 : Int) p69 q69; obtain rfl := k34_openM hM69; have hx69_0 : w77.cell? ⟨go69, (t151 : Int).toNat * 5, none⟩ = some (.int .i64 ((rd_T34 t146 t151).f0)) := hcc69 0 _ rfl; have hx69_1 : w77.cell? ⟨go69, (t151 : Int).toNat * 5 + 1, none⟩ = some (.int .i64 ((rd_T34 t146 t151).f1)) := hcc69 1 _ rfl; have hx69_2 : w77.cell? ⟨go69, (t151 : Int).toNat * 5 + 2, none⟩ = some (.int .i64 ((rd_T34 t146 t151).f2)) := hcc69 2 _ rfl; have hx69_3 : w77.cell? ⟨go69, (t151 : Int).toNat * 5 + 3, none⟩ = some (.int .i64 ((rd_T34 t146 t151).f3)) := hcc69 3 _ rfl; have hx69_4 : w77.cell? ⟨go69, (t151 : Int).toNat * 5 + 4, none⟩ = some (.int .i64 ((rd_T34 t146 t151).f4)) := hcc69 4 _ rfl; have hf69_0 : w77.frozen? ⟨go69, (t151 : Int).toNat * 5, none⟩ = false := hfr69 0; have hf69_1 : w77.frozen? ⟨go69, (t151 : Int).toNat * 5 + 1, none⟩ = false := hfr69 1; have hf69_2 : w77.frozen? ⟨go69, (t151 : Int).toNat * 5 + 2, none⟩ = false := hfr69 2; have hf69_3 : w77.frozen? ⟨go69, (t151 : Int).toNat * 5 + 3, none⟩ = false := hfr69 3; have hf69_4 : w77.frozen? ⟨go69, (t151 : Int).toNat * 5 + 4, none⟩ = false := hfr69 4; clear hcl69 hcc69 hfr69 hM69; replace p69 := eq_true p69; replace q69 := eq_true q69; have HX78 := am (show Kd.R k34 34 w77 w.heap.size (fun _ => True) (.slice (some ⟨go69, 0, none⟩) t146.length co71) t146 from (rU HO148.out)); obtain ⟨ce78, hcl78, hM78, hcc78, hfr78⟩ := Kd.R_elem HX78.out z34 (t151 : Int) (dU) (by have h_ : (t151 : Int) < ((t146.length : Int) : Int) := dU; first | exact h_ | (have e_ := (Kd.R_reads' HO148.out).1; omega) | simpa using h_); obtain rfl := k34_openM hM78; have HP78 := Kd.R_seg HX78.out (t151 : Int) (dU) (by have h_ : (t151 : Int) < ((t146.length : Int) : Int) := dU; first | exact h_ | (have e_ := (Kd.R_reads' HO148.out).1; omega) | simpa using h_) (seg := [.int .i64 t189]) (j := 0) hcl78 hcc78 (show 1 ≤ 5 from by decide) (x' := (⟨t189, (rd_T34 t146 t151).f1, (rd_T34 t146 t151).f2, (rd_T34 t146 t151).f3, (rd_T34 t146 t151).f4⟩ : S34)) (k34_mkM _ _ _ (⟨t189, (rd_T34 t146 t151).f1, (rd_T34 t146 t151).f2, (rd_T34 t146 t151).f3, (rd_T34 t146 t151).f4⟩ : S34) ) (fun _ hk => hk); have hx78_0 := hcc78 0 _ rfl; (try simp only [show (k34).sz = 5 from rfl, Nat.mul_one, Nat.add_zero] at hx78_0); have hf78_0 := hfr78 0; (try simp only [show (k34).sz = 5 from rfl, Nat.mul_one, Nat.add_zero] at hf78_0); clear hcl78 hcc78 hfr78 hM78) | ((with_reducible refine gate_store (t := 3) (p := 62) rfl ?_); refine store_event (t := 3) (p := 62) (v := ?vo_w79) (w1 := (w77.setCell ⟨go69, (t151 : Int).toNat * 5, none⟩ (.int .i64 t189))) ?hg ?ho ?hn ?hr ?_; (case ho => rfl); (case hg => rfl); (case hn => rfl); (case hr => first | (go_simp; done) | (go_simp; rfl)); intro w79 hw; have hg : w77.grownBy w79 (some go69) := (by rw [hw]; exact HP78.2); have hp_ : Kd.R k34 34 w79 w.heap.size (fun _ => True) (.slice (some ⟨go69, 0, none⟩) t146.length co71) y192 := (by rw [hw, Ny192.out]; exact HP78.1); clear HP78; have n0_ := am (IsS65.grown (by repeat (first | (with_reducible first | exact HI0.out | apply IsS65.alloc | apply IsS65.drewN | apply IsS65.drew | apply IsS65.set_1 | apply IsS65.set_2) | exact HI0.out)) hg (IsS65.own_ne HI0.out HO148.out (by decide))); have n1_ := am (hp_); have n2_ := am (Kd.R_over' (v := (.slice (some ⟨go69, 0, none⟩) t146.length co71)) (rU HO188.out) (Kd.R_typed HO148.out) (by decide) hg); have n3_ := am ((by rw [hw]; exact below_set (HB.out) (Nat.le_trans HL.out GB69.out) : Below w0.heap.size w0 w79)); have n4_ := am (KeepBut.trans (by repeat (first | (with_reducible first | exact HK.out | apply KeepBut.set_ | apply keep_drewN | apply keep_drew | apply keep_alloc) | exact HK.out)) (KeepBut.of_grown hg g) (Kd.R_base2 HO148.out)); clear HI0; clear HO148; clear HO188; clear HB; clear HK; have HI0 := n0_; have HO148 := n1_; have HO188 := n2_; have HB := n3_; have HK := n4_; clear n0_ n1_ n2_ n3_ n4_; clear hg hw hp_))
        go_ret
        exact ⟨_, eU, rU HO148.out, by repeat (first | (with_reducible first | exact HI0.out | apply IsS65.alloc | apply IsS65.drewN | apply IsS65.drew | apply IsS65.set_1 | apply IsS65.set_2) | exact HI0.out), by repeat (first | (with_reducible first | exact HB.out | apply below_alloc | apply pw_below_drewN | apply below_drew1 | refine below_set ?_ (IsS65.ge HI0.out)) | exact HB.out), by repeat (first | (with_reducible first | exact HK.out | apply KeepBut.set_ | apply keep_drewN | apply keep_drew | apply keep_alloc) | exact HK.out)⟩
       ·rw [if_neg c68] at H
        exact absurd H (by simp)
      ·rw [if_neg c67] at H
       exact absurd H (by simp)
     ·rw [if_neg c65] at H
      have c65b0 : (t154 == 4) = false := beq_eq_false_iff_ne.mpr c65
      have c65b1 : (t154 != 4) = true := bne_iff_ne.mpr c65
      by_cases c80 : t154 = 5
      ·rw [if_pos c80] at H
       have c80b0 : (t154 == 5) = true := beq_iff_eq.mpr c80
       have c80b1 : (t154 != 5) = false := bne_eq_false_iff_eq.mpr c80
       clear c80
       simp only [Option.some.injEq, Prod.mk.injEq] at H
       obtain ⟨rfl, rfl, rfl⟩ := H
       go_enter Tryd.func23, Tryd.ntmps23
       go_wp2_with (first | ((with_reducible refine gate_callee (f := 33) rfl ?_); refine goesL_ (some 6) rfl rfl Tryd.func33 (by kernel_rfl) rfl #[.pointer (some ⟨g, 0, none⟩)] rfl mU ?_; (with_reducible refine (spec_l4Draw.calls k g s0_0 s0_1 s0_2 t146 t149 t150 w0 _ ?side1 ?side2 A2.out).mono ?_); (case side1 => repeat (first | (with_reducible first | exact HI0.out | apply IsS65.alloc | apply IsS65.drewN | apply IsS65.drew | apply IsS65.set_1 | apply IsS65.set_2) | exact HI0.out)); (case side2 => repeat (first | (with_reducible first | exact HB.out | apply below_alloc | apply pw_below_drewN | apply below_drew1 | refine below_set ?_ (IsS65.ge HI0.out)) | exact HB.out)); rintro e w81 ⟨v147, rfl, ho0, hi, hb, hk⟩; refine ⟨_, rfl, ?_⟩; have n0_ := am (Kd.R_lower ho0 (keep_size (w := w) (g := g) (row := none) (by repeat (first | (with_reducible first | exact HK.out | apply KeepBut.set_ | apply keep_drewN | apply keep_drew | apply keep_alloc) | exact HK.out)))); have n1_ := am (KeepBut.trans (by repeat (first | (with_reducible first | exact HK.out | apply KeepBut.set_ | apply keep_drewN | apply keep_drew | apply keep_alloc) | exact HK.out)) hk (.inl rfl)); have n2_ := am (hb); have n3_ := am (hi); clear HK; clear HB; clear HI0; have HO148 := n0_; have HK := n1_; have HB := n2_; have HI0 := n3_; clear n0_ n1_ n2_ n3_; (try clear hb); (try clear hb2); (try clear hk); (try clear hi); (try clear ho0); obtain ⟨Ao82, co82, eo82⟩ := Kd.R_slice HO148.out; subst eo82) | ((with_reducible refine gate_callee (f := 24) rfl ?_); refine goesL_ (some 10) rfl rfl Tryd.func24 (by kernel_rfl) rfl #[.pointer (some ⟨g, 0, none⟩), .int .i64 (t146.length : Int)] rfl mU ?_; (with_reducible refine (spec_l1Below.calls g s0_0 t149 t150 (t146.length : Int) t151 t152 t153 w0 _ ?side1 ?side2 A3.out).mono ?_); (case side1 => repeat (first | (with_reducible first | exact HI0.out | apply IsS65.alloc | apply IsS65.drewN | apply IsS65.drew | apply IsS65.set_1 | apply IsS65.set_2) | exact HI0.out)); (case side2 => repeat (first | (with_reducible first | exact HB.out | apply below_alloc | apply pw_below_drewN | apply below_drew1 | refine below_set ?_ (IsS65.ge HI0.out)) | exact HB.out)); rintro e w83 ⟨rfl, hi, hb, hk⟩; refine ⟨_, rfl, ?_⟩; have n0_ := am (Kd.R_mono (Kd.R_keep (IsS65.apart (show IsS65 w0 _ g s0_0 t149 t150 from by repeat (first | (with_reducible first | exact HI0.out | apply IsS65.alloc | apply IsS65.drewN | apply IsS65.drew | apply IsS65.set_1 | apply IsS65.set_2) | exact HI0.out)) (rU HO148.out) (by decide)) hk (fun _ h => h.2)) (fun _ h => h.1)); have n1_ := am (KeepBut.trans (by repeat (first | (with_reducible first | exact HK.out | apply KeepBut.set_ | apply keep_drewN | apply keep_drew | apply keep_alloc) | exact HK.out)) hk (.inl rfl)); have n2_ := am (hb); have n3_ := am (hi); clear HO148; clear HK; clear HB; clear HI0; have HO148 := n0_; have HK := n1_; have HB := n2_; have HI0 := n3_; clear n0_ n1_ n2_ n3_; (try clear hb); (try clear hb2); (try clear hk); (try clear hi)) | ((with_reducible refine gate_callee (f := 24) rfl ?_); refine goesL_ (some 12) rfl rfl Tryd.func24 (by kernel_rfl) rfl #[.pointer (some ⟨g, 0, none⟩), .int .i64 12] rfl mU ?_; (with_reducible refine (spec_l1Below.calls g s0_0 t152 t153 12 t154 t155 t156 w0 _ ?side1 ?side2 A4.out).mono ?_); (case side1 => repeat (first | (with_reducible first | exact HI0.out | apply IsS65.alloc | apply IsS65.drewN | apply IsS65.drew | apply IsS65.set_1 | apply IsS65.set_2) | exact HI0.out)); (case side2 => repeat (first | (with_reducible first | exact HB.out | apply below_alloc | apply pw_below_drewN | apply below_drew1 | refine below_set ?_ (IsS65.ge HI0.out)) | exact HB.out)); rintro e w84 ⟨rfl, hi, hb, hk⟩; refine ⟨_, rfl, ?_⟩; have n0_ := am (Kd.R_mono (Kd.R_keep (IsS65.apart (show IsS65 w0 _ g s0_0 t152 t153 from by repeat (first | (with_reducible first | exact HI0.out | apply IsS65.alloc | apply IsS65.drewN | apply IsS65.drew | apply IsS65.set_1 | apply IsS65.set_2) | exact HI0.out)) (rU HO148.out) (by decide)) hk (fun _ h => h.2)) (fun _ h => h.1)); have n1_ := am (KeepBut.trans (by repeat (first | (with_reducible first | exact HK.out | apply KeepBut.set_ | apply keep_drewN | apply keep_drew | apply keep_alloc) | exact HK.out)) hk (.inl rfl)); have n2_ := am (hb); have n3_ := am (hi); clear HO148; clear HK; clear HB; clear HI0; have HO148 := n0_; have HK := n1_; have HB := n2_; have HI0 := n3_; clear n0_ n1_ n2_ n3_; (try clear hb); (try clear hb2); (try clear hk); (try clear hi)))
       go_ret
       exact ⟨_, eU, by first | exact Kd.R_nil _ _ _ _ _ | exact Kd.N_nil _ _ _ _ _ | exact Kd.V_nil _ _ _ _ _ | exact Kd.Q_nil _ _ _ _ _ | exact Kd.S_nil _ _ _ _ _, by repeat (first | (with_reducible first | exact HI0.out | apply IsS65.alloc | apply IsS65.drewN | apply IsS65.drew | apply IsS65.set_1 | apply IsS65.set_2) | exact HI0.out), by repeat (first | (with_reducible first | exact HB.out | apply below_alloc | apply pw_below_drewN | apply below_drew1 | refine below_set ?_ (IsS65.ge HI0.out)) | exact HB.out), by repeat (first | (with_reducible first | exact HK.out | apply KeepBut.set_ | apply keep_drewN | apply keep_drew | apply keep_alloc) | exact HK.out)⟩
      ·rw [if_neg c80] at H
       have c80b0 : (t154 == 5) = false := beq_eq_false_iff_ne.mpr c80
       have c80b1 : (t154 != 5) = true := bne_iff_ne.mpr c80
       by_cases c85 : t154 = 6
       ·rw [if_pos c85] at H
        have c85b0 : (t154 == 6) = true := beq_iff_eq.mpr c85
        have c85b1 : (t154 != 6) = false := bne_eq_false_iff_eq.mpr c85
        clear c85
        have H' := am H
        clear H
        go_enter Tryd.func23, Tryd.ntmps23
        go_wp2_with (first | ((with_reducible refine gate_callee (f := 33) rfl ?_); refine goesL_ (some 6) rfl rfl Tryd.func33 (by kernel_rfl) rfl #[.pointer (some ⟨g, 0, none⟩)] rfl mU ?_; (with_reducible refine (spec_l4Draw.calls k g s0_0 s0_1 s0_2 t146 t149 t150 w0 _ ?side1 ?side2 A2.out).mono ?_); (case side1 => repeat (first | (with_reducible first | exact HI0.out | apply IsS65.alloc | apply IsS65.drewN | apply IsS65.drew | apply IsS65.set_1 | apply IsS65.set_2) | exact HI0.out)); (case side2 => repeat (first | (with_reducible first | exact HB.out | apply below_alloc | apply pw_below_drewN | apply below_drew1 | refine below_set ?_ (IsS65.ge HI0.out)) | exact HB.out)); rintro e w86 ⟨v147, rfl, ho0, hi, hb, hk⟩; refine ⟨_, rfl, ?_⟩; have n0_ := am (Kd.R_lower ho0 (keep_size (w := w) (g := g) (row := none) (by repeat (first | (with_reducible first | exact HK.out | apply KeepBut.set_ | apply keep_drewN | apply keep_drew | apply keep_alloc) | exact HK.out)))); have n1_ := am (KeepBut.trans (by repeat (first | (with_reducible first | exact HK.out | apply KeepBut.set_ | apply keep_drewN | apply keep_drew | apply keep_alloc) | exact HK.out)) hk (.inl rfl)); have n2_ := am (hb); have n3_ := am (hi); clear HK; clear HB; clear HI0; have HO148 := n0_; have HK := n1_; have HB := n2_; have HI0 := n3_; clear n0_ n1_ n2_ n3_; (try clear hb); (try clear hb2); (try clear hk); (try clear hi); (try clear ho0); obtain ⟨Ao87, co87, eo87⟩ := Kd.R_slice HO148.out; subst eo87) | ((with_reducible refine gate_callee (f := 24) rfl ?_); refine goesL_ (some 10) rfl rfl Tryd.func24 (by kernel_rfl) rfl #[.pointer (some ⟨g, 0, none⟩), .int .i64 (t146.length : Int)] rfl mU ?_; (with_reducible refine (spec_l1Below.calls g s0_0 t149 t150 (t146.length : Int) t151 t152 t153 w0 _ ?side1 ?side2 A3.out).mono ?_); (case side1 => repeat (first | (with_reducible first | exact HI0.out | apply IsS65.alloc | apply IsS65.drewN | apply IsS65.drew | apply IsS65.set_1 | apply IsS65.set_2) | exact HI0.out)); (case side2 => repeat (first | (with_reducible first | exact HB.out | apply below_alloc | apply pw_below_drewN | apply below_drew1 | refine below_set ?_ (IsS65.ge HI0.out)) | exact HB.out)); rintro e w88 ⟨rfl, hi, hb, hk⟩; refine ⟨_, rfl, ?_⟩; have n0_ := am (Kd.R_mono (Kd.R_keep (IsS65.apart (show IsS65 w0 _ g s0_0 t149 t150 from by repeat (first | (with_reducible first | exact HI0.out | apply IsS65.alloc | apply IsS65.drewN | apply IsS65.drew | apply IsS65.set_1 | apply IsS65.set_2) | exact HI0.out)) (rU HO148.out) (by decide)) hk (fun _ h => h.2)) (fun _ h => h.1)); have n1_ := am (KeepBut.trans (by repeat (first | (with_reducible first | exact HK.out | apply KeepBut.set_ | apply keep_drewN | apply keep_drew | apply keep_alloc) | exact HK.out)) hk (.inl rfl)); have n2_ := am (hb); have n3_ := am (hi); clear HO148; clear HK; clear HB; clear HI0; have HO148 := n0_; have HK := n1_; have HB := n2_; have HI0 := n3_; clear n0_ n1_ n2_ n3_; (try clear hb); (try clear hb2); (try clear hk); (try clear hi)) | ((with_reducible refine gate_callee (f := 24) rfl ?_); refine goesL_ (some 12) rfl rfl Tryd.func24 (by kernel_rfl) rfl #[.pointer (some ⟨g, 0, none⟩), .int .i64 12] rfl mU ?_; (with_reducible refine (spec_l1Below.calls g s0_0 t152 t153 12 t154 t155 t156 w0 _ ?side1 ?side2 A4.out).mono ?_); (case side1 => repeat (first | (with_reducible first | exact HI0.out | apply IsS65.alloc | apply IsS65.drewN | apply IsS65.drew | apply IsS65.set_1 | apply IsS65.set_2) | exact HI0.out)); (case side2 => repeat (first | (with_reducible first | exact HB.out | apply below_alloc | apply pw_below_drewN | apply below_drew1 | refine below_set ?_ (IsS65.ge HI0.out)) | exact HB.out)); rintro e w89 ⟨rfl, hi, hb, hk⟩; refine ⟨_, rfl, ?_⟩; have n0_ := am (Kd.R_mono (Kd.R_keep (IsS65.apart (show IsS65 w0 _ g s0_0 t152 t153 from by repeat (first | (with_reducible first | exact HI0.out | apply IsS65.alloc | apply IsS65.drewN | apply IsS65.drew | apply IsS65.set_1 | apply IsS65.set_2) | exact HI0.out)) (rU HO148.out) (by decide)) hk (fun _ h => h.2)) (fun _ h => h.1)); have n1_ := am (KeepBut.trans (by repeat (first | (with_reducible first | exact HK.out | apply KeepBut.set_ | apply keep_drewN | apply keep_drew | apply keep_alloc) | exact HK.out)) hk (.inl rfl)); have n2_ := am (hb); have n3_ := am (hi); clear HO148; clear HK; clear HB; clear HI0; have HO148 := n0_; have HK := n1_; have HB := n2_; have HI0 := n3_; clear n0_ n1_ n2_ n3_; (try clear hb); (try clear hb2); (try clear hk); (try clear hi)))
        go_loopg [3] k (fun kq v3 w' => ∃ (x3_1 : List (S34)), Aside0 (spec_l4Any.l0 kq x3_1 s0_0 t155 t156 = some (r1, r2, r3)) ∧ Aside0 (kq ≤ k) ∧ Aside0 (Kd.R k34 34 w' w.heap.size (fun _ => True) v3 x3_1) ∧ Aside0 (IsS65 w0 w' g s0_0 t155 t156) ∧ Aside0 (KeepBut w w' g none) ∧ Aside0 (Below w0.heap.size w0 w'))
        case atStart => exact ⟨(t146), H', ⟨Nat.le_refl _⟩, ⟨rU HO148.out⟩, ⟨by repeat (first | (with_reducible first | exact HI0.out | apply IsS65.alloc | apply IsS65.drewN | apply IsS65.drew | apply IsS65.set_1 | apply IsS65.set_2) | exact HI0.out)⟩, ⟨by repeat (first | (with_reducible first | exact HK.out | apply KeepBut.set_ | apply keep_drewN | apply keep_drew | apply keep_alloc) | exact HK.out)⟩, ⟨by repeat (first | (with_reducible first | exact HB.out | apply below_alloc | apply pw_below_drewN | apply below_drew1 | refine below_set ?_ (IsS65.ge HI0.out)) | exact HB.out)⟩⟩
        case round =>
         clear H'
         try clear c1
         try clear p1
         try clear q1
         try clear hx1
         try clear hf1
         try clear c2
         try clear p2
         try clear q2
         try clear hx2
         try clear hf2
         try clear c3
         try clear p3
         try clear q3
         try clear hx3
         try clear hf3
         try clear c4
         try clear hx4
         try clear hf4
         try clear c5
         try clear c5b0
         try clear c5b1
         try clear p5
         try clear q5
         try clear hx5
         try clear hf5
         try clear c6
         try clear c6b0
         try clear p6
         try clear q6
         try clear hx6
         try clear hf6
         try clear c7
         try clear c7b0
         try clear hx7
         try clear hf7
         try clear c8
         try clear c9
         try clear p9
         try clear q9
         try clear hx9
         try clear hf9
         try clear p15
         try clear q15
         try clear hx15
         try clear c18
         try clear hx18
         try clear hf18
         try clear c20
         try clear c20b0
         try clear c20b1
         try clear c22
         try clear c22b0
         try clear c23
         try clear c23b0
         try clear c24
         try clear p24
         try clear q24
         try clear hx24
         try clear hf24
         try clear c33
         try clear hx33
         try clear hf33
         try clear c35
         try clear c35b0
         try clear c35b1
         try clear c37
         try clear c37b0
         try clear c38
         try clear c38b0
         try clear c39
         try clear p39
         try clear q39
         try clear hx39
         try clear hf39
         try clear c48
         try clear hx48
         try clear hf48
         try clear c50
         try clear c50b0
         try clear c50b1
         try clear c52
         try clear c52b0
         try clear c53
         try clear c53b0
         try clear c54
         try clear p54
         try clear q54
         try clear hx54
         try clear hf54
         try clear c63
         try clear hx63
         try clear hf63
         try clear c65
         try clear c65b0
         try clear c65b1
         try clear c67
         try clear c67b0
         try clear c68
         try clear c68b0
         try clear c69
         try clear p69
         try clear q69
         try clear hx69
         try clear hf69
         try clear c78
         try clear hx78
         try clear hf78
         try clear c80
         try clear c80b0
         try clear c80b1
         try clear c85
         try clear c85b0
         try clear c85b1
         try clear hx157_0
         try clear hx157_1
         try clear hx157_2
         try clear hx157_3
         try clear hx157_4
         try clear hx18_1
         try clear hx24_0
         try clear hx24_1
         try clear hx24_2
         try clear hx24_3
         try clear hx24_4
         try clear hx33_2
         try clear hx39_0
         try clear hx39_1
         try clear hx39_2
         try clear hx39_3
         try clear hx39_4
         try clear hx48_3
         try clear hx54_0
         try clear hx54_1
         try clear hx54_2
         try clear hx54_3
         try clear hx54_4
         try clear hx63_4
         try clear hx69_0
         try clear hx69_1
         try clear hx69_2
         try clear hx69_3
         try clear hx69_4
         try clear hx78_0
         try clear hx9_0
         try clear hx9_1
         try clear hx9_2
         try clear hx9_3
         try clear hx9_4
         try clear p157
         try clear p24
         try clear p39
         try clear p54
         try clear p69
         try clear p9
         try clear q157
         try clear q24
         try clear q39
         try clear q54
         try clear q69
         try clear q9
         obtain ⟨x3_1, HA, HK1, HO_3, HI0, HK, HB⟩ := hrel
         cases gk with
         | zero => exact absurd HA.out (by simp [spec_l4Any.l0])
         | succ k1 =>
          have H := HA.out
          clear HA
          simp only [spec_l4Any.l0] at H
          by_cases c90 : (x3_1.length : Int) < 17
          ·rw [if_pos c90] at H
           have c90b0 : decide ((x3_1.length : Int) < 17) = true := decide_eq_true c90
           have c90b1 : decide (x3_1.length < 17) = true := decide_eq_true (by omega)
           clear c90
           by_cases c91 : x3_1.length < 3518437208883
           ·rw [if_pos c91] at H
            have LMc91 := am c91
            clear c91
            obtain ⟨y193, hy193⟩ : ∃ y_ : List (S34), y_ = (x3_1 ++ [(⟨wrap64 (100 + (x3_1.length : Int)), 0, 0, 0, 0⟩ : S34)]) := ⟨_, rfl⟩
            replace H : (spec_l4Any.l0 k1 y193 s0_0 t155 t156) = some (r1, r2, r3) := by first | (rw [hy193]; with_reducible exact H) | (have H2_ := (Option.bind_some _ _).symm.trans H; rw [hy193]; with_reducible exact H2_) | (have H2_ := (Option.bind_some _ _).symm.trans H; with_reducible exact H2_) | with_reducible exact H | (rw [hy193]; exact H) | exact H
            have Ny193 := am hy193
            clear hy193
            have H' := am H
            clear H
            obtain ⟨Ao92, co92, eo92⟩ := Kd.R_slice HO_3.out
            subst eo92
            go_wp2_with (first | ((with_reducible refine gate_builtin (b := .append) (xs := #[.tmp 70, .tmp 75]) rfl ?_); at_builtin; refine Kd.R_append k34 w.heap.size rfl (.tmp 70) (.tmp 75) 24 34 (.agg #[(.int .i64 0), (.int .i64 0), (.int .i64 0), (.int .i64 0), (.int .i64 0)]) 40 rfl Tryd.underlying24 info34 rfl (by decide) (by omega) (.slice Ao92 x3_1.length co92) x3_1 (⟨wrap64 (100 + (x3_1.length : Int)), 0, 0, 0, 0⟩ : S34) [.int .i64 (wrap64 (100 + (x3_1.length : Int))), .int .i64 0, .int .i64 0, .int .i64 0, .int .i64 0] (fun _ => True) (fun _ => False) rfl rfl ?aP (fun _ hk => hk.elim) ?aF ?aO (Below.refl _ _) ?aS ?aL ?_; (case aP => exact k34_mkM _ _ _ (⟨wrap64 (100 + (x3_1.length : Int)), 0, 0, 0, 0⟩ : S34)); (case aF => exact (fun _ _ => trivial)); (case aO => exact rU HO_3.out); (case aS => exact (keep_size (w := w) (g := g) (row := none) (by repeat (first | (with_reducible first | exact HK.out | apply KeepBut.set_ | apply keep_drewN | apply keep_drew | apply keep_alloc) | exact HK.out)))); (case aL => have := LMc91.out; omega); intro v194 w93 ho hb hg hat; rw [← Ny193.out] at ho; have n0_ := am (IsS65.grown (by repeat (first | (with_reducible first | exact HI0.out | apply IsS65.alloc | apply IsS65.drewN | apply IsS65.drew | apply IsS65.set_1 | apply IsS65.set_2) | exact HI0.out)) hg (IsS65.own_ne HI0.out HO_3.out (by decide))); have n1_ := am (below_weaken (by repeat (first | (with_reducible first | exact HB.out | apply below_alloc | apply pw_below_drewN | apply below_drew1 | refine below_set ?_ (IsS65.ge HI0.out)) | exact HB.out)) HL.out hb); have n2_ := am (KeepBut.trans (by repeat (first | (with_reducible first | exact HK.out | apply KeepBut.set_ | apply keep_drewN | apply keep_drew | apply keep_alloc) | exact HK.out)) (KeepBut.of_grown hg g) (Kd.R_base2 HO_3.out)); have n3_ := am (ho); clear HI0; clear HB; clear HK; clear HO_3; have HI0 := n0_; have HB := n1_; have HK := n2_; have HO195 := n3_; clear n0_ n1_ n2_ n3_; clear ho hb hg hat))
            go_roundg k1
            case measure => have := HK1.out; omega
            case rel => exact ⟨(y193), H', ⟨by have := HK1.out; omega⟩, ⟨rU HO195.out⟩, ⟨by repeat (first | (with_reducible first | exact HI0.out | apply IsS65.alloc | apply IsS65.drewN | apply IsS65.drew | apply IsS65.set_1 | apply IsS65.set_2) | exact HI0.out)⟩, ⟨by repeat (first | (with_reducible first | exact HK.out | apply KeepBut.set_ | apply keep_drewN | apply keep_drew | apply keep_alloc) | exact HK.out)⟩, ⟨by repeat (first | (with_reducible first | exact HB.out | apply below_alloc | apply pw_below_drewN | apply below_drew1 | refine below_set ?_ (IsS65.ge HI0.out)) | exact HB.out)⟩⟩
           ·rw [if_neg c91] at H
            exact absurd H (by simp)
          ·rw [if_neg c90] at H
           have c90b0 : decide ((x3_1.length : Int) < 17) = false := decide_eq_false c90
           have c90b1 : decide (x3_1.length < 17) = false := decide_eq_false (by omega)
           clear c90
           simp only [Option.some.injEq, Prod.mk.injEq] at H
           obtain ⟨rfl, rfl, rfl⟩ := H
           obtain ⟨Ao94, co94, eo94⟩ := Kd.R_slice HO_3.out
           subst eo94
           go_wp2
           go_ret
           exact ⟨_, eU, rU HO_3.out, by repeat (first | (with_reducible first | exact HI0.out | apply IsS65.alloc | apply IsS65.drewN | apply IsS65.drew | apply IsS65.set_1 | apply IsS65.set_2) | exact HI0.out), by repeat (first | (with_reducible first | exact HB.out | apply below_alloc | apply pw_below_drewN | apply below_drew1 | refine below_set ?_ (IsS65.ge HI0.out)) | exact HB.out), by repeat (first | (with_reducible first | exact HK.out | apply KeepBut.set_ | apply keep_drewN | apply keep_drew | apply keep_alloc) | exact HK.out)⟩
       ·rw [if_neg c85] at H
        have c85b0 : (t154 == 6) = false := beq_eq_false_iff_ne.mpr c85
        have c85b1 : (t154 != 6) = true := bne_iff_ne.mpr c85
        simp only [Option.some.injEq, Prod.mk.injEq] at H
        obtain ⟨rfl, rfl, rfl⟩ := H
        go_enter Tryd.func23, Tryd.ntmps23
        go_wp2_with (first | ((with_reducible refine gate_callee (f := 33) rfl ?_); refine goesL_ (some 6) rfl rfl Tryd.func33 (by kernel_rfl) rfl #[.pointer (some ⟨g, 0, none⟩)] rfl mU ?_; (with_reducible refine (spec_l4Draw.calls k g s0_0 s0_1 s0_2 t146 t149 t150 w0 _ ?side1 ?side2 A2.out).mono ?_); (case side1 => repeat (first | (with_reducible first | exact HI0.out | apply IsS65.alloc | apply IsS65.drewN | apply IsS65.drew | apply IsS65.set_1 | apply IsS65.set_2) | exact HI0.out)); (case side2 => repeat (first | (with_reducible first | exact HB.out | apply below_alloc | apply pw_below_drewN | apply below_drew1 | refine below_set ?_ (IsS65.ge HI0.out)) | exact HB.out)); rintro e w95 ⟨v147, rfl, ho0, hi, hb, hk⟩; refine ⟨_, rfl, ?_⟩; have n0_ := am (Kd.R_lower ho0 (keep_size (w := w) (g := g) (row := none) (by repeat (first | (with_reducible first | exact HK.out | apply KeepBut.set_ | apply keep_drewN | apply keep_drew | apply keep_alloc) | exact HK.out)))); have n1_ := am (KeepBut.trans (by repeat (first | (with_reducible first | exact HK.out | apply KeepBut.set_ | apply keep_drewN | apply keep_drew | apply keep_alloc) | exact HK.out)) hk (.inl rfl)); have n2_ := am (hb); have n3_ := am (hi); clear HK; clear HB; clear HI0; have HO148 := n0_; have HK := n1_; have HB := n2_; have HI0 := n3_; clear n0_ n1_ n2_ n3_; (try clear hb); (try clear hb2); (try clear hk); (try clear hi); (try clear ho0); obtain ⟨Ao96, co96, eo96⟩ := Kd.R_slice HO148.out; subst eo96) | ((with_reducible refine gate_callee (f := 24) rfl ?_); refine goesL_ (some 10) rfl rfl Tryd.func24 (by kernel_rfl) rfl #[.pointer (some ⟨g, 0, none⟩), .int .i64 (t146.length : Int)] rfl mU ?_; (with_reducible refine (spec_l1Below.calls g s0_0 t149 t150 (t146.length : Int) t151 t152 t153 w0 _ ?side1 ?side2 A3.out).mono ?_); (case side1 => repeat (first | (with_reducible first | exact HI0.out | apply IsS65.alloc | apply IsS65.drewN | apply IsS65.drew | apply IsS65.set_1 | apply IsS65.set_2) | exact HI0.out)); (case side2 => repeat (first | (with_reducible first | exact HB.out | apply below_alloc | apply pw_below_drewN | apply below_drew1 | refine below_set ?_ (IsS65.ge HI0.out)) | exact HB.out)); rintro e w97 ⟨rfl, hi, hb, hk⟩; refine ⟨_, rfl, ?_⟩; have n0_ := am (Kd.R_mono (Kd.R_keep (IsS65.apart (show IsS65 w0 _ g s0_0 t149 t150 from by repeat (first | (with_reducible first | exact HI0.out | apply IsS65.alloc | apply IsS65.drewN | apply IsS65.drew | apply IsS65.set_1 | apply IsS65.set_2) | exact HI0.out)) (rU HO148.out) (by decide)) hk (fun _ h => h.2)) (fun _ h => h.1)); have n1_ := am (KeepBut.trans (by repeat (first | (with_reducible first | exact HK.out | apply KeepBut.set_ | apply keep_drewN | apply keep_drew | apply keep_alloc) | exact HK.out)) hk (.inl rfl)); have n2_ := am (hb); have n3_ := am (hi); clear HO148; clear HK; clear HB; clear HI0; have HO148 := n0_; have HK := n1_; have HB := n2_; have HI0 := n3_; clear n0_ n1_ n2_ n3_; (try clear hb); (try clear hb2); (try clear hk); (try clear hi)) | ((with_reducible refine gate_callee (f := 24) rfl ?_); refine goesL_ (some 12) rfl rfl Tryd.func24 (by kernel_rfl) rfl #[.pointer (some ⟨g, 0, none⟩), .int .i64 12] rfl mU ?_; (with_reducible refine (spec_l1Below.calls g s0_0 t152 t153 12 t154 t155 t156 w0 _ ?side1 ?side2 A4.out).mono ?_); (case side1 => repeat (first | (with_reducible first | exact HI0.out | apply IsS65.alloc | apply IsS65.drewN | apply IsS65.drew | apply IsS65.set_1 | apply IsS65.set_2) | exact HI0.out)); (case side2 => repeat (first | (with_reducible first | exact HB.out | apply below_alloc | apply pw_below_drewN | apply below_drew1 | refine below_set ?_ (IsS65.ge HI0.out)) | exact HB.out)); rintro e w98 ⟨rfl, hi, hb, hk⟩; refine ⟨_, rfl, ?_⟩; have n0_ := am (Kd.R_mono (Kd.R_keep (IsS65.apart (show IsS65 w0 _ g s0_0 t152 t153 from by repeat (first | (with_reducible first | exact HI0.out | apply IsS65.alloc | apply IsS65.drewN | apply IsS65.drew | apply IsS65.set_1 | apply IsS65.set_2) | exact HI0.out)) (rU HO148.out) (by decide)) hk (fun _ h => h.2)) (fun _ h => h.1)); have n1_ := am (KeepBut.trans (by repeat (first | (with_reducible first | exact HK.out | apply KeepBut.set_ | apply keep_drewN | apply keep_drew | apply keep_alloc) | exact HK.out)) hk (.inl rfl)); have n2_ := am (hb); have n3_ := am (hi); clear HO148; clear HK; clear HB; clear HI0; have HO148 := n0_; have HK := n1_; have HB := n2_; have HI0 := n3_; clear n0_ n1_ n2_ n3_; (try clear hb); (try clear hb2); (try clear hk); (try clear hi)))
        go_ret
        exact ⟨_, eU, rU HO148.out, by repeat (first | (with_reducible first | exact HI0.out | apply IsS65.alloc | apply IsS65.drewN | apply IsS65.drew | apply IsS65.set_1 | apply IsS65.set_2) | exact HI0.out), by repeat (first | (with_reducible first | exact HB.out | apply below_alloc | apply pw_below_drewN | apply below_drew1 | refine below_set ?_ (IsS65.ge HI0.out)) | exact HB.out), by repeat (first | (with_reducible first | exact HK.out | apply KeepBut.set_ | apply keep_drewN | apply keep_drew | apply keep_alloc) | exact HK.out)⟩
def spec_DrawIsUnder.f (k : Nat) (l0 : List Int) : Option ((List (S34)) × Int × Int) := (spec_l1New.f k l0).bind fun bt196 => ((spec_l4Any.f k bt196.1 bt196.2.1 bt196.2.2).bind fun bt200 => ((spec_l1Below.f bt196.1 bt200.2.1 bt200.2.2 10).bind fun bt205 => ((spec_l1Below.f bt196.1 bt205.2.1 bt205.2.2 6).bind fun bt208 => (some (bt200.1, bt205.1, bt208.1)))))
theorem spec_DrawIsUnder.mono : ∀ a0 k, LeO (spec_DrawIsUnder.f k a0) (spec_DrawIsUnder.f (k + 1) a0) := by
 intro a0 k
 unfold spec_DrawIsUnder.f
 repeat' first
   | (with_reducible exact spec_l1New.mono _ _)
   | (with_reducible exact spec_l4Any.mono _ _ _ _)
   | (with_reducible exact LeO.refl _)
   | (with_reducible exact LeO.none _)
   | (with_reducible refine LeO.ite ?_ ?_)
   | (with_reducible refine LeO.bind ?_ (fun _ => ?_))
   | exact spec_l1New.mono _ _
   | exact spec_l4Any.mono _ _ _ _
   | exact LeO.none _
   | refine LeO.ite ?_ ?_
   | refine LeO.bind ?_ (fun _ => ?_)
set_option maxHeartbeats 8000000 in
set_option maxRecDepth 100000 in
theorem spec_DrawIsUnder.calls (k : Nat) (A0 : Option Addr) (c0 : Nat) (l0 : List Int) (r1 : List (S34)) (r2 : Int) (r3 : Int) (w : World) (hr0 : Kd.C (Kd.int .u8) w A0 l0.length l0) (hc0 : l0.length ≤ c0) (h : spec_DrawIsUnder.f k l0 = some (r1, r2, r3)) :
  Calls Tryd.prog 6 #[.slice A0 l0.length c0] w fun e w' => ∃ v0_ : Value, e = .returned (.tuple #[v0_, .int .i64 r2, .int .i64 r3]) ∧ Kd.R k34 34 w' w.heap.size (fun _ => True) v0_ r1 ∧ Below w.heap.size w w' := by
 have HR0 := am hr0
 have HC0 := am hc0
 clear hr0 hc0
 have HB := am (Below.refl w.heap.size w)
 have H : ((spec_l1New.f k l0).bind fun bt196 => ((spec_l4Any.f k bt196.1 bt196.2.1 bt196.2.2).bind fun bt200 => ((spec_l1Below.f bt196.1 bt200.2.1 bt200.2.2 10).bind fun bt205 => ((spec_l1Below.f bt196.1 bt205.2.1 bt205.2.2 6).bind fun bt208 => (some (bt200.1, bt205.1, bt208.1)))))) = some (r1, r2, r3) := h
 clear h
 replace H := Option.bind_eq_some_iff.mp H
 obtain ⟨⟨t196, t197, t198⟩, A20, H⟩ := H
 replace H : ((spec_l4Any.f k t196 t197 t198).bind fun bt200 => ((spec_l1Below.f t196 bt200.2.1 bt200.2.2 10).bind fun bt205 => ((spec_l1Below.f t196 bt205.2.1 bt205.2.2 6).bind fun bt208 => (some (bt200.1, bt205.1, bt208.1))))) = some (r1, r2, r3) := H
 have A2 := am A20
 clear A20
 replace H := Option.bind_eq_some_iff.mp H
 obtain ⟨⟨t200, t203, t204⟩, A30, H⟩ := H
 replace H : ((spec_l1Below.f t196 t203 t204 10).bind fun bt205 => ((spec_l1Below.f t196 bt205.2.1 bt205.2.2 6).bind fun bt208 => (some (t200, bt205.1, bt208.1)))) = some (r1, r2, r3) := H
 have A3 := am A30
 clear A30
 replace H := Option.bind_eq_some_iff.mp H
 obtain ⟨⟨t205, t206, t207⟩, A40, H⟩ := H
 replace H : ((spec_l1Below.f t196 t206 t207 6).bind fun bt208 => (some (t200, t205, bt208.1))) = some (r1, r2, r3) := H
 have A4 := am A40
 clear A40
 replace H := Option.bind_eq_some_iff.mp H
 obtain ⟨⟨t208, t209, t210⟩, A50, H⟩ := H
 replace H : (some (t200, t205, t208)) = some (r1, r2, r3) := H
 have A5 := am A50
 clear A50
 simp only [Option.some.injEq, Prod.mk.injEq] at H
 obtain ⟨rfl, rfl, rfl⟩ := H
 go_enter Tryd.func6, Tryd.ntmps6
 go_wp2_with (first | ((with_reducible refine gate_callee (f := 22) rfl ?_); refine goesL_ (some 9) rfl rfl Tryd.func22 (by kernel_rfl) rfl #[.slice A0 l0.length c0] rfl mU ?_; (with_reducible refine (spec_l1New.calls k _ _ l0 t196 t197 t198 w _ ?side1 ?side2 ?side3 A2.out).mono ?_); (case side1 => exact bU HB.out); (case side2 => exact HR0.out); (case side3 => exact HC0.out); rintro e w6 ⟨g199, rfl, hi, hb, hb2⟩; refine ⟨_, rfl, ?_⟩; have n0_ := am (hb); have n1_ := am (hi); clear HB; have HB := n0_; have HI199 := n1_; clear n0_ n1_; (try clear hb); (try clear hb2); (try clear hk); (try clear hi)) | ((with_reducible refine gate_callee (f := 23) rfl ?_); refine goesL_ (some 11) rfl rfl Tryd.func23 (by kernel_rfl) rfl #[.pointer (some ⟨g199, 0, none⟩)] rfl mU ?_; (with_reducible refine (spec_l4Any.calls k g199 t196 t197 t198 t200 t203 t204 w _ ?side1 ?side2 A3.out).mono ?_); (case side1 => repeat (first | (with_reducible first | exact HI199.out | apply IsS65.alloc | apply IsS65.drewN | apply IsS65.drew | apply IsS65.set_1 | apply IsS65.set_2) | exact HI199.out)); (case side2 => repeat (first | (with_reducible first | exact HB.out | apply below_alloc | apply pw_below_drewN | apply below_drew1 | refine below_set ?_ (IsS65.ge HI199.out)) | exact HB.out)); rintro e w7 ⟨v201, rfl, ho0, hi, hb, hk⟩; refine ⟨_, rfl, ?_⟩; have n0_ := am (Kd.R_lower ho0 (below_size (by repeat (first | (with_reducible first | exact HB.out | apply below_alloc | apply pw_below_drewN | apply below_drew1 | refine below_set ?_ (IsS65.ge HI199.out)) | exact HB.out)))); have n1_ := am (hb); have n2_ := am (hi); clear HB; clear HI199; have HO202 := n0_; have HB := n1_; have HI199 := n2_; clear n0_ n1_ n2_; (try clear hb); (try clear hb2); (try clear hk); (try clear hi); (try clear ho0)) | ((with_reducible refine gate_callee (f := 24) rfl ?_); refine goesL_ (some 13) rfl rfl Tryd.func24 (by kernel_rfl) rfl #[.pointer (some ⟨g199, 0, none⟩), .int .i64 10] rfl mU ?_; (with_reducible refine (spec_l1Below.calls g199 t196 t203 t204 10 t205 t206 t207 w _ ?side1 ?side2 A4.out).mono ?_); (case side1 => repeat (first | (with_reducible first | exact HI199.out | apply IsS65.alloc | apply IsS65.drewN | apply IsS65.drew | apply IsS65.set_1 | apply IsS65.set_2) | exact HI199.out)); (case side2 => repeat (first | (with_reducible first | exact HB.out | apply below_alloc | apply pw_below_drewN | apply below_drew1 | refine below_set ?_ (IsS65.ge HI199.out)) | exact HB.out)); rintro e w8 ⟨rfl, hi, hb, hk⟩; refine ⟨_, rfl, ?_⟩; have n0_ := am (Kd.R_mono (Kd.R_keep (IsS65.apart (show IsS65 w _ g199 t196 t203 t204 from by repeat (first | (with_reducible first | exact HI199.out | apply IsS65.alloc | apply IsS65.drewN | apply IsS65.drew | apply IsS65.set_1 | apply IsS65.set_2) | exact HI199.out)) (rU HO202.out) (by decide)) hk (fun _ h => h.2)) (fun _ h => h.1)); have n1_ := am (hb); have n2_ := am (hi); clear HO202; clear HB; clear HI199; have HO202 := n0_; have HB := n1_; have HI199 := n2_; clear n0_ n1_ n2_; (try clear hb); (try clear hb2); (try clear hk); (try clear hi)) | ((with_reducible refine gate_callee (f := 24) rfl ?_); refine goesL_ (some 17) rfl rfl Tryd.func24 (by kernel_rfl) rfl #[.pointer (some ⟨g199, 0, none⟩), .int .i64 6] rfl mU ?_; (with_reducible refine (spec_l1Below.calls g199 t196 t206 t207 6 t208 t209 t210 w _ ?side1 ?side2 A5.out).mono ?_); (case side1 => repeat (first | (with_reducible first | exact HI199.out | apply IsS65.alloc | apply IsS65.drewN | apply IsS65.drew | apply IsS65.set_1 | apply IsS65.set_2) | exact HI199.out)); (case side2 => repeat (first | (with_reducible first | exact HB.out | apply below_alloc | apply pw_below_drewN | apply below_drew1 | refine below_set ?_ (IsS65.ge HI199.out)) | exact HB.out)); rintro e w9 ⟨rfl, hi, hb, hk⟩; refine ⟨_, rfl, ?_⟩; have n0_ := am (Kd.R_mono (Kd.R_keep (IsS65.apart (show IsS65 w _ g199 t196 t206 t207 from by repeat (first | (with_reducible first | exact HI199.out | apply IsS65.alloc | apply IsS65.drewN | apply IsS65.drew | apply IsS65.set_1 | apply IsS65.set_2) | exact HI199.out)) (rU HO202.out) (by decide)) hk (fun _ h => h.2)) (fun _ h => h.1)); have n1_ := am (hb); have n2_ := am (hi); clear HO202; clear HB; clear HI199; have HO202 := n0_; have HB := n1_; have HI199 := n2_; clear n0_ n1_ n2_; (try clear hb); (try clear hb2); (try clear hk); (try clear hi)))
 go_ret3
 exact ⟨_, eU, rU HO202.out, by repeat (first | (with_reducible first | exact HB.out | apply below_alloc | apply pw_below_drewN | apply below_drew1 | refine below_set ?_ (IsS65.ge HI199.out)) | exact HB.out)⟩
def impl_NodeOf.l0 : Nat → Int → List (S34) → Int → Int → Option (Int)
 | 0, _, _, _, _ => none
 | k + 1, x1, x7, x8, x9 => if x9 < x8 then (if 0 ≤ x9 then (if x9 < (x7.length : Int) then (if ((rd_T34 x7 x9).f0) = x1 then (some x9) else (impl_NodeOf.l0 k x1 x7 x8 (wrap64 (x9 + 1)))) else (none)) else (none)) else (some (-1))
def impl_NodeOf.f (k : Nat) (l0 : List (S34)) (a1 : Int) : Option (Int) := impl_NodeOf.l0 k a1 l0 (l0.length : Int) 0
theorem impl_NodeOf.mono_l : ∀ k, (∀ y0 y1 y2 y3, LeO (impl_NodeOf.l0 k y0 y1 y2 y3) (impl_NodeOf.l0 (k + 1) y0 y1 y2 y3))
 | 0 => fun _ _ _ _ r h => by simp [impl_NodeOf.l0] at h
 | k + 1 => by
  have ih0 := impl_NodeOf.mono_l k
  ·intro y0 y1 y2 y3
   unfold impl_NodeOf.l0
   repeat' first
   | (with_reducible exact ih0 _ _ _ _)
   | (with_reducible exact LeO.refl _)
   | (with_reducible exact LeO.none _)
   | (with_reducible refine LeO.ite ?_ ?_)
   | (with_reducible refine LeO.bind ?_ (fun _ => ?_))
   | exact ih0 _ _ _ _
   | exact LeO.none _
   | refine LeO.ite ?_ ?_
   | refine LeO.bind ?_ (fun _ => ?_)
theorem impl_NodeOf.mono : ∀ a0 a1 k, LeO (impl_NodeOf.f k a0 a1) (impl_NodeOf.f (k + 1) a0 a1) := by
 intro a0 a1 k
 have ih0 := impl_NodeOf.mono_l k
 unfold impl_NodeOf.f
 repeat' first
   | (with_reducible exact ih0 _ _ _ _)
   | (with_reducible exact LeO.refl _)
   | (with_reducible exact LeO.none _)
   | (with_reducible refine LeO.ite ?_ ?_)
   | (with_reducible refine LeO.bind ?_ (fun _ => ?_))
   | exact ih0 _ _ _ _
   | exact LeO.none _
   | refine LeO.ite ?_ ?_
   | refine LeO.bind ?_ (fun _ => ?_)
set_option maxHeartbeats 8000000 in
set_option maxRecDepth 100000 in
theorem impl_NodeOf.calls (k : Nat) (A0 : Option Addr) (c0 : Nat) (l0 : List (S34)) (a1 : Int) (r : Int) (w : World) (hr0 : Kd.C k34 w A0 l0.length l0) (hc0 : l0.length ≤ c0) (h : impl_NodeOf.f k l0 a1 = some r) :
  Calls Tryd.prog 10 #[.slice A0 l0.length c0, .int .i64 a1] w fun e w' => e = .returned (.int .i64 r) ∧ Below w.heap.size w w' := by
 have hu34 := Tryd.underlying34
 have HR0 := am hr0
 have HC0 := am hc0
 clear hr0 hc0
 have HB := am (Below.refl w.heap.size w)
 have H : (impl_NodeOf.l0 k a1 l0 (l0.length : Int) 0) = some r := h
 clear h
 have H' := am H
 clear H
 go_enter Tryd.func10, Tryd.ntmps10
 go_wp2
 go_loopg [9] k (fun kq v9 w' => ∃ (x9_1 : Int), v9 = .int .i64 x9_1 ∧ Aside0 (impl_NodeOf.l0 kq a1 l0 (l0.length : Int) x9_1 = some r) ∧ Aside0 (kq ≤ k) ∧ Aside0 (Below w.heap.size w w'))
 case atStart => exact ⟨(0), (by first | rfl | (simp; done) | (simp [*]; done)), H', ⟨Nat.le_refl _⟩, ⟨bU HB.out⟩⟩
 case round =>
  clear H'
  try clear c1
  try clear p2
  obtain ⟨x9_1, rfl, HA, HK1, HB⟩ := hrel
  cases gk with
  | zero => exact absurd HA.out (by simp [impl_NodeOf.l0])
  | succ k1 =>
   have H := HA.out
   clear HA
   simp only [impl_NodeOf.l0] at H
   by_cases c3 : x9_1 < (l0.length : Int)
   ·rw [if_pos c3] at H
    have c3b0 : decide (x9_1 < (l0.length : Int)) = true := decide_eq_true c3
    clear c3
    by_cases c4 : 0 ≤ x9_1
    ·rw [if_pos c4] at H
     have c4b0 : decide (0 ≤ x9_1) = true := decide_eq_true c4
     clear c4
     by_cases c5 : x9_1 < (l0.length : Int)
     ·rw [if_pos c5] at H
      have c5b0 : decide (x9_1 < (l0.length : Int)) = true := decide_eq_true c5
      clear c5
      by_cases c6 : ((rd_T34 l0 x9_1).f0) = a1
      ·rw [if_pos c6] at H
       have c6b0 : (((rd_T34 l0 x9_1).f0) == a1) = true := beq_iff_eq.mpr c6
       have c6b1 : (((rd_T34 l0 x9_1).f0) != a1) = false := bne_eq_false_iff_eq.mpr c6
       clear c6
       obtain rfl := Option.some.inj H
       have p211 : 0 ≤ (x9_1 : Int) := dU
       have q211 : x9_1 < (l0.length : Int) := dU
       obtain ⟨ad211, e211, hx211_0, hx211_1, hx211_2, hx211_3, hx211_4⟩ := at_T34 HR0.out x9_1 p211 q211
       cases e211
       replace hx211_0 := cB HB.out hx211_0
       replace hx211_1 := cB HB.out hx211_1
       replace hx211_2 := cB HB.out hx211_2
       replace hx211_3 := cB HB.out hx211_3
       replace hx211_4 := cB HB.out hx211_4
       replace p211 := eq_true p211
       replace q211 := eq_true q211
       go_wp2_with (first | ((with_reducible refine gate_dst (N := 6) rfl ?_); refine box_event ?hg (N := 6) ?hd (cs := #[.int .i64 0, .int .i64 0, .int .i64 0, .int .i64 0, .int .i64 0]) (t := 34) ?hr ?_; (case hd => rfl); (case hg => rfl); (case hr => first | (go_simp; done) | (go_simp; rfl)); intro gb212 hg w7 hbox hb; have n0_ := am (below_step (bU HB.out) hb); have n1_ := am (hbox); have n2_ := am ((by rw [hg]; exact (below_size (bU HB.out)) : w.heap.size ≤ gb212)); have n3_ := am ((by rw [hg]; exact (below_size (bU HB.out)) : w.heap.size ≤ gb212)); clear HB; have HB := n0_; have BK212 := n1_; have GW212 := n2_; have GE212 := n3_; clear n0_ n1_ n2_ n3_; clear hb hbox hg; obtain ⟨hcz8_0, hcz8_1, hcz8_2, hcz8_3, hcz8_4⟩ := bc5 BK212.out; obtain ⟨hfz8_0, hfz8_1, hfz8_2, hfz8_3, hfz8_4⟩ := bf5 BK212.out))
       go_ret
       exact ⟨eU, bS HB.out GE212.out⟩
      ·rw [if_neg c6] at H
       have c6b0 : (((rd_T34 l0 x9_1).f0) == a1) = false := beq_eq_false_iff_ne.mpr c6
       have c6b1 : (((rd_T34 l0 x9_1).f0) != a1) = true := bne_iff_ne.mpr c6
       have H' := am H
       clear H
       have p211 : 0 ≤ (x9_1 : Int) := dU
       have q211 : x9_1 < (l0.length : Int) := dU
       obtain ⟨ad211, e211, hx211_0, hx211_1, hx211_2, hx211_3, hx211_4⟩ := at_T34 HR0.out x9_1 p211 q211
       cases e211
       replace hx211_0 := cB HB.out hx211_0
       replace hx211_1 := cB HB.out hx211_1
       replace hx211_2 := cB HB.out hx211_2
       replace hx211_3 := cB HB.out hx211_3
       replace hx211_4 := cB HB.out hx211_4
       replace p211 := eq_true p211
       replace q211 := eq_true q211
       go_wp2_with (first | ((with_reducible refine gate_dst (N := 6) rfl ?_); refine box_event ?hg (N := 6) ?hd (cs := #[.int .i64 0, .int .i64 0, .int .i64 0, .int .i64 0, .int .i64 0]) (t := 34) ?hr ?_; (case hd => rfl); (case hg => rfl); (case hr => first | (go_simp; done) | (go_simp; rfl)); intro gb212 hg w9 hbox hb; have n0_ := am (below_step (bU HB.out) hb); have n1_ := am (hbox); have n2_ := am ((by rw [hg]; exact (below_size (bU HB.out)) : w.heap.size ≤ gb212)); have n3_ := am ((by rw [hg]; exact (below_size (bU HB.out)) : w.heap.size ≤ gb212)); clear HB; have HB := n0_; have BK212 := n1_; have GW212 := n2_; have GE212 := n3_; clear n0_ n1_ n2_ n3_; clear hb hbox hg; obtain ⟨hcz10_0, hcz10_1, hcz10_2, hcz10_3, hcz10_4⟩ := bc5 BK212.out; obtain ⟨hfz10_0, hfz10_1, hfz10_2, hfz10_3, hfz10_4⟩ := bf5 BK212.out))
       go_roundg k1
       case measure => have := HK1.out; omega
       case rel => exact ⟨(wrap64 (x9_1 + 1)), (by first | rfl | (simp; done) | (simp [*]; done)), H', ⟨by have := HK1.out; omega⟩, ⟨bS HB.out GE212.out⟩⟩
     ·rw [if_neg c5] at H
      exact absurd H (by simp)
    ·rw [if_neg c4] at H
     exact absurd H (by simp)
   ·rw [if_neg c3] at H
    have c3b0 : decide (x9_1 < (l0.length : Int)) = false := decide_eq_false c3
    clear c3
    obtain rfl := Option.some.inj H
    go_wp2
    go_ret
    exact ⟨eU, bU HB.out⟩
def impl_InRange.f (a0 : Int) (a1 : Int) (a2 : Int) : Option (Bool) := if a1 ≤ a0 then (some (decide (a0 ≤ a2))) else (some false)
set_option maxHeartbeats 8000000 in
set_option maxRecDepth 100000 in
theorem impl_InRange.calls (a0 : Int) (a1 : Int) (a2 : Int) (r : Bool) (w : World) (h : impl_InRange.f a0 a1 a2 = some r) :
  Calls Tryd.prog 26 #[.int .i64 a0, .int .i64 a1, .int .i64 a2] w fun e w' => e = .returned (.bool r) ∧ Drawn0 w w' := by
 have H : (if a1 ≤ a0 then (some (decide (a0 ≤ a2))) else (some false)) = some r := h
 clear h
 by_cases c4 : a1 ≤ a0
 ·rw [if_pos c4] at H
  have c4b0 : decide (a1 ≤ a0) = true := decide_eq_true c4
  clear c4
  obtain rfl := Option.some.inj H
  go_enter Tryd.func26, Tryd.ntmps26
  go_wp2
  go_ret
  exact ⟨by first | rfl | (simp; done) | (simp [*]; done), by repeat (first | exact Drawn0.refl _ | apply Drawn0.step)⟩
 ·rw [if_neg c4] at H
  have c4b0 : decide (a1 ≤ a0) = false := decide_eq_false c4
  clear c4
  obtain rfl := Option.some.inj H
  go_enter Tryd.func26, Tryd.ntmps26
  go_wp2
  go_ret
  exact ⟨by first | rfl | (simp; done) | (simp [*]; done), by repeat (first | exact Drawn0.refl _ | apply Drawn0.step)⟩
end Go.Proofs.YtefppmgcenfemaaDoor.QFnDocuments
