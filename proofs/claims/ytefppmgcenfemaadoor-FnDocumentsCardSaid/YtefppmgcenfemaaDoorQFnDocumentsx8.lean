import Derived.Test.YtefppmgcenfemaaDoorUp
import Derived.Test.YtefppmgcenfemaaDoorQFnDocumentsx0
import Derived.Test.YtefppmgcenfemaaDoorQFnDocumentsx7
namespace Go.Proofs.YtefppmgcenfemaaDoor.QFnDocuments
open Go.RowKit Go.Proofs.YtefppmgcenfemaaDoorW.PrintWords Go.Proofs.YtefppmgcenfemaaDoorW.PrintLast Go.Proofs.YtefppmgcenfemaaDoorW.PrintMore
attribute [local go_sem] max2_int min2_int max_two min_two max_three min_three max_four min_four
set_option linter.unusedVariables false
set_option linter.unusedSimpArgs false
def impl_DocumentText.l0 : Nat → List ByteArray → List (S34) → Int → Int → Option (ByteArray)
 | 0, _, _, _, _ => none
 | k + 1, x3, x7, x8, x9 => if x9 < x8 then (if 0 ≤ x9 then (if x9 < (x7.length : Int) then ((impl_FormatInt.f ((rd_T34 x7 x9).f0)).bind fun t294 => (if t294.size + 1 ≤ 9223372036854775807 then ((impl_FormatInt.f ((rd_T34 x7 x9).f1)).bind fun t295 => (if (t294 ++ (⟨#[60]⟩ : ByteArray)).size + t295.size ≤ 9223372036854775807 then (if ((t294 ++ (⟨#[60]⟩ : ByteArray)) ++ t295).size + 1 ≤ 9223372036854775807 then ((impl_FormatInt.f ((rd_T34 x7 x9).f2)).bind fun t296 => (if (((t294 ++ (⟨#[60]⟩ : ByteArray)) ++ t295) ++ (⟨#[58]⟩ : ByteArray)).size + t296.size ≤ 9223372036854775807 then (if ((((t294 ++ (⟨#[60]⟩ : ByteArray)) ++ t295) ++ (⟨#[58]⟩ : ByteArray)) ++ t296).size + 1 ≤ 9223372036854775807 then ((impl_FormatInt.f ((rd_T34 x7 x9).f3)).bind fun t297 => (if (((((t294 ++ (⟨#[60]⟩ : ByteArray)) ++ t295) ++ (⟨#[58]⟩ : ByteArray)) ++ t296) ++ (⟨#[46]⟩ : ByteArray)).size + t297.size ≤ 9223372036854775807 then (if ((((((t294 ++ (⟨#[60]⟩ : ByteArray)) ++ t295) ++ (⟨#[58]⟩ : ByteArray)) ++ t296) ++ (⟨#[46]⟩ : ByteArray)) ++ t297).size + 1 ≤ 9223372036854775807 then ((impl_FormatInt.f ((rd_T34 x7 x9).f4)).bind fun t298 => (if (((((((t294 ++ (⟨#[60]⟩ : ByteArray)) ++ t295) ++ (⟨#[58]⟩ : ByteArray)) ++ t296) ++ (⟨#[46]⟩ : ByteArray)) ++ t297) ++ (⟨#[64]⟩ : ByteArray)).size + t298.size ≤ 9223372036854775807 then (if x3.length < 8796093022208 then (impl_DocumentText.l0 k (x3 ++ [(((((((t294 ++ (⟨#[60]⟩ : ByteArray)) ++ t295) ++ (⟨#[58]⟩ : ByteArray)) ++ t296) ++ (⟨#[46]⟩ : ByteArray)) ++ t297) ++ (⟨#[64]⟩ : ByteArray)) ++ t298]) x7 x8 (wrap64 (x9 + 1))) else (none)) else (none))) else (none)) else (none))) else (none)) else (none))) else (none)) else (none))) else (none))) else (none)) else (none)) else ((impl_joined.f x3).bind fun t291 => (some t291))
def impl_DocumentText.f (k : Nat) (l0 : List (S34)) : Option (ByteArray) := impl_DocumentText.l0 k (([] : List ByteArray)) l0 (l0.length : Int) 0
theorem impl_DocumentText.mono_l : ∀ k, (∀ y0 y1 y2 y3, LeO (impl_DocumentText.l0 k y0 y1 y2 y3) (impl_DocumentText.l0 (k + 1) y0 y1 y2 y3))
 | 0 => fun _ _ _ _ r h => by simp [impl_DocumentText.l0] at h
 | k + 1 => by
  have ih0 := impl_DocumentText.mono_l k
  ·intro y0 y1 y2 y3
   unfold impl_DocumentText.l0
   repeat' first
   | (with_reducible exact ih0 _ _ _ _)
   | (with_reducible exact LeO.refl _)
   | (with_reducible exact LeO.none _)
   | (with_reducible refine LeO.ite ?_ ?_)
   | (with_reducible refine LeO.bind ?_ (fun _ => ?_))
   | exact ih0 _ _ _ _
   | exact LeO.none _
   | refine LeO.ite ?_ ?_
   | refine LeO.bind ?_ (fun _ => ?_)
theorem impl_DocumentText.mono : ∀ a0 k, LeO (impl_DocumentText.f k a0) (impl_DocumentText.f (k + 1) a0) := by
 intro a0 k
 have ih0 := impl_DocumentText.mono_l k
 unfold impl_DocumentText.f
 repeat' first
   | (with_reducible exact ih0 _ _ _ _)
   | (with_reducible exact LeO.refl _)
   | (with_reducible exact LeO.none _)
   | (with_reducible refine LeO.ite ?_ ?_)
   | (with_reducible refine LeO.bind ?_ (fun _ => ?_))
   | exact ih0 _ _ _ _
   | exact LeO.none _
   | refine LeO.ite ?_ ?_
   | refine LeO.bind ?_ (fun _ => ?_)
def impl_DocumentText.T5 : Bool × List (List Nat × List Nat) := (true, [([], []), ([], []), ([1], [1]), ([2], [2]), ([3], [3]), ([], []), ([5], [5]), ([6, 3], [6]), ([4, 7], [4, 7]), ([8], [8]), ([], []), ([10], [10]), ([11, 7], [11]), ([9, 12], [9, 12]), ([13], [13]), ([], []), ([15], [15]), ([16, 12], [16]), ([14, 17], [14, 17]), ([18], [18]), ([], []), ([20], [20]), ([21, 17], [21]), ([19, 22], [19, 22]), ([23], [23]), ([0, 24, 22], [0, 24]), ([25, 25, 0, 1, 2, 3, 4, 5, 6, 7, 8, 9, 10, 11, 12, 13, 14, 15, 16, 17, 18, 19, 20, 21, 22, 23, 24, 25], [0, 25])])
def impl_DocumentText.B5 : List Nat := [0, 0, 2, 6, 14, 0, 32, 110, 254, 510, 0, 1024, 3310, 8190, 16382, 0, 32768, 105710, 262142, 524286, 0, 1048576, 3382510, 8388606, 16777214, 33554431, 67108863]
theorem impl_DocumentText.tab5 : rtab .any (opsOf Tryd.f15 5) = impl_DocumentText.T5 := by kernel_rfl
theorem impl_DocumentText.bits5 : waitsOk impl_DocumentText.T5.2 impl_DocumentText.B5 = true := by kernel_rfl
set_option maxHeartbeats 8000000 in
set_option maxRecDepth 100000 in
theorem impl_DocumentText.calls (k : Nat) (A0 : Option Addr) (c0 : Nat) (l0 : List (S34)) (r : ByteArray) (w : World) (hr0 : Kd.C k34 w A0 l0.length l0) (hc0 : l0.length ≤ c0) (HTAB : TabHolds w) (h : impl_DocumentText.f k l0 = some r) :
  Calls Tryd.prog 15 #[.slice A0 l0.length c0] w fun e w' => e = .returned (.string r) ∧ Below w.heap.size w w' := by
 have hu34 := Tryd.underlying34
 have HR0 := am hr0
 have HC0 := am hc0
 clear hr0 hc0
 have HB := am (Below.refl w.heap.size w)
 have H : (impl_DocumentText.l0 k (([] : List ByteArray)) l0 (l0.length : Int) 0) = some r := h
 clear h
 obtain ⟨y288, hy288⟩ : ∃ y_ : List ByteArray, y_ = (([] : List ByteArray)) := ⟨_, rfl⟩
 replace H : (impl_DocumentText.l0 k y288 l0 (l0.length : Int) 0) = some r := by first | (rw [hy288]; with_reducible exact H) | (have H2_ := (Option.bind_some _ _).symm.trans H; rw [hy288]; with_reducible exact H2_) | (have H2_ := (Option.bind_some _ _).symm.trans H; with_reducible exact H2_) | with_reducible exact H | (rw [hy288]; exact H) | exact H
 have Ny288 := am hy288
 clear hy288
 have H' := am H
 clear H
 go_enter Tryd.func15, Tryd.ntmps15
 go_wp2_with (first | ((with_reducible refine gate_dst (N := 6) rfl ?_); refine Kd.R_lit Kd.string _ 9 ?hg (N := 6) ?hd (xs := ([] : List ByteArray)) (inner := []) (ok := fun _ => True) (okp := fun _ => True) ?hr ?hp (fun _ hk => hk) trivial (Below.refl _ _) (Nat.le_refl _) (by simp) ?_; (case hd => rfl); (case hg => rfl); (case hr => first | (go_simp; done) | (go_simp; rfl)); (case hp => exact (Reps.none _ _)); intro v289 w2 ho3 hb hg_ hnew_; clear hg_ hnew_; (first | rw [← Ny288.out] at ho3 | (simp only [Int.reduceToNat] at ho3; rw [← Ny288.out] at ho3)); have n0_ := am (Kd.R_lower ho3 (below_size (bU HB.out))); have n1_ := am (below_step (bU HB.out) hb); clear HB; have HO290 := n0_; have HB := n1_; clear n0_ n1_; clear hb ho3))
 go_loopg [3, 9] k (fun kq v3 v9 w' => ∃ (x3_1 : List ByteArray) (x9_1 : Int), v9 = .int .i64 x9_1 ∧ Aside0 (impl_DocumentText.l0 kq x3_1 l0 (l0.length : Int) x9_1 = some r) ∧ Aside0 (kq ≤ k) ∧ Aside0 (Kd.R Kd.string 9 w' w.heap.size (fun _ => True) v3 x3_1) ∧ Aside0 (Below w.heap.size w w'))
 case atStart => exact ⟨(y288), (0), (by first | rfl | (simp; done) | (simp [*]; done)), H', ⟨Nat.le_refl _⟩, ⟨rU HO290.out⟩, ⟨bU HB.out⟩⟩
 case round =>
  clear H'
  try clear c1
  try clear p2
  obtain ⟨x3_1, x9_1, rfl, HA, HK1, HO_3, HB⟩ := hrel
  cases gk with
  | zero => exact absurd HA.out (by simp [impl_DocumentText.l0])
  | succ k1 =>
   have H := HA.out
   clear HA
   simp only [impl_DocumentText.l0] at H
   by_cases c4 : x9_1 < (l0.length : Int)
   ·rw [if_pos c4] at H
    have c4b0 : decide (x9_1 < (l0.length : Int)) = true := decide_eq_true c4
    clear c4
    by_cases c5 : 0 ≤ x9_1
    ·rw [if_pos c5] at H
     have c5b0 : decide (0 ≤ x9_1) = true := decide_eq_true c5
     clear c5
     by_cases c6 : x9_1 < (l0.length : Int)
     ·rw [if_pos c6] at H
      have c6b0 : decide (x9_1 < (l0.length : Int)) = true := decide_eq_true c6
      clear c6
      replace H := Option.bind_eq_some_iff.mp H
      obtain ⟨t294, A70, H⟩ := H
      replace H : (if t294.size + 1 ≤ 9223372036854775807 then ((impl_FormatInt.f ((rd_T34 l0 x9_1).f1)).bind fun t295 => (if (t294 ++ (⟨#[60]⟩ : ByteArray)).size + t295.size ≤ 9223372036854775807 then (if ((t294 ++ (⟨#[60]⟩ : ByteArray)) ++ t295).size + 1 ≤ 9223372036854775807 then ((impl_FormatInt.f ((rd_T34 l0 x9_1).f2)).bind fun t296 => (if (((t294 ++ (⟨#[60]⟩ : ByteArray)) ++ t295) ++ (⟨#[58]⟩ : ByteArray)).size + t296.size ≤ 9223372036854775807 then (if ((((t294 ++ (⟨#[60]⟩ : ByteArray)) ++ t295) ++ (⟨#[58]⟩ : ByteArray)) ++ t296).size + 1 ≤ 9223372036854775807 then ((impl_FormatInt.f ((rd_T34 l0 x9_1).f3)).bind fun t297 => (if (((((t294 ++ (⟨#[60]⟩ : ByteArray)) ++ t295) ++ (⟨#[58]⟩ : ByteArray)) ++ t296) ++ (⟨#[46]⟩ : ByteArray)).size + t297.size ≤ 9223372036854775807 then (if ((((((t294 ++ (⟨#[60]⟩ : ByteArray)) ++ t295) ++ (⟨#[58]⟩ : ByteArray)) ++ t296) ++ (⟨#[46]⟩ : ByteArray)) ++ t297).size + 1 ≤ 9223372036854775807 then ((impl_FormatInt.f ((rd_T34 l0 x9_1).f4)).bind fun t298 => (if (((((((t294 ++ (⟨#[60]⟩ : ByteArray)) ++ t295) ++ (⟨#[58]⟩ : ByteArray)) ++ t296) ++ (⟨#[46]⟩ : ByteArray)) ++ t297) ++ (⟨#[64]⟩ : ByteArray)).size + t298.size ≤ 9223372036854775807 then (if x3_1.length < 8796093022208 then (impl_DocumentText.l0 k1 (x3_1 ++ [(((((((t294 ++ (⟨#[60]⟩ : ByteArray)) ++ t295) ++ (⟨#[58]⟩ : ByteArray)) ++ t296) ++ (⟨#[46]⟩ : ByteArray)) ++ t297) ++ (⟨#[64]⟩ : ByteArray)) ++ t298]) l0 (l0.length : Int) (wrap64 (x9_1 + 1))) else (none)) else (none))) else (none)) else (none))) else (none)) else (none))) else (none)) else (none))) else (none)) = some r := H
      have A7 := am A70
      clear A70
      by_cases c8 : t294.size + 1 ≤ 9223372036854775807
      ·rw [if_pos c8] at H
       have c8b0 := eq_true c8
       have c8b1 : decide (t294.size + 1 ≤ 9223372036854775807) = true := decide_eq_true c8
       try have c8b2 : (9223372036854775807 < t294.size + 1) = False := eq_false (Nat.not_lt.2 c8)
       replace H := Option.bind_eq_some_iff.mp H
       obtain ⟨t295, A90, H⟩ := H
       replace H : (if (t294 ++ (⟨#[60]⟩ : ByteArray)).size + t295.size ≤ 9223372036854775807 then (if ((t294 ++ (⟨#[60]⟩ : ByteArray)) ++ t295).size + 1 ≤ 9223372036854775807 then ((impl_FormatInt.f ((rd_T34 l0 x9_1).f2)).bind fun t296 => (if (((t294 ++ (⟨#[60]⟩ : ByteArray)) ++ t295) ++ (⟨#[58]⟩ : ByteArray)).size + t296.size ≤ 9223372036854775807 then (if ((((t294 ++ (⟨#[60]⟩ : ByteArray)) ++ t295) ++ (⟨#[58]⟩ : ByteArray)) ++ t296).size + 1 ≤ 9223372036854775807 then ((impl_FormatInt.f ((rd_T34 l0 x9_1).f3)).bind fun t297 => (if (((((t294 ++ (⟨#[60]⟩ : ByteArray)) ++ t295) ++ (⟨#[58]⟩ : ByteArray)) ++ t296) ++ (⟨#[46]⟩ : ByteArray)).size + t297.size ≤ 9223372036854775807 then (if ((((((t294 ++ (⟨#[60]⟩ : ByteArray)) ++ t295) ++ (⟨#[58]⟩ : ByteArray)) ++ t296) ++ (⟨#[46]⟩ : ByteArray)) ++ t297).size + 1 ≤ 9223372036854775807 then ((impl_FormatInt.f ((rd_T34 l0 x9_1).f4)).bind fun t298 => (if (((((((t294 ++ (⟨#[60]⟩ : ByteArray)) ++ t295) ++ (⟨#[58]⟩ : ByteArray)) ++ t296) ++ (⟨#[46]⟩ : ByteArray)) ++ t297) ++ (⟨#[64]⟩ : ByteArray)).size + t298.size ≤ 9223372036854775807 then (if x3_1.length < 8796093022208 then (impl_DocumentText.l0 k1 (x3_1 ++ [(((((((t294 ++ (⟨#[60]⟩ : ByteArray)) ++ t295) ++ (⟨#[58]⟩ : ByteArray)) ++ t296) ++ (⟨#[46]⟩ : ByteArray)) ++ t297) ++ (⟨#[64]⟩ : ByteArray)) ++ t298]) l0 (l0.length : Int) (wrap64 (x9_1 + 1))) else (none)) else (none))) else (none)) else (none))) else (none)) else (none))) else (none)) else (none)) = some r := H
       have A9 := am A90
       clear A90
       by_cases c10 : (t294 ++ (⟨#[60]⟩ : ByteArray)).size + t295.size ≤ 9223372036854775807
       ·rw [if_pos c10] at H
        have c10b0 := eq_true c10
        have c10b1 : decide ((t294 ++ (⟨#[60]⟩ : ByteArray)).size + t295.size ≤ 9223372036854775807) = true := decide_eq_true c10
        try have c10b2 : (9223372036854775807 < (t294 ++ (⟨#[60]⟩ : ByteArray)).size + t295.size) = False := eq_false (Nat.not_lt.2 c10)
        have c10b3 : (9223372036854775807 < t294.size + 1 + t295.size) = False := eq_false (Nat.not_lt.2 (by have h_ := c10; (simp only [ByteArray.size_append] at h_); exact h_))
        by_cases c11 : ((t294 ++ (⟨#[60]⟩ : ByteArray)) ++ t295).size + 1 ≤ 9223372036854775807
        ·rw [if_pos c11] at H
         have c11b0 := eq_true c11
         have c11b1 : decide (((t294 ++ (⟨#[60]⟩ : ByteArray)) ++ t295).size + 1 ≤ 9223372036854775807) = true := decide_eq_true c11
         try have c11b2 : (9223372036854775807 < ((t294 ++ (⟨#[60]⟩ : ByteArray)) ++ t295).size + 1) = False := eq_false (Nat.not_lt.2 c11)
         have c11b3 : (9223372036854775807 < t294.size + 1 + t295.size + 1) = False := eq_false (Nat.not_lt.2 (by have h_ := c11; (simp only [ByteArray.size_append] at h_); exact h_))
         replace H := Option.bind_eq_some_iff.mp H
         obtain ⟨t296, A120, H⟩ := H
         replace H : (if (((t294 ++ (⟨#[60]⟩ : ByteArray)) ++ t295) ++ (⟨#[58]⟩ : ByteArray)).size + t296.size ≤ 9223372036854775807 then (if ((((t294 ++ (⟨#[60]⟩ : ByteArray)) ++ t295) ++ (⟨#[58]⟩ : ByteArray)) ++ t296).size + 1 ≤ 9223372036854775807 then ((impl_FormatInt.f ((rd_T34 l0 x9_1).f3)).bind fun t297 => (if (((((t294 ++ (⟨#[60]⟩ : ByteArray)) ++ t295) ++ (⟨#[58]⟩ : ByteArray)) ++ t296) ++ (⟨#[46]⟩ : ByteArray)).size + t297.size ≤ 9223372036854775807 then (if ((((((t294 ++ (⟨#[60]⟩ : ByteArray)) ++ t295) ++ (⟨#[58]⟩ : ByteArray)) ++ t296) ++ (⟨#[46]⟩ : ByteArray)) ++ t297).size + 1 ≤ 9223372036854775807 then ((impl_FormatInt.f ((rd_T34 l0 x9_1).f4)).bind fun t298 => (if (((((((t294 ++ (⟨#[60]⟩ : ByteArray)) ++ t295) ++ (⟨#[58]⟩ : ByteArray)) ++ t296) ++ (⟨#[46]⟩ : ByteArray)) ++ t297) ++ (⟨#[64]⟩ : ByteArray)).size + t298.size ≤ 9223372036854775807 then (if x3_1.length < 8796093022208 then (impl_DocumentText.l0 k1 (x3_1 ++ [(((((((t294 ++ (⟨#[60]⟩ : ByteArray)) ++ t295) ++ (⟨#[58]⟩ : ByteArray)) ++ t296) ++ (⟨#[46]⟩ : ByteArray)) ++ t297) ++ (⟨#[64]⟩ : ByteArray)) ++ t298]) l0 (l0.length : Int) (wrap64 (x9_1 + 1))) else (none)) else (none))) else (none)) else (none))) else (none)) else (none)) = some r := H
         have A12 := am A120
         clear A120
         by_cases c13 : (((t294 ++ (⟨#[60]⟩ : ByteArray)) ++ t295) ++ (⟨#[58]⟩ : ByteArray)).size + t296.size ≤ 9223372036854775807
         ·rw [if_pos c13] at H
          have c13b0 := eq_true c13
          have c13b1 : decide ((((t294 ++ (⟨#[60]⟩ : ByteArray)) ++ t295) ++ (⟨#[58]⟩ : ByteArray)).size + t296.size ≤ 9223372036854775807) = true := decide_eq_true c13
          try have c13b2 : (9223372036854775807 < (((t294 ++ (⟨#[60]⟩ : ByteArray)) ++ t295) ++ (⟨#[58]⟩ : ByteArray)).size + t296.size) = False := eq_false (Nat.not_lt.2 c13)
          have c13b3 : (9223372036854775807 < t294.size + 1 + t295.size + 1 + t296.size) = False := eq_false (Nat.not_lt.2 (by have h_ := c13; (simp only [ByteArray.size_append] at h_); exact h_))
          by_cases c14 : ((((t294 ++ (⟨#[60]⟩ : ByteArray)) ++ t295) ++ (⟨#[58]⟩ : ByteArray)) ++ t296).size + 1 ≤ 9223372036854775807
          ·rw [if_pos c14] at H
           have c14b0 := eq_true c14
           have c14b1 : decide (((((t294 ++ (⟨#[60]⟩ : ByteArray)) ++ t295) ++ (⟨#[58]⟩ : ByteArray)) ++ t296).size + 1 ≤ 9223372036854775807) = true := decide_eq_true c14
           try have c14b2 : (9223372036854775807 < ((((t294 ++ (⟨#[60]⟩ : ByteArray)) ++ t295) ++ (⟨#[58]⟩ : ByteArray)) ++ t296).size + 1) = False := eq_false (Nat.not_lt.2 c14)
           have c14b3 : (9223372036854775807 < t294.size + 1 + t295.size + 1 + t296.size + 1) = False := eq_false (Nat.not_lt.2 (by have h_ := c14; (simp only [ByteArray.size_append] at h_); exact h_))
           replace H := Option.bind_eq_some_iff.mp H
           obtain ⟨t297, A150, H⟩ := H
           replace H : (if (((((t294 ++ (⟨#[60]⟩ : ByteArray)) ++ t295) ++ (⟨#[58]⟩ : ByteArray)) ++ t296) ++ (⟨#[46]⟩ : ByteArray)).size + t297.size ≤ 9223372036854775807 then (if ((((((t294 ++ (⟨#[60]⟩ : ByteArray)) ++ t295) ++ (⟨#[58]⟩ : ByteArray)) ++ t296) ++ (⟨#[46]⟩ : ByteArray)) ++ t297).size + 1 ≤ 9223372036854775807 then ((impl_FormatInt.f ((rd_T34 l0 x9_1).f4)).bind fun t298 => (if (((((((t294 ++ (⟨#[60]⟩ : ByteArray)) ++ t295) ++ (⟨#[58]⟩ : ByteArray)) ++ t296) ++ (⟨#[46]⟩ : ByteArray)) ++ t297) ++ (⟨#[64]⟩ : ByteArray)).size + t298.size ≤ 9223372036854775807 then (if x3_1.length < 8796093022208 then (impl_DocumentText.l0 k1 (x3_1 ++ [(((((((t294 ++ (⟨#[60]⟩ : ByteArray)) ++ t295) ++ (⟨#[58]⟩ : ByteArray)) ++ t296) ++ (⟨#[46]⟩ : ByteArray)) ++ t297) ++ (⟨#[64]⟩ : ByteArray)) ++ t298]) l0 (l0.length : Int) (wrap64 (x9_1 + 1))) else (none)) else (none))) else (none)) else (none)) = some r := H
           have A15 := am A150
           clear A150
           by_cases c16 : (((((t294 ++ (⟨#[60]⟩ : ByteArray)) ++ t295) ++ (⟨#[58]⟩ : ByteArray)) ++ t296) ++ (⟨#[46]⟩ : ByteArray)).size + t297.size ≤ 9223372036854775807
           ·rw [if_pos c16] at H
            have c16b0 := eq_true c16
            have c16b1 : decide ((((((t294 ++ (⟨#[60]⟩ : ByteArray)) ++ t295) ++ (⟨#[58]⟩ : ByteArray)) ++ t296) ++ (⟨#[46]⟩ : ByteArray)).size + t297.size ≤ 9223372036854775807) = true := decide_eq_true c16
            try have c16b2 : (9223372036854775807 < (((((t294 ++ (⟨#[60]⟩ : ByteArray)) ++ t295) ++ (⟨#[58]⟩ : ByteArray)) ++ t296) ++ (⟨#[46]⟩ : ByteArray)).size + t297.size) = False := eq_false (Nat.not_lt.2 c16)
            have c16b3 : (9223372036854775807 < t294.size + 1 + t295.size + 1 + t296.size + 1 + t297.size) = False := eq_false (Nat.not_lt.2 (by have h_ := c16; (simp only [ByteArray.size_append] at h_); exact h_))
            by_cases c17 : ((((((t294 ++ (⟨#[60]⟩ : ByteArray)) ++ t295) ++ (⟨#[58]⟩ : ByteArray)) ++ t296) ++ (⟨#[46]⟩ : ByteArray)) ++ t297).size + 1 ≤ 9223372036854775807
            ·rw [if_pos c17] at H
             have c17b0 := eq_true c17
             have c17b1 : decide (((((((t294 ++ (⟨#[60]⟩ : ByteArray)) ++ t295) ++ (⟨#[58]⟩ : ByteArray)) ++ t296) ++ (⟨#[46]⟩ : ByteArray)) ++ t297).size + 1 ≤ 9223372036854775807) = true := decide_eq_true c17
             try have c17b2 : (9223372036854775807 < ((((((t294 ++ (⟨#[60]⟩ : ByteArray)) ++ t295) ++ (⟨#[58]⟩ : ByteArray)) ++ t296) ++ (⟨#[46]⟩ : ByteArray)) ++ t297).size + 1) = False := eq_false (Nat.not_lt.2 c17)
             have c17b3 : (9223372036854775807 < t294.size + 1 + t295.size + 1 + t296.size + 1 + t297.size + 1) = False := eq_false (Nat.not_lt.2 (by have h_ := c17; (simp only [ByteArray.size_append] at h_); exact h_))
             replace H := Option.bind_eq_some_iff.mp H
             obtain ⟨t298, A180, H⟩ := H
             replace H : (if (((((((t294 ++ (⟨#[60]⟩ : ByteArray)) ++ t295) ++ (⟨#[58]⟩ : ByteArray)) ++ t296) ++ (⟨#[46]⟩ : ByteArray)) ++ t297) ++ (⟨#[64]⟩ : ByteArray)).size + t298.size ≤ 9223372036854775807 then (if x3_1.length < 8796093022208 then (impl_DocumentText.l0 k1 (x3_1 ++ [(((((((t294 ++ (⟨#[60]⟩ : ByteArray)) ++ t295) ++ (⟨#[58]⟩ : ByteArray)) ++ t296) ++ (⟨#[46]⟩ : ByteArray)) ++ t297) ++ (⟨#[64]⟩ : ByteArray)) ++ t298]) l0 (l0.length : Int) (wrap64 (x9_1 + 1))) else (none)) else (none)) = some r := H
             have A18 := am A180
             clear A180
             by_cases c19 : (((((((t294 ++ (⟨#[60]⟩ : ByteArray)) ++ t295) ++ (⟨#[58]⟩ : ByteArray)) ++ t296) ++ (⟨#[46]⟩ : ByteArray)) ++ t297) ++ (⟨#[64]⟩ : ByteArray)).size + t298.size ≤ 9223372036854775807
             ·rw [if_pos c19] at H
              have c19b0 := eq_true c19
              have c19b1 : decide ((((((((t294 ++ (⟨#[60]⟩ : ByteArray)) ++ t295) ++ (⟨#[58]⟩ : ByteArray)) ++ t296) ++ (⟨#[46]⟩ : ByteArray)) ++ t297) ++ (⟨#[64]⟩ : ByteArray)).size + t298.size ≤ 9223372036854775807) = true := decide_eq_true c19
              try have c19b2 : (9223372036854775807 < (((((((t294 ++ (⟨#[60]⟩ : ByteArray)) ++ t295) ++ (⟨#[58]⟩ : ByteArray)) ++ t296) ++ (⟨#[46]⟩ : ByteArray)) ++ t297) ++ (⟨#[64]⟩ : ByteArray)).size + t298.size) = False := eq_false (Nat.not_lt.2 c19)
              have c19b3 : (9223372036854775807 < t294.size + 1 + t295.size + 1 + t296.size + 1 + t297.size + 1 + t298.size) = False := eq_false (Nat.not_lt.2 (by have h_ := c19; (simp only [ByteArray.size_append] at h_); exact h_))
              by_cases c20 : x3_1.length < 8796093022208
              ·rw [if_pos c20] at H
               have LMc20 := am c20
               clear c20
               obtain ⟨y299, hy299⟩ : ∃ y_ : List ByteArray, y_ = (x3_1 ++ [(((((((t294 ++ (⟨#[60]⟩ : ByteArray)) ++ t295) ++ (⟨#[58]⟩ : ByteArray)) ++ t296) ++ (⟨#[46]⟩ : ByteArray)) ++ t297) ++ (⟨#[64]⟩ : ByteArray)) ++ t298]) := ⟨_, rfl⟩
               replace H : (impl_DocumentText.l0 k1 y299 l0 (l0.length : Int) (wrap64 (x9_1 + 1))) = some r := by first | (rw [hy299]; with_reducible exact H) | (have H2_ := (Option.bind_some _ _).symm.trans H; rw [hy299]; with_reducible exact H2_) | (have H2_ := (Option.bind_some _ _).symm.trans H; with_reducible exact H2_) | with_reducible exact H | (rw [hy299]; exact H) | exact H
               have Ny299 := am hy299
               clear hy299
               have H' := am H
               clear H
               have p292 : 0 ≤ (x9_1 : Int) := dU
               have q292 : x9_1 < (l0.length : Int) := dU
               obtain ⟨ad292, e292, hx292_0, hx292_1, hx292_2, hx292_3, hx292_4⟩ := at_T34 HR0.out x9_1 p292 q292
               cases e292
               replace hx292_0 := cB HB.out hx292_0
               replace hx292_1 := cB HB.out hx292_1
               replace hx292_2 := cB HB.out hx292_2
               replace hx292_3 := cB HB.out hx292_3
               replace hx292_4 := cB HB.out hx292_4
               replace p292 := eq_true p292
               replace q292 := eq_true q292
               try go_wp2_with (first | ((with_reducible refine gate_dst (N := 5) rfl ?_); refine box_event ?hg (N := 5) ?hd (cs := #[.int .i64 0, .int .i64 0, .int .i64 0, .int .i64 0, .int .i64 0]) (t := 34) ?hr ?_; (case hd => rfl); (case hg => rfl); (case hr => first | (go_simp; done) | (go_simp; rfl)); intro gb293 hg w21 hbox hb; have n0_ := am (Kd.R_below (rU HO_3.out) hb); have n1_ := am (below_step (bU HB.out) hb); have n2_ := am (hbox); have n3_ := am ((by rw [hg]; exact (below_size (bU HB.out)) : w.heap.size ≤ gb293)); have n4_ := am ((by rw [hg]; exact (below_size (bU HB.out)) : w.heap.size ≤ gb293)); clear HO_3; clear HB; have HO_3 := n0_; have HB := n1_; have BK293 := n2_; have GW293 := n3_; have GE293 := n4_; clear n0_ n1_ n2_ n3_ n4_; clear hb hbox hg; obtain ⟨hcz22_0, hcz22_1, hcz22_2, hcz22_3, hcz22_4⟩ := bc5 BK293.out; obtain ⟨hfz22_0, hfz22_1, hfz22_2, hfz22_3, hfz22_4⟩ := bf5 BK293.out))
               have n0_ : Aside0 (Kd.R Kd.string 9 (((((w21.setCell ⟨gb293, 0, none⟩ (.int .i64 ((rd_T34 l0 x9_1).f0))).setCell ⟨gb293, 1, none⟩ (.int .i64 ((rd_T34 l0 x9_1).f1))).setCell ⟨gb293, 2, none⟩ (.int .i64 ((rd_T34 l0 x9_1).f2))).setCell ⟨gb293, 3, none⟩ (.int .i64 ((rd_T34 l0 x9_1).f3))).setCell ⟨gb293, 4, none⟩ (.int .i64 ((rd_T34 l0 x9_1).f4))) w.heap.size (fun _ => True) u3 x3_1) := ⟨by (with_reducible repeat (first | apply Kd.R_alloc | apply Kd.R_drewN | apply Kd.R_drew)); exact Kd.R_mono (Kd.R_far (p := ⟨gb293, 4, none⟩) (Kd.R_far (p := ⟨gb293, 3, none⟩) (Kd.R_far (p := ⟨gb293, 2, none⟩) (Kd.R_far (p := ⟨gb293, 1, none⟩) (Kd.R_far (p := ⟨gb293, 0, none⟩) (Kd.R_types HO_3.out BK293.out (by decide)) (fun _ hk => hk.2) (.int .i64 ((rd_T34 l0 x9_1).f0))) (fun _ hk => hk.2) (.int .i64 ((rd_T34 l0 x9_1).f1))) (fun _ hk => hk.2) (.int .i64 ((rd_T34 l0 x9_1).f2))) (fun _ hk => hk.2) (.int .i64 ((rd_T34 l0 x9_1).f3))) (fun _ hk => hk.2) (.int .i64 ((rd_T34 l0 x9_1).f4))) (fun _ hk => trivial)⟩
               have n1_ : Aside0 ((((((w21.setCell ⟨gb293, 0, none⟩ (.int .i64 ((rd_T34 l0 x9_1).f0))).setCell ⟨gb293, 1, none⟩ (.int .i64 ((rd_T34 l0 x9_1).f1))).setCell ⟨gb293, 2, none⟩ (.int .i64 ((rd_T34 l0 x9_1).f2))).setCell ⟨gb293, 3, none⟩ (.int .i64 ((rd_T34 l0 x9_1).f3))).setCell ⟨gb293, 4, none⟩ (.int .i64 ((rd_T34 l0 x9_1).f4))).heap[gb293]? = some (.cells #[.int .i64 ((rd_T34 l0 x9_1).f0), .int .i64 ((rd_T34 l0 x9_1).f1), .int .i64 ((rd_T34 l0 x9_1).f2), .int .i64 ((rd_T34 l0 x9_1).f3), .int .i64 ((rd_T34 l0 x9_1).f4)] 34 (0, 0))) := ⟨by (with_reducible repeat (first | refine blk_drewN ?_ _ | refine blk_drew ?_ | refine blk_alloc ?_ _)); refine blk_put (cs := #[.int .i64 ((rd_T34 l0 x9_1).f0), .int .i64 ((rd_T34 l0 x9_1).f1), .int .i64 ((rd_T34 l0 x9_1).f2), .int .i64 ((rd_T34 l0 x9_1).f3), .int .i64 0]) ?_ 4 _ rfl; (with_reducible repeat (first | refine blk_drewN ?_ _ | refine blk_drew ?_ | refine blk_alloc ?_ _)); refine blk_put (cs := #[.int .i64 ((rd_T34 l0 x9_1).f0), .int .i64 ((rd_T34 l0 x9_1).f1), .int .i64 ((rd_T34 l0 x9_1).f2), .int .i64 0, .int .i64 0]) ?_ 3 _ rfl; (with_reducible repeat (first | refine blk_drewN ?_ _ | refine blk_drew ?_ | refine blk_alloc ?_ _)); refine blk_put (cs := #[.int .i64 ((rd_T34 l0 x9_1).f0), .int .i64 ((rd_T34 l0 x9_1).f1), .int .i64 0, .int .i64 0, .int .i64 0]) ?_ 2 _ rfl; (with_reducible repeat (first | refine blk_drewN ?_ _ | refine blk_drew ?_ | refine blk_alloc ?_ _)); refine blk_put (cs := #[.int .i64 ((rd_T34 l0 x9_1).f0), .int .i64 0, .int .i64 0, .int .i64 0, .int .i64 0]) ?_ 1 _ rfl; (with_reducible repeat (first | refine blk_drewN ?_ _ | refine blk_drew ?_ | refine blk_alloc ?_ _)); refine blk_put (cs := #[.int .i64 0, .int .i64 0, .int .i64 0, .int .i64 0, .int .i64 0]) ?_ 0 _ rfl; exact kU BK293.out⟩
               have n2_ : Aside0 (Below w.heap.size w (((((w21.setCell ⟨gb293, 0, none⟩ (.int .i64 ((rd_T34 l0 x9_1).f0))).setCell ⟨gb293, 1, none⟩ (.int .i64 ((rd_T34 l0 x9_1).f1))).setCell ⟨gb293, 2, none⟩ (.int .i64 ((rd_T34 l0 x9_1).f2))).setCell ⟨gb293, 3, none⟩ (.int .i64 ((rd_T34 l0 x9_1).f3))).setCell ⟨gb293, 4, none⟩ (.int .i64 ((rd_T34 l0 x9_1).f4)))) := ⟨bS HB.out GE293.out⟩
               (try clear HO_3)
               (try clear BK293)
               (try clear HB)
               generalize (((((w21.setCell ⟨gb293, 0, none⟩ (.int .i64 ((rd_T34 l0 x9_1).f0))).setCell ⟨gb293, 1, none⟩ (.int .i64 ((rd_T34 l0 x9_1).f1))).setCell ⟨gb293, 2, none⟩ (.int .i64 ((rd_T34 l0 x9_1).f2))).setCell ⟨gb293, 3, none⟩ (.int .i64 ((rd_T34 l0 x9_1).f3))).setCell ⟨gb293, 4, none⟩ (.int .i64 ((rd_T34 l0 x9_1).f4))) = w23 at n0_ n1_ n2_ ⊢
               have HO_3 := n0_
               have BK293 := n1_
               have HB := n2_
               clear n0_ n1_ n2_
               have n0_ := am (Kd.R_drew HO_3.out)
               have n1_ := am (blk_drew BK293.out)
               have n2_ := am (below_drew1 HB.out)
               clear HO_3
               clear BK293
               clear HB
               have HO_3 := n0_
               have BK293 := n1_
               have HB := n2_
               clear n0_ n1_ n2_
               refine start_ (n := 27) (S := fun w' => w'.cell? ⟨gb293, 0, none⟩ = some (.int .i64 ((rd_T34 l0 x9_1).f0)) ∧ w'.cell? ⟨gb293, 1, none⟩ = some (.int .i64 ((rd_T34 l0 x9_1).f1)) ∧ w'.cell? ⟨gb293, 2, none⟩ = some (.int .i64 ((rd_T34 l0 x9_1).f2)) ∧ w'.cell? ⟨gb293, 3, none⟩ = some (.int .i64 ((rd_T34 l0 x9_1).f3)) ∧ w'.cell? ⟨gb293, 4, none⟩ = some (.int .i64 ((rd_T34 l0 x9_1).f4))) (ds := []) #[false, false, false, false, false, false, false, false, false, false, false, false, false, false, false, false, false, false, false, false, false, false, false, false, false, false, false] (by kernel_rfl) rfl rfl (bc5 BK293.out) (fun hHeld => ?_); refine with_tabW impl_DocumentText.tab5 impl_DocumentText.bits5 (fun HT_ HW_ => ?_)
               generalize w23.drew = w24 at HO_3 BK293 HB hHeld ⊢
               refine pure_ (i := 0) (N := some 13) (v := ?_) (a' := ?_) #[true, false, false, false, false, false, false, false, false, false, false, false, false, false, false, false, false, false, false, false, false, false, false, false, false, false, false] rfl rfl (any_of HT_.out (by kernel_rfl)) (fun _ _ _ h => h) (Or.inl ⟨by rfl, ?_⟩) ?_ ?_
               rotate_left
               ·intro w'
                go_simp
                with_reducible rfl
               rotate_left
               ·simp only [Act.put, List.setIfInBounds_toArray, List.set_cons_zero, List.set_cons_succ, i64_w, i32_w]
                rfl
               refine pure_ (i := 1) (N := some 14) (v := ?_) (a' := ?_) #[true, true, false, false, false, false, false, false, false, false, false, false, false, false, false, false, false, false, false, false, false, false, false, false, false, false, false] rfl rfl (any_of HT_.out (by kernel_rfl)) (fun _ _ _ h => h) (Or.inl ⟨by rfl, ?_⟩) ?_ ?_
               rotate_left
               ·intro w'
                go_simp
                with_reducible rfl
               rotate_left
               ·simp only [Act.put, List.setIfInBounds_toArray, List.set_cons_zero, List.set_cons_succ, i64_w, i32_w]
                rfl
               refine pure_ (i := 5) (N := some 18) (v := ?_) (a' := ?_) #[true, true, false, false, false, true, false, false, false, false, false, false, false, false, false, false, false, false, false, false, false, false, false, false, false, false, false] rfl rfl (any_of HT_.out (by kernel_rfl)) (fun _ _ _ h => h) (Or.inl ⟨by rfl, ?_⟩) ?_ ?_
               rotate_left
               ·intro w'
                go_simp
                with_reducible rfl
               rotate_left
               ·simp only [Act.put, List.setIfInBounds_toArray, List.set_cons_zero, List.set_cons_succ, i64_w, i32_w]
                rfl
               refine pure_ (i := 10) (N := some 23) (v := ?_) (a' := ?_) #[true, true, false, false, false, true, false, false, false, false, true, false, false, false, false, false, false, false, false, false, false, false, false, false, false, false, false] rfl rfl (any_of HT_.out (by kernel_rfl)) (fun _ _ _ h => h) (Or.inl ⟨by rfl, ?_⟩) ?_ ?_
               rotate_left
               ·intro w'
                go_simp
                with_reducible rfl
               rotate_left
               ·simp only [Act.put, List.setIfInBounds_toArray, List.set_cons_zero, List.set_cons_succ, i64_w, i32_w]
                rfl
               refine pure_ (i := 15) (N := some 28) (v := ?_) (a' := ?_) #[true, true, false, false, false, true, false, false, false, false, true, false, false, false, false, true, false, false, false, false, false, false, false, false, false, false, false] rfl rfl (any_of HT_.out (by kernel_rfl)) (fun _ _ _ h => h) (Or.inl ⟨by rfl, ?_⟩) ?_ ?_
               rotate_left
               ·intro w'
                go_simp
                with_reducible rfl
               rotate_left
               ·simp only [Act.put, List.setIfInBounds_toArray, List.set_cons_zero, List.set_cons_succ, i64_w, i32_w]
                rfl
               refine pure_ (i := 20) (N := some 33) (v := ?_) (a' := ?_) #[true, true, false, false, false, true, false, false, false, false, true, false, false, false, false, true, false, false, false, false, true, false, false, false, false, false, false] rfl rfl (any_of HT_.out (by kernel_rfl)) (fun _ _ _ h => h) (Or.inl ⟨by rfl, ?_⟩) ?_ ?_
               rotate_left
               ·intro w'
                go_simp
                with_reducible rfl
               rotate_left
               ·simp only [Act.put, List.setIfInBounds_toArray, List.set_cons_zero, List.set_cons_succ, i64_w, i32_w]
                rfl
               refine take_ (i := 2) (N := some 15) (v := ?_) (a' := ?_) #[true, true, true, false, false, true, false, false, false, false, true, false, false, false, false, true, false, false, false, false, true, false, false, false, false, false, false] rfl rfl (take_ofW HT_.out HW_.out (by kernel_rfl)) (fun _ _ _ h => h) (Or.inl ⟨by rfl, ?_⟩) hHeld ?_ ?_
               rotate_left
               ·rintro w' ⟨s0, s1, s2, s3, s4⟩
                go_simp
                with_reducible rfl
               rotate_left
               ·simp only [Act.put, List.setIfInBounds_toArray, List.set_cons_zero, List.set_cons_succ, i64_w, i32_w]
                rfl
               refine take_ (i := 6) (N := some 19) (v := ?_) (a' := ?_) #[true, true, true, false, false, true, true, false, false, false, true, false, false, false, false, true, false, false, false, false, true, false, false, false, false, false, false] rfl rfl (take_ofW HT_.out HW_.out (by kernel_rfl)) (fun _ _ _ h => h) (Or.inl ⟨by rfl, ?_⟩) hHeld ?_ ?_
               rotate_left
               ·rintro w' ⟨s0, s1, s2, s3, s4⟩
                go_simp
                with_reducible rfl
               rotate_left
               ·simp only [Act.put, List.setIfInBounds_toArray, List.set_cons_zero, List.set_cons_succ, i64_w, i32_w]
                rfl
               refine take_ (i := 11) (N := some 24) (v := ?_) (a' := ?_) #[true, true, true, false, false, true, true, false, false, false, true, true, false, false, false, true, false, false, false, false, true, false, false, false, false, false, false] rfl rfl (take_ofW HT_.out HW_.out (by kernel_rfl)) (fun _ _ _ h => h) (Or.inl ⟨by rfl, ?_⟩) hHeld ?_ ?_
               rotate_left
               ·rintro w' ⟨s0, s1, s2, s3, s4⟩
                go_simp
                with_reducible rfl
               rotate_left
               ·simp only [Act.put, List.setIfInBounds_toArray, List.set_cons_zero, List.set_cons_succ, i64_w, i32_w]
                rfl
               refine take_ (i := 16) (N := some 29) (v := ?_) (a' := ?_) #[true, true, true, false, false, true, true, false, false, false, true, true, false, false, false, true, true, false, false, false, true, false, false, false, false, false, false] rfl rfl (take_ofW HT_.out HW_.out (by kernel_rfl)) (fun _ _ _ h => h) (Or.inl ⟨by rfl, ?_⟩) hHeld ?_ ?_
               rotate_left
               ·rintro w' ⟨s0, s1, s2, s3, s4⟩
                go_simp
                with_reducible rfl
               rotate_left
               ·simp only [Act.put, List.setIfInBounds_toArray, List.set_cons_zero, List.set_cons_succ, i64_w, i32_w]
                rfl
               refine take_ (i := 21) (N := some 34) (v := ?_) (a' := ?_) #[true, true, true, false, false, true, true, false, false, false, true, true, false, false, false, true, true, false, false, false, true, true, false, false, false, false, false] rfl rfl (take_ofW HT_.out HW_.out (by kernel_rfl)) (fun _ _ _ h => h) (Or.inl ⟨by rfl, ?_⟩) hHeld ?_ ?_
               rotate_left
               ·rintro w' ⟨s0, s1, s2, s3, s4⟩
                go_simp
                with_reducible rfl
               rotate_left
               ·simp only [Act.put, List.setIfInBounds_toArray, List.set_cons_zero, List.set_cons_succ, i64_w, i32_w]
                rfl
               refine one_ (i := 3) (N := some 16) #[true, true, true, true, false, true, true, false, false, false, true, true, false, false, false, true, true, false, false, false, true, true, false, false, false, false, false] rfl rfl (one_of HT_.out (by kernel_rfl)) (by decide) (fun K hK => ?_)
               refine goes_ Tryd.func31 (by kernel_rfl) rfl #[.int .i64 ((rd_T34 l0 x9_1).f0)] (by rfl) rfl rfl mU ?_
               with_reducible refine (impl_FormatInt.calls ((rd_T34 l0 x9_1).f0) t294 _ ?sidet A7.out).mono ?_
               case sidet => exact tab_on HTAB (bS HB.out GE293.out)
               rintro e w25 ⟨rfl, hb⟩
               refine ⟨_, rfl, ?_⟩
               have n0_ := am (Kd.R_below (rU HO_3.out) hb)
               have n1_ := am (kB BK293.out hb)
               have n2_ := am (below_step (bS HB.out GE293.out) hb)
               clear HO_3
               clear BK293
               clear HB
               have HO_3 := n0_
               have BK293 := n1_
               have HB := n2_
               clear n0_ n1_ n2_
               (try clear hb)
               (try clear hb2)
               (try clear hk)
               (try clear hi)
               refine hK.out _ _ (bc5 BK293.out) (fun hHeld => ?_)
               clear hK K
               refine norm_ (a' := ?_) ?_ ?_
               rotate_left
               ·show Act.put _ (some 16) _ = _
                simp only [Act.put, List.setIfInBounds_toArray, List.set_cons_zero, List.set_cons_succ, i64_w, i32_w]
                rfl
               refine pure_ (i := 4) (N := some 17) (v := ?_) (a' := ?_) #[true, true, true, true, true, true, true, false, false, false, true, true, false, false, false, true, true, false, false, false, true, true, false, false, false, false, false] rfl rfl (any_of HT_.out (by kernel_rfl)) (fun _ _ _ h => h) (Or.inl ⟨by rfl, ?_⟩) ?_ ?_
               rotate_left
               ·intro w'
                go_simp
                with_reducible rfl
               rotate_left
               ·simp only [Act.put, List.setIfInBounds_toArray, List.set_cons_zero, List.set_cons_succ, i64_w, i32_w]
                rfl
               refine one_ (i := 7) (N := some 20) #[true, true, true, true, true, true, true, true, false, false, true, true, false, false, false, true, true, false, false, false, true, true, false, false, false, false, false] rfl rfl (one_of HT_.out (by kernel_rfl)) (by decide) (fun K hK => ?_)
               refine goes_ Tryd.func31 (by kernel_rfl) rfl #[.int .i64 ((rd_T34 l0 x9_1).f1)] (by rfl) rfl rfl mU ?_
               with_reducible refine (impl_FormatInt.calls ((rd_T34 l0 x9_1).f1) t295 _ ?sidet A9.out).mono ?_
               case sidet => exact tab_on HTAB (bS HB.out GE293.out)
               rintro e w26 ⟨rfl, hb⟩
               refine ⟨_, rfl, ?_⟩
               have n0_ := am (Kd.R_below (rU HO_3.out) hb)
               have n1_ := am (kB BK293.out hb)
               have n2_ := am (below_step (bS HB.out GE293.out) hb)
               clear HO_3
               clear BK293
               clear HB
               have HO_3 := n0_
               have BK293 := n1_
               have HB := n2_
               clear n0_ n1_ n2_
               (try clear hb)
               (try clear hb2)
               (try clear hk)
               (try clear hi)
               refine hK.out _ _ (bc5 BK293.out) (fun hHeld => ?_)
               clear hK K
               refine norm_ (a' := ?_) ?_ ?_
               rotate_left
               ·show Act.put _ (some 20) _ = _
                simp only [Act.put, List.setIfInBounds_toArray, List.set_cons_zero, List.set_cons_succ, i64_w, i32_w]
                rfl
               refine pure_ (i := 8) (N := some 21) (v := ?_) (a' := ?_) #[true, true, true, true, true, true, true, true, true, false, true, true, false, false, false, true, true, false, false, false, true, true, false, false, false, false, false] rfl rfl (any_of HT_.out (by kernel_rfl)) (fun _ _ _ h => h) (Or.inl ⟨by rfl, ?_⟩) ?_ ?_
               rotate_left
               ·intro w'
                go_simp
                with_reducible rfl
               rotate_left
               ·simp only [Act.put, List.setIfInBounds_toArray, List.set_cons_zero, List.set_cons_succ, i64_w, i32_w]
                rfl
               refine pure_ (i := 9) (N := some 22) (v := ?_) (a' := ?_) #[true, true, true, true, true, true, true, true, true, true, true, true, false, false, false, true, true, false, false, false, true, true, false, false, false, false, false] rfl rfl (any_of HT_.out (by kernel_rfl)) (fun _ _ _ h => h) (Or.inl ⟨by rfl, ?_⟩) ?_ ?_
               rotate_left
               ·intro w'
                go_simp
                with_reducible rfl
               rotate_left
               ·simp only [Act.put, List.setIfInBounds_toArray, List.set_cons_zero, List.set_cons_succ, i64_w, i32_w]
                rfl
               refine one_ (i := 12) (N := some 25) #[true, true, true, true, true, true, true, true, true, true, true, true, true, false, false, true, true, false, false, false, true, true, false, false, false, false, false] rfl rfl (one_of HT_.out (by kernel_rfl)) (by decide) (fun K hK => ?_)
               refine goes_ Tryd.func31 (by kernel_rfl) rfl #[.int .i64 ((rd_T34 l0 x9_1).f2)] (by rfl) rfl rfl mU ?_
               with_reducible refine (impl_FormatInt.calls ((rd_T34 l0 x9_1).f2) t296 _ ?sidet A12.out).mono ?_
               case sidet => exact tab_on HTAB (bS HB.out GE293.out)
               rintro e w27 ⟨rfl, hb⟩
               refine ⟨_, rfl, ?_⟩
               have n0_ := am (Kd.R_below (rU HO_3.out) hb)
               have n1_ := am (kB BK293.out hb)
               have n2_ := am (below_step (bS HB.out GE293.out) hb)
               clear HO_3
               clear BK293
               clear HB
               have HO_3 := n0_
               have BK293 := n1_
               have HB := n2_
               clear n0_ n1_ n2_
               (try clear hb)
               (try clear hb2)
               (try clear hk)
               (try clear hi)
               refine hK.out _ _ (bc5 BK293.out) (fun hHeld => ?_)
               clear hK K
               refine norm_ (a' := ?_) ?_ ?_
               rotate_left
               ·show Act.put _ (some 25) _ = _
                simp only [Act.put, List.setIfInBounds_toArray, List.set_cons_zero, List.set_cons_succ, i64_w, i32_w]
                rfl
               refine pure_ (i := 13) (N := some 26) (v := ?_) (a' := ?_) #[true, true, true, true, true, true, true, true, true, true, true, true, true, true, false, true, true, false, false, false, true, true, false, false, false, false, false] rfl rfl (any_of HT_.out (by kernel_rfl)) (fun _ _ _ h => h) (Or.inl ⟨by rfl, ?_⟩) ?_ ?_
               rotate_left
               ·intro w'
                go_simp
                with_reducible rfl
               rotate_left
               ·simp only [Act.put, List.setIfInBounds_toArray, List.set_cons_zero, List.set_cons_succ, i64_w, i32_w]
                rfl
               refine pure_ (i := 14) (N := some 27) (v := ?_) (a' := ?_) #[true, true, true, true, true, true, true, true, true, true, true, true, true, true, true, true, true, false, false, false, true, true, false, false, false, false, false] rfl rfl (any_of HT_.out (by kernel_rfl)) (fun _ _ _ h => h) (Or.inl ⟨by rfl, ?_⟩) ?_ ?_
               rotate_left
               ·intro w'
                go_simp
                with_reducible rfl
               rotate_left
               ·simp only [Act.put, List.setIfInBounds_toArray, List.set_cons_zero, List.set_cons_succ, i64_w, i32_w]
                rfl
               refine one_ (i := 17) (N := some 30) #[true, true, true, true, true, true, true, true, true, true, true, true, true, true, true, true, true, true, false, false, true, true, false, false, false, false, false] rfl rfl (one_of HT_.out (by kernel_rfl)) (by decide) (fun K hK => ?_)
               refine goes_ Tryd.func31 (by kernel_rfl) rfl #[.int .i64 ((rd_T34 l0 x9_1).f3)] (by rfl) rfl rfl mU ?_
               with_reducible refine (impl_FormatInt.calls ((rd_T34 l0 x9_1).f3) t297 _ ?sidet A15.out).mono ?_
               case sidet => exact tab_on HTAB (bS HB.out GE293.out)
               rintro e w28 ⟨rfl, hb⟩
               refine ⟨_, rfl, ?_⟩
               have n0_ := am (Kd.R_below (rU HO_3.out) hb)
               have n1_ := am (kB BK293.out hb)
               have n2_ := am (below_step (bS HB.out GE293.out) hb)
               clear HO_3
               clear BK293
               clear HB
               have HO_3 := n0_
               have BK293 := n1_
               have HB := n2_
               clear n0_ n1_ n2_
               (try clear hb)
               (try clear hb2)
               (try clear hk)
               (try clear hi)
               refine hK.out _ _ (bc5 BK293.out) (fun hHeld => ?_)
               clear hK K
               refine norm_ (a' := ?_) ?_ ?_
               rotate_left
               ·show Act.put _ (some 30) _ = _
                simp only [Act.put, List.setIfInBounds_toArray, List.set_cons_zero, List.set_cons_succ, i64_w, i32_w]
                rfl
               refine pure_ (i := 18) (N := some 31) (v := ?_) (a' := ?_) #[true, true, true, true, true, true, true, true, true, true, true, true, true, true, true, true, true, true, true, false, true, true, false, false, false, false, false] rfl rfl (any_of HT_.out (by kernel_rfl)) (fun _ _ _ h => h) (Or.inl ⟨by rfl, ?_⟩) ?_ ?_
               rotate_left
               ·intro w'
                go_simp
                with_reducible rfl
               rotate_left
               ·simp only [Act.put, List.setIfInBounds_toArray, List.set_cons_zero, List.set_cons_succ, i64_w, i32_w]
                rfl
               refine pure_ (i := 19) (N := some 32) (v := ?_) (a' := ?_) #[true, true, true, true, true, true, true, true, true, true, true, true, true, true, true, true, true, true, true, true, true, true, false, false, false, false, false] rfl rfl (any_of HT_.out (by kernel_rfl)) (fun _ _ _ h => h) (Or.inl ⟨by rfl, ?_⟩) ?_ ?_
               rotate_left
               ·intro w'
                go_simp
                with_reducible rfl
               rotate_left
               ·simp only [Act.put, List.setIfInBounds_toArray, List.set_cons_zero, List.set_cons_succ, i64_w, i32_w]
                rfl
               refine one_ (i := 22) (N := some 35) #[true, true, true, true, true, true, true, true, true, true, true, true, true, true, true, true, true, true, true, true, true, true, true, false, false, false, false] rfl rfl (one_of HT_.out (by kernel_rfl)) (by decide) (fun K hK => ?_)
               refine goes_ Tryd.func31 (by kernel_rfl) rfl #[.int .i64 ((rd_T34 l0 x9_1).f4)] (by rfl) rfl rfl mU ?_
               with_reducible refine (impl_FormatInt.calls ((rd_T34 l0 x9_1).f4) t298 _ ?sidet A18.out).mono ?_
               case sidet => exact tab_on HTAB (bS HB.out GE293.out)
               rintro e w29 ⟨rfl, hb⟩
               refine ⟨_, rfl, ?_⟩
               have n0_ := am (Kd.R_below (rU HO_3.out) hb)
               have n1_ := am (kB BK293.out hb)
               have n2_ := am (below_step (bS HB.out GE293.out) hb)
               clear HO_3
               clear BK293
               clear HB
               have HO_3 := n0_
               have BK293 := n1_
               have HB := n2_
               clear n0_ n1_ n2_
               (try clear hb)
               (try clear hb2)
               (try clear hk)
               (try clear hi)
               refine hK.out _ _ (bc5 BK293.out) (fun hHeld => ?_)
               clear hK K
               refine norm_ (a' := ?_) ?_ ?_
               rotate_left
               ·show Act.put _ (some 35) _ = _
                simp only [Act.put, List.setIfInBounds_toArray, List.set_cons_zero, List.set_cons_succ, i64_w, i32_w]
                rfl
               refine pure_ (i := 23) (N := some 36) (v := ?_) (a' := ?_) #[true, true, true, true, true, true, true, true, true, true, true, true, true, true, true, true, true, true, true, true, true, true, true, true, false, false, false] rfl rfl (any_of HT_.out (by kernel_rfl)) (fun _ _ _ h => h) (Or.inl ⟨by rfl, ?_⟩) ?_ ?_
               rotate_left
               ·intro w'
                go_simp
                with_reducible rfl
               rotate_left
               ·simp only [Act.put, List.setIfInBounds_toArray, List.set_cons_zero, List.set_cons_succ, i64_w, i32_w]
                rfl
               refine one_ (i := 24) (N := some 37) #[true, true, true, true, true, true, true, true, true, true, true, true, true, true, true, true, true, true, true, true, true, true, true, true, true, false, false] rfl rfl (one_of HT_.out (by kernel_rfl)) (by decide) (fun K hK => ?_)
               refine value_ (w1 := ?_) (v := ?_) (by rfl) rfl ?_ ?_
               rotate_left 2
               ·go_simp
                constructor
                ·rfl
                ·rfl
               refine hK.out _ _ ⟨(blk_cell (blk_alloc BK293.out _) 0).trans rfl, (blk_cell (blk_alloc BK293.out _) 1).trans rfl, (blk_cell (blk_alloc BK293.out _) 2).trans rfl, (blk_cell (blk_alloc BK293.out _) 3).trans rfl, (blk_cell (blk_alloc BK293.out _) 4).trans rfl⟩ (fun hHeld => ?_)
               clear hK K
               refine norm_ (a' := ?_) ?_ ?_
               rotate_left
               ·show Act.put _ (some 37) _ = _
                simp only [Act.put, List.setIfInBounds_toArray, List.set_cons_zero, List.set_cons_succ, i64_w, i32_w]
                rfl
               refine one_ (i := 25) (N := some 38) #[true, true, true, true, true, true, true, true, true, true, true, true, true, true, true, true, true, true, true, true, true, true, true, true, true, true, false] rfl rfl (one_of HT_.out (by kernel_rfl)) (by decide) (fun K hK => ?_)
               refine Kd.R_append_step Kd.string (w0 := w) w.heap.size (by rfl) (.tmp 13) (.tmp 37) 57 9 (.string ⟨#[]⟩) 16 rfl Tryd.underlying57 info9 rfl (by decide) (by omega) u3 x3_1 ((((((((t294 ++ (⟨#[60]⟩ : ByteArray)) ++ t295) ++ (⟨#[58]⟩ : ByteArray)) ++ t296) ++ (⟨#[46]⟩ : ByteArray)) ++ t297) ++ (⟨#[64]⟩ : ByteArray)) ++ t298) [.string ((((((((t294 ++ (⟨#[60]⟩ : ByteArray)) ++ t295) ++ (⟨#[58]⟩ : ByteArray)) ++ t296) ++ (⟨#[46]⟩ : ByteArray)) ++ t297) ++ (⟨#[64]⟩ : ByteArray)) ++ t298)] (fun _ => True) (fun _ => False) rfl rfl ?aP (fun _ hk => hk.elim) ?aF ?aO ?aB ?aS ?aL ?_
               (case aP => exact rfl)
               (case aB => exact bS HB.out GE293.out)
               (case aF => exact (fun _ _ => trivial))
               (case aO => exact rU HO_3.out)
               (case aS => exact (below_size (bS HB.out GE293.out)))
               (case aL => have := LMc20.out; omega)
               intro v300 w30 ho hb hg hat
               rw [← Ny299.out] at ho
               have n0_ := am (kG BK293.out hg (Kd.R_ne HO_3.out BK293.out (by decide)))
               have n1_ := am (hb)
               have n2_ := am (ho)
               clear BK293
               clear HB
               clear HO_3
               have BK293 := n0_
               have HB := n1_
               have HO301 := n2_
               clear n0_ n1_ n2_
               clear ho hb hg hat
               refine hK.out _ _ (bc5 BK293.out) (fun hHeld => ?_)
               clear hK K
               refine norm_ (a' := ?_) ?_ ?_
               rotate_left
               ·show Act.put _ (some 38) _ = _
                simp only [Act.put, List.setIfInBounds_toArray, List.set_cons_zero, List.set_cons_succ, i64_w, i32_w]
                rfl
               refine pure_ (i := 26) (N := some 3) (v := ?_) (a' := ?_) #[true, true, true, true, true, true, true, true, true, true, true, true, true, true, true, true, true, true, true, true, true, true, true, true, true, true, true] rfl rfl (any_of HT_.out (by kernel_rfl)) (fun _ _ _ h => h) (Or.inl ⟨by rfl, ?_⟩) ?_ ?_
               rotate_left
               ·intro w'
                go_simp
                with_reducible rfl
               rotate_left
               ·simp only [Act.put, List.setIfInBounds_toArray, List.set_cons_zero, List.set_cons_succ, i64_w, i32_w]
                rfl
               refine done_ (done_of HT_.out (by kernel_rfl)) ?_
               try go_wp2
               go_roundg k1
               case measure => have := HK1.out; omega
               case rel => exact ⟨(y299), (wrap64 (x9_1 + 1)), (by first | rfl | (simp; done) | (simp [*]; done)), H', ⟨by have := HK1.out; omega⟩, ⟨rU HO301.out⟩, ⟨bS HB.out GE293.out⟩⟩
              ·rw [if_neg c20] at H
               exact absurd H (by simp)
             ·rw [if_neg c19] at H
              exact absurd H (by simp)
            ·rw [if_neg c17] at H
             exact absurd H (by simp)
           ·rw [if_neg c16] at H
            exact absurd H (by simp)
          ·rw [if_neg c14] at H
           exact absurd H (by simp)
         ·rw [if_neg c13] at H
          exact absurd H (by simp)
        ·rw [if_neg c11] at H
         exact absurd H (by simp)
       ·rw [if_neg c10] at H
        exact absurd H (by simp)
      ·rw [if_neg c8] at H
       exact absurd H (by simp)
     ·rw [if_neg c6] at H
      exact absurd H (by simp)
    ·rw [if_neg c5] at H
     exact absurd H (by simp)
   ·rw [if_neg c4] at H
    have c4b0 : decide (x9_1 < (l0.length : Int)) = false := decide_eq_false c4
    clear c4
    replace H := Option.bind_eq_some_iff.mp H
    obtain ⟨t291, A310, H⟩ := H
    replace H : (some t291) = some r := H
    have A31 := am A310
    clear A310
    obtain rfl := Option.some.inj H
    obtain ⟨Ao32, co32, eo32⟩ := Kd.R_slice HO_3.out
    subst eo32
    go_wp2_with (first | ((with_reducible refine gate_callee (f := 32) rfl ?_); refine goesL_ (some 41) rfl rfl Tryd.func32 (by kernel_rfl) rfl #[.slice Ao32 x3_1.length co32] rfl mU ?_; (with_reducible refine (impl_joined.calls _ _ x3_1 t291 _ ?side1 ?side2 A31.out).mono ?_); (case side1 => exact cU (Kd.R_reads' HO_3.out).2.2); (case side2 => exact (Kd.R_reads' HO_3.out).2.1); rintro e w33 ⟨rfl, hb⟩; refine ⟨_, rfl, ?_⟩; have n0_ := am (Kd.R_below (rU HO_3.out) hb); have n1_ := am (below_step (bU HB.out) hb); clear HO_3; clear HB; have HO_3 := n0_; have HB := n1_; clear n0_ n1_; (try clear hb); (try clear hb2); (try clear hk); (try clear hi)))
    go_ret
    exact ⟨eU, bU HB.out⟩
end Go.Proofs.YtefppmgcenfemaaDoor.QFnDocuments
