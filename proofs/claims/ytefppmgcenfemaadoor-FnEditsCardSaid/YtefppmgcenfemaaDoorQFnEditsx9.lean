import Derived.Test.YtefppmgcenfemaaDoorUp
import Derived.Test.YtefppmgcenfemaaDoorQFnEditsx0
import Derived.Test.YtefppmgcenfemaaDoorQFnEditsx4
import Derived.Test.YtefppmgcenfemaaDoorQFnEditsx5
import Derived.Test.YtefppmgcenfemaaDoorQFnEditsx6
import Derived.Test.YtefppmgcenfemaaDoorQFnEditsx7
import Derived.Test.YtefppmgcenfemaaDoorQFnEditsx8
namespace Go.Proofs.YtefppmgcenfemaaDoor.QFnEdits
open Go.RowKit Go.Proofs.YtefppmgcenfemaaDoorW.PrintWords Go.Proofs.YtefppmgcenfemaaDoorW.PrintLast Go.Proofs.YtefppmgcenfemaaDoorW.PrintMore
attribute [local go_sem] max2_int min2_int max_two min_two max_three min_three max_four min_four
set_option linter.unusedVariables false
set_option linter.unusedSimpArgs false
def TabHolds (w : World) : Prop := Aside0 (Lib.TabBelow Tryd.prog w.heap.size w "internal/strconv.uint64pow10" .u64 Lib.pow10Tab)
theorem tab_on {w W : World} (h : TabHolds w) (hb : Below w.heap.size w W) : TabHolds W := ⟨fun w' h' => h.out w' (below_step hb h')⟩
def strconv_Itoa_40.f (a0 : Int) : Option ByteArray := if -9223372036854775808 ≤ a0 ∧ a0 ≤ 9223372036854775807 then some ⟨(Lib.itoa a0).toArray⟩ else none
theorem strconv_Itoa_40.calls (a0 : Int) (r : ByteArray) (w : World) (HTAB : TabHolds w) (h : strconv_Itoa_40.f a0 = some r) :
  Calls Tryd.prog 40 #[.int .i64 a0] w fun e w' => e = .returned (.string r) ∧ Below w.heap.size w w' := by
 have hb : -9223372036854775808 ≤ a0 ∧ a0 ≤ 9223372036854775807 := by
  by_cases g : -9223372036854775808 ≤ a0 ∧ a0 ≤ 9223372036854775807
  ·exact g
  ·unfold strconv_Itoa_40.f at h
   rw [if_neg g] at h
   cases h
 unfold strconv_Itoa_40.f at h
 rw [if_pos hb] at h
 obtain rfl := Option.some.inj h
 refine (Tryd.strconv_Itoa a0 hb.1 hb.2 w HTAB.out.here).mono ?_
 rintro e w' ⟨rfl, k, os, rfl⟩
 exact ⟨rfl, Lib.below_grow _ w (Nat.le_refl _) k os⟩
def impl_FormatInt.f (a0 : Int) : Option (ByteArray) := (strconv_Itoa_40.f a0).bind fun t353 => (some t353)
set_option maxHeartbeats 8000000 in
set_option maxRecDepth 100000 in
theorem impl_FormatInt.calls (a0 : Int) (r : ByteArray) (w : World) (HTAB : TabHolds w) (h : impl_FormatInt.f a0 = some r) :
  Calls Tryd.prog 31 #[.int .i64 a0] w fun e w' => e = .returned (.string r) ∧ Below w.heap.size w w' := by
 have HB := am (Below.refl w.heap.size w)
 have H : ((strconv_Itoa_40.f a0).bind fun t353 => (some t353)) = some r := h
 clear h
 replace H := Option.bind_eq_some_iff.mp H
 obtain ⟨t353, A20, H⟩ := H
 replace H : (some t353) = some r := H
 have A2 := am A20
 clear A20
 obtain rfl := Option.some.inj H
 go_enter Tryd.func31, Tryd.ntmps31
 go_wp2_with (first | ((with_reducible refine gate_callee (f := 40) rfl ?_); refine goesL_ (some 4) rfl rfl Tryd.func40 (by kernel_rfl) rfl #[.int .i64 a0] rfl mU ?_; (with_reducible refine (strconv_Itoa_40.calls a0 t353 _ ?sidet A2.out).mono ?_); (case sidet => exact tab_on HTAB (bU HB.out)); rintro e w3 ⟨rfl, hb⟩; refine ⟨_, rfl, ?_⟩; have n0_ := am (below_step (bU HB.out) hb); clear HB; have HB := n0_; clear n0_; (try clear hb); (try clear hb2); (try clear hk); (try clear hi)))
 go_ret
 exact ⟨eU, bU HB.out⟩
def impl_EditText.f (a0_0 : Int) (a0_1 : Int) (a0_2 : Int) (a0_3 : Int) (a0_4 : Int) (a0_5 : Int) : Option (ByteArray) := (impl_FormatInt.f a0_1).bind fun t355 => (if 1 + t355.size ≤ 9223372036854775807 then (if a0_0 = 1 then (if 3 + ((⟨#[32]⟩ : ByteArray) ++ t355).size ≤ 9223372036854775807 then (if ((⟨#[97, 100, 100]⟩ : ByteArray) ++ ((⟨#[32]⟩ : ByteArray) ++ t355)).size + 1 ≤ 9223372036854775807 then ((impl_FormatInt.f a0_2).bind fun t356 => (if (((⟨#[97, 100, 100]⟩ : ByteArray) ++ ((⟨#[32]⟩ : ByteArray) ++ t355)) ++ (⟨#[32]⟩ : ByteArray)).size + t356.size ≤ 9223372036854775807 then (if ((((⟨#[97, 100, 100]⟩ : ByteArray) ++ ((⟨#[32]⟩ : ByteArray) ++ t355)) ++ (⟨#[32]⟩ : ByteArray)) ++ t356).size + 1 ≤ 9223372036854775807 then ((impl_FormatInt.f a0_3).bind fun t357 => (if (((((⟨#[97, 100, 100]⟩ : ByteArray) ++ ((⟨#[32]⟩ : ByteArray) ++ t355)) ++ (⟨#[32]⟩ : ByteArray)) ++ t356) ++ (⟨#[32]⟩ : ByteArray)).size + t357.size ≤ 9223372036854775807 then (if ((((((⟨#[97, 100, 100]⟩ : ByteArray) ++ ((⟨#[32]⟩ : ByteArray) ++ t355)) ++ (⟨#[32]⟩ : ByteArray)) ++ t356) ++ (⟨#[32]⟩ : ByteArray)) ++ t357).size + 1 ≤ 9223372036854775807 then ((impl_FormatInt.f a0_4).bind fun t358 => (if (((((((⟨#[97, 100, 100]⟩ : ByteArray) ++ ((⟨#[32]⟩ : ByteArray) ++ t355)) ++ (⟨#[32]⟩ : ByteArray)) ++ t356) ++ (⟨#[32]⟩ : ByteArray)) ++ t357) ++ (⟨#[32]⟩ : ByteArray)).size + t358.size ≤ 9223372036854775807 then (if ((((((((⟨#[97, 100, 100]⟩ : ByteArray) ++ ((⟨#[32]⟩ : ByteArray) ++ t355)) ++ (⟨#[32]⟩ : ByteArray)) ++ t356) ++ (⟨#[32]⟩ : ByteArray)) ++ t357) ++ (⟨#[32]⟩ : ByteArray)) ++ t358).size + 2 ≤ 9223372036854775807 then ((impl_FormatInt.f a0_5).bind fun t359 => (if (((((((((⟨#[97, 100, 100]⟩ : ByteArray) ++ ((⟨#[32]⟩ : ByteArray) ++ t355)) ++ (⟨#[32]⟩ : ByteArray)) ++ t356) ++ (⟨#[32]⟩ : ByteArray)) ++ t357) ++ (⟨#[32]⟩ : ByteArray)) ++ t358) ++ (⟨#[32, 64]⟩ : ByteArray)).size + t359.size ≤ 9223372036854775807 then (some ((((((((((⟨#[97, 100, 100]⟩ : ByteArray) ++ ((⟨#[32]⟩ : ByteArray) ++ t355)) ++ (⟨#[32]⟩ : ByteArray)) ++ t356) ++ (⟨#[32]⟩ : ByteArray)) ++ t357) ++ (⟨#[32]⟩ : ByteArray)) ++ t358) ++ (⟨#[32, 64]⟩ : ByteArray)) ++ t359)) else (none))) else (none)) else (none))) else (none)) else (none))) else (none)) else (none))) else (none)) else (none)) else (if a0_0 = 2 then (if 4 + ((⟨#[32]⟩ : ByteArray) ++ t355).size ≤ 9223372036854775807 then (if ((⟨#[100, 114, 111, 112]⟩ : ByteArray) ++ ((⟨#[32]⟩ : ByteArray) ++ t355)).size + 2 ≤ 9223372036854775807 then ((impl_FormatInt.f a0_5).bind fun t360 => (if (((⟨#[100, 114, 111, 112]⟩ : ByteArray) ++ ((⟨#[32]⟩ : ByteArray) ++ t355)) ++ (⟨#[32, 64]⟩ : ByteArray)).size + t360.size ≤ 9223372036854775807 then (some ((((⟨#[100, 114, 111, 112]⟩ : ByteArray) ++ ((⟨#[32]⟩ : ByteArray) ++ t355)) ++ (⟨#[32, 64]⟩ : ByteArray)) ++ t360)) else (none))) else (none)) else (none)) else (if a0_0 = 3 then (if 4 + ((⟨#[32]⟩ : ByteArray) ++ t355).size ≤ 9223372036854775807 then (if ((⟨#[116, 101, 120, 116]⟩ : ByteArray) ++ ((⟨#[32]⟩ : ByteArray) ++ t355)).size + 1 ≤ 9223372036854775807 then ((impl_FormatInt.f a0_4).bind fun t361 => (if (((⟨#[116, 101, 120, 116]⟩ : ByteArray) ++ ((⟨#[32]⟩ : ByteArray) ++ t355)) ++ (⟨#[32]⟩ : ByteArray)).size + t361.size ≤ 9223372036854775807 then (if ((((⟨#[116, 101, 120, 116]⟩ : ByteArray) ++ ((⟨#[32]⟩ : ByteArray) ++ t355)) ++ (⟨#[32]⟩ : ByteArray)) ++ t361).size + 2 ≤ 9223372036854775807 then ((impl_FormatInt.f a0_5).bind fun t362 => (if (((((⟨#[116, 101, 120, 116]⟩ : ByteArray) ++ ((⟨#[32]⟩ : ByteArray) ++ t355)) ++ (⟨#[32]⟩ : ByteArray)) ++ t361) ++ (⟨#[32, 64]⟩ : ByteArray)).size + t362.size ≤ 9223372036854775807 then (some ((((((⟨#[116, 101, 120, 116]⟩ : ByteArray) ++ ((⟨#[32]⟩ : ByteArray) ++ t355)) ++ (⟨#[32]⟩ : ByteArray)) ++ t361) ++ (⟨#[32, 64]⟩ : ByteArray)) ++ t362)) else (none))) else (none)) else (none))) else (none)) else (none)) else (if a0_0 = 4 then (if 4 + ((⟨#[32]⟩ : ByteArray) ++ t355).size ≤ 9223372036854775807 then (if ((⟨#[109, 111, 118, 101]⟩ : ByteArray) ++ ((⟨#[32]⟩ : ByteArray) ++ t355)).size + 1 ≤ 9223372036854775807 then ((impl_FormatInt.f a0_2).bind fun t363 => (if (((⟨#[109, 111, 118, 101]⟩ : ByteArray) ++ ((⟨#[32]⟩ : ByteArray) ++ t355)) ++ (⟨#[32]⟩ : ByteArray)).size + t363.size ≤ 9223372036854775807 then (if ((((⟨#[109, 111, 118, 101]⟩ : ByteArray) ++ ((⟨#[32]⟩ : ByteArray) ++ t355)) ++ (⟨#[32]⟩ : ByteArray)) ++ t363).size + 2 ≤ 9223372036854775807 then ((impl_FormatInt.f a0_5).bind fun t364 => (if (((((⟨#[109, 111, 118, 101]⟩ : ByteArray) ++ ((⟨#[32]⟩ : ByteArray) ++ t355)) ++ (⟨#[32]⟩ : ByteArray)) ++ t363) ++ (⟨#[32, 64]⟩ : ByteArray)).size + t364.size ≤ 9223372036854775807 then (some ((((((⟨#[109, 111, 118, 101]⟩ : ByteArray) ++ ((⟨#[32]⟩ : ByteArray) ++ t355)) ++ (⟨#[32]⟩ : ByteArray)) ++ t363) ++ (⟨#[32, 64]⟩ : ByteArray)) ++ t364)) else (none))) else (none)) else (none))) else (none)) else (none)) else (some (⟨#[]⟩ : ByteArray)))))) else (none))
def impl_EditText.T5 : Bool × List (List Nat × List Nat) := (true, [([], []), ([0], [0]), ([1], [1]), ([], []), ([3], [3]), ([4], [4]), ([2, 5], [2, 5]), ([6], [6]), ([], []), ([8], [8]), ([9, 5], [9]), ([7, 10], [7, 10]), ([11], [11]), ([], []), ([13], [13]), ([14, 10], [14]), ([12, 15], [12, 15]), ([16, 15, 0, 1, 2, 3, 4, 5, 6, 7, 8, 9, 10, 11, 12, 13, 14, 15, 16], [0, 16])])
def impl_EditText.B5 : List Nat := [0, 1, 3, 0, 8, 24, 63, 127, 0, 256, 824, 2047, 4095, 0, 8192, 26424, 65535, 131071]
theorem impl_EditText.tab5 : rtab .any (opsOf Tryd.f19 5) = impl_EditText.T5 := by kernel_rfl
theorem impl_EditText.bits5 : waitsOk impl_EditText.T5.2 impl_EditText.B5 = true := by kernel_rfl
set_option maxHeartbeats 8000000 in
set_option maxRecDepth 100000 in
theorem impl_EditText.calls (a0_0 : Int) (a0_1 : Int) (a0_2 : Int) (a0_3 : Int) (a0_4 : Int) (a0_5 : Int) (r : ByteArray) (w : World) (HTAB : TabHolds w) (h : impl_EditText.f a0_0 a0_1 a0_2 a0_3 a0_4 a0_5 = some r) :
  Calls Tryd.prog 19 #[.agg #[.int .i64 a0_0, .int .i64 a0_1, .int .i64 a0_2, .int .i64 a0_3, .int .i64 a0_4, .int .i64 a0_5]] w fun e w' => e = .returned (.string r) ∧ Below w.heap.size w w' := by
 have hu40 := Tryd.underlying40
 have HB := am (Below.refl w.heap.size w)
 have H : ((impl_FormatInt.f a0_1).bind fun t355 => (if 1 + t355.size ≤ 9223372036854775807 then (if a0_0 = 1 then (if 3 + ((⟨#[32]⟩ : ByteArray) ++ t355).size ≤ 9223372036854775807 then (if ((⟨#[97, 100, 100]⟩ : ByteArray) ++ ((⟨#[32]⟩ : ByteArray) ++ t355)).size + 1 ≤ 9223372036854775807 then ((impl_FormatInt.f a0_2).bind fun t356 => (if (((⟨#[97, 100, 100]⟩ : ByteArray) ++ ((⟨#[32]⟩ : ByteArray) ++ t355)) ++ (⟨#[32]⟩ : ByteArray)).size + t356.size ≤ 9223372036854775807 then (if ((((⟨#[97, 100, 100]⟩ : ByteArray) ++ ((⟨#[32]⟩ : ByteArray) ++ t355)) ++ (⟨#[32]⟩ : ByteArray)) ++ t356).size + 1 ≤ 9223372036854775807 then ((impl_FormatInt.f a0_3).bind fun t357 => (if (((((⟨#[97, 100, 100]⟩ : ByteArray) ++ ((⟨#[32]⟩ : ByteArray) ++ t355)) ++ (⟨#[32]⟩ : ByteArray)) ++ t356) ++ (⟨#[32]⟩ : ByteArray)).size + t357.size ≤ 9223372036854775807 then (if ((((((⟨#[97, 100, 100]⟩ : ByteArray) ++ ((⟨#[32]⟩ : ByteArray) ++ t355)) ++ (⟨#[32]⟩ : ByteArray)) ++ t356) ++ (⟨#[32]⟩ : ByteArray)) ++ t357).size + 1 ≤ 9223372036854775807 then ((impl_FormatInt.f a0_4).bind fun t358 => (if (((((((⟨#[97, 100, 100]⟩ : ByteArray) ++ ((⟨#[32]⟩ : ByteArray) ++ t355)) ++ (⟨#[32]⟩ : ByteArray)) ++ t356) ++ (⟨#[32]⟩ : ByteArray)) ++ t357) ++ (⟨#[32]⟩ : ByteArray)).size + t358.size ≤ 9223372036854775807 then (if ((((((((⟨#[97, 100, 100]⟩ : ByteArray) ++ ((⟨#[32]⟩ : ByteArray) ++ t355)) ++ (⟨#[32]⟩ : ByteArray)) ++ t356) ++ (⟨#[32]⟩ : ByteArray)) ++ t357) ++ (⟨#[32]⟩ : ByteArray)) ++ t358).size + 2 ≤ 9223372036854775807 then ((impl_FormatInt.f a0_5).bind fun t359 => (if (((((((((⟨#[97, 100, 100]⟩ : ByteArray) ++ ((⟨#[32]⟩ : ByteArray) ++ t355)) ++ (⟨#[32]⟩ : ByteArray)) ++ t356) ++ (⟨#[32]⟩ : ByteArray)) ++ t357) ++ (⟨#[32]⟩ : ByteArray)) ++ t358) ++ (⟨#[32, 64]⟩ : ByteArray)).size + t359.size ≤ 9223372036854775807 then (some ((((((((((⟨#[97, 100, 100]⟩ : ByteArray) ++ ((⟨#[32]⟩ : ByteArray) ++ t355)) ++ (⟨#[32]⟩ : ByteArray)) ++ t356) ++ (⟨#[32]⟩ : ByteArray)) ++ t357) ++ (⟨#[32]⟩ : ByteArray)) ++ t358) ++ (⟨#[32, 64]⟩ : ByteArray)) ++ t359)) else (none))) else (none)) else (none))) else (none)) else (none))) else (none)) else (none))) else (none)) else (none)) else (if a0_0 = 2 then (if 4 + ((⟨#[32]⟩ : ByteArray) ++ t355).size ≤ 9223372036854775807 then (if ((⟨#[100, 114, 111, 112]⟩ : ByteArray) ++ ((⟨#[32]⟩ : ByteArray) ++ t355)).size + 2 ≤ 9223372036854775807 then ((impl_FormatInt.f a0_5).bind fun t360 => (if (((⟨#[100, 114, 111, 112]⟩ : ByteArray) ++ ((⟨#[32]⟩ : ByteArray) ++ t355)) ++ (⟨#[32, 64]⟩ : ByteArray)).size + t360.size ≤ 9223372036854775807 then (some ((((⟨#[100, 114, 111, 112]⟩ : ByteArray) ++ ((⟨#[32]⟩ : ByteArray) ++ t355)) ++ (⟨#[32, 64]⟩ : ByteArray)) ++ t360)) else (none))) else (none)) else (none)) else (if a0_0 = 3 then (if 4 + ((⟨#[32]⟩ : ByteArray) ++ t355).size ≤ 9223372036854775807 then (if ((⟨#[116, 101, 120, 116]⟩ : ByteArray) ++ ((⟨#[32]⟩ : ByteArray) ++ t355)).size + 1 ≤ 9223372036854775807 then ((impl_FormatInt.f a0_4).bind fun t361 => (if (((⟨#[116, 101, 120, 116]⟩ : ByteArray) ++ ((⟨#[32]⟩ : ByteArray) ++ t355)) ++ (⟨#[32]⟩ : ByteArray)).size + t361.size ≤ 9223372036854775807 then (if ((((⟨#[116, 101, 120, 116]⟩ : ByteArray) ++ ((⟨#[32]⟩ : ByteArray) ++ t355)) ++ (⟨#[32]⟩ : ByteArray)) ++ t361).size + 2 ≤ 9223372036854775807 then ((impl_FormatInt.f a0_5).bind fun t362 => (if (((((⟨#[116, 101, 120, 116]⟩ : ByteArray) ++ ((⟨#[32]⟩ : ByteArray) ++ t355)) ++ (⟨#[32]⟩ : ByteArray)) ++ t361) ++ (⟨#[32, 64]⟩ : ByteArray)).size + t362.size ≤ 9223372036854775807 then (some ((((((⟨#[116, 101, 120, 116]⟩ : ByteArray) ++ ((⟨#[32]⟩ : ByteArray) ++ t355)) ++ (⟨#[32]⟩ : ByteArray)) ++ t361) ++ (⟨#[32, 64]⟩ : ByteArray)) ++ t362)) else (none))) else (none)) else (none))) else (none)) else (none)) else (if a0_0 = 4 then (if 4 + ((⟨#[32]⟩ : ByteArray) ++ t355).size ≤ 9223372036854775807 then (if ((⟨#[109, 111, 118, 101]⟩ : ByteArray) ++ ((⟨#[32]⟩ : ByteArray) ++ t355)).size + 1 ≤ 9223372036854775807 then ((impl_FormatInt.f a0_2).bind fun t363 => (if (((⟨#[109, 111, 118, 101]⟩ : ByteArray) ++ ((⟨#[32]⟩ : ByteArray) ++ t355)) ++ (⟨#[32]⟩ : ByteArray)).size + t363.size ≤ 9223372036854775807 then (if ((((⟨#[109, 111, 118, 101]⟩ : ByteArray) ++ ((⟨#[32]⟩ : ByteArray) ++ t355)) ++ (⟨#[32]⟩ : ByteArray)) ++ t363).size + 2 ≤ 9223372036854775807 then ((impl_FormatInt.f a0_5).bind fun t364 => (if (((((⟨#[109, 111, 118, 101]⟩ : ByteArray) ++ ((⟨#[32]⟩ : ByteArray) ++ t355)) ++ (⟨#[32]⟩ : ByteArray)) ++ t363) ++ (⟨#[32, 64]⟩ : ByteArray)).size + t364.size ≤ 9223372036854775807 then (some ((((((⟨#[109, 111, 118, 101]⟩ : ByteArray) ++ ((⟨#[32]⟩ : ByteArray) ++ t355)) ++ (⟨#[32]⟩ : ByteArray)) ++ t363) ++ (⟨#[32, 64]⟩ : ByteArray)) ++ t364)) else (none))) else (none)) else (none))) else (none)) else (none)) else (some (⟨#[]⟩ : ByteArray)))))) else (none))) = some r := h
 clear h
 replace H := Option.bind_eq_some_iff.mp H
 obtain ⟨t355, A20, H⟩ := H
 replace H : (if 1 + t355.size ≤ 9223372036854775807 then (if a0_0 = 1 then (if 3 + ((⟨#[32]⟩ : ByteArray) ++ t355).size ≤ 9223372036854775807 then (if ((⟨#[97, 100, 100]⟩ : ByteArray) ++ ((⟨#[32]⟩ : ByteArray) ++ t355)).size + 1 ≤ 9223372036854775807 then ((impl_FormatInt.f a0_2).bind fun t356 => (if (((⟨#[97, 100, 100]⟩ : ByteArray) ++ ((⟨#[32]⟩ : ByteArray) ++ t355)) ++ (⟨#[32]⟩ : ByteArray)).size + t356.size ≤ 9223372036854775807 then (if ((((⟨#[97, 100, 100]⟩ : ByteArray) ++ ((⟨#[32]⟩ : ByteArray) ++ t355)) ++ (⟨#[32]⟩ : ByteArray)) ++ t356).size + 1 ≤ 9223372036854775807 then ((impl_FormatInt.f a0_3).bind fun t357 => (if (((((⟨#[97, 100, 100]⟩ : ByteArray) ++ ((⟨#[32]⟩ : ByteArray) ++ t355)) ++ (⟨#[32]⟩ : ByteArray)) ++ t356) ++ (⟨#[32]⟩ : ByteArray)).size + t357.size ≤ 9223372036854775807 then (if ((((((⟨#[97, 100, 100]⟩ : ByteArray) ++ ((⟨#[32]⟩ : ByteArray) ++ t355)) ++ (⟨#[32]⟩ : ByteArray)) ++ t356) ++ (⟨#[32]⟩ : ByteArray)) ++ t357).size + 1 ≤ 9223372036854775807 then ((impl_FormatInt.f a0_4).bind fun t358 => (if (((((((⟨#[97, 100, 100]⟩ : ByteArray) ++ ((⟨#[32]⟩ : ByteArray) ++ t355)) ++ (⟨#[32]⟩ : ByteArray)) ++ t356) ++ (⟨#[32]⟩ : ByteArray)) ++ t357) ++ (⟨#[32]⟩ : ByteArray)).size + t358.size ≤ 9223372036854775807 then (if ((((((((⟨#[97, 100, 100]⟩ : ByteArray) ++ ((⟨#[32]⟩ : ByteArray) ++ t355)) ++ (⟨#[32]⟩ : ByteArray)) ++ t356) ++ (⟨#[32]⟩ : ByteArray)) ++ t357) ++ (⟨#[32]⟩ : ByteArray)) ++ t358).size + 2 ≤ 9223372036854775807 then ((impl_FormatInt.f a0_5).bind fun t359 => (if (((((((((⟨#[97, 100, 100]⟩ : ByteArray) ++ ((⟨#[32]⟩ : ByteArray) ++ t355)) ++ (⟨#[32]⟩ : ByteArray)) ++ t356) ++ (⟨#[32]⟩ : ByteArray)) ++ t357) ++ (⟨#[32]⟩ : ByteArray)) ++ t358) ++ (⟨#[32, 64]⟩ : ByteArray)).size + t359.size ≤ 9223372036854775807 then (some ((((((((((⟨#[97, 100, 100]⟩ : ByteArray) ++ ((⟨#[32]⟩ : ByteArray) ++ t355)) ++ (⟨#[32]⟩ : ByteArray)) ++ t356) ++ (⟨#[32]⟩ : ByteArray)) ++ t357) ++ (⟨#[32]⟩ : ByteArray)) ++ t358) ++ (⟨#[32, 64]⟩ : ByteArray)) ++ t359)) else (none))) else (none)) else (none))) else (none)) else (none))) else (none)) else (none))) else (none)) else (none)) else (if a0_0 = 2 then (if 4 + ((⟨#[32]⟩ : ByteArray) ++ t355).size ≤ 9223372036854775807 then (if ((⟨#[100, 114, 111, 112]⟩ : ByteArray) ++ ((⟨#[32]⟩ : ByteArray) ++ t355)).size + 2 ≤ 9223372036854775807 then ((impl_FormatInt.f a0_5).bind fun t360 => (if (((⟨#[100, 114, 111, 112]⟩ : ByteArray) ++ ((⟨#[32]⟩ : ByteArray) ++ t355)) ++ (⟨#[32, 64]⟩ : ByteArray)).size + t360.size ≤ 9223372036854775807 then (some ((((⟨#[100, 114, 111, 112]⟩ : ByteArray) ++ ((⟨#[32]⟩ : ByteArray) ++ t355)) ++ (⟨#[32, 64]⟩ : ByteArray)) ++ t360)) else (none))) else (none)) else (none)) else (if a0_0 = 3 then (if 4 + ((⟨#[32]⟩ : ByteArray) ++ t355).size ≤ 9223372036854775807 then (if ((⟨#[116, 101, 120, 116]⟩ : ByteArray) ++ ((⟨#[32]⟩ : ByteArray) ++ t355)).size + 1 ≤ 9223372036854775807 then ((impl_FormatInt.f a0_4).bind fun t361 => (if (((⟨#[116, 101, 120, 116]⟩ : ByteArray) ++ ((⟨#[32]⟩ : ByteArray) ++ t355)) ++ (⟨#[32]⟩ : ByteArray)).size + t361.size ≤ 9223372036854775807 then (if ((((⟨#[116, 101, 120, 116]⟩ : ByteArray) ++ ((⟨#[32]⟩ : ByteArray) ++ t355)) ++ (⟨#[32]⟩ : ByteArray)) ++ t361).size + 2 ≤ 9223372036854775807 then ((impl_FormatInt.f a0_5).bind fun t362 => (if (((((⟨#[116, 101, 120, 116]⟩ : ByteArray) ++ ((⟨#[32]⟩ : ByteArray) ++ t355)) ++ (⟨#[32]⟩ : ByteArray)) ++ t361) ++ (⟨#[32, 64]⟩ : ByteArray)).size + t362.size ≤ 9223372036854775807 then (some ((((((⟨#[116, 101, 120, 116]⟩ : ByteArray) ++ ((⟨#[32]⟩ : ByteArray) ++ t355)) ++ (⟨#[32]⟩ : ByteArray)) ++ t361) ++ (⟨#[32, 64]⟩ : ByteArray)) ++ t362)) else (none))) else (none)) else (none))) else (none)) else (none)) else (if a0_0 = 4 then (if 4 + ((⟨#[32]⟩ : ByteArray) ++ t355).size ≤ 9223372036854775807 then (if ((⟨#[109, 111, 118, 101]⟩ : ByteArray) ++ ((⟨#[32]⟩ : ByteArray) ++ t355)).size + 1 ≤ 9223372036854775807 then ((impl_FormatInt.f a0_2).bind fun t363 => (if (((⟨#[109, 111, 118, 101]⟩ : ByteArray) ++ ((⟨#[32]⟩ : ByteArray) ++ t355)) ++ (⟨#[32]⟩ : ByteArray)).size + t363.size ≤ 9223372036854775807 then (if ((((⟨#[109, 111, 118, 101]⟩ : ByteArray) ++ ((⟨#[32]⟩ : ByteArray) ++ t355)) ++ (⟨#[32]⟩ : ByteArray)) ++ t363).size + 2 ≤ 9223372036854775807 then ((impl_FormatInt.f a0_5).bind fun t364 => (if (((((⟨#[109, 111, 118, 101]⟩ : ByteArray) ++ ((⟨#[32]⟩ : ByteArray) ++ t355)) ++ (⟨#[32]⟩ : ByteArray)) ++ t363) ++ (⟨#[32, 64]⟩ : ByteArray)).size + t364.size ≤ 9223372036854775807 then (some ((((((⟨#[109, 111, 118, 101]⟩ : ByteArray) ++ ((⟨#[32]⟩ : ByteArray) ++ t355)) ++ (⟨#[32]⟩ : ByteArray)) ++ t363) ++ (⟨#[32, 64]⟩ : ByteArray)) ++ t364)) else (none))) else (none)) else (none))) else (none)) else (none)) else (some (⟨#[]⟩ : ByteArray)))))) else (none)) = some r := H
 have A2 := am A20
 clear A20
 by_cases c3 : 1 + t355.size ≤ 9223372036854775807
 ·rw [if_pos c3] at H
  have c3b0 := eq_true c3
  have c3b1 : decide (1 + t355.size ≤ 9223372036854775807) = true := decide_eq_true c3
  try have c3b2 : (9223372036854775807 < 1 + t355.size) = False := eq_false (Nat.not_lt.2 c3)
  by_cases c4 : a0_0 = 1
  ·rw [if_pos c4] at H
   have c4b0 : (a0_0 == 1) = true := beq_iff_eq.mpr c4
   have c4b1 : (a0_0 != 1) = false := bne_eq_false_iff_eq.mpr c4
   clear c4
   by_cases c5 : 3 + ((⟨#[32]⟩ : ByteArray) ++ t355).size ≤ 9223372036854775807
   ·rw [if_pos c5] at H
    have c5b0 := eq_true c5
    have c5b1 : decide (3 + ((⟨#[32]⟩ : ByteArray) ++ t355).size ≤ 9223372036854775807) = true := decide_eq_true c5
    try have c5b2 : (9223372036854775807 < 3 + ((⟨#[32]⟩ : ByteArray) ++ t355).size) = False := eq_false (Nat.not_lt.2 c5)
    have c5b3 : (9223372036854775807 < 3 + (1 + t355.size)) = False := eq_false (Nat.not_lt.2 (by have h_ := c5; (simp only [ByteArray.size_append] at h_); exact h_))
    by_cases c6 : ((⟨#[97, 100, 100]⟩ : ByteArray) ++ ((⟨#[32]⟩ : ByteArray) ++ t355)).size + 1 ≤ 9223372036854775807
    ·rw [if_pos c6] at H
     have c6b0 := eq_true c6
     have c6b1 : decide (((⟨#[97, 100, 100]⟩ : ByteArray) ++ ((⟨#[32]⟩ : ByteArray) ++ t355)).size + 1 ≤ 9223372036854775807) = true := decide_eq_true c6
     try have c6b2 : (9223372036854775807 < ((⟨#[97, 100, 100]⟩ : ByteArray) ++ ((⟨#[32]⟩ : ByteArray) ++ t355)).size + 1) = False := eq_false (Nat.not_lt.2 c6)
     have c6b3 : (9223372036854775807 < 3 + (1 + t355.size) + 1) = False := eq_false (Nat.not_lt.2 (by have h_ := c6; (simp only [ByteArray.size_append] at h_); exact h_))
     replace H := Option.bind_eq_some_iff.mp H
     obtain ⟨t356, A70, H⟩ := H
     replace H : (if (((⟨#[97, 100, 100]⟩ : ByteArray) ++ ((⟨#[32]⟩ : ByteArray) ++ t355)) ++ (⟨#[32]⟩ : ByteArray)).size + t356.size ≤ 9223372036854775807 then (if ((((⟨#[97, 100, 100]⟩ : ByteArray) ++ ((⟨#[32]⟩ : ByteArray) ++ t355)) ++ (⟨#[32]⟩ : ByteArray)) ++ t356).size + 1 ≤ 9223372036854775807 then ((impl_FormatInt.f a0_3).bind fun t357 => (if (((((⟨#[97, 100, 100]⟩ : ByteArray) ++ ((⟨#[32]⟩ : ByteArray) ++ t355)) ++ (⟨#[32]⟩ : ByteArray)) ++ t356) ++ (⟨#[32]⟩ : ByteArray)).size + t357.size ≤ 9223372036854775807 then (if ((((((⟨#[97, 100, 100]⟩ : ByteArray) ++ ((⟨#[32]⟩ : ByteArray) ++ t355)) ++ (⟨#[32]⟩ : ByteArray)) ++ t356) ++ (⟨#[32]⟩ : ByteArray)) ++ t357).size + 1 ≤ 9223372036854775807 then ((impl_FormatInt.f a0_4).bind fun t358 => (if (((((((⟨#[97, 100, 100]⟩ : ByteArray) ++ ((⟨#[32]⟩ : ByteArray) ++ t355)) ++ (⟨#[32]⟩ : ByteArray)) ++ t356) ++ (⟨#[32]⟩ : ByteArray)) ++ t357) ++ (⟨#[32]⟩ : ByteArray)).size + t358.size ≤ 9223372036854775807 then (if ((((((((⟨#[97, 100, 100]⟩ : ByteArray) ++ ((⟨#[32]⟩ : ByteArray) ++ t355)) ++ (⟨#[32]⟩ : ByteArray)) ++ t356) ++ (⟨#[32]⟩ : ByteArray)) ++ t357) ++ (⟨#[32]⟩ : ByteArray)) ++ t358).size + 2 ≤ 9223372036854775807 then ((impl_FormatInt.f a0_5).bind fun t359 => (if (((((((((⟨#[97, 100, 100]⟩ : ByteArray) ++ ((⟨#[32]⟩ : ByteArray) ++ t355)) ++ (⟨#[32]⟩ : ByteArray)) ++ t356) ++ (⟨#[32]⟩ : ByteArray)) ++ t357) ++ (⟨#[32]⟩ : ByteArray)) ++ t358) ++ (⟨#[32, 64]⟩ : ByteArray)).size + t359.size ≤ 9223372036854775807 then (some ((((((((((⟨#[97, 100, 100]⟩ : ByteArray) ++ ((⟨#[32]⟩ : ByteArray) ++ t355)) ++ (⟨#[32]⟩ : ByteArray)) ++ t356) ++ (⟨#[32]⟩ : ByteArray)) ++ t357) ++ (⟨#[32]⟩ : ByteArray)) ++ t358) ++ (⟨#[32, 64]⟩ : ByteArray)) ++ t359)) else (none))) else (none)) else (none))) else (none)) else (none))) else (none)) else (none)) = some r := H
     have A7 := am A70
     clear A70
     by_cases c8 : (((⟨#[97, 100, 100]⟩ : ByteArray) ++ ((⟨#[32]⟩ : ByteArray) ++ t355)) ++ (⟨#[32]⟩ : ByteArray)).size + t356.size ≤ 9223372036854775807
     ·rw [if_pos c8] at H
      have c8b0 := eq_true c8
      have c8b1 : decide ((((⟨#[97, 100, 100]⟩ : ByteArray) ++ ((⟨#[32]⟩ : ByteArray) ++ t355)) ++ (⟨#[32]⟩ : ByteArray)).size + t356.size ≤ 9223372036854775807) = true := decide_eq_true c8
      try have c8b2 : (9223372036854775807 < (((⟨#[97, 100, 100]⟩ : ByteArray) ++ ((⟨#[32]⟩ : ByteArray) ++ t355)) ++ (⟨#[32]⟩ : ByteArray)).size + t356.size) = False := eq_false (Nat.not_lt.2 c8)
      have c8b3 : (9223372036854775807 < 3 + (1 + t355.size) + 1 + t356.size) = False := eq_false (Nat.not_lt.2 (by have h_ := c8; (simp only [ByteArray.size_append] at h_); exact h_))
      by_cases c9 : ((((⟨#[97, 100, 100]⟩ : ByteArray) ++ ((⟨#[32]⟩ : ByteArray) ++ t355)) ++ (⟨#[32]⟩ : ByteArray)) ++ t356).size + 1 ≤ 9223372036854775807
      ·rw [if_pos c9] at H
       have c9b0 := eq_true c9
       have c9b1 : decide (((((⟨#[97, 100, 100]⟩ : ByteArray) ++ ((⟨#[32]⟩ : ByteArray) ++ t355)) ++ (⟨#[32]⟩ : ByteArray)) ++ t356).size + 1 ≤ 9223372036854775807) = true := decide_eq_true c9
       try have c9b2 : (9223372036854775807 < ((((⟨#[97, 100, 100]⟩ : ByteArray) ++ ((⟨#[32]⟩ : ByteArray) ++ t355)) ++ (⟨#[32]⟩ : ByteArray)) ++ t356).size + 1) = False := eq_false (Nat.not_lt.2 c9)
       have c9b3 : (9223372036854775807 < 3 + (1 + t355.size) + 1 + t356.size + 1) = False := eq_false (Nat.not_lt.2 (by have h_ := c9; (simp only [ByteArray.size_append] at h_); exact h_))
       replace H := Option.bind_eq_some_iff.mp H
       obtain ⟨t357, A100, H⟩ := H
       replace H : (if (((((⟨#[97, 100, 100]⟩ : ByteArray) ++ ((⟨#[32]⟩ : ByteArray) ++ t355)) ++ (⟨#[32]⟩ : ByteArray)) ++ t356) ++ (⟨#[32]⟩ : ByteArray)).size + t357.size ≤ 9223372036854775807 then (if ((((((⟨#[97, 100, 100]⟩ : ByteArray) ++ ((⟨#[32]⟩ : ByteArray) ++ t355)) ++ (⟨#[32]⟩ : ByteArray)) ++ t356) ++ (⟨#[32]⟩ : ByteArray)) ++ t357).size + 1 ≤ 9223372036854775807 then ((impl_FormatInt.f a0_4).bind fun t358 => (if (((((((⟨#[97, 100, 100]⟩ : ByteArray) ++ ((⟨#[32]⟩ : ByteArray) ++ t355)) ++ (⟨#[32]⟩ : ByteArray)) ++ t356) ++ (⟨#[32]⟩ : ByteArray)) ++ t357) ++ (⟨#[32]⟩ : ByteArray)).size + t358.size ≤ 9223372036854775807 then (if ((((((((⟨#[97, 100, 100]⟩ : ByteArray) ++ ((⟨#[32]⟩ : ByteArray) ++ t355)) ++ (⟨#[32]⟩ : ByteArray)) ++ t356) ++ (⟨#[32]⟩ : ByteArray)) ++ t357) ++ (⟨#[32]⟩ : ByteArray)) ++ t358).size + 2 ≤ 9223372036854775807 then ((impl_FormatInt.f a0_5).bind fun t359 => (if (((((((((⟨#[97, 100, 100]⟩ : ByteArray) ++ ((⟨#[32]⟩ : ByteArray) ++ t355)) ++ (⟨#[32]⟩ : ByteArray)) ++ t356) ++ (⟨#[32]⟩ : ByteArray)) ++ t357) ++ (⟨#[32]⟩ : ByteArray)) ++ t358) ++ (⟨#[32, 64]⟩ : ByteArray)).size + t359.size ≤ 9223372036854775807 then (some ((((((((((⟨#[97, 100, 100]⟩ : ByteArray) ++ ((⟨#[32]⟩ : ByteArray) ++ t355)) ++ (⟨#[32]⟩ : ByteArray)) ++ t356) ++ (⟨#[32]⟩ : ByteArray)) ++ t357) ++ (⟨#[32]⟩ : ByteArray)) ++ t358) ++ (⟨#[32, 64]⟩ : ByteArray)) ++ t359)) else (none))) else (none)) else (none))) else (none)) else (none)) = some r := H
       have A10 := am A100
       clear A100
       by_cases c11 : (((((⟨#[97, 100, 100]⟩ : ByteArray) ++ ((⟨#[32]⟩ : ByteArray) ++ t355)) ++ (⟨#[32]⟩ : ByteArray)) ++ t356) ++ (⟨#[32]⟩ : ByteArray)).size + t357.size ≤ 9223372036854775807
       ·rw [if_pos c11] at H
        have c11b0 := eq_true c11
        have c11b1 : decide ((((((⟨#[97, 100, 100]⟩ : ByteArray) ++ ((⟨#[32]⟩ : ByteArray) ++ t355)) ++ (⟨#[32]⟩ : ByteArray)) ++ t356) ++ (⟨#[32]⟩ : ByteArray)).size + t357.size ≤ 9223372036854775807) = true := decide_eq_true c11
        try have c11b2 : (9223372036854775807 < (((((⟨#[97, 100, 100]⟩ : ByteArray) ++ ((⟨#[32]⟩ : ByteArray) ++ t355)) ++ (⟨#[32]⟩ : ByteArray)) ++ t356) ++ (⟨#[32]⟩ : ByteArray)).size + t357.size) = False := eq_false (Nat.not_lt.2 c11)
        have c11b3 : (9223372036854775807 < 3 + (1 + t355.size) + 1 + t356.size + 1 + t357.size) = False := eq_false (Nat.not_lt.2 (by have h_ := c11; (simp only [ByteArray.size_append] at h_); exact h_))
        by_cases c12 : ((((((⟨#[97, 100, 100]⟩ : ByteArray) ++ ((⟨#[32]⟩ : ByteArray) ++ t355)) ++ (⟨#[32]⟩ : ByteArray)) ++ t356) ++ (⟨#[32]⟩ : ByteArray)) ++ t357).size + 1 ≤ 9223372036854775807
        ·rw [if_pos c12] at H
         have c12b0 := eq_true c12
         have c12b1 : decide (((((((⟨#[97, 100, 100]⟩ : ByteArray) ++ ((⟨#[32]⟩ : ByteArray) ++ t355)) ++ (⟨#[32]⟩ : ByteArray)) ++ t356) ++ (⟨#[32]⟩ : ByteArray)) ++ t357).size + 1 ≤ 9223372036854775807) = true := decide_eq_true c12
         try have c12b2 : (9223372036854775807 < ((((((⟨#[97, 100, 100]⟩ : ByteArray) ++ ((⟨#[32]⟩ : ByteArray) ++ t355)) ++ (⟨#[32]⟩ : ByteArray)) ++ t356) ++ (⟨#[32]⟩ : ByteArray)) ++ t357).size + 1) = False := eq_false (Nat.not_lt.2 c12)
         have c12b3 : (9223372036854775807 < 3 + (1 + t355.size) + 1 + t356.size + 1 + t357.size + 1) = False := eq_false (Nat.not_lt.2 (by have h_ := c12; (simp only [ByteArray.size_append] at h_); exact h_))
         replace H := Option.bind_eq_some_iff.mp H
         obtain ⟨t358, A130, H⟩ := H
         replace H : (if (((((((⟨#[97, 100, 100]⟩ : ByteArray) ++ ((⟨#[32]⟩ : ByteArray) ++ t355)) ++ (⟨#[32]⟩ : ByteArray)) ++ t356) ++ (⟨#[32]⟩ : ByteArray)) ++ t357) ++ (⟨#[32]⟩ : ByteArray)).size + t358.size ≤ 9223372036854775807 then (if ((((((((⟨#[97, 100, 100]⟩ : ByteArray) ++ ((⟨#[32]⟩ : ByteArray) ++ t355)) ++ (⟨#[32]⟩ : ByteArray)) ++ t356) ++ (⟨#[32]⟩ : ByteArray)) ++ t357) ++ (⟨#[32]⟩ : ByteArray)) ++ t358).size + 2 ≤ 9223372036854775807 then ((impl_FormatInt.f a0_5).bind fun t359 => (if (((((((((⟨#[97, 100, 100]⟩ : ByteArray) ++ ((⟨#[32]⟩ : ByteArray) ++ t355)) ++ (⟨#[32]⟩ : ByteArray)) ++ t356) ++ (⟨#[32]⟩ : ByteArray)) ++ t357) ++ (⟨#[32]⟩ : ByteArray)) ++ t358) ++ (⟨#[32, 64]⟩ : ByteArray)).size + t359.size ≤ 9223372036854775807 then (some ((((((((((⟨#[97, 100, 100]⟩ : ByteArray) ++ ((⟨#[32]⟩ : ByteArray) ++ t355)) ++ (⟨#[32]⟩ : ByteArray)) ++ t356) ++ (⟨#[32]⟩ : ByteArray)) ++ t357) ++ (⟨#[32]⟩ : ByteArray)) ++ t358) ++ (⟨#[32, 64]⟩ : ByteArray)) ++ t359)) else (none))) else (none)) else (none)) = some r := H
         have A13 := am A130
         clear A130
         by_cases c14 : (((((((⟨#[97, 100, 100]⟩ : ByteArray) ++ ((⟨#[32]⟩ : ByteArray) ++ t355)) ++ (⟨#[32]⟩ : ByteArray)) ++ t356) ++ (⟨#[32]⟩ : ByteArray)) ++ t357) ++ (⟨#[32]⟩ : ByteArray)).size + t358.size ≤ 9223372036854775807
         ·rw [if_pos c14] at H
          have c14b0 := eq_true c14
          have c14b1 : decide ((((((((⟨#[97, 100, 100]⟩ : ByteArray) ++ ((⟨#[32]⟩ : ByteArray) ++ t355)) ++ (⟨#[32]⟩ : ByteArray)) ++ t356) ++ (⟨#[32]⟩ : ByteArray)) ++ t357) ++ (⟨#[32]⟩ : ByteArray)).size + t358.size ≤ 9223372036854775807) = true := decide_eq_true c14
          try have c14b2 : (9223372036854775807 < (((((((⟨#[97, 100, 100]⟩ : ByteArray) ++ ((⟨#[32]⟩ : ByteArray) ++ t355)) ++ (⟨#[32]⟩ : ByteArray)) ++ t356) ++ (⟨#[32]⟩ : ByteArray)) ++ t357) ++ (⟨#[32]⟩ : ByteArray)).size + t358.size) = False := eq_false (Nat.not_lt.2 c14)
          have c14b3 : (9223372036854775807 < 3 + (1 + t355.size) + 1 + t356.size + 1 + t357.size + 1 + t358.size) = False := eq_false (Nat.not_lt.2 (by have h_ := c14; (simp only [ByteArray.size_append] at h_); exact h_))
          by_cases c15 : ((((((((⟨#[97, 100, 100]⟩ : ByteArray) ++ ((⟨#[32]⟩ : ByteArray) ++ t355)) ++ (⟨#[32]⟩ : ByteArray)) ++ t356) ++ (⟨#[32]⟩ : ByteArray)) ++ t357) ++ (⟨#[32]⟩ : ByteArray)) ++ t358).size + 2 ≤ 9223372036854775807
          ·rw [if_pos c15] at H
           have c15b0 := eq_true c15
           have c15b1 : decide (((((((((⟨#[97, 100, 100]⟩ : ByteArray) ++ ((⟨#[32]⟩ : ByteArray) ++ t355)) ++ (⟨#[32]⟩ : ByteArray)) ++ t356) ++ (⟨#[32]⟩ : ByteArray)) ++ t357) ++ (⟨#[32]⟩ : ByteArray)) ++ t358).size + 2 ≤ 9223372036854775807) = true := decide_eq_true c15
           try have c15b2 : (9223372036854775807 < ((((((((⟨#[97, 100, 100]⟩ : ByteArray) ++ ((⟨#[32]⟩ : ByteArray) ++ t355)) ++ (⟨#[32]⟩ : ByteArray)) ++ t356) ++ (⟨#[32]⟩ : ByteArray)) ++ t357) ++ (⟨#[32]⟩ : ByteArray)) ++ t358).size + 2) = False := eq_false (Nat.not_lt.2 c15)
           have c15b3 : (9223372036854775807 < 3 + (1 + t355.size) + 1 + t356.size + 1 + t357.size + 1 + t358.size + 2) = False := eq_false (Nat.not_lt.2 (by have h_ := c15; (simp only [ByteArray.size_append] at h_); exact h_))
           replace H := Option.bind_eq_some_iff.mp H
           obtain ⟨t359, A160, H⟩ := H
           replace H : (if (((((((((⟨#[97, 100, 100]⟩ : ByteArray) ++ ((⟨#[32]⟩ : ByteArray) ++ t355)) ++ (⟨#[32]⟩ : ByteArray)) ++ t356) ++ (⟨#[32]⟩ : ByteArray)) ++ t357) ++ (⟨#[32]⟩ : ByteArray)) ++ t358) ++ (⟨#[32, 64]⟩ : ByteArray)).size + t359.size ≤ 9223372036854775807 then (some ((((((((((⟨#[97, 100, 100]⟩ : ByteArray) ++ ((⟨#[32]⟩ : ByteArray) ++ t355)) ++ (⟨#[32]⟩ : ByteArray)) ++ t356) ++ (⟨#[32]⟩ : ByteArray)) ++ t357) ++ (⟨#[32]⟩ : ByteArray)) ++ t358) ++ (⟨#[32, 64]⟩ : ByteArray)) ++ t359)) else (none)) = some r := H
           have A16 := am A160
           clear A160
           by_cases c17 : (((((((((⟨#[97, 100, 100]⟩ : ByteArray) ++ ((⟨#[32]⟩ : ByteArray) ++ t355)) ++ (⟨#[32]⟩ : ByteArray)) ++ t356) ++ (⟨#[32]⟩ : ByteArray)) ++ t357) ++ (⟨#[32]⟩ : ByteArray)) ++ t358) ++ (⟨#[32, 64]⟩ : ByteArray)).size + t359.size ≤ 9223372036854775807
           ·rw [if_pos c17] at H
            have c17b0 := eq_true c17
            have c17b1 : decide ((((((((((⟨#[97, 100, 100]⟩ : ByteArray) ++ ((⟨#[32]⟩ : ByteArray) ++ t355)) ++ (⟨#[32]⟩ : ByteArray)) ++ t356) ++ (⟨#[32]⟩ : ByteArray)) ++ t357) ++ (⟨#[32]⟩ : ByteArray)) ++ t358) ++ (⟨#[32, 64]⟩ : ByteArray)).size + t359.size ≤ 9223372036854775807) = true := decide_eq_true c17
            try have c17b2 : (9223372036854775807 < (((((((((⟨#[97, 100, 100]⟩ : ByteArray) ++ ((⟨#[32]⟩ : ByteArray) ++ t355)) ++ (⟨#[32]⟩ : ByteArray)) ++ t356) ++ (⟨#[32]⟩ : ByteArray)) ++ t357) ++ (⟨#[32]⟩ : ByteArray)) ++ t358) ++ (⟨#[32, 64]⟩ : ByteArray)).size + t359.size) = False := eq_false (Nat.not_lt.2 c17)
            have c17b3 : (9223372036854775807 < 3 + (1 + t355.size) + 1 + t356.size + 1 + t357.size + 1 + t358.size + 2 + t359.size) = False := eq_false (Nat.not_lt.2 (by have h_ := c17; (simp only [ByteArray.size_append] at h_); exact h_))
            obtain rfl := Option.some.inj H
            go_enter Tryd.func19, Tryd.ntmps19
            try go_wp2_with (first | ((with_reducible refine gate_dst (N := 1) rfl ?_); refine box_event ?hg (N := 1) ?hd (cs := #[.int .i64 a0_0, .int .i64 a0_1, .int .i64 a0_2, .int .i64 a0_3, .int .i64 a0_4, .int .i64 a0_5]) (t := 40) ?hr ?_; (case hd => rfl); (case hg => rfl); (case hr => first | (go_simp; done) | (go_simp; rfl)); intro gb354 hg w18 hbox hb; have n0_ := am (below_step (bU HB.out) hb); have n1_ := am (hbox); have n2_ := am ((by rw [hg]; exact (below_size (bU HB.out)) : w.heap.size ≤ gb354)); have n3_ := am ((by rw [hg]; exact (below_size (bU HB.out)) : w.heap.size ≤ gb354)); clear HB; have HB := n0_; have BK354 := n1_; have GW354 := n2_; have GE354 := n3_; clear n0_ n1_ n2_ n3_; clear hb hbox hg; obtain ⟨hcz19_0, hcz19_1, hcz19_2, hcz19_3, hcz19_4, hcz19_5⟩ := bc6 BK354.out; obtain ⟨hfz19_0, hfz19_1, hfz19_2, hfz19_3, hfz19_4, hfz19_5⟩ := bf6 BK354.out) | ((with_reducible refine gate_callee (f := 31) rfl ?_); refine goesL_ (some 6) rfl rfl Tryd.func31 (by kernel_rfl) rfl #[.int .i64 a0_1] rfl mU ?_; (with_reducible refine (impl_FormatInt.calls a0_1 t355 _ ?sidet A2.out).mono ?_); (case sidet => exact tab_on HTAB (bS HB.out GE354.out)); rintro e w20 ⟨rfl, hb⟩; refine ⟨_, rfl, ?_⟩; have n0_ := am (kB BK354.out hb); have n1_ := am (below_step (bS HB.out GE354.out) hb); clear BK354; clear HB; have BK354 := n0_; have HB := n1_; clear n0_ n1_; (try clear hb); (try clear hb2); (try clear hk); (try clear hi); obtain ⟨hcz21_0, hcz21_1, hcz21_2, hcz21_3, hcz21_4, hcz21_5⟩ := bc6 BK354.out; obtain ⟨hfz21_0, hfz21_1, hfz21_2, hfz21_3, hfz21_4, hfz21_5⟩ := bf6 BK354.out))
            have n0_ := am (blk_drew BK354.out)
            have n1_ := am (below_drew1 HB.out)
            clear BK354
            clear HB
            have BK354 := n0_
            have HB := n1_
            clear n0_ n1_
            refine start_ (n := 18) (S := fun w' => w'.cell? ⟨gb354, 0, none⟩ = some (.int .i64 a0_0) ∧ w'.cell? ⟨gb354, 1, none⟩ = some (.int .i64 a0_1) ∧ w'.cell? ⟨gb354, 2, none⟩ = some (.int .i64 a0_2) ∧ w'.cell? ⟨gb354, 3, none⟩ = some (.int .i64 a0_3) ∧ w'.cell? ⟨gb354, 4, none⟩ = some (.int .i64 a0_4) ∧ w'.cell? ⟨gb354, 5, none⟩ = some (.int .i64 a0_5)) (ds := []) #[false, false, false, false, false, false, false, false, false, false, false, false, false, false, false, false, false, false] (by kernel_rfl) rfl rfl (bc6 BK354.out) (fun hHeld => ?_); refine with_tabW impl_EditText.tab5 impl_EditText.bits5 (fun HT_ HW_ => ?_)
            generalize w20.drew = w22 at BK354 HB hHeld ⊢
            refine pure_ (i := 0) (N := some 12) (v := ?_) (a' := ?_) #[true, false, false, false, false, false, false, false, false, false, false, false, false, false, false, false, false, false] rfl rfl (any_of HT_.out (by kernel_rfl)) (fun _ _ _ h => h) (Or.inl ⟨by rfl, ?_⟩) ?_ ?_
            rotate_left
            ·intro w'
             go_simp
             with_reducible rfl
            rotate_left
            ·simp only [Act.put, List.setIfInBounds_toArray, List.set_cons_zero, List.set_cons_succ, i64_w, i32_w]
             rfl
            refine pure_ (i := 1) (N := some 13) (v := ?_) (a' := ?_) #[true, true, false, false, false, false, false, false, false, false, false, false, false, false, false, false, false, false] rfl rfl (any_of HT_.out (by kernel_rfl)) (fun _ _ _ h => h) (Or.inl ⟨by rfl, ?_⟩) ?_ ?_
            rotate_left
            ·intro w'
             go_simp
             with_reducible rfl
            rotate_left
            ·simp only [Act.put, List.setIfInBounds_toArray, List.set_cons_zero, List.set_cons_succ, i64_w, i32_w]
             rfl
            refine pure_ (i := 2) (N := some 14) (v := ?_) (a' := ?_) #[true, true, true, false, false, false, false, false, false, false, false, false, false, false, false, false, false, false] rfl rfl (any_of HT_.out (by kernel_rfl)) (fun _ _ _ h => h) (Or.inl ⟨by rfl, ?_⟩) ?_ ?_
            rotate_left
            ·intro w'
             go_simp
             with_reducible rfl
            rotate_left
            ·simp only [Act.put, List.setIfInBounds_toArray, List.set_cons_zero, List.set_cons_succ, i64_w, i32_w]
             rfl
            refine pure_ (i := 3) (N := some 15) (v := ?_) (a' := ?_) #[true, true, true, true, false, false, false, false, false, false, false, false, false, false, false, false, false, false] rfl rfl (any_of HT_.out (by kernel_rfl)) (fun _ _ _ h => h) (Or.inl ⟨by rfl, ?_⟩) ?_ ?_
            rotate_left
            ·intro w'
             go_simp
             with_reducible rfl
            rotate_left
            ·simp only [Act.put, List.setIfInBounds_toArray, List.set_cons_zero, List.set_cons_succ, i64_w, i32_w]
             rfl
            refine pure_ (i := 8) (N := some 20) (v := ?_) (a' := ?_) #[true, true, true, true, false, false, false, false, true, false, false, false, false, false, false, false, false, false] rfl rfl (any_of HT_.out (by kernel_rfl)) (fun _ _ _ h => h) (Or.inl ⟨by rfl, ?_⟩) ?_ ?_
            rotate_left
            ·intro w'
             go_simp
             with_reducible rfl
            rotate_left
            ·simp only [Act.put, List.setIfInBounds_toArray, List.set_cons_zero, List.set_cons_succ, i64_w, i32_w]
             rfl
            refine pure_ (i := 13) (N := some 25) (v := ?_) (a' := ?_) #[true, true, true, true, false, false, false, false, true, false, false, false, false, true, false, false, false, false] rfl rfl (any_of HT_.out (by kernel_rfl)) (fun _ _ _ h => h) (Or.inl ⟨by rfl, ?_⟩) ?_ ?_
            rotate_left
            ·intro w'
             go_simp
             with_reducible rfl
            rotate_left
            ·simp only [Act.put, List.setIfInBounds_toArray, List.set_cons_zero, List.set_cons_succ, i64_w, i32_w]
             rfl
            refine take_ (i := 4) (N := some 16) (v := ?_) (a' := ?_) #[true, true, true, true, true, false, false, false, true, false, false, false, false, true, false, false, false, false] rfl rfl (take_ofW HT_.out HW_.out (by kernel_rfl)) (fun _ _ _ h => h) (Or.inl ⟨by rfl, ?_⟩) hHeld ?_ ?_
            rotate_left
            ·rintro w' ⟨s0, s1, s2, s3, s4, s5⟩
             go_simp
             with_reducible rfl
            rotate_left
            ·simp only [Act.put, List.setIfInBounds_toArray, List.set_cons_zero, List.set_cons_succ, i64_w, i32_w]
             rfl
            refine take_ (i := 9) (N := some 21) (v := ?_) (a' := ?_) #[true, true, true, true, true, false, false, false, true, true, false, false, false, true, false, false, false, false] rfl rfl (take_ofW HT_.out HW_.out (by kernel_rfl)) (fun _ _ _ h => h) (Or.inl ⟨by rfl, ?_⟩) hHeld ?_ ?_
            rotate_left
            ·rintro w' ⟨s0, s1, s2, s3, s4, s5⟩
             go_simp
             with_reducible rfl
            rotate_left
            ·simp only [Act.put, List.setIfInBounds_toArray, List.set_cons_zero, List.set_cons_succ, i64_w, i32_w]
             rfl
            refine take_ (i := 14) (N := some 26) (v := ?_) (a' := ?_) #[true, true, true, true, true, false, false, false, true, true, false, false, false, true, true, false, false, false] rfl rfl (take_ofW HT_.out HW_.out (by kernel_rfl)) (fun _ _ _ h => h) (Or.inl ⟨by rfl, ?_⟩) hHeld ?_ ?_
            rotate_left
            ·rintro w' ⟨s0, s1, s2, s3, s4, s5⟩
             go_simp
             with_reducible rfl
            rotate_left
            ·simp only [Act.put, List.setIfInBounds_toArray, List.set_cons_zero, List.set_cons_succ, i64_w, i32_w]
             rfl
            refine one_ (i := 5) (N := some 17) #[true, true, true, true, true, true, false, false, true, true, false, false, false, true, true, false, false, false] rfl rfl (one_of HT_.out (by kernel_rfl)) (by decide) (fun K hK => ?_)
            refine goes_ Tryd.func31 (by kernel_rfl) rfl #[.int .i64 a0_2] (by rfl) rfl rfl mU ?_
            with_reducible refine (impl_FormatInt.calls a0_2 t356 _ ?sidet A7.out).mono ?_
            case sidet => exact tab_on HTAB (bS HB.out GE354.out)
            rintro e w23 ⟨rfl, hb⟩
            refine ⟨_, rfl, ?_⟩
            have n0_ := am (kB BK354.out hb)
            have n1_ := am (below_step (bS HB.out GE354.out) hb)
            clear BK354
            clear HB
            have BK354 := n0_
            have HB := n1_
            clear n0_ n1_
            (try clear hb)
            (try clear hb2)
            (try clear hk)
            (try clear hi)
            refine hK.out _ _ (bc6 BK354.out) (fun hHeld => ?_)
            clear hK K
            refine norm_ (a' := ?_) ?_ ?_
            rotate_left
            ·show Act.put _ (some 17) _ = _
             simp only [Act.put, List.setIfInBounds_toArray, List.set_cons_zero, List.set_cons_succ, i64_w, i32_w]
             rfl
            refine pure_ (i := 6) (N := some 18) (v := ?_) (a' := ?_) #[true, true, true, true, true, true, true, false, true, true, false, false, false, true, true, false, false, false] rfl rfl (any_of HT_.out (by kernel_rfl)) (fun _ _ _ h => h) (Or.inl ⟨by rfl, ?_⟩) ?_ ?_
            rotate_left
            ·intro w'
             go_simp
             with_reducible rfl
            rotate_left
            ·simp only [Act.put, List.setIfInBounds_toArray, List.set_cons_zero, List.set_cons_succ, i64_w, i32_w]
             rfl
            refine pure_ (i := 7) (N := some 19) (v := ?_) (a' := ?_) #[true, true, true, true, true, true, true, true, true, true, false, false, false, true, true, false, false, false] rfl rfl (any_of HT_.out (by kernel_rfl)) (fun _ _ _ h => h) (Or.inl ⟨by rfl, ?_⟩) ?_ ?_
            rotate_left
            ·intro w'
             go_simp
             with_reducible rfl
            rotate_left
            ·simp only [Act.put, List.setIfInBounds_toArray, List.set_cons_zero, List.set_cons_succ, i64_w, i32_w]
             rfl
            refine one_ (i := 10) (N := some 22) #[true, true, true, true, true, true, true, true, true, true, true, false, false, true, true, false, false, false] rfl rfl (one_of HT_.out (by kernel_rfl)) (by decide) (fun K hK => ?_)
            refine goes_ Tryd.func31 (by kernel_rfl) rfl #[.int .i64 a0_3] (by rfl) rfl rfl mU ?_
            with_reducible refine (impl_FormatInt.calls a0_3 t357 _ ?sidet A10.out).mono ?_
            case sidet => exact tab_on HTAB (bS HB.out GE354.out)
            rintro e w24 ⟨rfl, hb⟩
            refine ⟨_, rfl, ?_⟩
            have n0_ := am (kB BK354.out hb)
            have n1_ := am (below_step (bS HB.out GE354.out) hb)
            clear BK354
            clear HB
            have BK354 := n0_
            have HB := n1_
            clear n0_ n1_
            (try clear hb)
            (try clear hb2)
            (try clear hk)
            (try clear hi)
            refine hK.out _ _ (bc6 BK354.out) (fun hHeld => ?_)
            clear hK K
            refine norm_ (a' := ?_) ?_ ?_
            rotate_left
            ·show Act.put _ (some 22) _ = _
             simp only [Act.put, List.setIfInBounds_toArray, List.set_cons_zero, List.set_cons_succ, i64_w, i32_w]
             rfl
            refine pure_ (i := 11) (N := some 23) (v := ?_) (a' := ?_) #[true, true, true, true, true, true, true, true, true, true, true, true, false, true, true, false, false, false] rfl rfl (any_of HT_.out (by kernel_rfl)) (fun _ _ _ h => h) (Or.inl ⟨by rfl, ?_⟩) ?_ ?_
            rotate_left
            ·intro w'
             go_simp
             with_reducible rfl
            rotate_left
            ·simp only [Act.put, List.setIfInBounds_toArray, List.set_cons_zero, List.set_cons_succ, i64_w, i32_w]
             rfl
            refine pure_ (i := 12) (N := some 24) (v := ?_) (a' := ?_) #[true, true, true, true, true, true, true, true, true, true, true, true, true, true, true, false, false, false] rfl rfl (any_of HT_.out (by kernel_rfl)) (fun _ _ _ h => h) (Or.inl ⟨by rfl, ?_⟩) ?_ ?_
            rotate_left
            ·intro w'
             go_simp
             with_reducible rfl
            rotate_left
            ·simp only [Act.put, List.setIfInBounds_toArray, List.set_cons_zero, List.set_cons_succ, i64_w, i32_w]
             rfl
            refine one_ (i := 15) (N := some 27) #[true, true, true, true, true, true, true, true, true, true, true, true, true, true, true, true, false, false] rfl rfl (one_of HT_.out (by kernel_rfl)) (by decide) (fun K hK => ?_)
            refine goes_ Tryd.func31 (by kernel_rfl) rfl #[.int .i64 a0_4] (by rfl) rfl rfl mU ?_
            with_reducible refine (impl_FormatInt.calls a0_4 t358 _ ?sidet A13.out).mono ?_
            case sidet => exact tab_on HTAB (bS HB.out GE354.out)
            rintro e w25 ⟨rfl, hb⟩
            refine ⟨_, rfl, ?_⟩
            have n0_ := am (kB BK354.out hb)
            have n1_ := am (below_step (bS HB.out GE354.out) hb)
            clear BK354
            clear HB
            have BK354 := n0_
            have HB := n1_
            clear n0_ n1_
            (try clear hb)
            (try clear hb2)
            (try clear hk)
            (try clear hi)
            refine hK.out _ _ (bc6 BK354.out) (fun hHeld => ?_)
            clear hK K
            refine norm_ (a' := ?_) ?_ ?_
            rotate_left
            ·show Act.put _ (some 27) _ = _
             simp only [Act.put, List.setIfInBounds_toArray, List.set_cons_zero, List.set_cons_succ, i64_w, i32_w]
             rfl
            refine pure_ (i := 16) (N := some 28) (v := ?_) (a' := ?_) #[true, true, true, true, true, true, true, true, true, true, true, true, true, true, true, true, true, false] rfl rfl (any_of HT_.out (by kernel_rfl)) (fun _ _ _ h => h) (Or.inl ⟨by rfl, ?_⟩) ?_ ?_
            rotate_left
            ·intro w'
             go_simp
             with_reducible rfl
            rotate_left
            ·simp only [Act.put, List.setIfInBounds_toArray, List.set_cons_zero, List.set_cons_succ, i64_w, i32_w]
             rfl
            refine pure_ (i := 17) (N := some 3) (v := ?_) (a' := ?_) #[true, true, true, true, true, true, true, true, true, true, true, true, true, true, true, true, true, true] rfl rfl (any_of HT_.out (by kernel_rfl)) (fun _ _ _ h => h) (Or.inl ⟨by rfl, ?_⟩) ?_ ?_
            rotate_left
            ·intro w'
             go_simp
             with_reducible rfl
            rotate_left
            ·simp only [Act.put, List.setIfInBounds_toArray, List.set_cons_zero, List.set_cons_succ, i64_w, i32_w]
             rfl
            refine done_ (done_of HT_.out (by kernel_rfl)) ?_
            obtain ⟨hcz26_0, hcz26_1, hcz26_2, hcz26_3, hcz26_4, hcz26_5⟩ := bc6 BK354.out
            obtain ⟨hfz26_0, hfz26_1, hfz26_2, hfz26_3, hfz26_4, hfz26_5⟩ := bf6 BK354.out
            try go_wp2_with (first | ((with_reducible refine gate_callee (f := 31) rfl ?_); refine goesL_ (some 55) rfl rfl Tryd.func31 (by kernel_rfl) rfl #[.int .i64 a0_5] rfl mU ?_; (with_reducible refine (impl_FormatInt.calls a0_5 t359 _ ?sidet A16.out).mono ?_); (case sidet => exact tab_on HTAB (bS HB.out GE354.out)); rintro e w27 ⟨rfl, hb⟩; refine ⟨_, rfl, ?_⟩; have n0_ := am (kB BK354.out hb); have n1_ := am (below_step (bS HB.out GE354.out) hb); clear BK354; clear HB; have BK354 := n0_; have HB := n1_; clear n0_ n1_; (try clear hb); (try clear hb2); (try clear hk); (try clear hi)))
            go_ret
            exact ⟨eU, bS HB.out GE354.out⟩
           ·rw [if_neg c17] at H
            exact absurd H (by simp)
          ·rw [if_neg c15] at H
           exact absurd H (by simp)
         ·rw [if_neg c14] at H
          exact absurd H (by simp)
        ·rw [if_neg c12] at H
         exact absurd H (by simp)
       ·rw [if_neg c11] at H
        exact absurd H (by simp)
      ·rw [if_neg c9] at H
       exact absurd H (by simp)
     ·rw [if_neg c8] at H
      exact absurd H (by simp)
    ·rw [if_neg c6] at H
     exact absurd H (by simp)
   ·rw [if_neg c5] at H
    exact absurd H (by simp)
  ·rw [if_neg c4] at H
   have c4b0 : (a0_0 == 1) = false := beq_eq_false_iff_ne.mpr c4
   have c4b1 : (a0_0 != 1) = true := bne_iff_ne.mpr c4
   by_cases c28 : a0_0 = 2
   ·rw [if_pos c28] at H
    have c28b0 : (a0_0 == 2) = true := beq_iff_eq.mpr c28
    have c28b1 : (a0_0 != 2) = false := bne_eq_false_iff_eq.mpr c28
    clear c28
    by_cases c29 : 4 + ((⟨#[32]⟩ : ByteArray) ++ t355).size ≤ 9223372036854775807
    ·rw [if_pos c29] at H
     have c29b0 := eq_true c29
     have c29b1 : decide (4 + ((⟨#[32]⟩ : ByteArray) ++ t355).size ≤ 9223372036854775807) = true := decide_eq_true c29
     try have c29b2 : (9223372036854775807 < 4 + ((⟨#[32]⟩ : ByteArray) ++ t355).size) = False := eq_false (Nat.not_lt.2 c29)
     have c29b3 : (9223372036854775807 < 4 + (1 + t355.size)) = False := eq_false (Nat.not_lt.2 (by have h_ := c29; (simp only [ByteArray.size_append] at h_); exact h_))
     by_cases c30 : ((⟨#[100, 114, 111, 112]⟩ : ByteArray) ++ ((⟨#[32]⟩ : ByteArray) ++ t355)).size + 2 ≤ 9223372036854775807
     ·rw [if_pos c30] at H
      have c30b0 := eq_true c30
      have c30b1 : decide (((⟨#[100, 114, 111, 112]⟩ : ByteArray) ++ ((⟨#[32]⟩ : ByteArray) ++ t355)).size + 2 ≤ 9223372036854775807) = true := decide_eq_true c30
      try have c30b2 : (9223372036854775807 < ((⟨#[100, 114, 111, 112]⟩ : ByteArray) ++ ((⟨#[32]⟩ : ByteArray) ++ t355)).size + 2) = False := eq_false (Nat.not_lt.2 c30)
      have c30b3 : (9223372036854775807 < 4 + (1 + t355.size) + 2) = False := eq_false (Nat.not_lt.2 (by have h_ := c30; (simp only [ByteArray.size_append] at h_); exact h_))
      replace H := Option.bind_eq_some_iff.mp H
      obtain ⟨t360, A310, H⟩ := H
      replace H : (if (((⟨#[100, 114, 111, 112]⟩ : ByteArray) ++ ((⟨#[32]⟩ : ByteArray) ++ t355)) ++ (⟨#[32, 64]⟩ : ByteArray)).size + t360.size ≤ 9223372036854775807 then (some ((((⟨#[100, 114, 111, 112]⟩ : ByteArray) ++ ((⟨#[32]⟩ : ByteArray) ++ t355)) ++ (⟨#[32, 64]⟩ : ByteArray)) ++ t360)) else (none)) = some r := H
      have A31 := am A310
      clear A310
      by_cases c32 : (((⟨#[100, 114, 111, 112]⟩ : ByteArray) ++ ((⟨#[32]⟩ : ByteArray) ++ t355)) ++ (⟨#[32, 64]⟩ : ByteArray)).size + t360.size ≤ 9223372036854775807
      ·rw [if_pos c32] at H
       have c32b0 := eq_true c32
       have c32b1 : decide ((((⟨#[100, 114, 111, 112]⟩ : ByteArray) ++ ((⟨#[32]⟩ : ByteArray) ++ t355)) ++ (⟨#[32, 64]⟩ : ByteArray)).size + t360.size ≤ 9223372036854775807) = true := decide_eq_true c32
       try have c32b2 : (9223372036854775807 < (((⟨#[100, 114, 111, 112]⟩ : ByteArray) ++ ((⟨#[32]⟩ : ByteArray) ++ t355)) ++ (⟨#[32, 64]⟩ : ByteArray)).size + t360.size) = False := eq_false (Nat.not_lt.2 c32)
       have c32b3 : (9223372036854775807 < 4 + (1 + t355.size) + 2 + t360.size) = False := eq_false (Nat.not_lt.2 (by have h_ := c32; (simp only [ByteArray.size_append] at h_); exact h_))
       obtain rfl := Option.some.inj H
       go_enter Tryd.func19, Tryd.ntmps19
       go_wp2_with (first | ((with_reducible refine gate_dst (N := 1) rfl ?_); refine box_event ?hg (N := 1) ?hd (cs := #[.int .i64 a0_0, .int .i64 a0_1, .int .i64 a0_2, .int .i64 a0_3, .int .i64 a0_4, .int .i64 a0_5]) (t := 40) ?hr ?_; (case hd => rfl); (case hg => rfl); (case hr => first | (go_simp; done) | (go_simp; rfl)); intro gb354 hg w33 hbox hb; have n0_ := am (below_step (bU HB.out) hb); have n1_ := am (hbox); have n2_ := am ((by rw [hg]; exact (below_size (bU HB.out)) : w.heap.size ≤ gb354)); have n3_ := am ((by rw [hg]; exact (below_size (bU HB.out)) : w.heap.size ≤ gb354)); clear HB; have HB := n0_; have BK354 := n1_; have GW354 := n2_; have GE354 := n3_; clear n0_ n1_ n2_ n3_; clear hb hbox hg; obtain ⟨hcz34_0, hcz34_1, hcz34_2, hcz34_3, hcz34_4, hcz34_5⟩ := bc6 BK354.out; obtain ⟨hfz34_0, hfz34_1, hfz34_2, hfz34_3, hfz34_4, hfz34_5⟩ := bf6 BK354.out) | ((with_reducible refine gate_callee (f := 31) rfl ?_); refine goesL_ (some 6) rfl rfl Tryd.func31 (by kernel_rfl) rfl #[.int .i64 a0_1] rfl mU ?_; (with_reducible refine (impl_FormatInt.calls a0_1 t355 _ ?sidet A2.out).mono ?_); (case sidet => exact tab_on HTAB (bS HB.out GE354.out)); rintro e w35 ⟨rfl, hb⟩; refine ⟨_, rfl, ?_⟩; have n0_ := am (kB BK354.out hb); have n1_ := am (below_step (bS HB.out GE354.out) hb); clear BK354; clear HB; have BK354 := n0_; have HB := n1_; clear n0_ n1_; (try clear hb); (try clear hb2); (try clear hk); (try clear hi); obtain ⟨hcz36_0, hcz36_1, hcz36_2, hcz36_3, hcz36_4, hcz36_5⟩ := bc6 BK354.out; obtain ⟨hfz36_0, hfz36_1, hfz36_2, hfz36_3, hfz36_4, hfz36_5⟩ := bf6 BK354.out) | ((with_reducible refine gate_callee (f := 31) rfl ?_); refine goesL_ (some 55) rfl rfl Tryd.func31 (by kernel_rfl) rfl #[.int .i64 a0_5] rfl mU ?_; (with_reducible refine (impl_FormatInt.calls a0_5 t360 _ ?sidet A31.out).mono ?_); (case sidet => exact tab_on HTAB (bS HB.out GE354.out)); rintro e w37 ⟨rfl, hb⟩; refine ⟨_, rfl, ?_⟩; have n0_ := am (kB BK354.out hb); have n1_ := am (below_step (bS HB.out GE354.out) hb); clear BK354; clear HB; have BK354 := n0_; have HB := n1_; clear n0_ n1_; (try clear hb); (try clear hb2); (try clear hk); (try clear hi)))
       go_ret
       exact ⟨eU, bS HB.out GE354.out⟩
      ·rw [if_neg c32] at H
       exact absurd H (by simp)
     ·rw [if_neg c30] at H
      exact absurd H (by simp)
    ·rw [if_neg c29] at H
     exact absurd H (by simp)
   ·rw [if_neg c28] at H
    have c28b0 : (a0_0 == 2) = false := beq_eq_false_iff_ne.mpr c28
    have c28b1 : (a0_0 != 2) = true := bne_iff_ne.mpr c28
    by_cases c38 : a0_0 = 3
    ·rw [if_pos c38] at H
     have c38b0 : (a0_0 == 3) = true := beq_iff_eq.mpr c38
     have c38b1 : (a0_0 != 3) = false := bne_eq_false_iff_eq.mpr c38
     clear c38
     by_cases c39 : 4 + ((⟨#[32]⟩ : ByteArray) ++ t355).size ≤ 9223372036854775807
     ·rw [if_pos c39] at H
      have c39b0 := eq_true c39
      have c39b1 : decide (4 + ((⟨#[32]⟩ : ByteArray) ++ t355).size ≤ 9223372036854775807) = true := decide_eq_true c39
      try have c39b2 : (9223372036854775807 < 4 + ((⟨#[32]⟩ : ByteArray) ++ t355).size) = False := eq_false (Nat.not_lt.2 c39)
      have c39b3 : (9223372036854775807 < 4 + (1 + t355.size)) = False := eq_false (Nat.not_lt.2 (by have h_ := c39; (simp only [ByteArray.size_append] at h_); exact h_))
      by_cases c40 : ((⟨#[116, 101, 120, 116]⟩ : ByteArray) ++ ((⟨#[32]⟩ : ByteArray) ++ t355)).size + 1 ≤ 9223372036854775807
      ·rw [if_pos c40] at H
       have c40b0 := eq_true c40
       have c40b1 : decide (((⟨#[116, 101, 120, 116]⟩ : ByteArray) ++ ((⟨#[32]⟩ : ByteArray) ++ t355)).size + 1 ≤ 9223372036854775807) = true := decide_eq_true c40
       try have c40b2 : (9223372036854775807 < ((⟨#[116, 101, 120, 116]⟩ : ByteArray) ++ ((⟨#[32]⟩ : ByteArray) ++ t355)).size + 1) = False := eq_false (Nat.not_lt.2 c40)
       have c40b3 : (9223372036854775807 < 4 + (1 + t355.size) + 1) = False := eq_false (Nat.not_lt.2 (by have h_ := c40; (simp only [ByteArray.size_append] at h_); exact h_))
       replace H := Option.bind_eq_some_iff.mp H
       obtain ⟨t361, A410, H⟩ := H
       replace H : (if (((⟨#[116, 101, 120, 116]⟩ : ByteArray) ++ ((⟨#[32]⟩ : ByteArray) ++ t355)) ++ (⟨#[32]⟩ : ByteArray)).size + t361.size ≤ 9223372036854775807 then (if ((((⟨#[116, 101, 120, 116]⟩ : ByteArray) ++ ((⟨#[32]⟩ : ByteArray) ++ t355)) ++ (⟨#[32]⟩ : ByteArray)) ++ t361).size + 2 ≤ 9223372036854775807 then ((impl_FormatInt.f a0_5).bind fun t362 => (if (((((⟨#[116, 101, 120, 116]⟩ : ByteArray) ++ ((⟨#[32]⟩ : ByteArray) ++ t355)) ++ (⟨#[32]⟩ : ByteArray)) ++ t361) ++ (⟨#[32, 64]⟩ : ByteArray)).size + t362.size ≤ 9223372036854775807 then (some ((((((⟨#[116, 101, 120, 116]⟩ : ByteArray) ++ ((⟨#[32]⟩ : ByteArray) ++ t355)) ++ (⟨#[32]⟩ : ByteArray)) ++ t361) ++ (⟨#[32, 64]⟩ : ByteArray)) ++ t362)) else (none))) else (none)) else (none)) = some r := H
       have A41 := am A410
       clear A410
       by_cases c42 : (((⟨#[116, 101, 120, 116]⟩ : ByteArray) ++ ((⟨#[32]⟩ : ByteArray) ++ t355)) ++ (⟨#[32]⟩ : ByteArray)).size + t361.size ≤ 9223372036854775807
       ·rw [if_pos c42] at H
        have c42b0 := eq_true c42
        have c42b1 : decide ((((⟨#[116, 101, 120, 116]⟩ : ByteArray) ++ ((⟨#[32]⟩ : ByteArray) ++ t355)) ++ (⟨#[32]⟩ : ByteArray)).size + t361.size ≤ 9223372036854775807) = true := decide_eq_true c42
        try have c42b2 : (9223372036854775807 < (((⟨#[116, 101, 120, 116]⟩ : ByteArray) ++ ((⟨#[32]⟩ : ByteArray) ++ t355)) ++ (⟨#[32]⟩ : ByteArray)).size + t361.size) = False := eq_false (Nat.not_lt.2 c42)
        have c42b3 : (9223372036854775807 < 4 + (1 + t355.size) + 1 + t361.size) = False := eq_false (Nat.not_lt.2 (by have h_ := c42; (simp only [ByteArray.size_append] at h_); exact h_))
        by_cases c43 : ((((⟨#[116, 101, 120, 116]⟩ : ByteArray) ++ ((⟨#[32]⟩ : ByteArray) ++ t355)) ++ (⟨#[32]⟩ : ByteArray)) ++ t361).size + 2 ≤ 9223372036854775807
        ·rw [if_pos c43] at H
         have c43b0 := eq_true c43
         have c43b1 : decide (((((⟨#[116, 101, 120, 116]⟩ : ByteArray) ++ ((⟨#[32]⟩ : ByteArray) ++ t355)) ++ (⟨#[32]⟩ : ByteArray)) ++ t361).size + 2 ≤ 9223372036854775807) = true := decide_eq_true c43
         try have c43b2 : (9223372036854775807 < ((((⟨#[116, 101, 120, 116]⟩ : ByteArray) ++ ((⟨#[32]⟩ : ByteArray) ++ t355)) ++ (⟨#[32]⟩ : ByteArray)) ++ t361).size + 2) = False := eq_false (Nat.not_lt.2 c43)
         have c43b3 : (9223372036854775807 < 4 + (1 + t355.size) + 1 + t361.size + 2) = False := eq_false (Nat.not_lt.2 (by have h_ := c43; (simp only [ByteArray.size_append] at h_); exact h_))
         replace H := Option.bind_eq_some_iff.mp H
         obtain ⟨t362, A440, H⟩ := H
         replace H : (if (((((⟨#[116, 101, 120, 116]⟩ : ByteArray) ++ ((⟨#[32]⟩ : ByteArray) ++ t355)) ++ (⟨#[32]⟩ : ByteArray)) ++ t361) ++ (⟨#[32, 64]⟩ : ByteArray)).size + t362.size ≤ 9223372036854775807 then (some ((((((⟨#[116, 101, 120, 116]⟩ : ByteArray) ++ ((⟨#[32]⟩ : ByteArray) ++ t355)) ++ (⟨#[32]⟩ : ByteArray)) ++ t361) ++ (⟨#[32, 64]⟩ : ByteArray)) ++ t362)) else (none)) = some r := H
         have A44 := am A440
         clear A440
         by_cases c45 : (((((⟨#[116, 101, 120, 116]⟩ : ByteArray) ++ ((⟨#[32]⟩ : ByteArray) ++ t355)) ++ (⟨#[32]⟩ : ByteArray)) ++ t361) ++ (⟨#[32, 64]⟩ : ByteArray)).size + t362.size ≤ 9223372036854775807
         ·rw [if_pos c45] at H
          have c45b0 := eq_true c45
          have c45b1 : decide ((((((⟨#[116, 101, 120, 116]⟩ : ByteArray) ++ ((⟨#[32]⟩ : ByteArray) ++ t355)) ++ (⟨#[32]⟩ : ByteArray)) ++ t361) ++ (⟨#[32, 64]⟩ : ByteArray)).size + t362.size ≤ 9223372036854775807) = true := decide_eq_true c45
          try have c45b2 : (9223372036854775807 < (((((⟨#[116, 101, 120, 116]⟩ : ByteArray) ++ ((⟨#[32]⟩ : ByteArray) ++ t355)) ++ (⟨#[32]⟩ : ByteArray)) ++ t361) ++ (⟨#[32, 64]⟩ : ByteArray)).size + t362.size) = False := eq_false (Nat.not_lt.2 c45)
          have c45b3 : (9223372036854775807 < 4 + (1 + t355.size) + 1 + t361.size + 2 + t362.size) = False := eq_false (Nat.not_lt.2 (by have h_ := c45; (simp only [ByteArray.size_append] at h_); exact h_))
          obtain rfl := Option.some.inj H
          go_enter Tryd.func19, Tryd.ntmps19
          go_wp2_with (first | ((with_reducible refine gate_dst (N := 1) rfl ?_); refine box_event ?hg (N := 1) ?hd (cs := #[.int .i64 a0_0, .int .i64 a0_1, .int .i64 a0_2, .int .i64 a0_3, .int .i64 a0_4, .int .i64 a0_5]) (t := 40) ?hr ?_; (case hd => rfl); (case hg => rfl); (case hr => first | (go_simp; done) | (go_simp; rfl)); intro gb354 hg w46 hbox hb; have n0_ := am (below_step (bU HB.out) hb); have n1_ := am (hbox); have n2_ := am ((by rw [hg]; exact (below_size (bU HB.out)) : w.heap.size ≤ gb354)); have n3_ := am ((by rw [hg]; exact (below_size (bU HB.out)) : w.heap.size ≤ gb354)); clear HB; have HB := n0_; have BK354 := n1_; have GW354 := n2_; have GE354 := n3_; clear n0_ n1_ n2_ n3_; clear hb hbox hg; obtain ⟨hcz47_0, hcz47_1, hcz47_2, hcz47_3, hcz47_4, hcz47_5⟩ := bc6 BK354.out; obtain ⟨hfz47_0, hfz47_1, hfz47_2, hfz47_3, hfz47_4, hfz47_5⟩ := bf6 BK354.out) | ((with_reducible refine gate_callee (f := 31) rfl ?_); refine goesL_ (some 6) rfl rfl Tryd.func31 (by kernel_rfl) rfl #[.int .i64 a0_1] rfl mU ?_; (with_reducible refine (impl_FormatInt.calls a0_1 t355 _ ?sidet A2.out).mono ?_); (case sidet => exact tab_on HTAB (bS HB.out GE354.out)); rintro e w48 ⟨rfl, hb⟩; refine ⟨_, rfl, ?_⟩; have n0_ := am (kB BK354.out hb); have n1_ := am (below_step (bS HB.out GE354.out) hb); clear BK354; clear HB; have BK354 := n0_; have HB := n1_; clear n0_ n1_; (try clear hb); (try clear hb2); (try clear hk); (try clear hi); obtain ⟨hcz49_0, hcz49_1, hcz49_2, hcz49_3, hcz49_4, hcz49_5⟩ := bc6 BK354.out; obtain ⟨hfz49_0, hfz49_1, hfz49_2, hfz49_3, hfz49_4, hfz49_5⟩ := bf6 BK354.out) | ((with_reducible refine gate_callee (f := 31) rfl ?_); refine goesL_ (some 40) rfl rfl Tryd.func31 (by kernel_rfl) rfl #[.int .i64 a0_4] rfl mU ?_; (with_reducible refine (impl_FormatInt.calls a0_4 t361 _ ?sidet A41.out).mono ?_); (case sidet => exact tab_on HTAB (bS HB.out GE354.out)); rintro e w50 ⟨rfl, hb⟩; refine ⟨_, rfl, ?_⟩; have n0_ := am (kB BK354.out hb); have n1_ := am (below_step (bS HB.out GE354.out) hb); clear BK354; clear HB; have BK354 := n0_; have HB := n1_; clear n0_ n1_; (try clear hb); (try clear hb2); (try clear hk); (try clear hi); obtain ⟨hcz51_0, hcz51_1, hcz51_2, hcz51_3, hcz51_4, hcz51_5⟩ := bc6 BK354.out; obtain ⟨hfz51_0, hfz51_1, hfz51_2, hfz51_3, hfz51_4, hfz51_5⟩ := bf6 BK354.out) | ((with_reducible refine gate_callee (f := 31) rfl ?_); refine goesL_ (some 55) rfl rfl Tryd.func31 (by kernel_rfl) rfl #[.int .i64 a0_5] rfl mU ?_; (with_reducible refine (impl_FormatInt.calls a0_5 t362 _ ?sidet A44.out).mono ?_); (case sidet => exact tab_on HTAB (bS HB.out GE354.out)); rintro e w52 ⟨rfl, hb⟩; refine ⟨_, rfl, ?_⟩; have n0_ := am (kB BK354.out hb); have n1_ := am (below_step (bS HB.out GE354.out) hb); clear BK354; clear HB; have BK354 := n0_; have HB := n1_; clear n0_ n1_; (try clear hb); (try clear hb2); (try clear hk); (try clear hi)))
          go_ret
          exact ⟨eU, bS HB.out GE354.out⟩
         ·rw [if_neg c45] at H
          exact absurd H (by simp)
        ·rw [if_neg c43] at H
         exact absurd H (by simp)
       ·rw [if_neg c42] at H
        exact absurd H (by simp)
      ·rw [if_neg c40] at H
       exact absurd H (by simp)
     ·rw [if_neg c39] at H
      exact absurd H (by simp)
    ·rw [if_neg c38] at H
     have c38b0 : (a0_0 == 3) = false := beq_eq_false_iff_ne.mpr c38
     have c38b1 : (a0_0 != 3) = true := bne_iff_ne.mpr c38
     by_cases c53 : a0_0 = 4
     ·rw [if_pos c53] at H
      have c53b0 : (a0_0 == 4) = true := beq_iff_eq.mpr c53
      have c53b1 : (a0_0 != 4) = false := bne_eq_false_iff_eq.mpr c53
      clear c53
      by_cases c54 : 4 + ((⟨#[32]⟩ : ByteArray) ++ t355).size ≤ 9223372036854775807
      ·rw [if_pos c54] at H
       have c54b0 := eq_true c54
       have c54b1 : decide (4 + ((⟨#[32]⟩ : ByteArray) ++ t355).size ≤ 9223372036854775807) = true := decide_eq_true c54
       try have c54b2 : (9223372036854775807 < 4 + ((⟨#[32]⟩ : ByteArray) ++ t355).size) = False := eq_false (Nat.not_lt.2 c54)
       have c54b3 : (9223372036854775807 < 4 + (1 + t355.size)) = False := eq_false (Nat.not_lt.2 (by have h_ := c54; (simp only [ByteArray.size_append] at h_); exact h_))
       by_cases c55 : ((⟨#[109, 111, 118, 101]⟩ : ByteArray) ++ ((⟨#[32]⟩ : ByteArray) ++ t355)).size + 1 ≤ 9223372036854775807
       ·rw [if_pos c55] at H
        have c55b0 := eq_true c55
        have c55b1 : decide (((⟨#[109, 111, 118, 101]⟩ : ByteArray) ++ ((⟨#[32]⟩ : ByteArray) ++ t355)).size + 1 ≤ 9223372036854775807) = true := decide_eq_true c55
        try have c55b2 : (9223372036854775807 < ((⟨#[109, 111, 118, 101]⟩ : ByteArray) ++ ((⟨#[32]⟩ : ByteArray) ++ t355)).size + 1) = False := eq_false (Nat.not_lt.2 c55)
        have c55b3 : (9223372036854775807 < 4 + (1 + t355.size) + 1) = False := eq_false (Nat.not_lt.2 (by have h_ := c55; (simp only [ByteArray.size_append] at h_); exact h_))
        replace H := Option.bind_eq_some_iff.mp H
        obtain ⟨t363, A560, H⟩ := H
        replace H : (if (((⟨#[109, 111, 118, 101]⟩ : ByteArray) ++ ((⟨#[32]⟩ : ByteArray) ++ t355)) ++ (⟨#[32]⟩ : ByteArray)).size + t363.size ≤ 9223372036854775807 then (if ((((⟨#[109, 111, 118, 101]⟩ : ByteArray) ++ ((⟨#[32]⟩ : ByteArray) ++ t355)) ++ (⟨#[32]⟩ : ByteArray)) ++ t363).size + 2 ≤ 9223372036854775807 then ((impl_FormatInt.f a0_5).bind fun t364 => (if (((((⟨#[109, 111, 118, 101]⟩ : ByteArray) ++ ((⟨#[32]⟩ : ByteArray) ++ t355)) ++ (⟨#[32]⟩ : ByteArray)) ++ t363) ++ (⟨#[32, 64]⟩ : ByteArray)).size + t364.size ≤ 9223372036854775807 then (some ((((((⟨#[109, 111, 118, 101]⟩ : ByteArray) ++ ((⟨#[32]⟩ : ByteArray) ++ t355)) ++ (⟨#[32]⟩ : ByteArray)) ++ t363) ++ (⟨#[32, 64]⟩ : ByteArray)) ++ t364)) else (none))) else (none)) else (none)) = some r := H
        have A56 := am A560
        clear A560
        by_cases c57 : (((⟨#[109, 111, 118, 101]⟩ : ByteArray) ++ ((⟨#[32]⟩ : ByteArray) ++ t355)) ++ (⟨#[32]⟩ : ByteArray)).size + t363.size ≤ 9223372036854775807
        ·rw [if_pos c57] at H
         have c57b0 := eq_true c57
         have c57b1 : decide ((((⟨#[109, 111, 118, 101]⟩ : ByteArray) ++ ((⟨#[32]⟩ : ByteArray) ++ t355)) ++ (⟨#[32]⟩ : ByteArray)).size + t363.size ≤ 9223372036854775807) = true := decide_eq_true c57
         try have c57b2 : (9223372036854775807 < (((⟨#[109, 111, 118, 101]⟩ : ByteArray) ++ ((⟨#[32]⟩ : ByteArray) ++ t355)) ++ (⟨#[32]⟩ : ByteArray)).size + t363.size) = False := eq_false (Nat.not_lt.2 c57)
         have c57b3 : (9223372036854775807 < 4 + (1 + t355.size) + 1 + t363.size) = False := eq_false (Nat.not_lt.2 (by have h_ := c57; (simp only [ByteArray.size_append] at h_); exact h_))
         by_cases c58 : ((((⟨#[109, 111, 118, 101]⟩ : ByteArray) ++ ((⟨#[32]⟩ : ByteArray) ++ t355)) ++ (⟨#[32]⟩ : ByteArray)) ++ t363).size + 2 ≤ 9223372036854775807
         ·rw [if_pos c58] at H
          have c58b0 := eq_true c58
          have c58b1 : decide (((((⟨#[109, 111, 118, 101]⟩ : ByteArray) ++ ((⟨#[32]⟩ : ByteArray) ++ t355)) ++ (⟨#[32]⟩ : ByteArray)) ++ t363).size + 2 ≤ 9223372036854775807) = true := decide_eq_true c58
          try have c58b2 : (9223372036854775807 < ((((⟨#[109, 111, 118, 101]⟩ : ByteArray) ++ ((⟨#[32]⟩ : ByteArray) ++ t355)) ++ (⟨#[32]⟩ : ByteArray)) ++ t363).size + 2) = False := eq_false (Nat.not_lt.2 c58)
          have c58b3 : (9223372036854775807 < 4 + (1 + t355.size) + 1 + t363.size + 2) = False := eq_false (Nat.not_lt.2 (by have h_ := c58; (simp only [ByteArray.size_append] at h_); exact h_))
          replace H := Option.bind_eq_some_iff.mp H
          obtain ⟨t364, A590, H⟩ := H
          replace H : (if (((((⟨#[109, 111, 118, 101]⟩ : ByteArray) ++ ((⟨#[32]⟩ : ByteArray) ++ t355)) ++ (⟨#[32]⟩ : ByteArray)) ++ t363) ++ (⟨#[32, 64]⟩ : ByteArray)).size + t364.size ≤ 9223372036854775807 then (some ((((((⟨#[109, 111, 118, 101]⟩ : ByteArray) ++ ((⟨#[32]⟩ : ByteArray) ++ t355)) ++ (⟨#[32]⟩ : ByteArray)) ++ t363) ++ (⟨#[32, 64]⟩ : ByteArray)) ++ t364)) else (none)) = some r := H
          have A59 := am A590
          clear A590
          by_cases c60 : (((((⟨#[109, 111, 118, 101]⟩ : ByteArray) ++ ((⟨#[32]⟩ : ByteArray) ++ t355)) ++ (⟨#[32]⟩ : ByteArray)) ++ t363) ++ (⟨#[32, 64]⟩ : ByteArray)).size + t364.size ≤ 9223372036854775807
          ·rw [if_pos c60] at H
           have c60b0 := eq_true c60
           have c60b1 : decide ((((((⟨#[109, 111, 118, 101]⟩ : ByteArray) ++ ((⟨#[32]⟩ : ByteArray) ++ t355)) ++ (⟨#[32]⟩ : ByteArray)) ++ t363) ++ (⟨#[32, 64]⟩ : ByteArray)).size + t364.size ≤ 9223372036854775807) = true := decide_eq_true c60
           try have c60b2 : (9223372036854775807 < (((((⟨#[109, 111, 118, 101]⟩ : ByteArray) ++ ((⟨#[32]⟩ : ByteArray) ++ t355)) ++ (⟨#[32]⟩ : ByteArray)) ++ t363) ++ (⟨#[32, 64]⟩ : ByteArray)).size + t364.size) = False := eq_false (Nat.not_lt.2 c60)
           have c60b3 : (9223372036854775807 < 4 + (1 + t355.size) + 1 + t363.size + 2 + t364.size) = False := eq_false (Nat.not_lt.2 (by have h_ := c60; (simp only [ByteArray.size_append] at h_); exact h_))
           obtain rfl := Option.some.inj H
           go_enter Tryd.func19, Tryd.ntmps19
           go_wp2_with (first | ((with_reducible refine gate_dst (N := 1) rfl ?_); refine box_event ?hg (N := 1) ?hd (cs := #[.int .i64 a0_0, .int .i64 a0_1, .int .i64 a0_2, .int .i64 a0_3, .int .i64 a0_4, .int .i64 a0_5]) (t := 40) ?hr ?_; (case hd => rfl); (case hg => rfl); (case hr => first | (go_simp; done) | (go_simp; rfl)); intro gb354 hg w61 hbox hb; have n0_ := am (below_step (bU HB.out) hb); have n1_ := am (hbox); have n2_ := am ((by rw [hg]; exact (below_size (bU HB.out)) : w.heap.size ≤ gb354)); have n3_ := am ((by rw [hg]; exact (below_size (bU HB.out)) : w.heap.size ≤ gb354)); clear HB; have HB := n0_; have BK354 := n1_; have GW354 := n2_; have GE354 := n3_; clear n0_ n1_ n2_ n3_; clear hb hbox hg; obtain ⟨hcz62_0, hcz62_1, hcz62_2, hcz62_3, hcz62_4, hcz62_5⟩ := bc6 BK354.out; obtain ⟨hfz62_0, hfz62_1, hfz62_2, hfz62_3, hfz62_4, hfz62_5⟩ := bf6 BK354.out) | ((with_reducible refine gate_callee (f := 31) rfl ?_); refine goesL_ (some 6) rfl rfl Tryd.func31 (by kernel_rfl) rfl #[.int .i64 a0_1] rfl mU ?_; (with_reducible refine (impl_FormatInt.calls a0_1 t355 _ ?sidet A2.out).mono ?_); (case sidet => exact tab_on HTAB (bS HB.out GE354.out)); rintro e w63 ⟨rfl, hb⟩; refine ⟨_, rfl, ?_⟩; have n0_ := am (kB BK354.out hb); have n1_ := am (below_step (bS HB.out GE354.out) hb); clear BK354; clear HB; have BK354 := n0_; have HB := n1_; clear n0_ n1_; (try clear hb); (try clear hb2); (try clear hk); (try clear hi); obtain ⟨hcz64_0, hcz64_1, hcz64_2, hcz64_3, hcz64_4, hcz64_5⟩ := bc6 BK354.out; obtain ⟨hfz64_0, hfz64_1, hfz64_2, hfz64_3, hfz64_4, hfz64_5⟩ := bf6 BK354.out) | ((with_reducible refine gate_callee (f := 31) rfl ?_); refine goesL_ (some 49) rfl rfl Tryd.func31 (by kernel_rfl) rfl #[.int .i64 a0_2] rfl mU ?_; (with_reducible refine (impl_FormatInt.calls a0_2 t363 _ ?sidet A56.out).mono ?_); (case sidet => exact tab_on HTAB (bS HB.out GE354.out)); rintro e w65 ⟨rfl, hb⟩; refine ⟨_, rfl, ?_⟩; have n0_ := am (kB BK354.out hb); have n1_ := am (below_step (bS HB.out GE354.out) hb); clear BK354; clear HB; have BK354 := n0_; have HB := n1_; clear n0_ n1_; (try clear hb); (try clear hb2); (try clear hk); (try clear hi); obtain ⟨hcz66_0, hcz66_1, hcz66_2, hcz66_3, hcz66_4, hcz66_5⟩ := bc6 BK354.out; obtain ⟨hfz66_0, hfz66_1, hfz66_2, hfz66_3, hfz66_4, hfz66_5⟩ := bf6 BK354.out) | ((with_reducible refine gate_callee (f := 31) rfl ?_); refine goesL_ (some 55) rfl rfl Tryd.func31 (by kernel_rfl) rfl #[.int .i64 a0_5] rfl mU ?_; (with_reducible refine (impl_FormatInt.calls a0_5 t364 _ ?sidet A59.out).mono ?_); (case sidet => exact tab_on HTAB (bS HB.out GE354.out)); rintro e w67 ⟨rfl, hb⟩; refine ⟨_, rfl, ?_⟩; have n0_ := am (kB BK354.out hb); have n1_ := am (below_step (bS HB.out GE354.out) hb); clear BK354; clear HB; have BK354 := n0_; have HB := n1_; clear n0_ n1_; (try clear hb); (try clear hb2); (try clear hk); (try clear hi)))
           go_ret
           exact ⟨eU, bS HB.out GE354.out⟩
          ·rw [if_neg c60] at H
           exact absurd H (by simp)
         ·rw [if_neg c58] at H
          exact absurd H (by simp)
        ·rw [if_neg c57] at H
         exact absurd H (by simp)
       ·rw [if_neg c55] at H
        exact absurd H (by simp)
      ·rw [if_neg c54] at H
       exact absurd H (by simp)
     ·rw [if_neg c53] at H
      have c53b0 : (a0_0 == 4) = false := beq_eq_false_iff_ne.mpr c53
      have c53b1 : (a0_0 != 4) = true := bne_iff_ne.mpr c53
      obtain rfl := Option.some.inj H
      go_enter Tryd.func19, Tryd.ntmps19
      go_wp2_with (first | ((with_reducible refine gate_dst (N := 1) rfl ?_); refine box_event ?hg (N := 1) ?hd (cs := #[.int .i64 a0_0, .int .i64 a0_1, .int .i64 a0_2, .int .i64 a0_3, .int .i64 a0_4, .int .i64 a0_5]) (t := 40) ?hr ?_; (case hd => rfl); (case hg => rfl); (case hr => first | (go_simp; done) | (go_simp; rfl)); intro gb354 hg w68 hbox hb; have n0_ := am (below_step (bU HB.out) hb); have n1_ := am (hbox); have n2_ := am ((by rw [hg]; exact (below_size (bU HB.out)) : w.heap.size ≤ gb354)); have n3_ := am ((by rw [hg]; exact (below_size (bU HB.out)) : w.heap.size ≤ gb354)); clear HB; have HB := n0_; have BK354 := n1_; have GW354 := n2_; have GE354 := n3_; clear n0_ n1_ n2_ n3_; clear hb hbox hg; obtain ⟨hcz69_0, hcz69_1, hcz69_2, hcz69_3, hcz69_4, hcz69_5⟩ := bc6 BK354.out; obtain ⟨hfz69_0, hfz69_1, hfz69_2, hfz69_3, hfz69_4, hfz69_5⟩ := bf6 BK354.out) | ((with_reducible refine gate_callee (f := 31) rfl ?_); refine goesL_ (some 6) rfl rfl Tryd.func31 (by kernel_rfl) rfl #[.int .i64 a0_1] rfl mU ?_; (with_reducible refine (impl_FormatInt.calls a0_1 t355 _ ?sidet A2.out).mono ?_); (case sidet => exact tab_on HTAB (bS HB.out GE354.out)); rintro e w70 ⟨rfl, hb⟩; refine ⟨_, rfl, ?_⟩; have n0_ := am (kB BK354.out hb); have n1_ := am (below_step (bS HB.out GE354.out) hb); clear BK354; clear HB; have BK354 := n0_; have HB := n1_; clear n0_ n1_; (try clear hb); (try clear hb2); (try clear hk); (try clear hi); obtain ⟨hcz71_0, hcz71_1, hcz71_2, hcz71_3, hcz71_4, hcz71_5⟩ := bc6 BK354.out; obtain ⟨hfz71_0, hfz71_1, hfz71_2, hfz71_3, hfz71_4, hfz71_5⟩ := bf6 BK354.out))
      go_ret
      exact ⟨eU, bS HB.out GE354.out⟩
 ·rw [if_neg c3] at H
  exact absurd H (by simp)
def spec_l5Edits.l0 : Nat → List (S40) → Int → List Int → Int → Int → Option ((List (S40)) × Int × Int)
 | 0, _, _, _, _, _ => none
 | k + 1, x5, x6, x1000, x1001, x1002 => if x6 > 0 then ((spec_l5Edit.f x1000 x1001 x1002).bind fun bt371 => (if x5.length < 2932031007402 then (spec_l5Edits.l0 k (x5 ++ [(⟨bt371.1, bt371.2.1, bt371.2.2.1, bt371.2.2.2.1, bt371.2.2.2.2.1, bt371.2.2.2.2.2.1⟩ : S40)]) (wrap64 (x6 - 1)) x1000 bt371.2.2.2.2.2.2.1 bt371.2.2.2.2.2.2.2) else (none))) else (some (x5, x1001, x1002))
def spec_l5Edits.f (k : Nat) (s0_0 : List Int) (s0_1 : Int) (s0_2 : Int) (a1 : Int) : Option ((List (S40)) × Int × Int) := (spec_l1Below.f s0_0 s0_1 s0_2 a1).bind fun bt368 => (spec_l5Edits.l0 k (([] : List (S40))) bt368.1 s0_0 bt368.2.1 bt368.2.2)
theorem spec_l5Edits.mono_l : ∀ k, (∀ y0 y1 y2 y3 y4, LeO (spec_l5Edits.l0 k y0 y1 y2 y3 y4) (spec_l5Edits.l0 (k + 1) y0 y1 y2 y3 y4))
 | 0 => fun _ _ _ _ _ r h => by simp [spec_l5Edits.l0] at h
 | k + 1 => by
  have ih0 := spec_l5Edits.mono_l k
  ·intro y0 y1 y2 y3 y4
   unfold spec_l5Edits.l0
   repeat' first
   | (with_reducible exact ih0 _ _ _ _ _)
   | (with_reducible exact LeO.refl _)
   | (with_reducible exact LeO.none _)
   | (with_reducible refine LeO.ite ?_ ?_)
   | (with_reducible refine LeO.bind ?_ (fun _ => ?_))
   | exact ih0 _ _ _ _ _
   | exact LeO.none _
   | refine LeO.ite ?_ ?_
   | refine LeO.bind ?_ (fun _ => ?_)
theorem spec_l5Edits.mono : ∀ a0 a1 a2 a3 k, LeO (spec_l5Edits.f k a0 a1 a2 a3) (spec_l5Edits.f (k + 1) a0 a1 a2 a3) := by
 intro a0 a1 a2 a3 k
 have ih0 := spec_l5Edits.mono_l k
 unfold spec_l5Edits.f
 repeat' first
   | (with_reducible exact ih0 _ _ _ _ _)
   | (with_reducible exact LeO.refl _)
   | (with_reducible exact LeO.none _)
   | (with_reducible refine LeO.ite ?_ ?_)
   | (with_reducible refine LeO.bind ?_ (fun _ => ?_))
   | exact ih0 _ _ _ _ _
   | exact LeO.none _
   | refine LeO.ite ?_ ?_
   | refine LeO.bind ?_ (fun _ => ?_)
set_option maxHeartbeats 8000000 in
set_option maxRecDepth 100000 in
theorem spec_l5Edits.calls (k : Nat) (g : Nat) (s0_0 : List Int) (s0_1 : Int) (s0_2 : Int) (a1 : Int) (r1 : List (S40)) (r2 : Int) (r3 : Int) (w0 w : World) (hI : IsS65 w0 w g s0_0 s0_1 s0_2) (hB : Below w0.heap.size w0 w) (h : spec_l5Edits.f k s0_0 s0_1 s0_2 a1 = some (r1, r2, r3)) :
  Calls Tryd.prog 37 #[.pointer (some ⟨g, 0, none⟩), .int .i64 a1] w fun e w' => ∃ v0_ : Value, e = .returned (v0_) ∧ Kd.R k40 40 w' w.heap.size (fun _ => True) v0_ r1 ∧ IsS65 w0 w' g s0_0 r2 r3 ∧ Below w0.heap.size w0 w' ∧ KeepBut w w' g none := by
 have HI0 := am hI
 have HK := am (KeepBut.refl w g none)
 have HL := am hB.size
 clear hI
 have HW0 := am hB.size
 have HB := am hB
 clear hB
 have H : ((spec_l1Below.f s0_0 s0_1 s0_2 a1).bind fun bt368 => (spec_l5Edits.l0 k (([] : List (S40))) bt368.1 s0_0 bt368.2.1 bt368.2.2)) = some (r1, r2, r3) := h
 clear h
 obtain ⟨y365, hy365⟩ : ∃ y_ : List (S40), y_ = (([] : List (S40))) := ⟨_, rfl⟩
 replace H : ((spec_l1Below.f s0_0 s0_1 s0_2 a1).bind fun bt368 => (spec_l5Edits.l0 k y365 bt368.1 s0_0 bt368.2.1 bt368.2.2)) = some (r1, r2, r3) := by first | (rw [hy365]; with_reducible exact H) | (have H2_ := (Option.bind_some _ _).symm.trans H; rw [hy365]; with_reducible exact H2_) | (have H2_ := (Option.bind_some _ _).symm.trans H; with_reducible exact H2_) | with_reducible exact H | (rw [hy365]; exact H) | exact H
 have Ny365 := am hy365
 clear hy365
 replace H := Option.bind_eq_some_iff.mp H
 obtain ⟨⟨t368, t369, t370⟩, A30, H⟩ := H
 replace H : (spec_l5Edits.l0 k y365 t368 s0_0 t369 t370) = some (r1, r2, r3) := H
 have A3 := am A30
 clear A30
 have H' := am H
 clear H
 go_enter Tryd.func37, Tryd.ntmps37
 go_wp2_with (first | ((with_reducible refine gate_dst (N := 7) rfl ?_); refine Kd.R_lit k40 _ 40 ?hg (N := 7) ?hd (xs := ([] : List (S40))) (inner := []) (ok := fun _ => True) (okp := fun _ => True) ?hr ?hp (fun _ hk => hk) trivial (Below.refl _ _) (Nat.le_refl _) (by simp) ?_; (case hd => rfl); (case hg => rfl); (case hr => first | (go_simp; done) | (go_simp; rfl)); (case hp => exact (Reps.none _ _)); intro v366 w4 ho5 hb hg_ hnew_; clear hg_ hnew_; (first | rw [← Ny365.out] at ho5 | (simp only [Int.reduceToNat] at ho5; rw [← Ny365.out] at ho5)); have n0_ := am (Kd.R_lower ho5 (keep_size (w := w) (g := g) (row := none) (by repeat (first | (with_reducible first | exact HK.out | apply KeepBut.set_ | apply keep_drewN | apply keep_drew | apply keep_alloc) | exact HK.out)))); have n1_ := am (IsS65.below (by repeat (first | (with_reducible first | exact HI0.out | apply IsS65.alloc | apply IsS65.drewN | apply IsS65.drew | apply IsS65.set_1 | apply IsS65.set_2) | exact HI0.out)) hb); have n2_ := am (KeepBut.trans (by repeat (first | (with_reducible first | exact HK.out | apply KeepBut.set_ | apply keep_drewN | apply keep_drew | apply keep_alloc) | exact HK.out)) (KeepBut.of_below hb g none) (.inl rfl)); have n3_ := am (below_step (by repeat (first | (with_reducible first | exact HB.out | apply below_alloc | apply pw_below_drewN | apply below_drew1 | refine below_set ?_ (IsS65.ge HI0.out)) | exact HB.out)) hb); clear HI0; clear HK; clear HB; have HO367 := n0_; have HI0 := n1_; have HK := n2_; have HB := n3_; clear n0_ n1_ n2_ n3_; clear hb ho5) | ((with_reducible refine gate_callee (f := 24) rfl ?_); refine goesL_ (some 10) rfl rfl Tryd.func24 (by kernel_rfl) rfl #[.pointer (some ⟨g, 0, none⟩), .int .i64 a1] rfl mU ?_; (with_reducible refine (spec_l1Below.calls g s0_0 s0_1 s0_2 a1 t368 t369 t370 w0 _ ?side1 ?side2 A3.out).mono ?_); (case side1 => repeat (first | (with_reducible first | exact HI0.out | apply IsS65.alloc | apply IsS65.drewN | apply IsS65.drew | apply IsS65.set_1 | apply IsS65.set_2) | exact HI0.out)); (case side2 => repeat (first | (with_reducible first | exact HB.out | apply below_alloc | apply pw_below_drewN | apply below_drew1 | refine below_set ?_ (IsS65.ge HI0.out)) | exact HB.out)); rintro e w6 ⟨rfl, hi, hb, hk⟩; refine ⟨_, rfl, ?_⟩; have n0_ := am (Kd.R_mono (Kd.R_keep (IsS65.apart (show IsS65 w0 _ g s0_0 s0_1 s0_2 from by repeat (first | (with_reducible first | exact HI0.out | apply IsS65.alloc | apply IsS65.drewN | apply IsS65.drew | apply IsS65.set_1 | apply IsS65.set_2) | exact HI0.out)) (rU HO367.out) (by decide)) hk (fun _ h => h.2)) (fun _ h => h.1)); have n1_ := am (KeepBut.trans (by repeat (first | (with_reducible first | exact HK.out | apply KeepBut.set_ | apply keep_drewN | apply keep_drew | apply keep_alloc) | exact HK.out)) hk (.inl rfl)); have n2_ := am (hb); have n3_ := am (hi); clear HO367; clear HK; clear HB; clear HI0; have HO367 := n0_; have HK := n1_; have HB := n2_; have HI0 := n3_; clear n0_ n1_ n2_ n3_; (try clear hb); (try clear hb2); (try clear hk); (try clear hi)))
 go_loopg [5, 6] k (fun kq v5 v6 w' => ∃ (x5_1 : List (S40)) (x6_1 : Int) (x1001_1 : Int) (x1002_1 : Int), v6 = .int .i64 x6_1 ∧ Aside0 (spec_l5Edits.l0 kq x5_1 x6_1 s0_0 x1001_1 x1002_1 = some (r1, r2, r3)) ∧ Aside0 (kq ≤ k) ∧ Aside0 (Kd.R k40 40 w' w.heap.size (fun _ => True) v5 x5_1) ∧ Aside0 (IsS65 w0 w' g s0_0 x1001_1 x1002_1) ∧ Aside0 (KeepBut w w' g none) ∧ Aside0 (Below w0.heap.size w0 w'))
 case atStart => exact ⟨(y365), (t368), (t369), (t370), (by first | rfl | (simp; done) | (simp [*]; done)), H', ⟨Nat.le_refl _⟩, ⟨rU HO367.out⟩, ⟨by repeat (first | (with_reducible first | exact HI0.out | apply IsS65.alloc | apply IsS65.drewN | apply IsS65.drew | apply IsS65.set_1 | apply IsS65.set_2) | exact HI0.out)⟩, ⟨by repeat (first | (with_reducible first | exact HK.out | apply KeepBut.set_ | apply keep_drewN | apply keep_drew | apply keep_alloc) | exact HK.out)⟩, ⟨by repeat (first | (with_reducible first | exact HB.out | apply below_alloc | apply pw_below_drewN | apply below_drew1 | refine below_set ?_ (IsS65.ge HI0.out)) | exact HB.out)⟩⟩
 case round =>
  clear H'
  try clear c2
  try clear p2
  try clear c3
  obtain ⟨x5_1, x6_1, x1001_1, x1002_1, rfl, HA, HK1, HO_5, HI0, HK, HB⟩ := hrel
  cases gk with
  | zero => exact absurd HA.out (by simp [spec_l5Edits.l0])
  | succ k1 =>
   have H := HA.out
   clear HA
   simp only [spec_l5Edits.l0] at H
   by_cases c7 : x6_1 > 0
   ·rw [if_pos c7] at H
    have c7b0 : decide (0 < x6_1) = true := decide_eq_true c7
    clear c7
    replace H := Option.bind_eq_some_iff.mp H
    obtain ⟨⟨t371, t372, t373, t374, t375, t376, t377, t378⟩, A80, H⟩ := H
    replace H : (if x5_1.length < 2932031007402 then (spec_l5Edits.l0 k1 (x5_1 ++ [(⟨t371, t372, t373, t374, t375, t376⟩ : S40)]) (wrap64 (x6_1 - 1)) s0_0 t377 t378) else (none)) = some (r1, r2, r3) := H
    have A8 := am A80
    clear A80
    by_cases c9 : x5_1.length < 2932031007402
    ·rw [if_pos c9] at H
     have LMc9 := am c9
     clear c9
     obtain ⟨y379, hy379⟩ : ∃ y_ : List (S40), y_ = (x5_1 ++ [(⟨t371, t372, t373, t374, t375, t376⟩ : S40)]) := ⟨_, rfl⟩
     replace H : (spec_l5Edits.l0 k1 y379 (wrap64 (x6_1 - 1)) s0_0 t377 t378) = some (r1, r2, r3) := by first | (rw [hy379]; with_reducible exact H) | (have H2_ := (Option.bind_some _ _).symm.trans H; rw [hy379]; with_reducible exact H2_) | (have H2_ := (Option.bind_some _ _).symm.trans H; with_reducible exact H2_) | with_reducible exact H | (rw [hy379]; exact H) | exact H
     have Ny379 := am hy379
     clear hy379
     have H' := am H
     clear H
     go_wp2_with (first | ((with_reducible refine gate_callee (f := 42) rfl ?_); refine goesL_ (some 17) rfl rfl Tryd.func42 (by kernel_rfl) rfl #[.pointer (some ⟨g, 0, none⟩)] rfl mU ?_; (with_reducible refine (spec_l5Edit.calls g s0_0 x1001_1 x1002_1 t371 t372 t373 t374 t375 t376 t377 t378 w0 _ ?side1 ?side2 A8.out).mono ?_); (case side1 => repeat (first | (with_reducible first | exact HI0.out | apply IsS65.alloc | apply IsS65.drewN | apply IsS65.drew | apply IsS65.set_1 | apply IsS65.set_2) | exact HI0.out)); (case side2 => repeat (first | (with_reducible first | exact HB.out | apply below_alloc | apply pw_below_drewN | apply below_drew1 | refine below_set ?_ (IsS65.ge HI0.out)) | exact HB.out)); rintro e w10 ⟨rfl, hi, hb, hk⟩; refine ⟨_, rfl, ?_⟩; have n0_ := am (Kd.R_mono (Kd.R_keep (IsS65.apart (show IsS65 w0 _ g s0_0 x1001_1 x1002_1 from by repeat (first | (with_reducible first | exact HI0.out | apply IsS65.alloc | apply IsS65.drewN | apply IsS65.drew | apply IsS65.set_1 | apply IsS65.set_2) | exact HI0.out)) (rU HO_5.out) (by decide)) hk (fun _ h => h.2)) (fun _ h => h.1)); have n1_ := am (KeepBut.trans (by repeat (first | (with_reducible first | exact HK.out | apply KeepBut.set_ | apply keep_drewN | apply keep_drew | apply keep_alloc) | exact HK.out)) hk (.inl rfl)); have n2_ := am (hb); have n3_ := am (hi); clear HO_5; clear HK; clear HB; clear HI0; have HO_5 := n0_; have HK := n1_; have HB := n2_; have HI0 := n3_; clear n0_ n1_ n2_ n3_; (try clear hb); (try clear hb2); (try clear hk); (try clear hi)) | ((with_reducible refine gate_builtin (b := .append) (xs := #[.tmp 15, .tmp 18]) rfl ?_); at_builtin; refine Kd.R_append k40 w.heap.size rfl (.tmp 15) (.tmp 18) 47 40 (.agg #[(.int .i64 0), (.int .i64 0), (.int .i64 0), (.int .i64 0), (.int .i64 0), (.int .i64 0)]) 48 rfl Tryd.underlying47 info40 rfl (by decide) (by omega) u5 x5_1 (⟨t371, t372, t373, t374, t375, t376⟩ : S40) [.int .i64 t371, .int .i64 t372, .int .i64 t373, .int .i64 t374, .int .i64 t375, .int .i64 t376] (fun _ => True) (fun _ => False) rfl rfl ?aP (fun _ hk => hk.elim) ?aF ?aO (Below.refl _ _) ?aS ?aL ?_; (case aP => exact k40_mkM _ _ _ (⟨t371, t372, t373, t374, t375, t376⟩ : S40)); (case aF => exact (fun _ _ => trivial)); (case aO => exact rU HO_5.out); (case aS => exact (keep_size (w := w) (g := g) (row := none) (by repeat (first | (with_reducible first | exact HK.out | apply KeepBut.set_ | apply keep_drewN | apply keep_drew | apply keep_alloc) | exact HK.out)))); (case aL => have := LMc9.out; omega); intro v380 w11 ho hb hg hat; rw [← Ny379.out] at ho; have n0_ := am (IsS65.grown (by repeat (first | (with_reducible first | exact HI0.out | apply IsS65.alloc | apply IsS65.drewN | apply IsS65.drew | apply IsS65.set_1 | apply IsS65.set_2) | exact HI0.out)) hg (IsS65.own_ne HI0.out HO_5.out (by decide))); have n1_ := am (below_weaken (by repeat (first | (with_reducible first | exact HB.out | apply below_alloc | apply pw_below_drewN | apply below_drew1 | refine below_set ?_ (IsS65.ge HI0.out)) | exact HB.out)) HL.out hb); have n2_ := am (KeepBut.trans (by repeat (first | (with_reducible first | exact HK.out | apply KeepBut.set_ | apply keep_drewN | apply keep_drew | apply keep_alloc) | exact HK.out)) (KeepBut.of_grown hg g) (Kd.R_base2 HO_5.out)); have n3_ := am (ho); clear HI0; clear HB; clear HK; clear HO_5; have HI0 := n0_; have HB := n1_; have HK := n2_; have HO381 := n3_; clear n0_ n1_ n2_ n3_; clear ho hb hg hat))
     go_roundg k1
     case measure => have := HK1.out; omega
     case rel => exact ⟨(y379), (wrap64 (x6_1 - 1)), (t377), (t378), (by first | rfl | (simp; done) | (simp [*]; done)), H', ⟨by have := HK1.out; omega⟩, ⟨rU HO381.out⟩, ⟨by repeat (first | (with_reducible first | exact HI0.out | apply IsS65.alloc | apply IsS65.drewN | apply IsS65.drew | apply IsS65.set_1 | apply IsS65.set_2) | exact HI0.out)⟩, ⟨by repeat (first | (with_reducible first | exact HK.out | apply KeepBut.set_ | apply keep_drewN | apply keep_drew | apply keep_alloc) | exact HK.out)⟩, ⟨by repeat (first | (with_reducible first | exact HB.out | apply below_alloc | apply pw_below_drewN | apply below_drew1 | refine below_set ?_ (IsS65.ge HI0.out)) | exact HB.out)⟩⟩
    ·rw [if_neg c9] at H
     exact absurd H (by simp)
   ·rw [if_neg c7] at H
    have c7b0 : decide (0 < x6_1) = false := decide_eq_false c7
    clear c7
    simp only [Option.some.injEq, Prod.mk.injEq] at H
    obtain ⟨rfl, rfl, rfl⟩ := H
    go_wp2
    go_ret
    exact ⟨_, eU, rU HO_5.out, by repeat (first | (with_reducible first | exact HI0.out | apply IsS65.alloc | apply IsS65.drewN | apply IsS65.drew | apply IsS65.set_1 | apply IsS65.set_2) | exact HI0.out), by repeat (first | (with_reducible first | exact HB.out | apply below_alloc | apply pw_below_drewN | apply below_drew1 | refine below_set ?_ (IsS65.ge HI0.out)) | exact HB.out), by repeat (first | (with_reducible first | exact HK.out | apply KeepBut.set_ | apply keep_drewN | apply keep_drew | apply keep_alloc) | exact HK.out)⟩
def spec_DrawRunEdits.f (k : Nat) (l0 : List Int) : Option ((List (S34)) × (List (S40))) := (spec_l1New.f k l0).bind fun bt382 => ((spec_l4Draw.f k bt382.1 bt382.2.1 bt382.2.2).bind fun bt386 => ((spec_l5Edits.f k bt382.1 bt386.2.1 bt386.2.2 9).bind fun bt391 => (some (bt386.1, bt391.1))))
theorem spec_DrawRunEdits.mono : ∀ a0 k, LeO (spec_DrawRunEdits.f k a0) (spec_DrawRunEdits.f (k + 1) a0) := by
 intro a0 k
 unfold spec_DrawRunEdits.f
 repeat' first
   | (with_reducible exact spec_l1New.mono _ _)
   | (with_reducible exact spec_l4Draw.mono _ _ _ _)
   | (with_reducible exact spec_l5Edits.mono _ _ _ _ _)
   | (with_reducible exact LeO.refl _)
   | (with_reducible exact LeO.none _)
   | (with_reducible refine LeO.ite ?_ ?_)
   | (with_reducible refine LeO.bind ?_ (fun _ => ?_))
   | exact spec_l1New.mono _ _
   | exact spec_l4Draw.mono _ _ _ _
   | exact spec_l5Edits.mono _ _ _ _ _
   | exact LeO.none _
   | refine LeO.ite ?_ ?_
   | refine LeO.bind ?_ (fun _ => ?_)
set_option maxHeartbeats 8000000 in
set_option maxRecDepth 100000 in
theorem spec_DrawRunEdits.calls (k : Nat) (A0 : Option Addr) (c0 : Nat) (l0 : List Int) (r1 : List (S34)) (r2 : List (S40)) (w : World) (hr0 : Kd.C (Kd.int .u8) w A0 l0.length l0) (hc0 : l0.length ≤ c0) (h : spec_DrawRunEdits.f k l0 = some (r1, r2)) :
  Calls Tryd.prog 20 #[.slice A0 l0.length c0] w fun e w' => ∃ v0_ v1_ : Value, e = .returned (.tuple #[v0_, v1_]) ∧ Kd.R k34 34 w' w.heap.size (fun _ => True) v0_ r1 ∧ Kd.R k40 40 w' w.heap.size (fun _ => True) v1_ r2 ∧ Below w.heap.size w w' := by
 have HR0 := am hr0
 have HC0 := am hc0
 clear hr0 hc0
 have HB := am (Below.refl w.heap.size w)
 have H : ((spec_l1New.f k l0).bind fun bt382 => ((spec_l4Draw.f k bt382.1 bt382.2.1 bt382.2.2).bind fun bt386 => ((spec_l5Edits.f k bt382.1 bt386.2.1 bt386.2.2 9).bind fun bt391 => (some (bt386.1, bt391.1))))) = some (r1, r2) := h
 clear h
 replace H := Option.bind_eq_some_iff.mp H
 obtain ⟨⟨t382, t383, t384⟩, A20, H⟩ := H
 replace H : ((spec_l4Draw.f k t382 t383 t384).bind fun bt386 => ((spec_l5Edits.f k t382 bt386.2.1 bt386.2.2 9).bind fun bt391 => (some (bt386.1, bt391.1)))) = some (r1, r2) := H
 have A2 := am A20
 clear A20
 replace H := Option.bind_eq_some_iff.mp H
 obtain ⟨⟨t386, t389, t390⟩, A30, H⟩ := H
 replace H : ((spec_l5Edits.f k t382 t389 t390 9).bind fun bt391 => (some (t386, bt391.1))) = some (r1, r2) := H
 have A3 := am A30
 clear A30
 replace H := Option.bind_eq_some_iff.mp H
 obtain ⟨⟨t391, t394, t395⟩, A40, H⟩ := H
 replace H : (some (t386, t391)) = some (r1, r2) := H
 have A4 := am A40
 clear A40
 simp only [Option.some.injEq, Prod.mk.injEq] at H
 obtain ⟨rfl, rfl⟩ := H
 go_enter Tryd.func20, Tryd.ntmps20
 go_wp2_with (first | ((with_reducible refine gate_callee (f := 22) rfl ?_); refine goesL_ (some 7) rfl rfl Tryd.func22 (by kernel_rfl) rfl #[.slice A0 l0.length c0] rfl mU ?_; (with_reducible refine (spec_l1New.calls k _ _ l0 t382 t383 t384 w _ ?side1 ?side2 ?side3 A2.out).mono ?_); (case side1 => exact bU HB.out); (case side2 => exact HR0.out); (case side3 => exact HC0.out); rintro e w5 ⟨g385, rfl, hi, hb, hb2⟩; refine ⟨_, rfl, ?_⟩; have n0_ := am (hb); have n1_ := am (hi); clear HB; have HB := n0_; have HI385 := n1_; clear n0_ n1_; (try clear hb); (try clear hb2); (try clear hk); (try clear hi)) | ((with_reducible refine gate_callee (f := 33) rfl ?_); refine goesL_ (some 9) rfl rfl Tryd.func33 (by kernel_rfl) rfl #[.pointer (some ⟨g385, 0, none⟩)] rfl mU ?_; (with_reducible refine (spec_l4Draw.calls k g385 t382 t383 t384 t386 t389 t390 w _ ?side1 ?side2 A3.out).mono ?_); (case side1 => repeat (first | (with_reducible first | exact HI385.out | apply IsS65.alloc | apply IsS65.drewN | apply IsS65.drew | apply IsS65.set_1 | apply IsS65.set_2) | exact HI385.out)); (case side2 => repeat (first | (with_reducible first | exact HB.out | apply below_alloc | apply pw_below_drewN | apply below_drew1 | refine below_set ?_ (IsS65.ge HI385.out)) | exact HB.out)); rintro e w6 ⟨v387, rfl, ho0, hi, hb, hk⟩; refine ⟨_, rfl, ?_⟩; have n0_ := am (Kd.R_lower ho0 (below_size (by repeat (first | (with_reducible first | exact HB.out | apply below_alloc | apply pw_below_drewN | apply below_drew1 | refine below_set ?_ (IsS65.ge HI385.out)) | exact HB.out)))); have n1_ := am (hb); have n2_ := am (hi); clear HB; clear HI385; have HO388 := n0_; have HB := n1_; have HI385 := n2_; clear n0_ n1_ n2_; (try clear hb); (try clear hb2); (try clear hk); (try clear hi); (try clear ho0)) | ((with_reducible refine gate_callee (f := 37) rfl ?_); refine goesL_ (some 12) rfl rfl Tryd.func37 (by kernel_rfl) rfl #[.pointer (some ⟨g385, 0, none⟩), .int .i64 9] rfl mU ?_; (with_reducible refine (spec_l5Edits.calls k g385 t382 t389 t390 9 t391 t394 t395 w _ ?side1 ?side2 A4.out).mono ?_); (case side1 => repeat (first | (with_reducible first | exact HI385.out | apply IsS65.alloc | apply IsS65.drewN | apply IsS65.drew | apply IsS65.set_1 | apply IsS65.set_2) | exact HI385.out)); (case side2 => repeat (first | (with_reducible first | exact HB.out | apply below_alloc | apply pw_below_drewN | apply below_drew1 | refine below_set ?_ (IsS65.ge HI385.out)) | exact HB.out)); rintro e w7 ⟨v392, rfl, ho0, hi, hb, hk⟩; refine ⟨_, rfl, ?_⟩; have n0_ := am (Kd.R_mono (Kd.R_keep (IsS65.apart (show IsS65 w _ g385 t382 t389 t390 from by repeat (first | (with_reducible first | exact HI385.out | apply IsS65.alloc | apply IsS65.drewN | apply IsS65.drew | apply IsS65.set_1 | apply IsS65.set_2) | exact HI385.out)) (rU HO388.out) (by decide)) hk (fun _ h => h.2)) (fun _ h => h.1)); have n1_ := am (Kd.R_lower ho0 (below_size (by repeat (first | (with_reducible first | exact HB.out | apply below_alloc | apply pw_below_drewN | apply below_drew1 | refine below_set ?_ (IsS65.ge HI385.out)) | exact HB.out)))); have n2_ := am (hb); have n3_ := am (hi); clear HO388; clear HB; clear HI385; have HO388 := n0_; have HO393 := n1_; have HB := n2_; have HI385 := n3_; clear n0_ n1_ n2_ n3_; (try clear hb); (try clear hb2); (try clear hk); (try clear hi); (try clear ho0)))
 go_ret2
 exact ⟨_, _, eU, rU HO388.out, rU HO393.out, by repeat (first | (with_reducible first | exact HB.out | apply below_alloc | apply pw_below_drewN | apply below_drew1 | refine below_set ?_ (IsS65.ge HI385.out)) | exact HB.out)⟩
def impl_RunEdits.l0 : Nat → List (S34) → List (S40) → Int → Int → Option ((List (S34)))
 | 0, _, _, _, _ => none
 | k + 1, x5, x10, x11, x12 => if x12 < x11 then (if 0 ≤ x12 then (if x12 < (x10.length : Int) then ((impl_ApplyEdit.f k x5 ((rd_T40 x10 x12).f0) ((rd_T40 x10 x12).f1) ((rd_T40 x10 x12).f2) ((rd_T40 x10 x12).f3) ((rd_T40 x10 x12).f4) ((rd_T40 x10 x12).f5)).bind fun bt401 => (impl_RunEdits.l0 k bt401.1 x10 x11 (wrap64 (x12 + 1)))) else (none)) else (none)) else (some x5)
def impl_RunEdits.f (k : Nat) (l0 : List (S34)) (l1 : List (S40)) : Option ((List (S34))) := (impl_Node_35.f l0).bind fun t396 => (impl_RunEdits.l0 k t396 l1 (l1.length : Int) 0)
theorem impl_RunEdits.mono_l : ∀ k, (∀ y0 y1 y2 y3, LeO (impl_RunEdits.l0 k y0 y1 y2 y3) (impl_RunEdits.l0 (k + 1) y0 y1 y2 y3))
 | 0 => fun _ _ _ _ r h => by simp [impl_RunEdits.l0] at h
 | k + 1 => by
  have ih0 := impl_RunEdits.mono_l k
  ·intro y0 y1 y2 y3
   unfold impl_RunEdits.l0
   repeat' first
   | (with_reducible exact ih0 _ _ _ _)
   | (with_reducible exact impl_ApplyEdit.mono _ _ _ _ _ _ _ _)
   | (with_reducible exact LeO.refl _)
   | (with_reducible exact LeO.none _)
   | (with_reducible refine LeO.ite ?_ ?_)
   | (with_reducible refine LeO.bind ?_ (fun _ => ?_))
   | exact ih0 _ _ _ _
   | exact impl_ApplyEdit.mono _ _ _ _ _ _ _ _
   | exact LeO.none _
   | refine LeO.ite ?_ ?_
   | refine LeO.bind ?_ (fun _ => ?_)
theorem impl_RunEdits.mono : ∀ a0 a1 k, LeO (impl_RunEdits.f k a0 a1) (impl_RunEdits.f (k + 1) a0 a1) := by
 intro a0 a1 k
 have ih0 := impl_RunEdits.mono_l k
 unfold impl_RunEdits.f
 repeat' first
   | (with_reducible exact ih0 _ _ _ _)
   | (with_reducible exact impl_ApplyEdit.mono _ _ _ _ _ _ _ _)
   | (with_reducible exact LeO.refl _)
   | (with_reducible exact LeO.none _)
   | (with_reducible refine LeO.ite ?_ ?_)
   | (with_reducible refine LeO.bind ?_ (fun _ => ?_))
   | exact ih0 _ _ _ _
   | exact impl_ApplyEdit.mono _ _ _ _ _ _ _ _
   | exact LeO.none _
   | refine LeO.ite ?_ ?_
   | refine LeO.bind ?_ (fun _ => ?_)
set_option maxHeartbeats 8000000 in
set_option maxRecDepth 100000 in
theorem impl_RunEdits.calls (k : Nat) (A0 : Option Addr) (c0 : Nat) (l0 : List (S34)) (A1 : Option Addr) (c1 : Nat) (l1 : List (S40)) (r : List (S34)) (w : World) (hr0 : Kd.C k34 w A0 l0.length l0) (hc0 : l0.length ≤ c0) (hr1 : Kd.C k40 w A1 l1.length l1) (hc1 : l1.length ≤ c1) (h : impl_RunEdits.f k l0 l1 = some r) :
  Calls Tryd.prog 21 #[.slice A0 l0.length c0, .slice A1 l1.length c1] w fun e w' => ∃ v0_ : Value, e = .returned (v0_) ∧ Kd.R k34 34 w' w.heap.size (fun _ => True) v0_ r ∧ Below w.heap.size w w' := by
 have hu40 := Tryd.underlying40
 have HR0 := am hr0
 have HC0 := am hc0
 clear hr0 hc0
 have HR1 := am hr1
 have HC1 := am hc1
 clear hr1 hc1
 have HB := am (Below.refl w.heap.size w)
 have H : ((impl_Node_35.f l0).bind fun t396 => (impl_RunEdits.l0 k t396 l1 (l1.length : Int) 0)) = some r := h
 clear h
 replace H := Option.bind_eq_some_iff.mp H
 obtain ⟨t396, A30, H⟩ := H
 replace H : (impl_RunEdits.l0 k t396 l1 (l1.length : Int) 0) = some r := H
 have A3 := am A30
 clear A30
 have H' := am H
 clear H
 go_enter Tryd.func21, Tryd.ntmps21
 go_wp2_with (first | ((with_reducible refine gate_callee (f := 35) rfl ?_); refine goesL_ (some 9) rfl rfl Tryd.func35 (by kernel_rfl) rfl #[.slice A0 l0.length c0] rfl mU ?_; (with_reducible refine (impl_Node_35.calls _ _ l0 t396 _ ?side1 ?side2 A3.out).mono ?_); (case side1 => exact cU HR0.out); (case side2 => exact HC0.out); rintro e w4 ⟨v397, rfl, ho0, hb⟩; refine ⟨_, rfl, ?_⟩; have n0_ := am (Kd.R_lower ho0 (below_size (bU HB.out))); have n1_ := am (below_step (bU HB.out) hb); clear HB; have HO398 := n0_; have HB := n1_; clear n0_ n1_; (try clear hb); (try clear hb2); (try clear hk); (try clear hi); (try clear ho0)))
 go_loopg [5, 12] k (fun kq v5 v12 w' => ∃ (x5_1 : List (S34)) (x12_1 : Int), v12 = .int .i64 x12_1 ∧ Aside0 (impl_RunEdits.l0 kq x5_1 l1 (l1.length : Int) x12_1 = some r) ∧ Aside0 (kq ≤ k) ∧ Aside0 (Kd.R k34 34 w' w.heap.size (fun _ => True) v5 x5_1) ∧ Aside0 (Below w.heap.size w w'))
 case atStart => exact ⟨(t396), (0), (by first | rfl | (simp; done) | (simp [*]; done)), H', ⟨Nat.le_refl _⟩, ⟨rU HO398.out⟩, ⟨bU HB.out⟩⟩
 case round =>
  clear H'
  try clear c1
  try clear c2
  try clear p2
  try clear c3
  obtain ⟨x5_1, x12_1, rfl, HA, HK1, HO_5, HB⟩ := hrel
  cases gk with
  | zero => exact absurd HA.out (by simp [impl_RunEdits.l0])
  | succ k1 =>
   have H := HA.out
   clear HA
   simp only [impl_RunEdits.l0] at H
   by_cases c5 : x12_1 < (l1.length : Int)
   ·rw [if_pos c5] at H
    have c5b0 : decide (x12_1 < (l1.length : Int)) = true := decide_eq_true c5
    clear c5
    by_cases c6 : 0 ≤ x12_1
    ·rw [if_pos c6] at H
     have c6b0 : decide (0 ≤ x12_1) = true := decide_eq_true c6
     clear c6
     by_cases c7 : x12_1 < (l1.length : Int)
     ·rw [if_pos c7] at H
      have c7b0 : decide (x12_1 < (l1.length : Int)) = true := decide_eq_true c7
      clear c7
      replace H := Option.bind_eq_some_iff.mp H
      obtain ⟨⟨t401, t404⟩, A80, H⟩ := H
      replace H : (impl_RunEdits.l0 k1 t401 l1 (l1.length : Int) (wrap64 (x12_1 + 1))) = some r := H
      have A8 := am A80
      clear A80
      have H' := am H
      clear H
      have p399 : 0 ≤ (x12_1 : Int) := dU
      have q399 : x12_1 < (l1.length : Int) := dU
      obtain ⟨ad399, e399, hx399_0, hx399_1, hx399_2, hx399_3, hx399_4, hx399_5⟩ := at_T40 HR1.out x12_1 p399 q399
      cases e399
      replace hx399_0 := cB HB.out hx399_0
      replace hx399_1 := cB HB.out hx399_1
      replace hx399_2 := cB HB.out hx399_2
      replace hx399_3 := cB HB.out hx399_3
      replace hx399_4 := cB HB.out hx399_4
      replace hx399_5 := cB HB.out hx399_5
      replace p399 := eq_true p399
      replace q399 := eq_true q399
      go_wp2_with (first | ((with_reducible refine gate_dst (N := 7) rfl ?_); refine box_event ?hg (N := 7) ?hd (cs := #[.int .i64 0, .int .i64 0, .int .i64 0, .int .i64 0, .int .i64 0, .int .i64 0]) (t := 40) ?hr ?_; (case hd => rfl); (case hg => rfl); (case hr => first | (go_simp; done) | (go_simp; rfl)); intro gb400 hg w9 hbox hb; have n0_ := am (Kd.R_below (rU HO_5.out) hb); have n1_ := am (below_step (bU HB.out) hb); have n2_ := am (hbox); have n3_ := am ((by rw [hg]; exact (below_size (bU HB.out)) : w.heap.size ≤ gb400)); have n4_ := am ((by rw [hg]; exact (below_size (bU HB.out)) : w.heap.size ≤ gb400)); clear HO_5; clear HB; have HO_5 := n0_; have HB := n1_; have BK400 := n2_; have GW400 := n3_; have GE400 := n4_; clear n0_ n1_ n2_ n3_ n4_; clear hb hbox hg; obtain ⟨hcz10_0, hcz10_1, hcz10_2, hcz10_3, hcz10_4, hcz10_5⟩ := bc6 BK400.out; obtain ⟨hfz10_0, hfz10_1, hfz10_2, hfz10_3, hfz10_4, hfz10_5⟩ := bf6 BK400.out; obtain ⟨Ao11, co11, eo11⟩ := Kd.R_slice HO_5.out; subst eo11) | ((with_reducible refine gate_callee (f := 17) rfl ?_); refine goesL_ (some 19) rfl rfl Tryd.func17 (by kernel_rfl) rfl #[.slice Ao11 x5_1.length co11, .agg #[.int .i64 ((rd_T40 l1 x12_1).f0), .int .i64 ((rd_T40 l1 x12_1).f1), .int .i64 ((rd_T40 l1 x12_1).f2), .int .i64 ((rd_T40 l1 x12_1).f3), .int .i64 ((rd_T40 l1 x12_1).f4), .int .i64 ((rd_T40 l1 x12_1).f5)]] rfl mU ?_; (with_reducible refine (impl_ApplyEdit.calls k1 _ _ x5_1 ((rd_T40 l1 x12_1).f0) ((rd_T40 l1 x12_1).f1) ((rd_T40 l1 x12_1).f2) ((rd_T40 l1 x12_1).f3) ((rd_T40 l1 x12_1).f4) ((rd_T40 l1 x12_1).f5) t401 t404 _ ?side1 ?side2 A8.out).mono ?_); (case side1 => refine (Kd.R_reads' (e := 34) (base := w.heap.size) (ok := fun k_ => True) (n := x5_1.length) (c := co11) ?_).2.2; exact (by (with_reducible repeat (first | apply Kd.R_alloc | apply Kd.R_drewN | apply Kd.R_drew)); exact (Kd.R_mono (Kd.R_far (p := ⟨gb400, 5, none⟩) (Kd.R_far (p := ⟨gb400, 4, none⟩) (Kd.R_far (p := ⟨gb400, 3, none⟩) (Kd.R_far (p := ⟨gb400, 2, none⟩) (Kd.R_far (p := ⟨gb400, 1, none⟩) (Kd.R_far (p := ⟨gb400, 0, none⟩) (Kd.R_types HO_5.out BK400.out (by decide)) (fun _ hk => hk.2) (.int .i64 ((rd_T40 l1 x12_1).f0))) (fun _ hk => hk.2) (.int .i64 ((rd_T40 l1 x12_1).f1))) (fun _ hk => hk.2) (.int .i64 ((rd_T40 l1 x12_1).f2))) (fun _ hk => hk.2) (.int .i64 ((rd_T40 l1 x12_1).f3))) (fun _ hk => hk.2) (.int .i64 ((rd_T40 l1 x12_1).f4))) (fun _ hk => hk.2) (.int .i64 ((rd_T40 l1 x12_1).f5))) (fun _ h_ => h_.1)))); (case side2 => exact (Kd.R_reads' HO_5.out).2.1); rintro e w12 ⟨v402, rfl, ho0, hb⟩; refine ⟨_, rfl, ?_⟩; have n0_ := am (Kd.R_elder' (by (with_reducible repeat (first | apply Kd.R_alloc | apply Kd.R_drewN | apply Kd.R_drew)); exact (Kd.R_mono (Kd.R_far (p := ⟨gb400, 5, none⟩) (Kd.R_far (p := ⟨gb400, 4, none⟩) (Kd.R_far (p := ⟨gb400, 3, none⟩) (Kd.R_far (p := ⟨gb400, 2, none⟩) (Kd.R_far (p := ⟨gb400, 1, none⟩) (Kd.R_far (p := ⟨gb400, 0, none⟩) (Kd.R_types HO_5.out BK400.out (by decide)) (fun _ hk => hk.2) (.int .i64 ((rd_T40 l1 x12_1).f0))) (fun _ hk => hk.2) (.int .i64 ((rd_T40 l1 x12_1).f1))) (fun _ hk => hk.2) (.int .i64 ((rd_T40 l1 x12_1).f2))) (fun _ hk => hk.2) (.int .i64 ((rd_T40 l1 x12_1).f3))) (fun _ hk => hk.2) (.int .i64 ((rd_T40 l1 x12_1).f4))) (fun _ hk => hk.2) (.int .i64 ((rd_T40 l1 x12_1).f5))) (fun _ h_ => h_.1))) (Kd.R_base ho0) hb); have n1_ := am (Kd.R_lower (Kd.R_new' ho0 (Kd.R_lt (by (with_reducible repeat (first | apply Kd.R_alloc | apply Kd.R_drewN | apply Kd.R_drew)); exact (Kd.R_mono (Kd.R_far (p := ⟨gb400, 5, none⟩) (Kd.R_far (p := ⟨gb400, 4, none⟩) (Kd.R_far (p := ⟨gb400, 3, none⟩) (Kd.R_far (p := ⟨gb400, 2, none⟩) (Kd.R_far (p := ⟨gb400, 1, none⟩) (Kd.R_far (p := ⟨gb400, 0, none⟩) (Kd.R_types HO_5.out BK400.out (by decide)) (fun _ hk => hk.2) (.int .i64 ((rd_T40 l1 x12_1).f0))) (fun _ hk => hk.2) (.int .i64 ((rd_T40 l1 x12_1).f1))) (fun _ hk => hk.2) (.int .i64 ((rd_T40 l1 x12_1).f2))) (fun _ hk => hk.2) (.int .i64 ((rd_T40 l1 x12_1).f3))) (fun _ hk => hk.2) (.int .i64 ((rd_T40 l1 x12_1).f4))) (fun _ hk => hk.2) (.int .i64 ((rd_T40 l1 x12_1).f5))) (fun _ h_ => h_.1))))) (below_size (bS HB.out GE400.out))); have n2_ := am (blk_below (g := gb400) (o := .cells #[.int .i64 ((rd_T40 l1 x12_1).f0), .int .i64 ((rd_T40 l1 x12_1).f1), .int .i64 ((rd_T40 l1 x12_1).f2), .int .i64 ((rd_T40 l1 x12_1).f3), .int .i64 ((rd_T40 l1 x12_1).f4), .int .i64 ((rd_T40 l1 x12_1).f5)] 40 (0, 0)) (by (with_reducible repeat (first | refine blk_drewN ?_ _ | refine blk_drew ?_ | refine blk_alloc ?_ _)); refine blk_put (cs := #[.int .i64 ((rd_T40 l1 x12_1).f0), .int .i64 ((rd_T40 l1 x12_1).f1), .int .i64 ((rd_T40 l1 x12_1).f2), .int .i64 ((rd_T40 l1 x12_1).f3), .int .i64 ((rd_T40 l1 x12_1).f4), .int .i64 0]) ?_ 5 _ rfl; (with_reducible repeat (first | refine blk_drewN ?_ _ | refine blk_drew ?_ | refine blk_alloc ?_ _)); refine blk_put (cs := #[.int .i64 ((rd_T40 l1 x12_1).f0), .int .i64 ((rd_T40 l1 x12_1).f1), .int .i64 ((rd_T40 l1 x12_1).f2), .int .i64 ((rd_T40 l1 x12_1).f3), .int .i64 0, .int .i64 0]) ?_ 4 _ rfl; (with_reducible repeat (first | refine blk_drewN ?_ _ | refine blk_drew ?_ | refine blk_alloc ?_ _)); refine blk_put (cs := #[.int .i64 ((rd_T40 l1 x12_1).f0), .int .i64 ((rd_T40 l1 x12_1).f1), .int .i64 ((rd_T40 l1 x12_1).f2), .int .i64 0, .int .i64 0, .int .i64 0]) ?_ 3 _ rfl; (with_reducible repeat (first | refine blk_drewN ?_ _ | refine blk_drew ?_ | refine blk_alloc ?_ _)); refine blk_put (cs := #[.int .i64 ((rd_T40 l1 x12_1).f0), .int .i64 ((rd_T40 l1 x12_1).f1), .int .i64 0, .int .i64 0, .int .i64 0, .int .i64 0]) ?_ 2 _ rfl; (with_reducible repeat (first | refine blk_drewN ?_ _ | refine blk_drew ?_ | refine blk_alloc ?_ _)); refine blk_put (cs := #[.int .i64 ((rd_T40 l1 x12_1).f0), .int .i64 0, .int .i64 0, .int .i64 0, .int .i64 0, .int .i64 0]) ?_ 1 _ rfl; (with_reducible repeat (first | refine blk_drewN ?_ _ | refine blk_drew ?_ | refine blk_alloc ?_ _)); refine blk_put (cs := #[.int .i64 0, .int .i64 0, .int .i64 0, .int .i64 0, .int .i64 0, .int .i64 0]) ?_ 0 _ rfl; exact kU BK400.out) hb); have n3_ := am (below_step (bS HB.out GE400.out) hb); clear HO_5; clear BK400; clear HB; have HO_5 := n0_; have HO403 := n1_; have BK400 := n2_; have HB := n3_; clear n0_ n1_ n2_ n3_; (try clear hb); (try clear hb2); (try clear hk); (try clear hi); (try clear ho0)))
      go_roundg k1
      case measure => have := HK1.out; omega
      case rel => exact ⟨(t401), (wrap64 (x12_1 + 1)), (by first | rfl | (simp; done) | (simp [*]; done)), H', ⟨by have := HK1.out; omega⟩, ⟨by (with_reducible repeat (first | apply Kd.R_alloc | apply Kd.R_drewN | apply Kd.R_drew)); exact Kd.R_mono HO403.out (fun _ hk => trivial)⟩, ⟨bS HB.out GE400.out⟩⟩
     ·rw [if_neg c7] at H
      exact absurd H (by simp)
    ·rw [if_neg c6] at H
     exact absurd H (by simp)
   ·rw [if_neg c5] at H
    have c5b0 : decide (x12_1 < (l1.length : Int)) = false := decide_eq_false c5
    clear c5
    obtain rfl := Option.some.inj H
    go_wp2
    go_ret
    exact ⟨_, eU, rU HO_5.out, bU HB.out⟩
end Go.Proofs.YtefppmgcenfemaaDoor.QFnEdits
