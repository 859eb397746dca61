/- What the functions that this law reaches come to, function by function: printed for this claim by a program of the session over the kit's print. No condition beside each statement's own. -/
import Derived.Test.YtbafockooilcnacDoorQFnIntegersx0
import Derived.Test.YtbafockooilcnacDoorQFnIntegersx1
import Derived.Test.YtbafockooilcnacDoorQFnIntegersx2
namespace Go.Proofs.YtbafockooilcnacDoor.QFnIntegers
open Go.RowKit Go.Proofs.YtbafockooilcnacDoorW.PrintWords Go.Proofs.YtbafockooilcnacDoorW.PrintLast Go.Proofs.YtbafockooilcnacDoorW.PrintMore
attribute [local go_sem] max2_int min2_int max_two min_two max_three min_three max_four min_four   -- for this text's walks alone
set_option linter.unusedVariables false
set_option linter.unusedSimpArgs false

/-! ### laws_FnIntegers: function 5 -/
mutual
def laws_FnIntegers.j0 : Nat → Int → Int → Int → Int → Bool → Option (Bool)
  | 0, _, _, _, _, _ => none
  | k + 1, x9, x10, x11, x12, x65 => if x65 = true then (some false) else (if x10 < 1 then (laws_FnIntegers.j1 k x9 x10 x11 x12 true) else (laws_FnIntegers.j1 k x9 x10 x11 x12 (decide (x10 > 1000000000000))))
def laws_FnIntegers.j1 : Nat → Int → Int → Int → Int → Bool → Option (Bool)
  | 0, _, _, _, _, _ => none
  | k + 1, x9, x10, x11, x12, x71 => if x71 = true then (if x11 = 0 then (some (x12 == 0)) else (some false)) else (if x12 < 0 then (laws_FnIntegers.j2 k x9 x10 x11 true) else (if x12 ≥ x10 then (laws_FnIntegers.j2 k x9 x10 x11 true) else (if x10 = 0 then (none) else (laws_FnIntegers.j2 k x9 x10 x11 ((Int.tmod (wrap64 ((Int.tmod x9 x10) - x12)) x10) != 0)))))
def laws_FnIntegers.j2 : Nat → Int → Int → Int → Bool → Option (Bool)
  | 0, _, _, _, _ => none
  | k + 1, x9, x10, x11, x94 => if x94 = true then (some false) else (if x9 < 0 then (some (x11 == 0)) else (if x9 > 1000000000000 then (some (x11 == 0)) else (if (wrap64 (x11 * x10)) ≥ x9 then (some (decide ((wrap64 ((wrap64 (x11 * x10)) - x9)) < x10))) else (some false))))
end
def laws_FnIntegers.f (k : Nat) (l0 : List Int) : Option (Bool) := (laws_big.f l0).bind fun t220 => (if t220 = true then (some true) else ((spec_DrawParseInt.f k l0).bind fun t221 => ((impl_ParseInt.f k t221).bind fun bt222 => ((spec_DrawFormatInt.f k l0).bind fun t224 => ((impl_FormatInt.f t224).bind fun t225 => ((impl_ParseInt.f k t225).bind fun bt226 => ((spec_DrawCeilDiv.f k l0).bind fun bt228 => ((impl_CeilDiv.f bt228.1 bt228.2).bind fun t230 => ((impl_Mod.f bt228.1 bt228.2).bind fun t231 => (if bt222.2 = true then ((impl_FormatInt.f bt222.1).bind fun t232 => (if t232.toList = t221.toList then (if t224 ≥ 0 then (if (bt226.2 != (decide (t224 ≤ 1000000000000))) = true then (laws_FnIntegers.j0 k bt228.1 bt228.2 t230 t231 true) else (if bt226.2 = true then (laws_FnIntegers.j0 k bt228.1 bt228.2 t230 t231 (bt226.1 != t224)) else (laws_FnIntegers.j0 k bt228.1 bt228.2 t230 t231 false))) else (if (bt226.2 != false) = true then (laws_FnIntegers.j0 k bt228.1 bt228.2 t230 t231 true) else (if bt226.2 = true then (laws_FnIntegers.j0 k bt228.1 bt228.2 t230 t231 (bt226.1 != t224)) else (laws_FnIntegers.j0 k bt228.1 bt228.2 t230 t231 false)))) else (laws_FnIntegers.j0 k bt228.1 bt228.2 t230 t231 true))) else (if t224 ≥ 0 then (if (bt226.2 != (decide (t224 ≤ 1000000000000))) = true then (laws_FnIntegers.j0 k bt228.1 bt228.2 t230 t231 true) else (if bt226.2 = true then (laws_FnIntegers.j0 k bt228.1 bt228.2 t230 t231 (bt226.1 != t224)) else (laws_FnIntegers.j0 k bt228.1 bt228.2 t230 t231 false))) else (if (bt226.2 != false) = true then (laws_FnIntegers.j0 k bt228.1 bt228.2 t230 t231 true) else (if bt226.2 = true then (laws_FnIntegers.j0 k bt228.1 bt228.2 t230 t231 (bt226.1 != t224)) else (laws_FnIntegers.j0 k bt228.1 bt228.2 t230 t231 false))))))))))))))
theorem laws_FnIntegers.mono_l : ∀ k, (∀ y0 y1 y2 y3 y4, LeO (laws_FnIntegers.j0 k y0 y1 y2 y3 y4) (laws_FnIntegers.j0 (k + 1) y0 y1 y2 y3 y4)) ∧ (∀ y0 y1 y2 y3 y4, LeO (laws_FnIntegers.j1 k y0 y1 y2 y3 y4) (laws_FnIntegers.j1 (k + 1) y0 y1 y2 y3 y4)) ∧ (∀ y0 y1 y2 y3, LeO (laws_FnIntegers.j2 k y0 y1 y2 y3) (laws_FnIntegers.j2 (k + 1) y0 y1 y2 y3))
  | 0 => ⟨fun _ _ _ _ _ r h => by simp [laws_FnIntegers.j0] at h, fun _ _ _ _ _ r h => by simp [laws_FnIntegers.j1] at h, fun _ _ _ _ r h => by simp [laws_FnIntegers.j2] at h⟩
  | k + 1 => by
    obtain ⟨ih0, ih1, ih2⟩ := laws_FnIntegers.mono_l k
    refine ⟨?_, ?_, ?_⟩
    · intro y0 y1 y2 y3 y4
      unfold laws_FnIntegers.j0
      repeat' first
      | (with_reducible exact ih0 _ _ _ _ _)
      | (with_reducible exact ih1 _ _ _ _ _)
      | (with_reducible exact ih2 _ _ _ _)
      | (with_reducible exact impl_ParseInt.mono _ _)
      | (with_reducible exact spec_DrawCeilDiv.mono _ _)
      | (with_reducible exact spec_DrawFormatInt.mono _ _)
      | (with_reducible exact spec_DrawParseInt.mono _ _)
      | (with_reducible exact LeO.refl _)
      | (with_reducible exact LeO.none _)
      | (with_reducible refine LeO.ite ?_ ?_)
      | (with_reducible refine LeO.bind ?_ (fun _ => ?_))
      | exact ih0 _ _ _ _ _
      | exact ih1 _ _ _ _ _
      | exact ih2 _ _ _ _
      | exact impl_ParseInt.mono _ _
      | exact spec_DrawCeilDiv.mono _ _
      | exact spec_DrawFormatInt.mono _ _
      | exact spec_DrawParseInt.mono _ _
      | exact LeO.none _
      | refine LeO.ite ?_ ?_
      | refine LeO.bind ?_ (fun _ => ?_)
    · intro y0 y1 y2 y3 y4
      unfold laws_FnIntegers.j1
      repeat' first
      | (with_reducible exact ih0 _ _ _ _ _)
      | (with_reducible exact ih1 _ _ _ _ _)
      | (with_reducible exact ih2 _ _ _ _)
      | (with_reducible exact impl_ParseInt.mono _ _)
      | (with_reducible exact spec_DrawCeilDiv.mono _ _)
      | (with_reducible exact spec_DrawFormatInt.mono _ _)
      | (with_reducible exact spec_DrawParseInt.mono _ _)
      | (with_reducible exact LeO.refl _)
      | (with_reducible exact LeO.none _)
      | (with_reducible refine LeO.ite ?_ ?_)
      | (with_reducible refine LeO.bind ?_ (fun _ => ?_))
      | exact ih0 _ _ _ _ _
      | exact ih1 _ _ _ _ _
      | exact ih2 _ _ _ _
      | exact impl_ParseInt.mono _ _
      | exact spec_DrawCeilDiv.mono _ _
      | exact spec_DrawFormatInt.mono _ _
      | exact spec_DrawParseInt.mono _ _
      | exact LeO.none _
      | refine LeO.ite ?_ ?_
      | refine LeO.bind ?_ (fun _ => ?_)
    · intro y0 y1 y2 y3
      unfold laws_FnIntegers.j2
      repeat' first
      | (with_reducible exact ih0 _ _ _ _ _)
      | (with_reducible exact ih1 _ _ _ _ _)
      | (with_reducible exact ih2 _ _ _ _)
      | (with_reducible exact impl_ParseInt.mono _ _)
      | (with_reducible exact spec_DrawCeilDiv.mono _ _)
      | (with_reducible exact spec_DrawFormatInt.mono _ _)
      | (with_reducible exact spec_DrawParseInt.mono _ _)
      | (with_reducible exact LeO.refl _)
      | (with_reducible exact LeO.none _)
      | (with_reducible refine LeO.ite ?_ ?_)
      | (with_reducible refine LeO.bind ?_ (fun _ => ?_))
      | exact ih0 _ _ _ _ _
      | exact ih1 _ _ _ _ _
      | exact ih2 _ _ _ _
      | exact impl_ParseInt.mono _ _
      | exact spec_DrawCeilDiv.mono _ _
      | exact spec_DrawFormatInt.mono _ _
      | exact spec_DrawParseInt.mono _ _
      | exact LeO.none _
      | refine LeO.ite ?_ ?_
      | refine LeO.bind ?_ (fun _ => ?_)
theorem laws_FnIntegers.mono : ∀ a0 k, LeO (laws_FnIntegers.f k a0) (laws_FnIntegers.f (k + 1) a0) := by
  intro a0 k
  obtain ⟨ih0, ih1, ih2⟩ := laws_FnIntegers.mono_l k
  unfold laws_FnIntegers.f
  repeat' first
      | (with_reducible exact ih0 _ _ _ _ _)
      | (with_reducible exact ih1 _ _ _ _ _)
      | (with_reducible exact ih2 _ _ _ _)
      | (with_reducible exact impl_ParseInt.mono _ _)
      | (with_reducible exact spec_DrawCeilDiv.mono _ _)
      | (with_reducible exact spec_DrawFormatInt.mono _ _)
      | (with_reducible exact spec_DrawParseInt.mono _ _)
      | (with_reducible exact LeO.refl _)
      | (with_reducible exact LeO.none _)
      | (with_reducible refine LeO.ite ?_ ?_)
      | (with_reducible refine LeO.bind ?_ (fun _ => ?_))
      | exact ih0 _ _ _ _ _
      | exact ih1 _ _ _ _ _
      | exact ih2 _ _ _ _
      | exact impl_ParseInt.mono _ _
      | exact spec_DrawCeilDiv.mono _ _
      | exact spec_DrawFormatInt.mono _ _
      | exact spec_DrawParseInt.mono _ _
      | exact LeO.none _
      | refine LeO.ite ?_ ?_
      | refine LeO.bind ?_ (fun _ => ?_)
set_option maxHeartbeats 8000000 in
set_option maxRecDepth 100000 in
theorem laws_FnIntegers.calls (k : Nat) (A0 : Option Addr) (c0 : Nat) (l0 : List Int) (r : Bool) (w : World) (hr0 : Kd.C (Kd.int .u8) w A0 l0.length l0) (hc0 : l0.length ≤ c0) (HTAB : TabHolds w) (h : laws_FnIntegers.f k l0 = some r) :
    Calls Tryd.prog 5 #[.slice A0 l0.length c0] w fun e w' => e = .returned (.bool r) ∧ Below w.heap.size w w' := by
  have HR0 := Aside0.mk hr0
  have HC0 := Aside0.mk hc0
  clear hr0 hc0
  have HB := Aside0.mk (Below.refl w.heap.size w)
  have H : ((laws_big.f l0).bind fun t220 => (if t220 = true then (some true) else ((spec_DrawParseInt.f k l0).bind fun t221 => ((impl_ParseInt.f k t221).bind fun bt222 => ((spec_DrawFormatInt.f k l0).bind fun t224 => ((impl_FormatInt.f t224).bind fun t225 => ((impl_ParseInt.f k t225).bind fun bt226 => ((spec_DrawCeilDiv.f k l0).bind fun bt228 => ((impl_CeilDiv.f bt228.1 bt228.2).bind fun t230 => ((impl_Mod.f bt228.1 bt228.2).bind fun t231 => (if bt222.2 = true then ((impl_FormatInt.f bt222.1).bind fun t232 => (if t232.toList = t221.toList then (if t224 ≥ 0 then (if (bt226.2 != (decide (t224 ≤ 1000000000000))) = true then (laws_FnIntegers.j0 k bt228.1 bt228.2 t230 t231 true) else (if bt226.2 = true then (laws_FnIntegers.j0 k bt228.1 bt228.2 t230 t231 (bt226.1 != t224)) else (laws_FnIntegers.j0 k bt228.1 bt228.2 t230 t231 false))) else (if (bt226.2 != false) = true then (laws_FnIntegers.j0 k bt228.1 bt228.2 t230 t231 true) else (if bt226.2 = true then (laws_FnIntegers.j0 k bt228.1 bt228.2 t230 t231 (bt226.1 != t224)) else (laws_FnIntegers.j0 k bt228.1 bt228.2 t230 t231 false)))) else (laws_FnIntegers.j0 k bt228.1 bt228.2 t230 t231 true))) else (if t224 ≥ 0 then (if (bt226.2 != (decide (t224 ≤ 1000000000000))) = true then (laws_FnIntegers.j0 k bt228.1 bt228.2 t230 t231 true) else (if bt226.2 = true then (laws_FnIntegers.j0 k bt228.1 bt228.2 t230 t231 (bt226.1 != t224)) else (laws_FnIntegers.j0 k bt228.1 bt228.2 t230 t231 false))) else (if (bt226.2 != false) = true then (laws_FnIntegers.j0 k bt228.1 bt228.2 t230 t231 true) else (if bt226.2 = true then (laws_FnIntegers.j0 k bt228.1 bt228.2 t230 t231 (bt226.1 != t224)) else (laws_FnIntegers.j0 k bt228.1 bt228.2 t230 t231 false))))))))))))))) = some r := h
  clear h
  replace H := Option.bind_eq_some_iff.mp H
  obtain ⟨t220, A20, H⟩ := H
  replace H : (if t220 = true then (some true) else ((spec_DrawParseInt.f k l0).bind fun t221 => ((impl_ParseInt.f k t221).bind fun bt222 => ((spec_DrawFormatInt.f k l0).bind fun t224 => ((impl_FormatInt.f t224).bind fun t225 => ((impl_ParseInt.f k t225).bind fun bt226 => ((spec_DrawCeilDiv.f k l0).bind fun bt228 => ((impl_CeilDiv.f bt228.1 bt228.2).bind fun t230 => ((impl_Mod.f bt228.1 bt228.2).bind fun t231 => (if bt222.2 = true then ((impl_FormatInt.f bt222.1).bind fun t232 => (if t232.toList = t221.toList then (if t224 ≥ 0 then (if (bt226.2 != (decide (t224 ≤ 1000000000000))) = true then (laws_FnIntegers.j0 k bt228.1 bt228.2 t230 t231 true) else (if bt226.2 = true then (laws_FnIntegers.j0 k bt228.1 bt228.2 t230 t231 (bt226.1 != t224)) else (laws_FnIntegers.j0 k bt228.1 bt228.2 t230 t231 false))) else (if (bt226.2 != false) = true then (laws_FnIntegers.j0 k bt228.1 bt228.2 t230 t231 true) else (if bt226.2 = true then (laws_FnIntegers.j0 k bt228.1 bt228.2 t230 t231 (bt226.1 != t224)) else (laws_FnIntegers.j0 k bt228.1 bt228.2 t230 t231 false)))) else (laws_FnIntegers.j0 k bt228.1 bt228.2 t230 t231 true))) else (if t224 ≥ 0 then (if (bt226.2 != (decide (t224 ≤ 1000000000000))) = true then (laws_FnIntegers.j0 k bt228.1 bt228.2 t230 t231 true) else (if bt226.2 = true then (laws_FnIntegers.j0 k bt228.1 bt228.2 t230 t231 (bt226.1 != t224)) else (laws_FnIntegers.j0 k bt228.1 bt228.2 t230 t231 false))) else (if (bt226.2 != false) = true then (laws_FnIntegers.j0 k bt228.1 bt228.2 t230 t231 true) else (if bt226.2 = true then (laws_FnIntegers.j0 k bt228.1 bt228.2 t230 t231 (bt226.1 != t224)) else (laws_FnIntegers.j0 k bt228.1 bt228.2 t230 t231 false)))))))))))))) = some r := H
  have A2 := Aside0.mk A20
  clear A20
  by_cases c3 : t220 = true
  · subst c3
    have H1 : (some true) = some r := by rw [if_pos rfl] at H; exact H
    clear H
    have H := H1
    clear H1
    obtain rfl := Option.some.inj H
    go_enter Tryd.func5, Tryd.ntmps5
    go_wp2_with (first | ((with_reducible refine gate_callee (f := 12) rfl ?_); refine goesL_ (some 14) rfl rfl Tryd.func12 (by kernel_rfl) rfl #[.slice A0 l0.length c0] rfl (by (try simp only [List.map_toArray, List.map_cons, List.map_nil]); first | done | rfl | (simp only [List.length_drop, List.length_take]; rfl)) ?_; (with_reducible refine (laws_big.calls _ _ l0 true _ ?side1 ?side2 A2.out).mono ?_); (case side1 => repeat (first | exact HR0.out | (with_reducible refine Kd.C_alloc ?_ _) | (with_reducible refine Kd.C_drewN ?_ _) | (with_reducible refine Kd.C_drew ?_))); (case side2 => exact HC0.out); rintro e w' ⟨rfl, ⟨nd, rfl⟩⟩; refine ⟨_, rfl, ?_⟩))
    go_ret
    exact ⟨by first | rfl | (simp [errW_none, errW_some] <;> rfl) | (simp [*, errW_none, errW_some] <;> rfl), by repeat (first | (with_reducible first | exact HB.out | apply below_alloc | apply pw_below_drewN | apply below_drew1) | exact HB.out)⟩
  · replace c3 := Bool.eq_false_iff.mpr c3
    subst c3
    have H1 : ((spec_DrawParseInt.f k l0).bind fun t221 => ((impl_ParseInt.f k t221).bind fun bt222 => ((spec_DrawFormatInt.f k l0).bind fun t224 => ((impl_FormatInt.f t224).bind fun t225 => ((impl_ParseInt.f k t225).bind fun bt226 => ((spec_DrawCeilDiv.f k l0).bind fun bt228 => ((impl_CeilDiv.f bt228.1 bt228.2).bind fun t230 => ((impl_Mod.f bt228.1 bt228.2).bind fun t231 => (if bt222.2 = true then ((impl_FormatInt.f bt222.1).bind fun t232 => (if t232.toList = t221.toList then (if t224 ≥ 0 then (if (bt226.2 != (decide (t224 ≤ 1000000000000))) = true then (laws_FnIntegers.j0 k bt228.1 bt228.2 t230 t231 true) else (if bt226.2 = true then (laws_FnIntegers.j0 k bt228.1 bt228.2 t230 t231 (bt226.1 != t224)) else (laws_FnIntegers.j0 k bt228.1 bt228.2 t230 t231 false))) else (if (bt226.2 != false) = true then (laws_FnIntegers.j0 k bt228.1 bt228.2 t230 t231 true) else (if bt226.2 = true then (laws_FnIntegers.j0 k bt228.1 bt228.2 t230 t231 (bt226.1 != t224)) else (laws_FnIntegers.j0 k bt228.1 bt228.2 t230 t231 false)))) else (laws_FnIntegers.j0 k bt228.1 bt228.2 t230 t231 true))) else (if t224 ≥ 0 then (if (bt226.2 != (decide (t224 ≤ 1000000000000))) = true then (laws_FnIntegers.j0 k bt228.1 bt228.2 t230 t231 true) else (if bt226.2 = true then (laws_FnIntegers.j0 k bt228.1 bt228.2 t230 t231 (bt226.1 != t224)) else (laws_FnIntegers.j0 k bt228.1 bt228.2 t230 t231 false))) else (if (bt226.2 != false) = true then (laws_FnIntegers.j0 k bt228.1 bt228.2 t230 t231 true) else (if bt226.2 = true then (laws_FnIntegers.j0 k bt228.1 bt228.2 t230 t231 (bt226.1 != t224)) else (laws_FnIntegers.j0 k bt228.1 bt228.2 t230 t231 false))))))))))))) = some r := by rw [if_neg (show ¬ (false = true) by decide)] at H; exact H
    clear H
    have H := H1
    clear H1
    replace H := Option.bind_eq_some_iff.mp H
    obtain ⟨t221, A40, H⟩ := H
    replace H : ((impl_ParseInt.f k t221).bind fun bt222 => ((spec_DrawFormatInt.f k l0).bind fun t224 => ((impl_FormatInt.f t224).bind fun t225 => ((impl_ParseInt.f k t225).bind fun bt226 => ((spec_DrawCeilDiv.f k l0).bind fun bt228 => ((impl_CeilDiv.f bt228.1 bt228.2).bind fun t230 => ((impl_Mod.f bt228.1 bt228.2).bind fun t231 => (if bt222.2 = true then ((impl_FormatInt.f bt222.1).bind fun t232 => (if t232.toList = t221.toList then (if t224 ≥ 0 then (if (bt226.2 != (decide (t224 ≤ 1000000000000))) = true then (laws_FnIntegers.j0 k bt228.1 bt228.2 t230 t231 true) else (if bt226.2 = true then (laws_FnIntegers.j0 k bt228.1 bt228.2 t230 t231 (bt226.1 != t224)) else (laws_FnIntegers.j0 k bt228.1 bt228.2 t230 t231 false))) else (if (bt226.2 != false) = true then (laws_FnIntegers.j0 k bt228.1 bt228.2 t230 t231 true) else (if bt226.2 = true then (laws_FnIntegers.j0 k bt228.1 bt228.2 t230 t231 (bt226.1 != t224)) else (laws_FnIntegers.j0 k bt228.1 bt228.2 t230 t231 false)))) else (laws_FnIntegers.j0 k bt228.1 bt228.2 t230 t231 true))) else (if t224 ≥ 0 then (if (bt226.2 != (decide (t224 ≤ 1000000000000))) = true then (laws_FnIntegers.j0 k bt228.1 bt228.2 t230 t231 true) else (if bt226.2 = true then (laws_FnIntegers.j0 k bt228.1 bt228.2 t230 t231 (bt226.1 != t224)) else (laws_FnIntegers.j0 k bt228.1 bt228.2 t230 t231 false))) else (if (bt226.2 != false) = true then (laws_FnIntegers.j0 k bt228.1 bt228.2 t230 t231 true) else (if bt226.2 = true then (laws_FnIntegers.j0 k bt228.1 bt228.2 t230 t231 (bt226.1 != t224)) else (laws_FnIntegers.j0 k bt228.1 bt228.2 t230 t231 false)))))))))))) = some r := H
    have A4 := Aside0.mk A40
    clear A40
    replace H := Option.bind_eq_some_iff.mp H
    obtain ⟨⟨t222, t223⟩, A50, H⟩ := H
    replace H : ((spec_DrawFormatInt.f k l0).bind fun t224 => ((impl_FormatInt.f t224).bind fun t225 => ((impl_ParseInt.f k t225).bind fun bt226 => ((spec_DrawCeilDiv.f k l0).bind fun bt228 => ((impl_CeilDiv.f bt228.1 bt228.2).bind fun t230 => ((impl_Mod.f bt228.1 bt228.2).bind fun t231 => (if t223 = true then ((impl_FormatInt.f t222).bind fun t232 => (if t232.toList = t221.toList then (if t224 ≥ 0 then (if (bt226.2 != (decide (t224 ≤ 1000000000000))) = true then (laws_FnIntegers.j0 k bt228.1 bt228.2 t230 t231 true) else (if bt226.2 = true then (laws_FnIntegers.j0 k bt228.1 bt228.2 t230 t231 (bt226.1 != t224)) else (laws_FnIntegers.j0 k bt228.1 bt228.2 t230 t231 false))) else (if (bt226.2 != false) = true then (laws_FnIntegers.j0 k bt228.1 bt228.2 t230 t231 true) else (if bt226.2 = true then (laws_FnIntegers.j0 k bt228.1 bt228.2 t230 t231 (bt226.1 != t224)) else (laws_FnIntegers.j0 k bt228.1 bt228.2 t230 t231 false)))) else (laws_FnIntegers.j0 k bt228.1 bt228.2 t230 t231 true))) else (if t224 ≥ 0 then (if (bt226.2 != (decide (t224 ≤ 1000000000000))) = true then (laws_FnIntegers.j0 k bt228.1 bt228.2 t230 t231 true) else (if bt226.2 = true then (laws_FnIntegers.j0 k bt228.1 bt228.2 t230 t231 (bt226.1 != t224)) else (laws_FnIntegers.j0 k bt228.1 bt228.2 t230 t231 false))) else (if (bt226.2 != false) = true then (laws_FnIntegers.j0 k bt228.1 bt228.2 t230 t231 true) else (if bt226.2 = true then (laws_FnIntegers.j0 k bt228.1 bt228.2 t230 t231 (bt226.1 != t224)) else (laws_FnIntegers.j0 k bt228.1 bt228.2 t230 t231 false))))))))))) = some r := H
    have A5 := Aside0.mk A50
    clear A50
    replace H := Option.bind_eq_some_iff.mp H
    obtain ⟨t224, A60, H⟩ := H
    replace H : ((impl_FormatInt.f t224).bind fun t225 => ((impl_ParseInt.f k t225).bind fun bt226 => ((spec_DrawCeilDiv.f k l0).bind fun bt228 => ((impl_CeilDiv.f bt228.1 bt228.2).bind fun t230 => ((impl_Mod.f bt228.1 bt228.2).bind fun t231 => (if t223 = true then ((impl_FormatInt.f t222).bind fun t232 => (if t232.toList = t221.toList then (if t224 ≥ 0 then (if (bt226.2 != (decide (t224 ≤ 1000000000000))) = true then (laws_FnIntegers.j0 k bt228.1 bt228.2 t230 t231 true) else (if bt226.2 = true then (laws_FnIntegers.j0 k bt228.1 bt228.2 t230 t231 (bt226.1 != t224)) else (laws_FnIntegers.j0 k bt228.1 bt228.2 t230 t231 false))) else (if (bt226.2 != false) = true then (laws_FnIntegers.j0 k bt228.1 bt228.2 t230 t231 true) else (if bt226.2 = true then (laws_FnIntegers.j0 k bt228.1 bt228.2 t230 t231 (bt226.1 != t224)) else (laws_FnIntegers.j0 k bt228.1 bt228.2 t230 t231 false)))) else (laws_FnIntegers.j0 k bt228.1 bt228.2 t230 t231 true))) else (if t224 ≥ 0 then (if (bt226.2 != (decide (t224 ≤ 1000000000000))) = true then (laws_FnIntegers.j0 k bt228.1 bt228.2 t230 t231 true) else (if bt226.2 = true then (laws_FnIntegers.j0 k bt228.1 bt228.2 t230 t231 (bt226.1 != t224)) else (laws_FnIntegers.j0 k bt228.1 bt228.2 t230 t231 false))) else (if (bt226.2 != false) = true then (laws_FnIntegers.j0 k bt228.1 bt228.2 t230 t231 true) else (if bt226.2 = true then (laws_FnIntegers.j0 k bt228.1 bt228.2 t230 t231 (bt226.1 != t224)) else (laws_FnIntegers.j0 k bt228.1 bt228.2 t230 t231 false)))))))))) = some r := H
    have A6 := Aside0.mk A60
    clear A60
    replace H := Option.bind_eq_some_iff.mp H
    obtain ⟨t225, A70, H⟩ := H
    replace H : ((impl_ParseInt.f k t225).bind fun bt226 => ((spec_DrawCeilDiv.f k l0).bind fun bt228 => ((impl_CeilDiv.f bt228.1 bt228.2).bind fun t230 => ((impl_Mod.f bt228.1 bt228.2).bind fun t231 => (if t223 = true then ((impl_FormatInt.f t222).bind fun t232 => (if t232.toList = t221.toList then (if t224 ≥ 0 then (if (bt226.2 != (decide (t224 ≤ 1000000000000))) = true then (laws_FnIntegers.j0 k bt228.1 bt228.2 t230 t231 true) else (if bt226.2 = true then (laws_FnIntegers.j0 k bt228.1 bt228.2 t230 t231 (bt226.1 != t224)) else (laws_FnIntegers.j0 k bt228.1 bt228.2 t230 t231 false))) else (if (bt226.2 != false) = true then (laws_FnIntegers.j0 k bt228.1 bt228.2 t230 t231 true) else (if bt226.2 = true then (laws_FnIntegers.j0 k bt228.1 bt228.2 t230 t231 (bt226.1 != t224)) else (laws_FnIntegers.j0 k bt228.1 bt228.2 t230 t231 false)))) else (laws_FnIntegers.j0 k bt228.1 bt228.2 t230 t231 true))) else (if t224 ≥ 0 then (if (bt226.2 != (decide (t224 ≤ 1000000000000))) = true then (laws_FnIntegers.j0 k bt228.1 bt228.2 t230 t231 true) else (if bt226.2 = true then (laws_FnIntegers.j0 k bt228.1 bt228.2 t230 t231 (bt226.1 != t224)) else (laws_FnIntegers.j0 k bt228.1 bt228.2 t230 t231 false))) else (if (bt226.2 != false) = true then (laws_FnIntegers.j0 k bt228.1 bt228.2 t230 t231 true) else (if bt226.2 = true then (laws_FnIntegers.j0 k bt228.1 bt228.2 t230 t231 (bt226.1 != t224)) else (laws_FnIntegers.j0 k bt228.1 bt228.2 t230 t231 false))))))))) = some r := H
    have A7 := Aside0.mk A70
    clear A70
    replace H := Option.bind_eq_some_iff.mp H
    obtain ⟨⟨t226, t227⟩, A80, H⟩ := H
    replace H : ((spec_DrawCeilDiv.f k l0).bind fun bt228 => ((impl_CeilDiv.f bt228.1 bt228.2).bind fun t230 => ((impl_Mod.f bt228.1 bt228.2).bind fun t231 => (if t223 = true then ((impl_FormatInt.f t222).bind fun t232 => (if t232.toList = t221.toList then (if t224 ≥ 0 then (if (t227 != (decide (t224 ≤ 1000000000000))) = true then (laws_FnIntegers.j0 k bt228.1 bt228.2 t230 t231 true) else (if t227 = true then (laws_FnIntegers.j0 k bt228.1 bt228.2 t230 t231 (t226 != t224)) else (laws_FnIntegers.j0 k bt228.1 bt228.2 t230 t231 false))) else (if (t227 != false) = true then (laws_FnIntegers.j0 k bt228.1 bt228.2 t230 t231 true) else (if t227 = true then (laws_FnIntegers.j0 k bt228.1 bt228.2 t230 t231 (t226 != t224)) else (laws_FnIntegers.j0 k bt228.1 bt228.2 t230 t231 false)))) else (laws_FnIntegers.j0 k bt228.1 bt228.2 t230 t231 true))) else (if t224 ≥ 0 then (if (t227 != (decide (t224 ≤ 1000000000000))) = true then (laws_FnIntegers.j0 k bt228.1 bt228.2 t230 t231 true) else (if t227 = true then (laws_FnIntegers.j0 k bt228.1 bt228.2 t230 t231 (t226 != t224)) else (laws_FnIntegers.j0 k bt228.1 bt228.2 t230 t231 false))) else (if (t227 != false) = true then (laws_FnIntegers.j0 k bt228.1 bt228.2 t230 t231 true) else (if t227 = true then (laws_FnIntegers.j0 k bt228.1 bt228.2 t230 t231 (t226 != t224)) else (laws_FnIntegers.j0 k bt228.1 bt228.2 t230 t231 false)))))))) = some r := H
    have A8 := Aside0.mk A80
    clear A80
    replace H := Option.bind_eq_some_iff.mp H
    obtain ⟨⟨t228, t229⟩, A90, H⟩ := H
    replace H : ((impl_CeilDiv.f t228 t229).bind fun t230 => ((impl_Mod.f t228 t229).bind fun t231 => (if t223 = true then ((impl_FormatInt.f t222).bind fun t232 => (if t232.toList = t221.toList then (if t224 ≥ 0 then (if (t227 != (decide (t224 ≤ 1000000000000))) = true then (laws_FnIntegers.j0 k t228 t229 t230 t231 true) else (if t227 = true then (laws_FnIntegers.j0 k t228 t229 t230 t231 (t226 != t224)) else (laws_FnIntegers.j0 k t228 t229 t230 t231 false))) else (if (t227 != false) = true then (laws_FnIntegers.j0 k t228 t229 t230 t231 true) else (if t227 = true then (laws_FnIntegers.j0 k t228 t229 t230 t231 (t226 != t224)) else (laws_FnIntegers.j0 k t228 t229 t230 t231 false)))) else (laws_FnIntegers.j0 k t228 t229 t230 t231 true))) else (if t224 ≥ 0 then (if (t227 != (decide (t224 ≤ 1000000000000))) = true then (laws_FnIntegers.j0 k t228 t229 t230 t231 true) else (if t227 = true then (laws_FnIntegers.j0 k t228 t229 t230 t231 (t226 != t224)) else (laws_FnIntegers.j0 k t228 t229 t230 t231 false))) else (if (t227 != false) = true then (laws_FnIntegers.j0 k t228 t229 t230 t231 true) else (if t227 = true then (laws_FnIntegers.j0 k t228 t229 t230 t231 (t226 != t224)) else (laws_FnIntegers.j0 k t228 t229 t230 t231 false))))))) = some r := H
    have A9 := Aside0.mk A90
    clear A90
    replace H := Option.bind_eq_some_iff.mp H
    obtain ⟨t230, A100, H⟩ := H
    replace H : ((impl_Mod.f t228 t229).bind fun t231 => (if t223 = true then ((impl_FormatInt.f t222).bind fun t232 => (if t232.toList = t221.toList then (if t224 ≥ 0 then (if (t227 != (decide (t224 ≤ 1000000000000))) = true then (laws_FnIntegers.j0 k t228 t229 t230 t231 true) else (if t227 = true then (laws_FnIntegers.j0 k t228 t229 t230 t231 (t226 != t224)) else (laws_FnIntegers.j0 k t228 t229 t230 t231 false))) else (if (t227 != false) = true then (laws_FnIntegers.j0 k t228 t229 t230 t231 true) else (if t227 = true then (laws_FnIntegers.j0 k t228 t229 t230 t231 (t226 != t224)) else (laws_FnIntegers.j0 k t228 t229 t230 t231 false)))) else (laws_FnIntegers.j0 k t228 t229 t230 t231 true))) else (if t224 ≥ 0 then (if (t227 != (decide (t224 ≤ 1000000000000))) = true then (laws_FnIntegers.j0 k t228 t229 t230 t231 true) else (if t227 = true then (laws_FnIntegers.j0 k t228 t229 t230 t231 (t226 != t224)) else (laws_FnIntegers.j0 k t228 t229 t230 t231 false))) else (if (t227 != false) = true then (laws_FnIntegers.j0 k t228 t229 t230 t231 true) else (if t227 = true then (laws_FnIntegers.j0 k t228 t229 t230 t231 (t226 != t224)) else (laws_FnIntegers.j0 k t228 t229 t230 t231 false)))))) = some r := H
    have A10 := Aside0.mk A100
    clear A100
    replace H := Option.bind_eq_some_iff.mp H
    obtain ⟨t231, A110, H⟩ := H
    replace H : (if t223 = true then ((impl_FormatInt.f t222).bind fun t232 => (if t232.toList = t221.toList then (if t224 ≥ 0 then (if (t227 != (decide (t224 ≤ 1000000000000))) = true then (laws_FnIntegers.j0 k t228 t229 t230 t231 true) else (if t227 = true then (laws_FnIntegers.j0 k t228 t229 t230 t231 (t226 != t224)) else (laws_FnIntegers.j0 k t228 t229 t230 t231 false))) else (if (t227 != false) = true then (laws_FnIntegers.j0 k t228 t229 t230 t231 true) else (if t227 = true then (laws_FnIntegers.j0 k t228 t229 t230 t231 (t226 != t224)) else (laws_FnIntegers.j0 k t228 t229 t230 t231 false)))) else (laws_FnIntegers.j0 k t228 t229 t230 t231 true))) else (if t224 ≥ 0 then (if (t227 != (decide (t224 ≤ 1000000000000))) = true then (laws_FnIntegers.j0 k t228 t229 t230 t231 true) else (if t227 = true then (laws_FnIntegers.j0 k t228 t229 t230 t231 (t226 != t224)) else (laws_FnIntegers.j0 k t228 t229 t230 t231 false))) else (if (t227 != false) = true then (laws_FnIntegers.j0 k t228 t229 t230 t231 true) else (if t227 = true then (laws_FnIntegers.j0 k t228 t229 t230 t231 (t226 != t224)) else (laws_FnIntegers.j0 k t228 t229 t230 t231 false))))) = some r := H
    have A11 := Aside0.mk A110
    clear A110
    have HC12 := Aside0.mk H
    clear H
    go_enter Tryd.func5, Tryd.ntmps5
    go_upto_region 10 with (first | ((with_reducible refine gate_callee (f := 12) rfl ?_); refine goesL_ (some 14) rfl rfl Tryd.func12 (by kernel_rfl) rfl #[.slice A0 l0.length c0] rfl (by (try simp only [List.map_toArray, List.map_cons, List.map_nil]); first | done | rfl | (simp only [List.length_drop, List.length_take]; rfl)) ?_; (with_reducible refine (laws_big.calls _ _ l0 false _ ?side1 ?side2 A2.out).mono ?_); (case side1 => repeat (first | exact HR0.out | (with_reducible refine Kd.C_alloc ?_ _) | (with_reducible refine Kd.C_drewN ?_ _) | (with_reducible refine Kd.C_drew ?_))); (case side2 => exact HC0.out); rintro e w' ⟨rfl, ⟨nd, rfl⟩⟩; refine ⟨_, rfl, ?_⟩) | ((with_reducible refine gate_callee (f := 13) rfl ?_); refine goesL_ (some 16) rfl rfl Tryd.func13 (by kernel_rfl) rfl #[.slice A0 l0.length c0] rfl (by (try simp only [List.map_toArray, List.map_cons, List.map_nil]); first | done | rfl | (simp only [List.length_drop, List.length_take]; rfl)) ?_; (with_reducible refine (spec_DrawParseInt.calls k _ _ l0 t221 _ ?side1 ?side2 A4.out).mono ?_); (case side1 => repeat (first | exact HR0.out | (with_reducible refine Kd.C_alloc ?_ _) | (with_reducible refine Kd.C_drewN ?_ _) | (with_reducible refine Kd.C_drew ?_))); (case side2 => exact HC0.out); rintro e w13 ⟨rfl, hb⟩; refine ⟨_, rfl, ?_⟩; have n0_ := Aside0.mk (below_step (by repeat (first | (with_reducible first | exact HB.out | apply below_alloc | apply pw_below_drewN | apply below_drew1) | exact HB.out)) hb); clear HB; have HB := n0_; clear n0_; (try clear hb); (try clear hb2); (try clear hk); (try clear hi)) | ((with_reducible refine gate_callee (f := 14) rfl ?_); refine goesL_ (some 19) rfl rfl Tryd.func14 (by kernel_rfl) rfl #[.string t221] rfl (by (try simp only [List.map_toArray, List.map_cons, List.map_nil]); first | done | rfl | (simp only [List.length_drop, List.length_take]; rfl)) ?_; (with_reducible refine (impl_ParseInt.calls k t221 t222 t223 _ A5.out).mono ?_); rintro e w' ⟨rfl, ⟨nd, rfl⟩⟩; refine ⟨_, rfl, ?_⟩) | ((with_reducible refine gate_callee (f := 15) rfl ?_); refine goesL_ (some 23) rfl rfl Tryd.func15 (by kernel_rfl) rfl #[.slice A0 l0.length c0] rfl (by (try simp only [List.map_toArray, List.map_cons, List.map_nil]); first | done | rfl | (simp only [List.length_drop, List.length_take]; rfl)) ?_; (with_reducible refine (spec_DrawFormatInt.calls k _ _ l0 t224 _ ?side1 ?side2 A6.out).mono ?_); (case side1 => repeat (first | exact (Kd.C_below HR0.out (by repeat (first | (with_reducible first | exact HB.out | apply below_alloc | apply pw_below_drewN | apply below_drew1) | exact HB.out))) | (with_reducible refine Kd.C_alloc ?_ _) | (with_reducible refine Kd.C_drewN ?_ _) | (with_reducible refine Kd.C_drew ?_))); (case side2 => exact HC0.out); rintro e w14 ⟨rfl, hb⟩; refine ⟨_, rfl, ?_⟩; have n0_ := Aside0.mk (below_step (by repeat (first | (with_reducible first | exact HB.out | apply below_alloc | apply pw_below_drewN | apply below_drew1) | exact HB.out)) hb); clear HB; have HB := n0_; clear n0_; (try clear hb); (try clear hb2); (try clear hk); (try clear hi)) | ((with_reducible refine gate_callee (f := 8) rfl ?_); refine goesL_ (some 26) rfl rfl Tryd.func8 (by kernel_rfl) rfl #[.int .i64 t224] rfl (by (try simp only [List.map_toArray, List.map_cons, List.map_nil]); first | done | rfl | (simp only [List.length_drop, List.length_take]; rfl)) ?_; (with_reducible refine (impl_FormatInt.calls t224 t225 _ ?sidet A7.out).mono ?_); (case sidet => exact tab_on HTAB (by repeat (first | (with_reducible first | exact HB.out | apply below_alloc | apply pw_below_drewN | apply below_drew1) | exact HB.out))); rintro e w15 ⟨rfl, hb⟩; refine ⟨_, rfl, ?_⟩; have n0_ := Aside0.mk (below_step (by repeat (first | (with_reducible first | exact HB.out | apply below_alloc | apply pw_below_drewN | apply below_drew1) | exact HB.out)) hb); clear HB; have HB := n0_; clear n0_; (try clear hb); (try clear hb2); (try clear hk); (try clear hi)) | ((with_reducible refine gate_callee (f := 14) rfl ?_); refine goesL_ (some 27) rfl rfl Tryd.func14 (by kernel_rfl) rfl #[.string t225] rfl (by (try simp only [List.map_toArray, List.map_cons, List.map_nil]); first | done | rfl | (simp only [List.length_drop, List.length_take]; rfl)) ?_; (with_reducible refine (impl_ParseInt.calls k t225 t226 t227 _ A8.out).mono ?_); rintro e w' ⟨rfl, ⟨nd, rfl⟩⟩; refine ⟨_, rfl, ?_⟩) | ((with_reducible refine gate_callee (f := 16) rfl ?_); refine goesL_ (some 32) rfl rfl Tryd.func16 (by kernel_rfl) rfl #[.slice A0 l0.length c0] rfl (by (try simp only [List.map_toArray, List.map_cons, List.map_nil]); first | done | rfl | (simp only [List.length_drop, List.length_take]; rfl)) ?_; (with_reducible refine (spec_DrawCeilDiv.calls k _ _ l0 t228 t229 _ ?side1 ?side2 A9.out).mono ?_); (case side1 => repeat (first | exact (Kd.C_below HR0.out (by repeat (first | (with_reducible first | exact HB.out | apply below_alloc | apply pw_below_drewN | apply below_drew1) | exact HB.out))) | (with_reducible refine Kd.C_alloc ?_ _) | (with_reducible refine Kd.C_drewN ?_ _) | (with_reducible refine Kd.C_drew ?_))); (case side2 => exact HC0.out); rintro e w16 ⟨rfl, hb⟩; refine ⟨_, rfl, ?_⟩; have n0_ := Aside0.mk (below_step (by repeat (first | (with_reducible first | exact HB.out | apply below_alloc | apply pw_below_drewN | apply below_drew1) | exact HB.out)) hb); clear HB; have HB := n0_; clear n0_; (try clear hb); (try clear hb2); (try clear hk); (try clear hi)) | ((with_reducible refine gate_callee (f := 17) rfl ?_); refine goesL_ (some 37) rfl rfl Tryd.func17 (by kernel_rfl) rfl #[.int .i64 t228, .int .i64 t229] rfl (by (try simp only [List.map_toArray, List.map_cons, List.map_nil]); first | done | rfl | (simp only [List.length_drop, List.length_take]; rfl)) ?_; (with_reducible refine (impl_CeilDiv.calls t228 t229 t230 _ A10.out).mono ?_); rintro e w' ⟨rfl, ⟨nd, rfl⟩⟩; refine ⟨_, rfl, ?_⟩) | ((with_reducible refine gate_callee (f := 18) rfl ?_); refine goesL_ (some 40) rfl rfl Tryd.func18 (by kernel_rfl) rfl #[.int .i64 t228, .int .i64 t229] rfl (by (try simp only [List.map_toArray, List.map_cons, List.map_nil]); first | done | rfl | (simp only [List.length_drop, List.length_take]; rfl)) ?_; (with_reducible refine (impl_Mod.calls t228 t229 t231 _ A11.out).mono ?_); rintro e w' ⟨rfl, ⟨nd, rfl⟩⟩; refine ⟨_, rfl, ?_⟩))
    (try simp only [Act.put, List.setIfInBounds_toArray, List.set_cons_zero, List.set_cons_succ])
    go_cut [65] (fun v65 wc => ∃ (kq : Nat) (x65_11 : Bool), v65 = .bool x65_11 ∧ Aside0 (laws_FnIntegers.j0 kq t228 t229 t230 t231 x65_11 = some r) ∧ Aside0 (kq ≤ k) ∧ Aside0 (Below w.heap.size w wc))
    case first =>
      have H := HC12.out
      clear HC12
      by_cases c17 : t223 = true
      · subst c17
        have H1 : ((impl_FormatInt.f t222).bind fun t232 => (if t232.toList = t221.toList then (if t224 ≥ 0 then (if (t227 != (decide (t224 ≤ 1000000000000))) = true then (laws_FnIntegers.j0 k t228 t229 t230 t231 true) else (if t227 = true then (laws_FnIntegers.j0 k t228 t229 t230 t231 (t226 != t224)) else (laws_FnIntegers.j0 k t228 t229 t230 t231 false))) else (if (t227 != false) = true then (laws_FnIntegers.j0 k t228 t229 t230 t231 true) else (if t227 = true then (laws_FnIntegers.j0 k t228 t229 t230 t231 (t226 != t224)) else (laws_FnIntegers.j0 k t228 t229 t230 t231 false)))) else (laws_FnIntegers.j0 k t228 t229 t230 t231 true))) = some r := by rw [if_pos rfl] at H; exact H
        clear H
        have H := H1
        clear H1
        replace H := Option.bind_eq_some_iff.mp H
        obtain ⟨t232, A180, H⟩ := H
        replace H : (if t232.toList = t221.toList then (if t224 ≥ 0 then (if (t227 != (decide (t224 ≤ 1000000000000))) = true then (laws_FnIntegers.j0 k t228 t229 t230 t231 true) else (if t227 = true then (laws_FnIntegers.j0 k t228 t229 t230 t231 (t226 != t224)) else (laws_FnIntegers.j0 k t228 t229 t230 t231 false))) else (if (t227 != false) = true then (laws_FnIntegers.j0 k t228 t229 t230 t231 true) else (if t227 = true then (laws_FnIntegers.j0 k t228 t229 t230 t231 (t226 != t224)) else (laws_FnIntegers.j0 k t228 t229 t230 t231 false)))) else (laws_FnIntegers.j0 k t228 t229 t230 t231 true)) = some r := H
        have A18 := Aside0.mk A180
        clear A180
        by_cases c19 : t232.toList = t221.toList
        · rw [if_pos c19] at H
          have c19b0 : (t232.toList == t221.toList) = true := beq_iff_eq.mpr c19
          have c19b1 : (t232.toList != t221.toList) = false := bne_eq_false_iff_eq.mpr c19
          clear c19
          (first | rw [c19b0] | (simp only [i64_w, i32_w]; rw [c19b0]) | skip)
          by_cases c20 : t224 ≥ 0
          · rw [if_pos c20] at H
            have c20b0 : decide (0 ≤ t224) = true := decide_eq_true c20
            clear c20
            by_cases c21 : (t227 != (decide (t224 ≤ 1000000000000))) = true
            · rw [if_pos c21] at H
              have c21b0 : (t227 != (decide (t224 ≤ 1000000000000))) = true := c21
              (try (have c21b1 : decide (t227 = (decide (t224 ≤ 1000000000000))) = false := by simpa using c21))
              (try (have c21b2 : (t227 == (decide (t224 ≤ 1000000000000))) = false := by simpa using c21))
              (try (have c21b3 : ¬ (t227 = (decide (t224 ≤ 1000000000000))) := by simpa using c21))
              clear c21
              have H' := Aside0.mk H
              clear H
              go_wp2_with (first | (go_at_call 8; (with_reducible refine (impl_FormatInt.calls t222 t232 _ ?sidet A18.out).mono ?_); (case sidet => exact tab_on HTAB (by repeat (first | (with_reducible first | exact HB.out | apply below_alloc | apply pw_below_drewN | apply below_drew1) | exact HB.out))); rintro e w22 ⟨rfl, hb⟩; have n0_ := Aside0.mk (below_step (by repeat (first | (with_reducible first | exact HB.out | apply below_alloc | apply pw_below_drewN | apply below_drew1) | exact HB.out)) hb); clear HB; have HB := n0_; clear n0_; (try clear hb); (try clear hb2); (try clear hk); (try clear hi)))
              go_meet
              case rel => exact ⟨_, (true), (by first | rfl | (simp; done) | (simp [*]; done)), H', ⟨by first | omega | exact Nat.le_refl _⟩, ⟨by repeat (first | (with_reducible first | exact HB.out | apply below_alloc | apply pw_below_drewN | apply below_drew1) | exact HB.out)⟩⟩
            · rw [if_neg c21] at H
              have c21b0 : (t227 != (decide (t224 ≤ 1000000000000))) = false := by simpa using c21
              (try (have c21b1 : decide (t227 = (decide (t224 ≤ 1000000000000))) = true := by simpa using c21))
              (try (have c21b2 : (t227 == (decide (t224 ≤ 1000000000000))) = true := by simpa using c21))
              clear c21
              by_cases c23 : t227 = true
              · subst c23
                have H1 : (laws_FnIntegers.j0 k t228 t229 t230 t231 (t226 != t224)) = some r := by rw [if_pos rfl] at H; exact H
                clear H
                have H := H1
                clear H1
                have H' := Aside0.mk H
                clear H
                go_wp2_with (first | (go_at_call 8; (with_reducible refine (impl_FormatInt.calls t222 t232 _ ?sidet A18.out).mono ?_); (case sidet => exact tab_on HTAB (by repeat (first | (with_reducible first | exact HB.out | apply below_alloc | apply pw_below_drewN | apply below_drew1) | exact HB.out))); rintro e w24 ⟨rfl, hb⟩; have n0_ := Aside0.mk (below_step (by repeat (first | (with_reducible first | exact HB.out | apply below_alloc | apply pw_below_drewN | apply below_drew1) | exact HB.out)) hb); clear HB; have HB := n0_; clear n0_; (try clear hb); (try clear hb2); (try clear hk); (try clear hi)))
                go_meet
                case rel => exact ⟨_, ((t226 != t224)), (by first | rfl | (simp; done) | (simp [*]; done)), H', ⟨by first | omega | exact Nat.le_refl _⟩, ⟨by repeat (first | (with_reducible first | exact HB.out | apply below_alloc | apply pw_below_drewN | apply below_drew1) | exact HB.out)⟩⟩
              · replace c23 := Bool.eq_false_iff.mpr c23
                subst c23
                have H1 : (laws_FnIntegers.j0 k t228 t229 t230 t231 false) = some r := by rw [if_neg (show ¬ (false = true) by decide)] at H; exact H
                clear H
                have H := H1
                clear H1
                have H' := Aside0.mk H
                clear H
                go_wp2_with (first | (go_at_call 8; (with_reducible refine (impl_FormatInt.calls t222 t232 _ ?sidet A18.out).mono ?_); (case sidet => exact tab_on HTAB (by repeat (first | (with_reducible first | exact HB.out | apply below_alloc | apply pw_below_drewN | apply below_drew1) | exact HB.out))); rintro e w25 ⟨rfl, hb⟩; have n0_ := Aside0.mk (below_step (by repeat (first | (with_reducible first | exact HB.out | apply below_alloc | apply pw_below_drewN | apply below_drew1) | exact HB.out)) hb); clear HB; have HB := n0_; clear n0_; (try clear hb); (try clear hb2); (try clear hk); (try clear hi)))
                go_meet
                case rel => exact ⟨_, (false), (by first | rfl | (simp; done) | (simp [*]; done)), H', ⟨by first | omega | exact Nat.le_refl _⟩, ⟨by repeat (first | (with_reducible first | exact HB.out | apply below_alloc | apply pw_below_drewN | apply below_drew1) | exact HB.out)⟩⟩
          · rw [if_neg c20] at H
            have c20b0 : decide (0 ≤ t224) = false := decide_eq_false c20
            clear c20
            by_cases c26 : (t227 != false) = true
            · rw [if_pos c26] at H
              have c26b0 : (t227 != false) = true := c26
              obtain rfl : t227 = true := by simpa using c26
              clear c26
              have H' := Aside0.mk H
              clear H
              go_wp2_with (first | (go_at_call 8; (with_reducible refine (impl_FormatInt.calls t222 t232 _ ?sidet A18.out).mono ?_); (case sidet => exact tab_on HTAB (by repeat (first | (with_reducible first | exact HB.out | apply below_alloc | apply pw_below_drewN | apply below_drew1) | exact HB.out))); rintro e w27 ⟨rfl, hb⟩; have n0_ := Aside0.mk (below_step (by repeat (first | (with_reducible first | exact HB.out | apply below_alloc | apply pw_below_drewN | apply below_drew1) | exact HB.out)) hb); clear HB; have HB := n0_; clear n0_; (try clear hb); (try clear hb2); (try clear hk); (try clear hi)))
              go_meet
              case rel => exact ⟨_, (true), (by first | rfl | (simp; done) | (simp [*]; done)), H', ⟨by first | omega | exact Nat.le_refl _⟩, ⟨by repeat (first | (with_reducible first | exact HB.out | apply below_alloc | apply pw_below_drewN | apply below_drew1) | exact HB.out)⟩⟩
            · rw [if_neg c26] at H
              have c26b0 : (t227 != false) = false := by simpa using c26
              (try (have c26b1 : decide (t227 = false) = true := by simpa using c26))
              (try (have c26b2 : (t227 == false) = true := by simpa using c26))
              clear c26
              by_cases c28 : t227 = true
              · subst c28
                have H1 : (laws_FnIntegers.j0 k t228 t229 t230 t231 (t226 != t224)) = some r := by rw [if_pos rfl] at H; exact H
                clear H
                have H := H1
                clear H1
                have H' := Aside0.mk H
                clear H
                go_wp2_with (first | (go_at_call 8; (with_reducible refine (impl_FormatInt.calls t222 t232 _ ?sidet A18.out).mono ?_); (case sidet => exact tab_on HTAB (by repeat (first | (with_reducible first | exact HB.out | apply below_alloc | apply pw_below_drewN | apply below_drew1) | exact HB.out))); rintro e w29 ⟨rfl, hb⟩; have n0_ := Aside0.mk (below_step (by repeat (first | (with_reducible first | exact HB.out | apply below_alloc | apply pw_below_drewN | apply below_drew1) | exact HB.out)) hb); clear HB; have HB := n0_; clear n0_; (try clear hb); (try clear hb2); (try clear hk); (try clear hi)))
                go_meet
                case rel => exact ⟨_, ((t226 != t224)), (by first | rfl | (simp; done) | (simp [*]; done)), H', ⟨by first | omega | exact Nat.le_refl _⟩, ⟨by repeat (first | (with_reducible first | exact HB.out | apply below_alloc | apply pw_below_drewN | apply below_drew1) | exact HB.out)⟩⟩
              · replace c28 := Bool.eq_false_iff.mpr c28
                subst c28
                have H1 : (laws_FnIntegers.j0 k t228 t229 t230 t231 false) = some r := by rw [if_neg (show ¬ (false = true) by decide)] at H; exact H
                clear H
                have H := H1
                clear H1
                have H' := Aside0.mk H
                clear H
                go_wp2_with (first | (go_at_call 8; (with_reducible refine (impl_FormatInt.calls t222 t232 _ ?sidet A18.out).mono ?_); (case sidet => exact tab_on HTAB (by repeat (first | (with_reducible first | exact HB.out | apply below_alloc | apply pw_below_drewN | apply below_drew1) | exact HB.out))); rintro e w30 ⟨rfl, hb⟩; have n0_ := Aside0.mk (below_step (by repeat (first | (with_reducible first | exact HB.out | apply below_alloc | apply pw_below_drewN | apply below_drew1) | exact HB.out)) hb); clear HB; have HB := n0_; clear n0_; (try clear hb); (try clear hb2); (try clear hk); (try clear hi)))
                go_meet
                case rel => exact ⟨_, (false), (by first | rfl | (simp; done) | (simp [*]; done)), H', ⟨by first | omega | exact Nat.le_refl _⟩, ⟨by repeat (first | (with_reducible first | exact HB.out | apply below_alloc | apply pw_below_drewN | apply below_drew1) | exact HB.out)⟩⟩
        · rw [if_neg c19] at H
          have c19b0 : (t232.toList == t221.toList) = false := beq_eq_false_iff_ne.mpr c19
          have c19b1 : (t232.toList != t221.toList) = true := bne_iff_ne.mpr c19
          (first | rw [c19b0] | (simp only [i64_w, i32_w]; rw [c19b0]) | skip)
          have H' := Aside0.mk H
          clear H
          go_wp2_with (first | (go_at_call 8; (with_reducible refine (impl_FormatInt.calls t222 t232 _ ?sidet A18.out).mono ?_); (case sidet => exact tab_on HTAB (by repeat (first | (with_reducible first | exact HB.out | apply below_alloc | apply pw_below_drewN | apply below_drew1) | exact HB.out))); rintro e w31 ⟨rfl, hb⟩; have n0_ := Aside0.mk (below_step (by repeat (first | (with_reducible first | exact HB.out | apply below_alloc | apply pw_below_drewN | apply below_drew1) | exact HB.out)) hb); clear HB; have HB := n0_; clear n0_; (try clear hb); (try clear hb2); (try clear hk); (try clear hi)))
          go_meet
          case rel => exact ⟨_, (true), (by first | rfl | (simp; done) | (simp [*]; done)), H', ⟨by first | omega | exact Nat.le_refl _⟩, ⟨by repeat (first | (with_reducible first | exact HB.out | apply below_alloc | apply pw_below_drewN | apply below_drew1) | exact HB.out)⟩⟩
      · replace c17 := Bool.eq_false_iff.mpr c17
        subst c17
        have H1 : (if t224 ≥ 0 then (if (t227 != (decide (t224 ≤ 1000000000000))) = true then (laws_FnIntegers.j0 k t228 t229 t230 t231 true) else (if t227 = true then (laws_FnIntegers.j0 k t228 t229 t230 t231 (t226 != t224)) else (laws_FnIntegers.j0 k t228 t229 t230 t231 false))) else (if (t227 != false) = true then (laws_FnIntegers.j0 k t228 t229 t230 t231 true) else (if t227 = true then (laws_FnIntegers.j0 k t228 t229 t230 t231 (t226 != t224)) else (laws_FnIntegers.j0 k t228 t229 t230 t231 false)))) = some r := by rw [if_neg (show ¬ (false = true) by decide)] at H; exact H
        clear H
        have H := H1
        clear H1
        by_cases c32 : t224 ≥ 0
        · rw [if_pos c32] at H
          have c32b0 : decide (0 ≤ t224) = true := decide_eq_true c32
          clear c32
          by_cases c33 : (t227 != (decide (t224 ≤ 1000000000000))) = true
          · rw [if_pos c33] at H
            have c33b0 : (t227 != (decide (t224 ≤ 1000000000000))) = true := c33
            (try (have c33b1 : decide (t227 = (decide (t224 ≤ 1000000000000))) = false := by simpa using c33))
            (try (have c33b2 : (t227 == (decide (t224 ≤ 1000000000000))) = false := by simpa using c33))
            (try (have c33b3 : ¬ (t227 = (decide (t224 ≤ 1000000000000))) := by simpa using c33))
            clear c33
            have H' := Aside0.mk H
            clear H
            go_wp2
            go_meet
            case rel => exact ⟨_, (true), (by first | rfl | (simp; done) | (simp [*]; done)), H', ⟨by first | omega | exact Nat.le_refl _⟩, ⟨by repeat (first | (with_reducible first | exact HB.out | apply below_alloc | apply pw_below_drewN | apply below_drew1) | exact HB.out)⟩⟩
          · rw [if_neg c33] at H
            have c33b0 : (t227 != (decide (t224 ≤ 1000000000000))) = false := by simpa using c33
            (try (have c33b1 : decide (t227 = (decide (t224 ≤ 1000000000000))) = true := by simpa using c33))
            (try (have c33b2 : (t227 == (decide (t224 ≤ 1000000000000))) = true := by simpa using c33))
            clear c33
            by_cases c34 : t227 = true
            · subst c34
              have H1 : (laws_FnIntegers.j0 k t228 t229 t230 t231 (t226 != t224)) = some r := by rw [if_pos rfl] at H; exact H
              clear H
              have H := H1
              clear H1
              have H' := Aside0.mk H
              clear H
              go_wp2
              go_meet
              case rel => exact ⟨_, ((t226 != t224)), (by first | rfl | (simp; done) | (simp [*]; done)), H', ⟨by first | omega | exact Nat.le_refl _⟩, ⟨by repeat (first | (with_reducible first | exact HB.out | apply below_alloc | apply pw_below_drewN | apply below_drew1) | exact HB.out)⟩⟩
            · replace c34 := Bool.eq_false_iff.mpr c34
              subst c34
              have H1 : (laws_FnIntegers.j0 k t228 t229 t230 t231 false) = some r := by rw [if_neg (show ¬ (false = true) by decide)] at H; exact H
              clear H
              have H := H1
              clear H1
              have H' := Aside0.mk H
              clear H
              go_wp2
              go_meet
              case rel => exact ⟨_, (false), (by first | rfl | (simp; done) | (simp [*]; done)), H', ⟨by first | omega | exact Nat.le_refl _⟩, ⟨by repeat (first | (with_reducible first | exact HB.out | apply below_alloc | apply pw_below_drewN | apply below_drew1) | exact HB.out)⟩⟩
        · rw [if_neg c32] at H
          have c32b0 : decide (0 ≤ t224) = false := decide_eq_false c32
          clear c32
          by_cases c35 : (t227 != false) = true
          · rw [if_pos c35] at H
            have c35b0 : (t227 != false) = true := c35
            obtain rfl : t227 = true := by simpa using c35
            clear c35
            have H' := Aside0.mk H
            clear H
            go_wp2
            go_meet
            case rel => exact ⟨_, (true), (by first | rfl | (simp; done) | (simp [*]; done)), H', ⟨by first | omega | exact Nat.le_refl _⟩, ⟨by repeat (first | (with_reducible first | exact HB.out | apply below_alloc | apply pw_below_drewN | apply below_drew1) | exact HB.out)⟩⟩
          · rw [if_neg c35] at H
            have c35b0 : (t227 != false) = false := by simpa using c35
            (try (have c35b1 : decide (t227 = false) = true := by simpa using c35))
            (try (have c35b2 : (t227 == false) = true := by simpa using c35))
            clear c35
            by_cases c36 : t227 = true
            · subst c36
              have H1 : (laws_FnIntegers.j0 k t228 t229 t230 t231 (t226 != t224)) = some r := by rw [if_pos rfl] at H; exact H
              clear H
              have H := H1
              clear H1
              have H' := Aside0.mk H
              clear H
              go_wp2
              go_meet
              case rel => exact ⟨_, ((t226 != t224)), (by first | rfl | (simp; done) | (simp [*]; done)), H', ⟨by first | omega | exact Nat.le_refl _⟩, ⟨by repeat (first | (with_reducible first | exact HB.out | apply below_alloc | apply pw_below_drewN | apply below_drew1) | exact HB.out)⟩⟩
            · replace c36 := Bool.eq_false_iff.mpr c36
              subst c36
              have H1 : (laws_FnIntegers.j0 k t228 t229 t230 t231 false) = some r := by rw [if_neg (show ¬ (false = true) by decide)] at H; exact H
              clear H
              have H := H1
              clear H1
              have H' := Aside0.mk H
              clear H
              go_wp2
              go_meet
              case rel => exact ⟨_, (false), (by first | rfl | (simp; done) | (simp [*]; done)), H', ⟨by first | omega | exact Nat.le_refl _⟩, ⟨by repeat (first | (with_reducible first | exact HB.out | apply below_alloc | apply pw_below_drewN | apply below_drew1) | exact HB.out)⟩⟩
    case rest =>
      clear HC12
      try clear c1
      try clear c2
      try clear p2
      try clear c3
      try clear c5
      try clear c8
      try clear c12
      try clear c13
      try clear c14
      try clear c15
      try clear c16
      try clear c17
      try clear c18
      try clear c19
      try clear c19b0
      try clear c19b1
      try clear c20
      try clear c20b0
      try clear c21
      try clear c21b0
      try clear c21b1
      try clear c21b2
      try clear c23
      try clear c26
      try clear c26b0
      try clear c26b1
      try clear c26b2
      try clear c28
      try clear c32
      try clear c32b0
      try clear c33
      try clear c33b0
      try clear c33b1
      try clear c33b2
      try clear c34
      try clear c35
      try clear c35b0
      try clear c35b1
      try clear c35b2
      try clear c36
      obtain ⟨kq, x65_11, rfl, HA, HJ11, HB⟩ := hcut
      cases kq with
      | zero => exact absurd HA.out (by simp [laws_FnIntegers.j0])
      | succ kj11 =>
        have H := HA.out
        clear HA
        simp only [laws_FnIntegers.j0] at H
        by_cases c37 : x65_11 = true
        · subst c37
          have H1 : (some false) = some r := by rw [if_pos rfl] at H; exact H
          clear H
          have H := H1
          clear H1
          obtain rfl := Option.some.inj H
          go_wp2
          go_ret
          exact ⟨by first | rfl | (simp [errW_none, errW_some] <;> rfl) | (simp [*, errW_none, errW_some] <;> rfl), by repeat (first | (with_reducible first | exact HB.out | apply below_alloc | apply pw_below_drewN | apply below_drew1) | exact HB.out)⟩
        · replace c37 := Bool.eq_false_iff.mpr c37
          subst c37
          have H1 : (if t229 < 1 then (laws_FnIntegers.j1 kj11 t228 t229 t230 t231 true) else (laws_FnIntegers.j1 kj11 t228 t229 t230 t231 (decide (t229 > 1000000000000)))) = some r := by rw [if_neg (show ¬ (false = true) by decide)] at H; exact H
          clear H
          have H := H1
          clear H1
          have HC38 := Aside0.mk H
          clear H
          go_upto_region 12 with (fail)
          go_cut [71] (fun v71 wc => ∃ (kq : Nat) (x71_37 : Bool), v71 = .bool x71_37 ∧ Aside0 (laws_FnIntegers.j1 kq t228 t229 t230 t231 x71_37 = some r) ∧ Aside0 (kq ≤ kj11) ∧ Aside0 (Below w.heap.size w wc))
          case first =>
            have H := HC38.out
            clear HC38
            by_cases c39 : t229 < 1
            · rw [if_pos c39] at H
              have c39b0 : decide (t229 < 1) = true := decide_eq_true c39
              clear c39
              (first | rw [c39b0] | (simp only [i64_w, i32_w]; rw [c39b0]) | skip)
              have H' := Aside0.mk H
              clear H
              go_wp2
              go_meet
              case rel => exact ⟨_, (true), (by first | rfl | (simp; done) | (simp [*]; done)), H', ⟨by have := HJ11.out; first | omega | exact Nat.le_refl _⟩, ⟨by repeat (first | (with_reducible first | exact HB.out | apply below_alloc | apply pw_below_drewN | apply below_drew1) | exact HB.out)⟩⟩
            · rw [if_neg c39] at H
              have c39b0 : decide (t229 < 1) = false := decide_eq_false c39
              clear c39
              (first | rw [c39b0] | (simp only [i64_w, i32_w]; rw [c39b0]) | skip)
              have H' := Aside0.mk H
              clear H
              go_wp2
              go_meet
              case rel => exact ⟨_, (decide (t229 > 1000000000000)), (by first | rfl | (simp; done) | (simp [*]; done)), H', ⟨by have := HJ11.out; first | omega | exact Nat.le_refl _⟩, ⟨by repeat (first | (with_reducible first | exact HB.out | apply below_alloc | apply pw_below_drewN | apply below_drew1) | exact HB.out)⟩⟩
          case rest =>
            clear HC38
            try clear c1
            try clear c2
            try clear p2
            try clear c3
            try clear c5
            try clear c8
            try clear c12
            try clear c13
            try clear c14
            try clear c15
            try clear c16
            try clear c17
            try clear c18
            try clear c19
            try clear c19b0
            try clear c19b1
            try clear c20
            try clear c20b0
            try clear c21
            try clear c21b0
            try clear c21b1
            try clear c21b2
            try clear c23
            try clear c26
            try clear c26b0
            try clear c26b1
            try clear c26b2
            try clear c28
            try clear c32
            try clear c32b0
            try clear c33
            try clear c33b0
            try clear c33b1
            try clear c33b2
            try clear c34
            try clear c35
            try clear c35b0
            try clear c35b1
            try clear c35b2
            try clear c36
            try clear c37
            try clear c39
            try clear c39b0
            try clear p2
            obtain ⟨kq, x71_37, rfl, HA, HJ37, HB⟩ := hcut
            cases kq with
            | zero => exact absurd HA.out (by simp [laws_FnIntegers.j1])
            | succ kj37 =>
              have H := HA.out
              clear HA
              simp only [laws_FnIntegers.j1] at H
              by_cases c40 : x71_37 = true
              · subst c40
                have H1 : (if t230 = 0 then (some (t231 == 0)) else (some false)) = some r := by rw [if_pos rfl] at H; exact H
                clear H
                have H := H1
                clear H1
                by_cases c41 : t230 = 0
                · rw [if_pos c41] at H
                  have c41b0 : (t230 == 0) = true := beq_iff_eq.mpr c41
                  have c41b1 : (t230 != 0) = false := bne_eq_false_iff_eq.mpr c41
                  clear c41
                  obtain rfl := Option.some.inj H
                  go_wp2
                  go_ret
                  exact ⟨by first | rfl | (simp [errW_none, errW_some] <;> rfl) | (simp [*, errW_none, errW_some] <;> rfl), by repeat (first | (with_reducible first | exact HB.out | apply below_alloc | apply pw_below_drewN | apply below_drew1) | exact HB.out)⟩
                · rw [if_neg c41] at H
                  have c41b0 : (t230 == 0) = false := beq_eq_false_iff_ne.mpr c41
                  have c41b1 : (t230 != 0) = true := bne_iff_ne.mpr c41
                  obtain rfl := Option.some.inj H
                  go_wp2
                  go_ret
                  exact ⟨by first | rfl | (simp [errW_none, errW_some] <;> rfl) | (simp [*, errW_none, errW_some] <;> rfl), by repeat (first | (with_reducible first | exact HB.out | apply below_alloc | apply pw_below_drewN | apply below_drew1) | exact HB.out)⟩
              · replace c40 := Bool.eq_false_iff.mpr c40
                subst c40
                have H1 : (if t231 < 0 then (laws_FnIntegers.j2 kj37 t228 t229 t230 true) else (if t231 ≥ t229 then (laws_FnIntegers.j2 kj37 t228 t229 t230 true) else (if t229 = 0 then (none) else (laws_FnIntegers.j2 kj37 t228 t229 t230 ((Int.tmod (wrap64 ((Int.tmod t228 t229) - t231)) t229) != 0))))) = some r := by rw [if_neg (show ¬ (false = true) by decide)] at H; exact H
                clear H
                have H := H1
                clear H1
                have HC42 := Aside0.mk H
                clear H
                go_upto_region 14 with (fail)
                go_cut [94] (fun v94 wc => ∃ (kq : Nat) (x94_41 : Bool), v94 = .bool x94_41 ∧ Aside0 (laws_FnIntegers.j2 kq t228 t229 t230 x94_41 = some r) ∧ Aside0 (kq ≤ kj37) ∧ Aside0 (Below w.heap.size w wc))
                case first =>
                  have H := HC42.out
                  clear HC42
                  by_cases c43 : t231 < 0
                  · rw [if_pos c43] at H
                    have c43b0 : decide (t231 < 0) = true := decide_eq_true c43
                    clear c43
                    (first | rw [c43b0] | (simp only [i64_w, i32_w]; rw [c43b0]) | skip)
                    have H' := Aside0.mk H
                    clear H
                    go_wp2
                    go_meet
                    case rel => exact ⟨_, (true), (by first | rfl | (simp; done) | (simp [*]; done)), H', ⟨by have := HJ11.out; have := HJ37.out; first | omega | exact Nat.le_refl _⟩, ⟨by repeat (first | (with_reducible first | exact HB.out | apply below_alloc | apply pw_below_drewN | apply below_drew1) | exact HB.out)⟩⟩
                  · rw [if_neg c43] at H
                    have c43b0 : decide (t231 < 0) = false := decide_eq_false c43
                    clear c43
                    (first | rw [c43b0] | (simp only [i64_w, i32_w]; rw [c43b0]) | skip)
                    by_cases c44 : t231 ≥ t229
                    · rw [if_pos c44] at H
                      have c44b0 : decide (t229 ≤ t231) = true := decide_eq_true c44
                      clear c44
                      have H' := Aside0.mk H
                      clear H
                      go_wp2
                      go_meet
                      case rel => exact ⟨_, (true), (by first | rfl | (simp; done) | (simp [*]; done)), H', ⟨by have := HJ11.out; have := HJ37.out; first | omega | exact Nat.le_refl _⟩, ⟨by repeat (first | (with_reducible first | exact HB.out | apply below_alloc | apply pw_below_drewN | apply below_drew1) | exact HB.out)⟩⟩
                    · rw [if_neg c44] at H
                      have c44b0 : decide (t229 ≤ t231) = false := decide_eq_false c44
                      clear c44
                      by_cases c45 : t229 = 0
                      · rw [if_pos c45] at H
                        exact absurd H (by simp)
                      · rw [if_neg c45] at H
                        have c45b0 : (t229 == 0) = false := beq_eq_false_iff_ne.mpr c45
                        have c45b1 : (t229 != 0) = true := bne_iff_ne.mpr c45
                        have H' := Aside0.mk H
                        clear H
                        go_wp2
                        go_meet
                        case rel => exact ⟨_, (((Int.tmod (wrap64 ((Int.tmod t228 t229) - t231)) t229) != 0)), (by first | rfl | (simp; done) | (simp [*]; done)), H', ⟨by have := HJ11.out; have := HJ37.out; first | omega | exact Nat.le_refl _⟩, ⟨by repeat (first | (with_reducible first | exact HB.out | apply below_alloc | apply pw_below_drewN | apply below_drew1) | exact HB.out)⟩⟩
                case rest =>
                  clear HC42
                  try clear c1
                  try clear c2
                  try clear p2
                  try clear c3
                  try clear c4
                  try clear c5
                  try clear p6
                  try clear c8
                  try clear c12
                  try clear c13
                  try clear c14
                  try clear c15
                  try clear c16
                  try clear c17
                  try clear c18
                  try clear c19
                  try clear c19b0
                  try clear c19b1
                  try clear c20
                  try clear c20b0
                  try clear c21
                  try clear c21b0
                  try clear c21b1
                  try clear c21b2
                  try clear c23
                  try clear c26
                  try clear c26b0
                  try clear c26b1
                  try clear c26b2
                  try clear c28
                  try clear c32
                  try clear c32b0
                  try clear c33
                  try clear c33b0
                  try clear c33b1
                  try clear c33b2
                  try clear c34
                  try clear c35
                  try clear c35b0
                  try clear c35b1
                  try clear c35b2
                  try clear c36
                  try clear c37
                  try clear c39
                  try clear c39b0
                  try clear c40
                  try clear c41
                  try clear c41b0
                  try clear c41b1
                  try clear c43
                  try clear c43b0
                  try clear c44
                  try clear c44b0
                  try clear c45
                  try clear c45b0
                  try clear c45b1
                  try clear p2
                  obtain ⟨kq, x94_41, rfl, HA, HJ41, HB⟩ := hcut
                  cases kq with
                  | zero => exact absurd HA.out (by simp [laws_FnIntegers.j2])
                  | succ kj41 =>
                    have H := HA.out
                    clear HA
                    simp only [laws_FnIntegers.j2] at H
                    by_cases c46 : x94_41 = true
                    · subst c46
                      have H1 : (some false) = some r := by rw [if_pos rfl] at H; exact H
                      clear H
                      have H := H1
                      clear H1
                      obtain rfl := Option.some.inj H
                      go_wp2
                      go_ret
                      exact ⟨by first | rfl | (simp [errW_none, errW_some] <;> rfl) | (simp [*, errW_none, errW_some] <;> rfl), by repeat (first | (with_reducible first | exact HB.out | apply below_alloc | apply pw_below_drewN | apply below_drew1) | exact HB.out)⟩
                    · replace c46 := Bool.eq_false_iff.mpr c46
                      subst c46
                      have H1 : (if t228 < 0 then (some (t230 == 0)) else (if t228 > 1000000000000 then (some (t230 == 0)) else (if (wrap64 (t230 * t229)) ≥ t228 then (some (decide ((wrap64 ((wrap64 (t230 * t229)) - t228)) < t229))) else (some false)))) = some r := by rw [if_neg (show ¬ (false = true) by decide)] at H; exact H
                      clear H
                      have H := H1
                      clear H1
                      by_cases c47 : t228 < 0
                      · rw [if_pos c47] at H
                        have c47b0 : decide (t228 < 0) = true := decide_eq_true c47
                        clear c47
                        obtain rfl := Option.some.inj H
                        go_wp2
                        go_ret
                        exact ⟨by first | rfl | (simp [errW_none, errW_some] <;> rfl) | (simp [*, errW_none, errW_some] <;> rfl), by repeat (first | (with_reducible first | exact HB.out | apply below_alloc | apply pw_below_drewN | apply below_drew1) | exact HB.out)⟩
                      · rw [if_neg c47] at H
                        have c47b0 : decide (t228 < 0) = false := decide_eq_false c47
                        clear c47
                        by_cases c48 : t228 > 1000000000000
                        · rw [if_pos c48] at H
                          have c48b0 : decide (1000000000000 < t228) = true := decide_eq_true c48
                          clear c48
                          obtain rfl := Option.some.inj H
                          go_wp2
                          go_ret
                          exact ⟨by first | rfl | (simp [errW_none, errW_some] <;> rfl) | (simp [*, errW_none, errW_some] <;> rfl), by repeat (first | (with_reducible first | exact HB.out | apply below_alloc | apply pw_below_drewN | apply below_drew1) | exact HB.out)⟩
                        · rw [if_neg c48] at H
                          have c48b0 : decide (1000000000000 < t228) = false := decide_eq_false c48
                          clear c48
                          by_cases c49 : (wrap64 (t230 * t229)) ≥ t228
                          · rw [if_pos c49] at H
                            have c49b0 : decide (t228 ≤ (wrap64 (t230 * t229))) = true := decide_eq_true c49
                            clear c49
                            obtain rfl := Option.some.inj H
                            go_wp2
                            go_ret
                            exact ⟨by first | rfl | (simp [errW_none, errW_some] <;> rfl) | (simp [*, errW_none, errW_some] <;> rfl), by repeat (first | (with_reducible first | exact HB.out | apply below_alloc | apply pw_below_drewN | apply below_drew1) | exact HB.out)⟩
                          · rw [if_neg c49] at H
                            have c49b0 : decide (t228 ≤ (wrap64 (t230 * t229))) = false := decide_eq_false c49
                            clear c49
                            obtain rfl := Option.some.inj H
                            go_wp2
                            go_ret
                            exact ⟨by first | rfl | (simp [errW_none, errW_some] <;> rfl) | (simp [*, errW_none, errW_some] <;> rfl), by repeat (first | (with_reducible first | exact HB.out | apply below_alloc | apply pw_below_drewN | apply below_drew1) | exact HB.out)⟩

/-- THE ONE PURE STATEMENT of laws_FnIntegers: yours. -/
def laws_FnIntegers.Pure : Prop := ∀ (l0 : List Int), l0.length ≤ maxLen → l0.length * 1 ≤ 140737488351232 → (∀ x ∈ l0, (Lit.int .u8 x).wf = true) → ∃ k, laws_FnIntegers.f k l0 = some true
theorem laws_FnIntegers.walk (P : laws_FnIntegers.Pure) (a0 : Option Addr) (len0 cap0 : Nat) (z0 : List Int) (w : World) (HTAB : TabHolds w) (w0 : (a0 = none ∧ len0 = 0 ∧ cap0 = 0 ∧ z0 = []) ∨ ∃ x, a0 = some x ∧ len0 ≤ cap0 ∧ cap0 ≤ maxLen ∧ z0.length = cap0 ∧ (∀ i, i < z0.length → w.cell? (x.add i) = some (.int .u8 (z0.getD i 0))) ∧ ∀ n ∈ z0, (Lit.int .u8 n).wf = true) (y0 : len0 * 1 ≤ 140737488351232) :
    Calls Tryd.prog 5 #[.slice a0 len0 cap0] w fun e w' => e = .returned (.bool true) ∧ Below w.heap.size w w' := by
  obtain ⟨l0, rfl, hr0, hm0, hw0, hc0⟩ := ReadsInt.ofRowC w0
  obtain ⟨k, h⟩ := P l0 hm0 y0 hw0
  refine (laws_FnIntegers.calls k _ _ l0 true w (Kd.C_of_reads (d := (0 : Int)) (h1 := fun _ => rfl) hr0) hc0 HTAB h).mono ?_
  rintro e w' ⟨rfl, hd⟩
  exact ⟨rfl, hd⟩

end Go.Proofs.YtbafockooilcnacDoor.QFnIntegers
