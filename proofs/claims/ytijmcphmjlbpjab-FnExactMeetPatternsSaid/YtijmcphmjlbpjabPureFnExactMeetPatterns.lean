/- FnExactMeetPatterns: the pure statement of the law, for every input: what the program's functions and the reference's come to is the same, or what the law says holds. No condition beside the statement's own. -/
import Derived.Test.YtijmcphmjlbpjabQFnExactMeetPatternsx3
namespace Go.Proofs.Ytijmcphmjlbpjab.Pure
open Go.RowKit Go.Proofs.Ytijmcphmjlbpjab.QFnExactMeetPatterns Go.Proofs.YtijmcphmjlbpjabW.PrintWords Go.Proofs.YtijmcphmjlbpjabW.PrintLast Go.Proofs.YtijmcphmjlbpjabW.PrintMore
set_option linter.unusedVariables false
set_option linter.unusedSimpArgs false

/-- What is to be shown of the law's function. -/
def FnExactMeetPatterns_Pure : Prop := ∀ (a0_0 a0_1 : Int) (a1_0 a1_1 : Int), (Lit.int .i64 a0_0).wf = true → (Lit.int .i64 a0_1).wf = true → (Lit.int .i64 a1_0).wf = true → (Lit.int .i64 a1_1).wf = true → ∃ k, laws_FnExactMeetPatterns.f k a0_0 a0_1 a1_0 a1_1 = some true

theorem i64b {x : Int} (h : (Lit.int .i64 x).wf = true) : -9223372036854775808 ≤ x ∧ x ≤ 9223372036854775807 := by
  simp [Lit.wf, IntKind.min, IntKind.max, IntKind.signed, IntKind.bits] at h
  omega
theorem u8b {x : Int} (h : (Lit.int .u8 x).wf = true) : 0 ≤ x ∧ x ≤ 255 := by
  simp [Lit.wf, IntKind.min, IntKind.max, IntKind.signed, IntKind.bits] at h
  omega
theorem w64 {n : Int} (h : -9223372036854775808 ≤ n ∧ n ≤ 9223372036854775807) : wrap64 n = n := by unfold wrap64; omega
theorem w64s {i : Nat} {n : Nat} (h : i < n) (hn : n ≤ 9223372036854775807) : wrap64 ((i : Int) + 1) = ((i + 1 : Nat) : Int) := by unfold wrap64; omega
theorem ltc {i n : Nat} (h : i < n) : (i : Int) < (n : Int) := by omega
theorem nnc (i : Nat) : (0 : Int) ≤ (i : Int) := by omega
theorem nltc (n : Nat) : ¬ (n : Int) < (n : Int) := by omega
theorem rd_at {l : List Int} {i : Nat} {x : Int} (h : l[i]? = some x) : rd l (i : Int) = x := by
  unfold rd
  simp [List.getD, h]
/-- More rounds than some number. -/
theorem ev_k {α : Type} {g : Nat → Option α} {r : α} (h : Ev g r) : ∃ K, ∀ k, K ≤ k → g k = some r := h
theorem ev_succ {α : Type} {g : Nat → Option α} {r : α} (h : ∃ K, ∀ k, K ≤ k → g (k + 1) = some r) : Ev g r := by
  obtain ⟨K, h⟩ := h
  refine ⟨K + 1, fun k hk => ?_⟩
  obtain ⟨m, rfl⟩ : ∃ m, k = m + 1 := ⟨k - 1, by omega⟩
  exact h m (by omega)
/-- A loop over a list, from the front: what it comes to is told of the list's tails. -/
theorem loop_list {α σ ρ : Type} (l : List α) (L : Nat → σ → Int → Option ρ) (f : List α → σ → ρ) (I : Nat → σ → Prop)
    (hnil : ∀ s, I l.length s → Ev (fun k => L k s (l.length : Int)) (f [] s))
    (hcons : ∀ (i : Nat) (x : α) (t : List α) (s : σ), i < l.length → l[i]? = some x → l.drop (i + 1) = t → I i s →
      (∀ s', I (i + 1) s' → Ev (fun k => L k s' ((i + 1 : Nat) : Int)) (f t s')) → Ev (fun k => L k s (i : Int)) (f (x :: t) s)) :
    ∀ (i : Nat) (s : σ), i ≤ l.length → I i s → Ev (fun k => L k s (i : Int)) (f (l.drop i) s) := by
  intro i s hi hI
  generalize hd : l.length - i = d
  induction d generalizing i s with
  | zero =>
    have : i = l.length := by omega
    subst this
    rw [List.drop_length]
    exact hnil s hI
  | succ d ih =>
    have hlt : i < l.length := by omega
    rw [List.drop_eq_getElem_cons hlt]
    exact hcons i l[i] _ s hlt (List.getElem?_eq_getElem hlt) rfl hI (fun s' hI' => ih (i + 1) s' (by omega) hI' (by omega))
theorem loop_list0 {α σ ρ : Type} (l : List α) (L : Nat → σ → Int → Option ρ) (f : List α → σ → ρ) (I : Nat → σ → Prop)
    (hnil : ∀ s, I l.length s → Ev (fun k => L k s (l.length : Int)) (f [] s))
    (hcons : ∀ (i : Nat) (x : α) (t : List α) (s : σ), i < l.length → l[i]? = some x → l.drop (i + 1) = t → I i s →
      (∀ s', I (i + 1) s' → Ev (fun k => L k s' ((i + 1 : Nat) : Int)) (f t s')) → Ev (fun k => L k s (i : Int)) (f (x :: t) s))
    (s : σ) (hI : I 0 s) : Ev (fun k => L k s 0) (f l s) := by
  have := loop_list l L f I hnil hcons 0 s (Nat.zero_le _) hI
  simpa using this
theorem Ev.yes {α : Type} {c : Prop} [Decidable c] {f g : Nat → Option α} {r : α} (h : c) (e : Ev f r) : Ev (fun n => if c then f n else g n) r := by
  simp only [if_pos h]
  exact e
theorem Ev.no {α : Type} {c : Prop} [Decidable c] {f g : Nat → Option α} {r : α} (h : ¬ c) (e : Ev g r) : Ev (fun n => if c then f n else g n) r := by
  simp only [if_neg h]
  exact e
theorem Ev.pure {α β : Type} {x : Option α} {f : Nat → α → Option β} {a : α} {r : β} (h : x = some a) (k : Ev (fun n => f n a) r) : Ev (fun n => x.bind (f n)) r := by
  subst h
  exact k
theorem Ev.is {α : Type} {g : Nat → Option α} {r r' : α} (h : Ev g r) (e : r = r') : Ev g r' := e ▸ h

theorem inR (a b c : Int) : impl_InRange.f a b c = some (decide (b ≤ a ∧ a ≤ c)) := by
  unfold impl_InRange.f
  by_cases h : b ≤ a
  · rw [if_pos h]
    simp [h]
  · rw [if_neg h]
    simp [h]

theorem l1In (a b c : Int) : spec_l1In.f a b c = some (decide (b ≤ a ∧ a ≤ c)) := by
  unfold spec_l1In.f
  simp only [ge_iff_le]
  by_cases h : b ≤ a
  · rw [if_pos h]
    simp [h]
  · rw [if_neg h]
    simp [h]

theorem isPatI (a b : Int) : impl_IsPattern.f a b = some (decide ((0 ≤ a ∧ a ≤ 9) ∧ (-1 ≤ b ∧ b ≤ 9))) := by
  unfold impl_IsPattern.f
  simp only [inR, Option.bind_some]
  by_cases h : 0 ≤ a ∧ a ≤ 9
  · simp [h]
  · simp only [h, decide_false, Bool.false_eq_true, if_false, false_and]
theorem isPatS (a b : Int) : spec_IsPattern.f a b = some (decide ((0 ≤ a ∧ a ≤ 9) ∧ (-1 ≤ b ∧ b ≤ 9))) := by
  unfold spec_IsPattern.f
  simp only [l1In, Option.bind_some]
  by_cases h : 0 ≤ a ∧ a ≤ 9
  · simp [h]
  · simp only [h, decide_false, Bool.false_eq_true, if_false, false_and]
def nar (p q c d : Int) : Bool := decide (((0 ≤ p ∧ p ≤ 9) ∧ (-1 ≤ q ∧ q ≤ 9)) ∧ ((0 ≤ c ∧ c ≤ 9) ∧ (-1 ≤ d ∧ d ≤ 9)) ∧ (c = 0 ∨ p = c) ∧ (d = -1 ∨ q = d))
theorem narI (p q c d : Int) : impl_IsNarrower.f p q c d = some (nar p q c d) := by
  unfold impl_IsNarrower.f nar
  simp only [isPatI, Option.bind_some]
  by_cases h1 : (0 ≤ p ∧ p ≤ 9) ∧ (-1 ≤ q ∧ q ≤ 9)
  · by_cases h2 : (0 ≤ c ∧ c ≤ 9) ∧ (-1 ≤ d ∧ d ≤ 9)
    · rw [if_pos (decide_eq_true h1), if_pos (decide_eq_true h2)]
      by_cases h3 : c = 0
      · rw [if_pos h3]
        by_cases h4 : d = -1
        · rw [if_pos h4, decide_eq_true ⟨h1, h2, .inl h3, .inl h4⟩]
        · rw [if_neg h4]
          by_cases h5 : q = d
          · rw [decide_eq_true ⟨h1, h2, .inl h3, .inr h5⟩, h5]; simp
          · rw [decide_eq_false (fun x => by omega)]; simp [h5]
      · rw [if_neg h3]
        by_cases h6 : p = c
        · rw [if_pos h6]
          by_cases h4 : d = -1
          · rw [if_pos h4, decide_eq_true ⟨h1, h2, .inr h6, .inl h4⟩]
          · rw [if_neg h4]
            by_cases h5 : q = d
            · rw [decide_eq_true ⟨h1, h2, .inr h6, .inr h5⟩, h5]; simp
            · rw [decide_eq_false (fun x => by omega)]; simp [h5]
        · rw [if_neg h6, decide_eq_false (fun x => by omega)]
    · rw [if_pos (decide_eq_true h1), if_neg (by rw [decide_eq_false h2]; decide), decide_eq_false (fun x => h2 x.2.1)]
  · rw [if_neg (by rw [decide_eq_false h1]; decide), decide_eq_false (fun x => h1 x.1)]
theorem narS (p q c d : Int) : spec_IsNarrower.f p q c d = some (nar p q c d) := by
  rw [← narI]
  unfold spec_IsNarrower.f impl_IsNarrower.f
  simp only [isPatI, isPatS]
def meetL (a b c d : Int) : Int × Int × Bool := if ((0 ≤ a ∧ a ≤ 9) ∧ (-1 ≤ b ∧ b ≤ 9)) ∧ ((0 ≤ c ∧ c ≤ 9) ∧ (-1 ≤ d ∧ d ≤ 9)) ∧ (a = 0 ∨ c = 0 ∨ a = c) ∧ (b = -1 ∨ d = -1 ∨ b = d) then (if a = 0 then c else a, if b = -1 then d else b, true) else (0, 0, false)
theorem specMeet_ev (a b c d : Int) : Ev (fun k => spec_MeetPatterns.f k a b c d) (meetL a b c d) := by
  have j2 : ∀ x y z, Ev (fun k => spec_MeetPatterns.j2 k z x y) (if z = true then (0, 0, false) else (x, y, true)) := by
    intro x y z
    refine Ev.step (fun k => by rw [spec_MeetPatterns.j2]) ?_
    cases z with
    | true => exact Ev.yes rfl (Ev.is (Ev.now _) (by simp))
    | false => exact Ev.no (by decide) (Ev.is (Ev.now _) (by simp))
  have j1 : ∀ x y, x = (if c = 0 then a else c) → y = (if d = -1 then b else d) → Ev (fun k => spec_MeetPatterns.j1 k a b c d x y) (meetL a b c d) := by
    intro x y hx hy
    refine Ev.step (fun k => by rw [spec_MeetPatterns.j1]) ?_
    refine Ev.pure (narS x y a b) ?_
    by_cases h1 : nar x y a b = true
    · refine Ev.yes h1 (Ev.pure (narS x y c d) (Ev.is (j2 x y _) ?_))
      by_cases h2 : nar x y c d = true
      · rw [h2, if_neg (by decide)]
        have g1 := of_decide_eq_true h1
        have g2 := of_decide_eq_true h2
        unfold meetL
        split at hx <;> split at hy <;> rw [if_pos (by omega)] <;> (congr 1 <;> (try congr 1) <;> (split <;> omega))
      · rw [show nar x y c d = false by simpa using h2, if_pos (by decide)]
        have g1 := of_decide_eq_true h1
        have g2 := of_decide_eq_false (show nar x y c d = false by simpa using h2)
        unfold meetL
        split at hx <;> split at hy <;> rw [if_neg (by omega)]
    · refine Ev.no h1 (Ev.is (j2 x y true) ?_)
      have g1 := of_decide_eq_false (show nar x y a b = false by simpa using h1)
      rw [if_pos rfl]
      unfold meetL
      split at hx <;> split at hy <;> rw [if_neg (by omega)]
  have j0 : ∀ x, x = (if c = 0 then a else c) → Ev (fun k => spec_MeetPatterns.j0 k a b c d x b) (meetL a b c d) := by
    intro x hx
    refine Ev.step (fun k => by rw [spec_MeetPatterns.j0]) ?_
    by_cases hd : d = -1
    · exact Ev.yes hd (j1 _ _ hx (by rw [if_pos hd]))
    · exact Ev.no hd (j1 _ _ hx (by rw [if_neg hd]))
  unfold spec_MeetPatterns.f
  by_cases hc : c = 0
  · exact Ev.yes hc (j0 _ (by rw [if_pos hc]))
  · exact Ev.no hc (j0 _ (by rw [if_neg hc]))
theorem implMeet_ev (a b c d : Int) : Ev (fun k => impl_MeetPatterns.f k a b c d) (meetL a b c d) := by
  have jt : ¬ (((0 ≤ a ∧ a ≤ 9) ∧ (-1 ≤ b ∧ b ≤ 9)) ∧ ((0 ≤ c ∧ c ≤ 9) ∧ (-1 ≤ d ∧ d ≤ 9))) → Ev (fun k => impl_MeetPatterns.j0 k true a b c d) (meetL a b c d) := by
    intro h
    refine Ev.step (fun k => by rw [impl_MeetPatterns.j0]) ?_
    refine Ev.yes rfl (Ev.is (Ev.now _) ?_)
    unfold meetL
    rw [if_neg (fun x => h ⟨x.1, x.2.1⟩)]
  unfold impl_MeetPatterns.f
  refine Ev.pure (isPatI a b) ?_
  by_cases h1 : (0 ≤ a ∧ a ≤ 9) ∧ (-1 ≤ b ∧ b ≤ 9)
  · refine Ev.yes (decide_eq_true h1) (Ev.pure (isPatI c d) ?_)
    by_cases h2 : (0 ≤ c ∧ c ≤ 9) ∧ (-1 ≤ d ∧ d ≤ 9)
    · rw [decide_eq_true h2]
      have j2 : ∀ x y, x = (if a = 0 then c else a) → y = (if b = -1 then d else b) → Ev (fun k => impl_MeetPatterns.j2 k x y c d) (meetL a b c d) := by
        intro x y hx hy
        refine Ev.step (fun k => by rw [impl_MeetPatterns.j2]) ?_
        refine Ev.pure (narI x y c d) ?_
        unfold meetL
        by_cases h3 : nar x y c d = true
        · have g := of_decide_eq_true h3
          refine Ev.yes h3 (Ev.is (Ev.now _) ?_)
          rw [← hx, ← hy]
          exact (if_pos (by split at hx <;> split at hy <;> omega)).symm
        · have g := of_decide_eq_false (show nar x y c d = false by simpa using h3)
          refine Ev.no h3 (Ev.is (Ev.now _) ?_)
          rw [if_neg]
          split at hx <;> split at hy <;> omega
      have j1 : ∀ x, x = (if a = 0 then c else a) → Ev (fun k => impl_MeetPatterns.j1 k x b c d) (meetL a b c d) := by
        intro x hx
        refine Ev.step (fun k => by rw [impl_MeetPatterns.j1]) ?_
        by_cases hb : b = -1
        · exact Ev.yes hb (j2 _ _ hx (by rw [if_pos hb]))
        · exact Ev.no hb (j2 _ _ hx (by rw [if_neg hb]))
      refine Ev.step (fun k => by rw [impl_MeetPatterns.j0]) ?_
      refine Ev.no (by decide) ?_
      by_cases ha : a = 0
      · exact Ev.yes ha (j1 _ (by rw [if_pos ha]))
      · exact Ev.no ha (j1 _ (by rw [if_neg ha]))
    · rw [decide_eq_false h2]
      exact jt (fun x => h2 x.2)
  · exact Ev.no (by rw [decide_eq_false h1]; decide) (jt (fun x => h1 x.1))
theorem FnExactMeetPatterns : FnExactMeetPatterns_Pure := by
  intro a b c d _ _ _ _
  refine Ev.rounds (g := fun k => laws_FnExactMeetPatterns.f k a b c d) ?_
  unfold laws_FnExactMeetPatterns.f
  refine Ev.pure (a := (a, b)) rfl (Ev.pure (a := (c, d)) rfl (Ev.bind (specMeet_ev a b c d) (Ev.pure (a := (a, b)) rfl (Ev.pure (a := (c, d)) rfl (Ev.bind (implMeet_ev a b c d) ?_)))))
  generalize meetL a b c d = r
  refine Ev.pure (a := true) (by unfold laws_eqPattern.f; rw [if_pos rfl, if_pos rfl]) (Ev.yes rfl ?_)
  rw [show (r.2.2 != r.2.2) = false by simp]
  refine Ev.step (fun k => by rw [laws_FnExactMeetPatterns.j0]) ?_
  exact Ev.no (by decide) (Ev.now _)

end Go.Proofs.Ytijmcphmjlbpjab.Pure
