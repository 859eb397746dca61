/- FnExactTouched: the pure statement of the law, for every input: what the program's functions and the reference's come to is the same, or what the law says holds. No condition beside the statement's own. -/
import Derived.Test.YtiiibfpijmmbfaaQFnExactTouchedx4
import Derived.Lib.SlicesCompact
namespace Go.Proofs.Ytiiibfpijmmbfaa.Pure
open Go.RowKit Go.Proofs.Ytiiibfpijmmbfaa.QFnExactTouched Go.Proofs.YtiiibfpijmmbfaaW.PrintWords Go.Proofs.YtiiibfpijmmbfaaW.PrintLast Go.Proofs.YtiiibfpijmmbfaaW.PrintMore
set_option linter.unusedVariables false
set_option linter.unusedSimpArgs false

/-- What is to be shown of the law's function. -/
def FnExactTouched_Pure : Prop := ∀ (l0 : List S24) (a1 : Int), l0.length ≤ maxLen → (∀ x ∈ l0, (Lit.int .i64 x.f0).wf = true ∧ (Lit.int .i64 x.f1).wf = true ∧ (Lit.int .i64 x.f2).wf = true ∧ (Lit.int .i64 x.f3).wf = true ∧ (Lit.int .i64 x.f4).wf = true ∧ (Lit.int .i64 x.f5).wf = true) → (Lit.int .i64 a1).wf = true → ∃ k, laws_FnExactTouched.f k l0 a1 = some true

theorem i64b {x : Int} (h : (Lit.int .i64 x).wf = true) : -9223372036854775808 ≤ x ∧ x ≤ 9223372036854775807 := by
  simp [Lit.wf, IntKind.min, IntKind.max, IntKind.signed, IntKind.bits] at h
  omega
theorem u8b {x : Int} (h : (Lit.int .u8 x).wf = true) : 0 ≤ x ∧ x ≤ 255 := by
  simp [Lit.wf, IntKind.min, IntKind.max, IntKind.signed, IntKind.bits] at h
  omega
theorem w64 {n : Int} (h : -9223372036854775808 ≤ n ∧ n ≤ 9223372036854775807) : wrap64 n = n := by unfold wrap64; omega
theorem w64s {i : Nat} {n : Nat} (h : i < n) (hn : n ≤ 9223372036854775807) : wrap64 ((i : Int) + 1) = ((i + 1 : Nat) : Int) := by unfold wrap64; omega
theorem ltc {i n : Nat} (h : i < n) : (i : Int) < (n : Int) := by omega
theorem nnc (i : Nat) : (0 : Int) ≤ (i : Int) := by omega
theorem nltc (n : Nat) : ¬ (n : Int) < (n : Int) := by omega
theorem rd_at {l : List Int} {i : Nat} {x : Int} (h : l[i]? = some x) : rd l (i : Int) = x := by
  unfold rd
  simp [List.getD, h]
/-- More rounds than some number. -/
theorem ev_k {α : Type} {g : Nat → Option α} {r : α} (h : Ev g r) : ∃ K, ∀ k, K ≤ k → g k = some r := h
theorem ev_succ {α : Type} {g : Nat → Option α} {r : α} (h : ∃ K, ∀ k, K ≤ k → g (k + 1) = some r) : Ev g r := by
  obtain ⟨K, h⟩ := h
  refine ⟨K + 1, fun k hk => ?_⟩
  obtain ⟨m, rfl⟩ : ∃ m, k = m + 1 := ⟨k - 1, by omega⟩
  exact h m (by omega)
/-- A loop over a list, from the front: what it comes to is told of the list's tails. -/
theorem loop_list {α σ ρ : Type} (l : List α) (L : Nat → σ → Int → Option ρ) (f : List α → σ → ρ) (I : Nat → σ → Prop)
    (hnil : ∀ s, I l.length s → Ev (fun k => L k s (l.length : Int)) (f [] s))
    (hcons : ∀ (i : Nat) (x : α) (t : List α) (s : σ), i < l.length → l[i]? = some x → l.drop (i + 1) = t → I i s →
      (∀ s', I (i + 1) s' → Ev (fun k => L k s' ((i + 1 : Nat) : Int)) (f t s')) → Ev (fun k => L k s (i : Int)) (f (x :: t) s)) :
    ∀ (i : Nat) (s : σ), i ≤ l.length → I i s → Ev (fun k => L k s (i : Int)) (f (l.drop i) s) := by
  intro i s hi hI
  generalize hd : l.length - i = d
  induction d generalizing i s with
  | zero =>
    have : i = l.length := by omega
    subst this
    rw [List.drop_length]
    exact hnil s hI
  | succ d ih =>
    have hlt : i < l.length := by omega
    rw [List.drop_eq_getElem_cons hlt]
    exact hcons i l[i] _ s hlt (List.getElem?_eq_getElem hlt) rfl hI (fun s' hI' => ih (i + 1) s' (by omega) hI' (by omega))
theorem loop_list0 {α σ ρ : Type} (l : List α) (L : Nat → σ → Int → Option ρ) (f : List α → σ → ρ) (I : Nat → σ → Prop)
    (hnil : ∀ s, I l.length s → Ev (fun k => L k s (l.length : Int)) (f [] s))
    (hcons : ∀ (i : Nat) (x : α) (t : List α) (s : σ), i < l.length → l[i]? = some x → l.drop (i + 1) = t → I i s →
      (∀ s', I (i + 1) s' → Ev (fun k => L k s' ((i + 1 : Nat) : Int)) (f t s')) → Ev (fun k => L k s (i : Int)) (f (x :: t) s))
    (s : σ) (hI : I 0 s) : Ev (fun k => L k s 0) (f l s) := by
  have := loop_list l L f I hnil hcons 0 s (Nat.zero_le _) hI
  simpa using this
theorem Ev.yes {α : Type} {c : Prop} [Decidable c] {f g : Nat → Option α} {r : α} (h : c) (e : Ev f r) : Ev (fun n => if c then f n else g n) r := by
  simp only [if_pos h]
  exact e
theorem Ev.no {α : Type} {c : Prop} [Decidable c] {f g : Nat → Option α} {r : α} (h : ¬ c) (e : Ev g r) : Ev (fun n => if c then f n else g n) r := by
  simp only [if_neg h]
  exact e
theorem Ev.pure {α β : Type} {x : Option α} {f : Nat → α → Option β} {a : α} {r : β} (h : x = some a) (k : Ev (fun n => f n a) r) : Ev (fun n => x.bind (f n)) r := by
  subst h
  exact k
theorem Ev.is {α : Type} {g : Nat → Option α} {r r' : α} (h : Ev g r) (e : r = r') : Ev g r' := e ▸ h

/-- A loop over the places of a row, with what holds at each: what it comes to. -/
theorem loop_run {σ ρ : Type} (n : Nat) (L : Nat → σ → Int → Option ρ) (I : Nat → σ → Prop) (r : ρ)
    (hdone : ∀ s, I n s → Ev (fun k => L k s (n : Int)) r)
    (hstep : ∀ i s, i < n → I i s → ∃ s', I (i + 1) s' ∧ ∃ K, ∀ k, K ≤ k → L (k + 1) s (i : Int) = L k s' ((i + 1 : Nat) : Int)) :
    ∀ (i : Nat) (s : σ), i ≤ n → I i s → Ev (fun k => L k s (i : Int)) r := by
  intro i s hi hI
  generalize hd : n - i = d
  induction d generalizing i s with
  | zero =>
    have : i = n := by omega
    subst this
    exact hdone s hI
  | succ d ih =>
    obtain ⟨s', hI', K, hK⟩ := hstep i s (by omega) hI
    obtain ⟨K', hK'⟩ := ih (i + 1) s' (by omega) hI' (by omega)
    refine ev_succ ⟨K + K', fun k hk => ?_⟩
    show L (k + 1) s (i : Int) = some r
    rw [hK k (by omega)]
    exact hK' k (by omega)
/-- Copying element by element. -/
theorem copy_loop {α β : Type} (l : List α) (g : α → β) (L : Nat → List β → Int → Option (List β))
    (hdone : ∀ k s, L (k + 1) s (l.length : Int) = some s)
    (hstep : ∀ k i x s, l[i]? = some x → i < l.length → s.length = l.length → L (k + 1) s (i : Int) = L k (s.set i (g x)) ((i + 1 : Nat) : Int))
    (s : List β) (hs : s.length = l.length) : Ev (fun k => L k s 0) (l.map g) := by
  refine loop_run l.length L (fun i s => s.length = l.length ∧ ∀ j, j < i → s[j]? = (l.map g)[j]?) _ ?_ ?_ 0 s (Nat.zero_le _) ⟨hs, fun j hj => by omega⟩
  · rintro s ⟨h1, h2⟩
    have : s = l.map g := by
      apply List.ext_getElem?
      intro j
      by_cases hj : j < l.length
      · exact h2 j hj
      · rw [List.getElem?_eq_none (by omega), List.getElem?_eq_none (by simp; omega)]
    subst this
    exact ev_succ ⟨0, fun k _ => hdone k _⟩
  · rintro i s hi ⟨h1, h2⟩
    have hx := List.getElem?_eq_getElem hi
    refine ⟨s.set i (g l[i]), ⟨by simp [h1], fun j hj => ?_⟩, 0, fun k _ => hstep k i _ s hx hi h1⟩
    by_cases hji : j = i
    · subst hji
      rw [List.getElem?_set_self (by omega)]
      simp [hi]
    · rw [List.getElem?_set_ne (by omega)]
      exact h2 j (by omega)
/-- Two rows held against each other, element by element. -/
theorem eq_loop {α : Type} [DecidableEq α] (a b : List α) (L : Nat → Int → Option Bool) (hlen : a.length = b.length)
    (hdone : ∀ k, L (k + 1) (a.length : Int) = some true)
    (hstep : ∀ k i x y, a[i]? = some x → b[i]? = some y → i < a.length → i < b.length → L (k + 1) (i : Int) = if x = y then L k ((i + 1 : Nat) : Int) else some false) :
    Ev (fun k => L k 0) (decide (a = b)) := by
  suffices H : ∀ d i, i ≤ a.length → a.length - i = d → Ev (fun k => L k (i : Int)) (decide (a.drop i = b.drop i)) by
    simpa using H _ 0 (Nat.zero_le _) rfl
  intro d
  induction d with
  | zero =>
    intro i hi hd
    have : i = a.length := by omega
    subst this
    refine ev_succ ⟨0, fun k _ => ?_⟩
    rw [List.drop_length, hlen, List.drop_length]
    rw [← hlen, hdone]
    simp
  | succ d ih =>
    intro i hi hd
    have h1 : i < a.length := by omega
    have h2 : i < b.length := by omega
    obtain ⟨K, hK⟩ := ih (i + 1) (by omega) (by omega)
    replace hK : ∀ k, K ≤ k → L k ((i + 1 : Nat) : Int) = some (decide (a.drop (i + 1) = b.drop (i + 1))) := hK
    refine ev_succ ⟨K, fun k hk => ?_⟩
    show L (k + 1) (i : Int) = _
    rw [hstep k i _ _ (List.getElem?_eq_getElem h1) (List.getElem?_eq_getElem h2) h1 h2, List.drop_eq_getElem_cons h1, List.drop_eq_getElem_cons h2]
    by_cases h : a[i] = b[i]
    · rw [if_pos h, hK k hk, h]
      simp only [List.cons.injEq, true_and]
    · rw [if_neg h]
      congr 1
      symm
      exact decide_eq_false (fun e => h (List.cons.inj e).1)
/-- Marks from c on, w a place. -/
def marks {β : Type} (m : Int → β) (w : Int) (c : Int) (n : Nat) : List β := (List.range n).map (fun i : Nat => m (c + w * (i : Int)))
theorem marks_len {β : Type} (m : Int → β) (w c : Int) (n : Nat) : (marks m w c n).length = n := by simp [marks]
theorem marks_at {β : Type} (m : Int → β) (w c : Int) (n i : Nat) (h : i < n) : (marks m w c n)[i]? = some (m (c + w * (i : Int))) := by simp [marks, h]
/-- Marking a row in place. -/
theorem mark_loop {β : Type} (m : Int → β) (w : Int) (n : Nat) (c0 : Int) (L : Nat → List β → Int → Int → Option (Int × List β))
    (hdone : ∀ k s c, s.length = n → L (k + 1) s c (n : Int) = some (c, s))
    (hstep : ∀ k i s, i < n → s.length = n → L (k + 1) s (c0 + w * (i : Int)) (i : Int) = L k (s.set i (m (c0 + w * (i : Int)))) (c0 + w * ((i + 1 : Nat) : Int)) ((i + 1 : Nat) : Int))
    (s : List β) (hs : s.length = n) : Ev (fun k => L k s c0 0) (c0 + w * (n : Int), marks m w c0 n) := by
  have := loop_run n (fun k (p : List β × Int) i => L k p.1 p.2 i) (fun i p => p.2 = c0 + w * (i : Int) ∧ p.1.length = n ∧ ∀ j, j < i → p.1[j]? = (marks m w c0 n)[j]?) (c0 + w * (n : Int), marks m w c0 n) ?_ ?_ 0 (s, c0) (Nat.zero_le _) ⟨by simp, hs, fun j hj => by omega⟩
  · exact this
  · rintro ⟨s, c⟩ ⟨h0, h1, h2⟩
    simp only at h0 h1 h2
    have : s = marks m w c0 n := by
      apply List.ext_getElem?
      intro j
      by_cases hj : j < n
      · exact h2 j hj
      · rw [List.getElem?_eq_none (by omega), List.getElem?_eq_none (by rw [marks_len]; omega)]
    subst this
    refine ev_succ ⟨0, fun k _ => ?_⟩
    show L (k + 1) _ c _ = _
    rw [hdone k _ c h1, h0]
  · rintro i ⟨s, c⟩ hi ⟨h0, h1, h2⟩
    simp only at h0 h1 h2
    refine ⟨(s.set i (m (c0 + w * (i : Int))), c0 + w * ((i + 1 : Nat) : Int)), ⟨rfl, by simp [h1], fun j hj => ?_⟩, 0, fun k _ => ?_⟩
    · by_cases hji : j = i
      · subst hji
        simp only
        rw [List.getElem?_set_self (by omega), marks_at _ _ _ _ _ hi]
      · simp only
        rw [List.getElem?_set_ne (by omega)]
        exact h2 j (by omega)
    · simp only [h0]
      exact hstep k i s hi h1
/-- A row's marks told again. -/
theorem held_loop (w : Int) (n : Nat) (c0 : Int) (L : Nat → Int → Int → Option Int)
    (hdone : ∀ k c, L (k + 1) c (n : Int) = some c)
    (hstep : ∀ k i, i < n → L (k + 1) (c0 + w * (i : Int)) (i : Int) = L k (c0 + w * ((i + 1 : Nat) : Int)) ((i + 1 : Nat) : Int)) :
    Ev (fun k => L k c0 0) (c0 + w * (n : Int)) := by
  have := loop_run n L (fun i c => c = c0 + w * (i : Int)) (c0 + w * (n : Int)) ?_ ?_ 0 c0 (Nat.zero_le _) (by simp)
  · exact this
  · rintro c h0
    refine ev_succ ⟨0, fun k _ => ?_⟩
    show L (k + 1) c _ = _
    rw [hdone k c, h0]
  · rintro i c hi h0
    subst h0
    exact ⟨_, rfl, 0, fun k _ => hstep k i hi⟩
/-- As 'loop_run', where a round may take several. -/
theorem loop_ev {σ ρ : Type} (n : Nat) (L : Nat → σ → Int → Option ρ) (I : Nat → σ → Prop) (r : ρ)
    (hdone : ∀ s, I n s → Ev (fun k => L k s (n : Int)) r)
    (hstep : ∀ i s, i < n → I i s → ∃ s', I (i + 1) s' ∧ (Ev (fun k => L k s' ((i + 1 : Nat) : Int)) r → Ev (fun k => L k s (i : Int)) r)) :
    ∀ (i : Nat) (s : σ), i ≤ n → I i s → Ev (fun k => L k s (i : Int)) r := by
  intro i s hi hI
  generalize hd : n - i = d
  induction d generalizing i s with
  | zero =>
    have : i = n := by omega
    subst this
    exact hdone s hI
  | succ d ih =>
    obtain ⟨s', hI', hs⟩ := hstep i s (by omega) hI
    exact hs (ih (i + 1) s' (by omega) hI' (by omega))

theorem rdE_at {l : List S30} {i : Nat} {x : S30} (h : l[i]? = some x) : rd_T30 l (i : Int) = x := by
  unfold rd_T30
  simp [List.getD, h]
theorem rdLE_at {l : List S24} {i : Nat} {x : S24} (h : l[i]? = some x) : rd_T24 l (i : Int) = x := by
  unfold rd_T24
  simp [List.getD, h]
def e6 (x : S24) : S30 := ⟨x.f0, x.f1, x.f2, x.f3, x.f4, x.f5⟩
theorem edit_ext (x y : S30) : x = y ↔ x.f0 = y.f0 ∧ x.f1 = y.f1 ∧ x.f2 = y.f2 ∧ x.f3 = y.f3 ∧ x.f4 = y.f4 ∧ x.f5 = y.f5 := by
  obtain ⟨a, b, c, d, e, f⟩ := x
  obtain ⟨a', b', c', d', e', f'⟩ := y
  simp only [S30.mk.injEq]
instance : DecidableEq S30 := fun x y => decidable_of_iff _ (edit_ext x y).symm
theorem szEdit (l : List S24) (c : Int) (h : l.length ≤ 9223372036854775807) (hc : 0 ≤ c ∧ c ≤ 1048576) : laws_szEditS.f l c = some (if c < (l.length : Int) then -1 else c - l.length) := by
  unfold laws_szEditS.f
  rw [w64 (by omega)]
  split <;> split <;> first | rfl | omega
theorem toEditS_ev (l : List S24) (h : l.length ≤ 1048576) : Ev (fun k => laws_toEditS.f k l) (l.map e6) := by
  have H := copy_loop l e6 (fun k s i => laws_toEditS.l0 k l s i) (fun k s => by simp only [laws_toEditS.l0, nltc, if_false]) (fun k i x s hx hi hs => by
    simp only [laws_toEditS.l0, laws_toEdit.f, Option.bind_some, ltc hi, nnc, hs, if_true, rdLE_at hx, w64s hi (show l.length ≤ 9223372036854775807 by omega), Int.toNat_natCast, e6]) (List.replicate l.length z30) (by simp)
  obtain ⟨K, hK⟩ := H
  refine ⟨K, fun k hk => ?_⟩
  simp only [laws_toEditS.f, nnc, if_true, Int.toNat_natCast, show l.length ≤ 5864062014805 from by omega]
  exact hK k hk
theorem eqEdit_eq (a b : S30) : laws_eqEdit.f a.f0 a.f1 a.f2 a.f3 a.f4 a.f5 b.f0 b.f1 b.f2 b.f3 b.f4 b.f5 = some (decide (a = b)) := by
  unfold laws_eqEdit.f
  rw [show (decide (a = b)) = decide (a.f0 = b.f0 ∧ a.f1 = b.f1 ∧ a.f2 = b.f2 ∧ a.f3 = b.f3 ∧ a.f4 = b.f4 ∧ a.f5 = b.f5) from by simp only [edit_ext]]
  by_cases h0 : a.f0 = b.f0
  · by_cases h1 : a.f1 = b.f1
    · by_cases h2 : a.f2 = b.f2
      · by_cases h3 : a.f3 = b.f3
        · by_cases h4 : a.f4 = b.f4
          · by_cases h5 : a.f5 = b.f5 <;> simp [h0, h1, h2, h3, h4, h5]
          · simp [h0, h1, h2, h3, h4]
        · simp [h0, h1, h2, h3]
      · simp [h0, h1, h2]
    · simp [h0, h1]
  · simp [h0]
theorem eqEditS_ev (a b : List S30) (h : a.length ≤ 9223372036854775807) : Ev (fun k => laws_eqEditS.f k a b) (decide (a = b)) := by
  by_cases hl : a.length = b.length
  · have H := eq_loop a b (fun k i => laws_eqEditS.l0 k a b i) hl (fun k => by simp only [laws_eqEditS.l0, nltc, if_false]) (fun k i x y hx hy hi hi2 => by
      simp only [laws_eqEditS.l0, ltc hi, ltc hi2, nnc, if_true, rdE_at hx, rdE_at hy, w64s hi h, eqEdit_eq, Option.bind_some, decide_eq_true_eq])
    obtain ⟨K, hK⟩ := H
    refine ⟨K, fun k hk => ?_⟩
    simp only [laws_eqEditS.f, hl, if_true]
    exact hK k hk
  · refine ⟨0, fun k _ => ?_⟩
    simp only [laws_eqEditS.f]
    rw [if_neg (by omega)]
    congr 1
    symm
    exact decide_eq_false (fun e => hl (by rw [e]))
theorem eqEditS_self (a : List S30) (h : a.length ≤ 9223372036854775807) : Ev (fun k => laws_eqEditS.f k a a) true := Ev.is (eqEditS_ev a a h) (by simp)
def mEdit (c : Int) : S30 := ⟨c, c + 1, c + 2, c + 3, c + 4, c + 5⟩
theorem markEditS_ev (l : List S30) (c : Int) (h : 0 ≤ c ∧ c + 6 * l.length ≤ 9223372036854775800) : Ev (fun k => laws_markEditS.f k l c) (c + 6 * l.length, marks mEdit 6 c l.length) := by
  have H := mark_loop mEdit 6 l.length c (fun k s c i => laws_markEditS.l0 k s c i) (fun k s c hs => by simp only [laws_markEditS.l0, hs, nltc, if_false]) (fun k i s hi hs => by
    have a1 : wrap64 (c + 6 * (i : Int) + 1) = c + 6 * (i : Int) + 1 := w64 (by omega)
    have a2 : wrap64 (c + 6 * (i : Int) + 1 + 1) = c + 6 * (i : Int) + 2 := by rw [w64 (by omega)]; omega
    have a3 : wrap64 (c + 6 * (i : Int) + 2 + 1) = c + 6 * (i : Int) + 3 := by rw [w64 (by omega)]; omega
    have a4 : wrap64 (c + 6 * (i : Int) + 3 + 1) = c + 6 * (i : Int) + 4 := by rw [w64 (by omega)]; omega
    have a5 : wrap64 (c + 6 * (i : Int) + 4 + 1) = c + 6 * (i : Int) + 5 := by rw [w64 (by omega)]; omega
    have a6 : wrap64 (c + 6 * (i : Int) + 5 + 1) = c + 6 * ((i + 1 : Nat) : Int) := by rw [w64 (by omega)]; omega
    have rs : ∀ (t : List S30) (x : S30), t.length = l.length → rd_T30 (t.set i x) (i : Int) = x := fun t x ht => rdE_at (List.getElem?_set_self (by omega))
    simp only [laws_markEditS.l0, hs, ltc hi, nnc, if_true, w64s hi (show l.length ≤ 9223372036854775807 by omega), Int.toNat_natCast, Option.bind_some, a1, a2, a3, a4, a5, a6]
    rw [rs _ _ hs]
    simp only [List.set_set]
    rw [rs _ _ hs]
    simp only [List.set_set]
    rw [rs _ _ hs]
    simp only [List.set_set]
    rw [rs _ _ hs]
    simp only [List.set_set]
    rw [rs _ _ hs]
    rfl) l rfl
  simpa [laws_markEditS.f] using H
/-- The edits by an author (is: true), or by others. -/
def byOf (by' : Int) (is : Bool) (l : List S30) : List S30 := l.filter (fun x => (x.f5 == by') == is)
theorem byOf_len (b : Int) (is : Bool) (l : List S30) : (byOf b is l).length ≤ l.length := List.length_filter_le _ _
theorem implEditsOf_ev (l : List S30) (b : Int) (is : Bool) (hl : l.length ≤ 2932031007401) : Ev (fun k => impl_editsOf.f k l b is) (byOf b is l) := by
  have := loop_list0 l (fun k s i => impl_editsOf.l0 k b is s l (l.length : Int) i) (fun t s => s ++ byOf b is t) (fun i s => s.length ≤ i) ?_ ?_ [] (by simp)
  · simpa [impl_editsOf.f] using this
  · intro s hs
    exact ev_succ ⟨0, fun k _ => by simp only [impl_editsOf.l0, nltc, if_false, byOf, List.filter_nil, List.append_nil]⟩
  · intro i x t s hi hx ht hs ih
    by_cases h : ((x.f5 == b) == is) = true
    · obtain ⟨K, hK⟩ := ih (s ++ [x]) (by simp; omega)
      refine ev_succ ⟨K, fun k hk => ?_⟩
      have h1 := hK k hk
      simp only [List.append_assoc] at h1
      simp only [impl_editsOf.l0, ltc hi, nnc, if_true, rdE_at hx, h, show s.length < 2932031007402 by omega, w64s hi (show l.length ≤ 9223372036854775807 by omega)]
      rw [h1]
      simp [byOf, h]
    · obtain ⟨K, hK⟩ := ih s (by omega)
      refine ev_succ ⟨K, fun k hk => ?_⟩
      have h1 := hK k hk
      simp only at h1
      simp only [impl_editsOf.l0, ltc hi, nnc, if_true, rdE_at hx, h, if_false, w64s hi (show l.length ≤ 9223372036854775807 by omega)]
      rw [h1]
      simp [byOf, h]
theorem implEditsBy_ev (l : List S30) (b : Int) (hl : l.length ≤ 2932031007401) : Ev (fun k => impl_EditsBy.f k l b) (byOf b true l) := by
  unfold impl_EditsBy.f
  exact Ev.bind (implEditsOf_ev l b true hl) (Ev.now _)
/-- A number put into an ascending list, where it isn't in it. -/
def lowers (n : Int) : List Int → Nat
  | [] => 0
  | x :: t => if x < n then lowers n t + 1 else 0
def putL (l : List Int) (n : Int) : List Int := if (l.drop (lowers n l)).head? = some n then l else l.take (lowers n l) ++ (n :: l.drop (lowers n l))
def putAll (l acc : List Int) : List Int := l.foldl putL acc
theorem lowers_le (n : Int) (l : List Int) : lowers n l ≤ l.length := by
  induction l with
  | nil => exact Nat.zero_le _
  | cons x t ih =>
    unfold lowers
    split
    · simp; omega
    · exact Nat.zero_le _
theorem putL_nil (n : Int) : putL [] n = [n] := rfl
theorem putL_lt {x n : Int} (t : List Int) (h : x < n) : putL (x :: t) n = x :: putL t n := by
  unfold putL
  rw [lowers, if_pos h]
  simp only [List.drop_succ_cons, List.take_succ_cons, List.cons_append]
  split <;> rfl
theorem putL_eq (n : Int) (t : List Int) : putL (n :: t) n = n :: t := by
  unfold putL
  rw [lowers, if_neg (Int.lt_irrefl n)]
  simp
theorem putL_gt {x n : Int} (t : List Int) (h : n < x) : putL (x :: t) n = n :: x :: t := by
  unfold putL
  rw [lowers, if_neg (show ¬ x < n by omega)]
  rw [if_neg (by simp; omega)]
  simp
theorem mem_putL (l : List Int) (n x : Int) : x ∈ putL l n ↔ x = n ∨ x ∈ l := by
  induction l with
  | nil => simp [putL_nil]
  | cons y t ih =>
    rcases Int.lt_trichotomy y n with h | h | h
    · rw [putL_lt t h, List.mem_cons, ih, List.mem_cons]
      constructor
      · rintro (h | h | h)
        · exact .inr (.inl h)
        · exact .inl h
        · exact .inr (.inr h)
      · rintro (h | h | h)
        · exact .inr (.inl h)
        · exact .inl h
        · exact .inr (.inr h)
    · subst h
      rw [putL_eq, List.mem_cons]
      constructor
      · rintro (h | h)
        · exact .inl h
        · exact .inr (.inr h)
      · rintro (h | h | h)
        · exact .inl h
        · exact .inl h
        · exact .inr h
    · rw [putL_gt t h, List.mem_cons]
theorem putL_up (l : List Int) (n : Int) (h : l.Pairwise (· < ·)) : (putL l n).Pairwise (· < ·) := by
  induction l with
  | nil => rw [putL_nil]; exact List.pairwise_singleton _ _
  | cons y t ih =>
    obtain ⟨h1, h2⟩ := List.pairwise_cons.1 h
    rcases Int.lt_trichotomy y n with g | g | g
    · rw [putL_lt t g]
      refine List.pairwise_cons.2 ⟨fun z hz => ?_, ih h2⟩
      rcases (mem_putL t n z).1 hz with rfl | hz
      · exact g
      · exact h1 z hz
    · subst g
      rw [putL_eq]
      exact h
    · rw [putL_gt t g]
      refine List.pairwise_cons.2 ⟨fun z hz => ?_, h⟩
      rcases List.mem_cons.1 hz with rfl | hz
      · exact g
      · have := h1 z hz
        omega
theorem mem_putAll (l : List Int) : ∀ (acc : List Int) (x : Int), x ∈ putAll l acc ↔ x ∈ acc ∨ x ∈ l := by
  induction l with
  | nil => intro acc x; simp [putAll]
  | cons y t ih =>
    intro acc x
    have := ih (putL acc y) x
    rw [mem_putL] at this
    show x ∈ putAll t (putL acc y) ↔ _
    rw [this, List.mem_cons]
    constructor
    · rintro ((h | h) | h)
      · exact .inr (.inl h)
      · exact .inl h
      · exact .inr (.inr h)
    · rintro (h | h | h)
      · exact .inl (.inr h)
      · exact .inl (.inl h)
      · exact .inr h
theorem putAll_up (l : List Int) : ∀ (acc : List Int), acc.Pairwise (· < ·) → (putAll l acc).Pairwise (· < ·) := by
  induction l with
  | nil => intro acc h; exact h
  | cons y t ih => intro acc h; exact ih _ (putL_up acc y h)
theorem putL_len (l : List Int) (n : Int) : (putL l n).length ≤ l.length + 1 ∧ l.length ≤ (putL l n).length := by
  unfold putL
  have := lowers_le n l
  split
  · omega
  · simp
    omega
theorem putAll_len (l : List Int) : ∀ (acc : List Int), (putAll l acc).length ≤ acc.length + l.length := by
  induction l with
  | nil => intro acc; simp [putAll]
  | cons y t ih =>
    intro acc
    have h1 := ih (putL acc y)
    have h2 := putL_len acc y
    show (putAll t (putL acc y)).length ≤ _
    simp
    omega
/-- Two lists that ascend and hold the same are the same. -/
theorem up_ext : ∀ (a b : List Int), a.Pairwise (· < ·) → b.Pairwise (· < ·) → (∀ x, x ∈ a ↔ x ∈ b) → a = b
  | [], [], _, _, _ => rfl
  | [], y :: t, _, _, h => by have := (h y).2 List.mem_cons_self; cases this
  | x :: s, [], _, _, h => by have := (h x).1 List.mem_cons_self; cases this
  | x :: s, y :: t, ha, hb, h => by
    obtain ⟨a1, a2⟩ := List.pairwise_cons.1 ha
    obtain ⟨b1, b2⟩ := List.pairwise_cons.1 hb
    have e : x = y := by
      rcases List.mem_cons.1 ((h x).1 List.mem_cons_self) with e | e
      · exact e
      · rcases List.mem_cons.1 ((h y).2 List.mem_cons_self) with e' | e'
        · exact e'.symm
        · have h1 := b1 x e
          have h2 := a1 y e'
          omega
    subst e
    congr 1
    refine up_ext s t a2 b2 (fun z => ⟨fun hz => ?_, fun hz => ?_⟩)
    · rcases List.mem_cons.1 ((h z).1 (List.mem_cons_of_mem _ hz)) with e | e
      · subst e
        have := a1 z hz
        omega
      · exact e
    · rcases List.mem_cons.1 ((h z).2 (List.mem_cons_of_mem _ hz)) with e | e
      · subst e
        have := b1 z hz
        omega
      · exact e

theorem compact_mem (zs : List Int) (x : Int) : x ∈ Lib.compact zs ↔ x ∈ zs := by
  unfold Lib.compact Lib.compactUpTo
  rw [List.mem_map]
  have key : ∀ j : Nat, j < zs.length → ∃ i, i ∈ (List.range zs.length).filter (Lib.keeps zs.toArray) ∧ zs.toArray[i]! = zs.toArray[j]! := by
    intro j
    induction j with
    | zero =>
      intro hj
      exact ⟨0, List.mem_filter.2 ⟨List.mem_range.2 hj, by simp [Lib.keeps]⟩, rfl⟩
    | succ j ih =>
      intro hj
      by_cases h : zs.toArray[j + 1]! = zs.toArray[j]!
      · obtain ⟨i, h1, h2⟩ := ih (by omega)
        exact ⟨i, h1, h2.trans h.symm⟩
      · exact ⟨j + 1, List.mem_filter.2 ⟨List.mem_range.2 hj, Lib.keeps_pos (by simpa using h)⟩, rfl⟩
  constructor
  · rintro ⟨i, hi, rfl⟩
    have := List.mem_range.1 (List.mem_filter.1 hi).1
    simp [this]
  · intro hx
    obtain ⟨j, hj, rfl⟩ := List.mem_iff_getElem.1 hx
    obtain ⟨i, h1, h2⟩ := key j hj
    refine ⟨i, h1, h2.trans ?_⟩
    simp [hj]
theorem compact_up (zs : List Int) (h : zs.Pairwise (· ≤ ·)) : (Lib.compact zs).Pairwise (· < ·) := by
  unfold Lib.compact Lib.compactUpTo
  rw [List.pairwise_map]
  have h1 : ((List.range zs.length).filter (Lib.keeps zs.toArray)).Pairwise (· < ·) := List.Pairwise.filter _ List.pairwise_lt_range
  have hle : ∀ i j : Nat, i ≤ j → j < zs.length → zs.toArray[i]! ≤ zs.toArray[j]! := by
    intro i j hij hj
    have e1 : zs.toArray[i]! = zs[i]'(by omega) := by simp [show i < zs.length by omega]
    have e2 : zs.toArray[j]! = zs[j]'hj := by simp [hj]
    rw [e1, e2]
    rcases Nat.lt_or_ge i j with g | g
    · exact List.pairwise_iff_getElem.1 h i j (by omega) hj g
    · have : i = j := by omega
      subst this
      exact Int.le_refl _
  refine List.Pairwise.imp_of_mem (R := (· < ·)) ?_ h1
  intro i j hi hj hij
  have hjl := List.mem_range.1 (List.mem_filter.1 hj).1
  have hk := (List.mem_filter.1 hj).2
  unfold Lib.keeps at hk
  have hk := of_decide_eq_true hk
  have h2 : zs.toArray[j]! ≠ zs.toArray[j - 1]! := by
    rcases hk with e | e
    · omega
    · exact e
  have h3 := hle i (j - 1) (by omega) (by omega)
  have h4 := hle (j - 1) j (by omega) hjl
  omega
theorem ordered_put (l : List Int) : Lib.compact (l.mergeSort fun x y => decide (x ≤ y)) = putAll l [] := by
  have hs : (l.mergeSort fun x y => decide (x ≤ y)).Pairwise (fun a b => decide (a ≤ b) = true) := List.pairwise_mergeSort (fun a b c h1 h2 => by simp at h1 h2 ⊢; omega) (fun a b => by simp; omega) l
  refine up_ext _ _ (compact_up _ (hs.imp (fun h => by simpa using h))) (putAll_up l [] List.Pairwise.nil) (fun x => ?_)
  rw [compact_mem, mem_putAll, List.mem_mergeSort]
  simp
theorem implOrdered (l : List Int) (h : l.length ≤ 4000000) : impl_ordered.f l = some (putAll l []) := by
  unfold impl_ordered.f
  rw [if_pos h, ordered_put]

theorem lowers_get (n : Int) (l : List Int) : (∀ (i : Nat) (x : Int), i < lowers n l → l[i]? = some x → x < n) ∧ (∀ x : Int, l[lowers n l]? = some x → ¬ x < n) := by
  induction l with
  | nil => exact ⟨fun i x h => by simp [lowers] at h, fun x h => by simp at h⟩
  | cons y t ih =>
    by_cases h : y < n
    · have e : lowers n (y :: t) = lowers n t + 1 := by rw [lowers, if_pos h]
      rw [e]
      refine ⟨fun i x hi hx => ?_, fun x hx => ?_⟩
      · cases i with
        | zero => simp at hx; subst hx; exact h
        | succ i => exact ih.1 i x (by omega) (by simpa using hx)
      · exact ih.2 x (by simpa using hx)
    · have e : lowers n (y :: t) = 0 := by rw [lowers, if_neg h]
      rw [e]
      exact ⟨fun i x hi => by omega, fun x hx => by simp at hx; subst hx; exact h⟩
theorem rd_get (l : List Int) (i : Nat) (h : i < l.length) : l[i]? = some (rd l (i : Int)) := by
  rw [List.getElem?_eq_getElem h]
  congr 1
  exact (rd_at (List.getElem?_eq_getElem h)).symm
theorem specPut_ev (l : List Int) (n : Int) (hl : l.length ≤ 4000000) : Ev (fun k => spec_l6Put.f k l n) (putL l n) := by
  have hle := lowers_le n l
  have hget := lowers_get n l
  suffices H : ∀ (d i : Nat), i + d = lowers n l → Ev (fun k => spec_l6Put.l0 k l n (i : Int)) (putL l n) from H (lowers n l) 0 (by omega)
  intro d
  induction d with
  | zero =>
    intro i hi
    have hi' : i = lowers n l := by omega
    refine Ev.step (fun k => by rw [spec_l6Put.l0]) ?_
    by_cases h1 : (i : Int) < (l.length : Int)
    · have hx := rd_get l i (by omega)
      have h2 := hget.2 (rd l (i : Int)) (by rw [← hi']; exact hx)
      have hh : (l.drop (lowers n l)).head? = some (rd l (i : Int)) := by
        rw [← hi', List.head?_drop]
        exact hx
      refine Ev.yes h1 (Ev.yes (nnc _) (Ev.no h2 ?_))
      by_cases h3 : rd l (i : Int) = n
      · refine Ev.yes h3 (Ev.pure rfl (Ev.yes (by simp; omega) (Ev.is (Ev.now _) ?_)))
        unfold putL
        rw [if_pos (by rw [hh, h3])]
        rfl
      · refine Ev.no h3 (Ev.pure rfl (Ev.yes (by omega) (Ev.yes (by simp; omega) (Ev.pure rfl (Ev.pure rfl (Ev.yes (by simp; omega) (Ev.pure rfl (Ev.yes (by simp; omega) (Ev.is (Ev.now _) ?_)))))))))
        unfold putL
        rw [if_neg (by rw [hh]; intro e; exact h3 (Option.some.inj e)), Int.toNat_natCast, hi']
        simp
    · have hh : (l.drop (lowers n l)).head? = none := by
        rw [← hi', List.head?_drop, List.getElem?_eq_none (by omega)]
      refine Ev.no h1 (Ev.pure rfl (Ev.yes (nnc _) (Ev.yes (by omega) (Ev.yes (by simp; omega) (Ev.pure rfl (Ev.pure rfl (Ev.yes (by simp; omega) (Ev.pure rfl (Ev.yes (by simp; omega) (Ev.is (Ev.now _) ?_))))))))))
      unfold putL
      rw [if_neg (by rw [hh]; intro e; cases e), Int.toNat_natCast, hi']
      simp
  | succ d ih =>
    intro i hi
    have hlt : i < l.length := by omega
    refine Ev.step (fun k => by rw [spec_l6Put.l0]) ?_
    refine Ev.yes (ltc hlt) (Ev.yes (nnc _) (Ev.yes (hget.1 i _ (by omega) (rd_get l i hlt)) ?_))
    rw [w64s hlt (by omega)]
    exact ih (i + 1) (by omega)

def nodesOf (l : List S30) : List Int := l.map (fun x => x.f1)
theorem specTouched_ev (l : List S30) (b : Int) (hl : l.length ≤ 1048576) : Ev (fun k => spec_Touched.f k l b) (putAll (nodesOf (byOf b true l)) []) := by
  have := loop_list0 l (fun k s i => spec_Touched.l0 k l b s i) (fun t s => putAll (nodesOf (byOf b true t)) s) (fun i s => s.length ≤ i) ?_ ?_ [] (by simp)
  · exact this
  · intro s hs
    refine Ev.step (fun k => by rw [spec_Touched.l0]) ?_
    exact Ev.no (nltc _) (Ev.now _)
  · intro i x t s hi hx ht hs ih
    have hp := putL_len s x.f1
    refine Ev.step (fun k => by rw [spec_Touched.l0]) ?_
    rw [rdE_at hx, w64s hi (by omega)]
    refine Ev.yes (ltc hi) (Ev.yes (nnc _) ?_)
    by_cases h : x.f5 = b
    · refine Ev.yes h (Ev.bind (specPut_ev s x.f1 (by omega)) (Ev.is (ih (putL s x.f1) (by omega)) ?_))
      have e : byOf b true (x :: t) = x :: byOf b true t := by simp [byOf, h]
      rw [e]
      rfl
    · refine Ev.no h (Ev.is (ih s (by omega)) ?_)
      have e : byOf b true (x :: t) = byOf b true t := by simp [byOf, h]
      rw [e]
theorem implTouched_ev (l : List S30) (b : Int) (hl : l.length ≤ 1048576) : Ev (fun k => impl_Touched.f k l b) (putAll (nodesOf (byOf b true l)) []) := by
  unfold impl_Touched.f
  refine Ev.bind (implEditsBy_ev l b (by omega)) ?_
  have hb := byOf_len b true l
  generalize byOf b true l = m at hb
  have := loop_list0 m (fun k s i => impl_Touched.l0 k s m (m.length : Int) i) (fun t s => putAll (s ++ nodesOf t) []) (fun i s => s.length = i) ?_ ?_ [] rfl
  · simpa using this
  · intro s hs
    refine Ev.step (fun k => by rw [impl_Touched.l0]) ?_
    exact Ev.no (nltc _) (Ev.pure (implOrdered s (by omega)) (Ev.is (Ev.now _) (by simp [nodesOf])))
  · intro i x t s hi hx ht hs ih
    refine Ev.step (fun k => by rw [impl_Touched.l0]) ?_
    rw [rdE_at hx, w64s hi (by omega)]
    refine Ev.yes (ltc hi) (Ev.yes (nnc _) (Ev.yes (ltc hi) (Ev.yes (by omega) (Ev.is (ih (s ++ [x.f1]) (by simp; omega)) ?_))))
    simp [nodesOf]

theorem eqIntS_ev (a b : List Int) (h : a.length ≤ 9223372036854775807) : Ev (fun k => laws_eqIntS.f k a b) (decide (a = b)) := by
  by_cases hl : a.length = b.length
  · have H := eq_loop a b (fun k i => laws_eqIntS.l0 k a b i) hl (fun k => by simp only [laws_eqIntS.l0, nltc, if_false]) (fun k i x y hx hy hi hi2 => by
      simp only [laws_eqIntS.l0, ltc hi, ltc hi2, nnc, if_true, rd_at hx, rd_at hy, w64s hi h])
    obtain ⟨K, hK⟩ := H
    refine ⟨K, fun k hk => ?_⟩
    simp only [laws_eqIntS.f, hl, if_true]
    exact hK k hk
  · refine ⟨0, fun k _ => ?_⟩
    simp only [laws_eqIntS.f]
    rw [if_neg (by omega)]
    congr 1
    symm
    exact decide_eq_false (fun e => hl (by rw [e]))
theorem eqIntS_self (a : List Int) (h : a.length ≤ 9223372036854775807) : Ev (fun k => laws_eqIntS.f k a a) true := Ev.is (eqIntS_ev a a h) (by simp)

def mInt (c : Int) : Int := c
theorem markIntS_ev (l : List Int) (c : Int) (h : 0 ≤ c ∧ c + l.length ≤ 9223372036854775807) : Ev (fun k => laws_markIntS.f k l c) (c + l.length, marks mInt 1 c l.length) := by
  have H := mark_loop mInt 1 l.length c (fun k s c i => laws_markIntS.l0 k s c i) (fun k s c hs => by simp only [laws_markIntS.l0, hs, nltc, if_false]) (fun k i s hi hs => by
    simp only [laws_markIntS.l0, hs, ltc hi, nnc, if_true, w64s hi (show l.length ≤ 9223372036854775807 by omega), Int.toNat_natCast]
    rw [w64 (by omega), show c + 1 * (i : Int) + 1 = c + 1 * ((i + 1 : Nat) : Int) by omega]
    rfl) l rfl
  simpa [laws_markIntS.f] using H
theorem heldIntS_ev (c : Int) (n : Nat) (h : 0 ≤ c ∧ c + n ≤ 9223372036854775807) : Ev (fun k => laws_heldIntS.f k (marks mInt 1 c n) c) (c + n) := by
  have H := held_loop 1 n c (fun k c' i => laws_heldIntS.l0 k (marks mInt 1 c n) c' i) (fun k c' => by simp only [laws_heldIntS.l0, marks_len, nltc, if_false]) (fun k i hi => by
    simp only [laws_heldIntS.l0, marks_len, ltc hi, nnc, if_true, rd_at (marks_at mInt 1 c n i hi), mInt, w64s hi (show n ≤ 9223372036854775807 by omega)]
    rw [w64 (by omega), show c + 1 * (i : Int) + 1 = c + 1 * ((i + 1 : Nat) : Int) by omega])
  simpa [laws_heldIntS.f] using H

theorem FnExactTouched : FnExactTouched_Pure := by
  intro l b hl _ _
  have hm : maxLen = 9223372036854775807 := by decide
  refine Ev.rounds (g := fun k => laws_FnExactTouched.f k l b) ?_
  unfold laws_FnExactTouched.f
  refine Ev.pure (szEdit l 1048576 (by omega) (by decide)) ?_
  by_cases h1 : (1048576 : Int) < l.length
  · exact Ev.yes (by rw [if_pos h1]; decide) (Ev.now _)
  refine Ev.no (by rw [if_neg h1]; omega) ?_
  have e1 := toEditS_ev l (by omega)
  have hlen : (l.map e6).length = l.length := by simp
  generalize l.map e6 = a at e1 hlen
  have e3 := specTouched_ev a b (by omega)
  have e4 := implTouched_ev a b (by omega)
  have hr := putAll_len (nodesOf (byOf b true a)) []
  have hr2 : (nodesOf (byOf b true a)).length ≤ a.length := by
    unfold nodesOf
    rw [List.length_map]
    exact byOf_len b true a
  generalize putAll (nodesOf (byOf b true a)) [] = r at e3 e4 hr
  simp only [List.length_nil] at hr
  have e5 := eqEditS_self a (by omega)
  have e6 := eqIntS_self r (by omega)
  have e7 := markEditS_ev a 1 (by omega)
  have e8 := markIntS_ev r 1 (by omega)
  have e9 := heldIntS_ev 1 r.length (by omega)
  have ej : Ev (fun k => laws_FnExactTouched.j0 k l b r r false) true := by
    refine Ev.step (fun k => by rw [laws_FnExactTouched.j0]) ?_
    exact Ev.no (by simp) (Ev.bind e8 (Ev.bind e9 (Ev.no (by omega) (Ev.yes rfl (Ev.bind e1 (Ev.bind e4 (Ev.bind e6 (Ev.yes rfl (Ev.bind e9 (Ev.no (by omega) (Ev.yes rfl (Ev.now true))))))))))))
  exact Ev.bind e1 (Ev.bind e3 (Ev.bind e1 (Ev.bind e4 (Ev.bind e6 (Ev.yes rfl (Ev.bind e1 (Ev.bind e5 (Ev.yes rfl (Ev.bind e7 (Ev.no (by simp only; omega) (Ev.bind e6 ej)))))))))))

end Go.Proofs.Ytiiibfpijmmbfaa.Pure
