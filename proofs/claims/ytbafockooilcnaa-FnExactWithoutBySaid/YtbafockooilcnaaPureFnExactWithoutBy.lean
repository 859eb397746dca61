/- FnExactWithoutBy: the pure statement of the law, for every input: what the program's functions and the reference's come to is the same, or what the law says holds. No condition beside the statement's own. -/
import Derived.Test.YtbafockooilcnaaPFnExactWithoutByx3
namespace Go.Proofs.Ytbafockooilcnaa.Pure
open Go.RowKit Go.Proofs.Ytbafockooilcnaa.PFnExactWithoutBy Go.Proofs.YtbafockooilcnaaW.PrintWords Go.Proofs.YtbafockooilcnaaW.PrintLast Go.Proofs.YtbafockooilcnaaW.PrintMore
set_option linter.unusedVariables false
set_option linter.unusedSimpArgs false

/-- What is to be shown of the law's function. -/
def FnExactWithoutBy_Pure : Prop := ∀ (l0 : List S76) (a1 : Int), l0.length ≤ maxLen → (∀ x ∈ l0, (Lit.int .i64 x.f0).wf = true ∧ (Lit.int .i64 x.f1).wf = true ∧ (Lit.int .i64 x.f2).wf = true ∧ (Lit.int .i64 x.f3).wf = true ∧ (Lit.int .i64 x.f4).wf = true ∧ (Lit.int .i64 x.f5).wf = true) → (Lit.int .i64 a1).wf = true → ∃ k, laws_FnExactWithoutBy.f k l0 a1 = some true

theorem i64b {x : Int} (h : (Lit.int .i64 x).wf = true) : -9223372036854775808 ≤ x ∧ x ≤ 9223372036854775807 := by
  simp [Lit.wf, IntKind.min, IntKind.max, IntKind.signed, IntKind.bits] at h
  omega
theorem u8b {x : Int} (h : (Lit.int .u8 x).wf = true) : 0 ≤ x ∧ x ≤ 255 := by
  simp [Lit.wf, IntKind.min, IntKind.max, IntKind.signed, IntKind.bits] at h
  omega
theorem w64 {n : Int} (h : -9223372036854775808 ≤ n ∧ n ≤ 9223372036854775807) : wrap64 n = n := by unfold wrap64; omega
theorem w64s {i : Nat} {n : Nat} (h : i < n) (hn : n ≤ 9223372036854775807) : wrap64 ((i : Int) + 1) = ((i + 1 : Nat) : Int) := by unfold wrap64; omega
theorem ltc {i n : Nat} (h : i < n) : (i : Int) < (n : Int) := by omega
theorem nnc (i : Nat) : (0 : Int) ≤ (i : Int) := by omega
theorem nltc (n : Nat) : ¬ (n : Int) < (n : Int) := by omega
theorem rd_at {l : List Int} {i : Nat} {x : Int} (h : l[i]? = some x) : rd l (i : Int) = x := by
  unfold rd
  simp [List.getD, h]
/-- More rounds than some number. -/
theorem ev_k {α : Type} {g : Nat → Option α} {r : α} (h : Ev g r) : ∃ K, ∀ k, K ≤ k → g k = some r := h
theorem ev_succ {α : Type} {g : Nat → Option α} {r : α} (h : ∃ K, ∀ k, K ≤ k → g (k + 1) = some r) : Ev g r := by
  obtain ⟨K, h⟩ := h
  refine ⟨K + 1, fun k hk => ?_⟩
  obtain ⟨m, rfl⟩ : ∃ m, k = m + 1 := ⟨k - 1, by omega⟩
  exact h m (by omega)
/-- A loop over a list, from the front: what it comes to is told of the list's tails. -/
theorem loop_list {α σ ρ : Type} (l : List α) (L : Nat → σ → Int → Option ρ) (f : List α → σ → ρ) (I : Nat → σ → Prop)
    (hnil : ∀ s, I l.length s → Ev (fun k => L k s (l.length : Int)) (f [] s))
    (hcons : ∀ (i : Nat) (x : α) (t : List α) (s : σ), i < l.length → l[i]? = some x → l.drop (i + 1) = t → I i s →
      (∀ s', I (i + 1) s' → Ev (fun k => L k s' ((i + 1 : Nat) : Int)) (f t s')) → Ev (fun k => L k s (i : Int)) (f (x :: t) s)) :
    ∀ (i : Nat) (s : σ), i ≤ l.length → I i s → Ev (fun k => L k s (i : Int)) (f (l.drop i) s) := by
  intro i s hi hI
  generalize hd : l.length - i = d
  induction d generalizing i s with
  | zero =>
    have : i = l.length := by omega
    subst this
    rw [List.drop_length]
    exact hnil s hI
  | succ d ih =>
    have hlt : i < l.length := by omega
    rw [List.drop_eq_getElem_cons hlt]
    exact hcons i l[i] _ s hlt (List.getElem?_eq_getElem hlt) rfl hI (fun s' hI' => ih (i + 1) s' (by omega) hI' (by omega))
theorem loop_list0 {α σ ρ : Type} (l : List α) (L : Nat → σ → Int → Option ρ) (f : List α → σ → ρ) (I : Nat → σ → Prop)
    (hnil : ∀ s, I l.length s → Ev (fun k => L k s (l.length : Int)) (f [] s))
    (hcons : ∀ (i : Nat) (x : α) (t : List α) (s : σ), i < l.length → l[i]? = some x → l.drop (i + 1) = t → I i s →
      (∀ s', I (i + 1) s' → Ev (fun k => L k s' ((i + 1 : Nat) : Int)) (f t s')) → Ev (fun k => L k s (i : Int)) (f (x :: t) s))
    (s : σ) (hI : I 0 s) : Ev (fun k => L k s 0) (f l s) := by
  have := loop_list l L f I hnil hcons 0 s (Nat.zero_le _) hI
  simpa using this
theorem Ev.yes {α : Type} {c : Prop} [Decidable c] {f g : Nat → Option α} {r : α} (h : c) (e : Ev f r) : Ev (fun n => if c then f n else g n) r := by
  simp only [if_pos h]
  exact e
theorem Ev.no {α : Type} {c : Prop} [Decidable c] {f g : Nat → Option α} {r : α} (h : ¬ c) (e : Ev g r) : Ev (fun n => if c then f n else g n) r := by
  simp only [if_neg h]
  exact e
theorem Ev.pure {α β : Type} {x : Option α} {f : Nat → α → Option β} {a : α} {r : β} (h : x = some a) (k : Ev (fun n => f n a) r) : Ev (fun n => x.bind (f n)) r := by
  subst h
  exact k
theorem Ev.is {α : Type} {g : Nat → Option α} {r r' : α} (h : Ev g r) (e : r = r') : Ev g r' := e ▸ h

/-- A loop over the places of a row, with what holds at each: what it comes to. -/
theorem loop_run {σ ρ : Type} (n : Nat) (L : Nat → σ → Int → Option ρ) (I : Nat → σ → Prop) (r : ρ)
    (hdone : ∀ s, I n s → Ev (fun k => L k s (n : Int)) r)
    (hstep : ∀ i s, i < n → I i s → ∃ s', I (i + 1) s' ∧ ∃ K, ∀ k, K ≤ k → L (k + 1) s (i : Int) = L k s' ((i + 1 : Nat) : Int)) :
    ∀ (i : Nat) (s : σ), i ≤ n → I i s → Ev (fun k => L k s (i : Int)) r := by
  intro i s hi hI
  generalize hd : n - i = d
  induction d generalizing i s with
  | zero =>
    have : i = n := by omega
    subst this
    exact hdone s hI
  | succ d ih =>
    obtain ⟨s', hI', K, hK⟩ := hstep i s (by omega) hI
    obtain ⟨K', hK'⟩ := ih (i + 1) s' (by omega) hI' (by omega)
    refine ev_succ ⟨K + K', fun k hk => ?_⟩
    show L (k + 1) s (i : Int) = some r
    rw [hK k (by omega)]
    exact hK' k (by omega)
/-- Copying element by element. -/
theorem copy_loop {α β : Type} (l : List α) (g : α → β) (L : Nat → List β → Int → Option (List β))
    (hdone : ∀ k s, L (k + 1) s (l.length : Int) = some s)
    (hstep : ∀ k i x s, l[i]? = some x → i < l.length → s.length = l.length → L (k + 1) s (i : Int) = L k (s.set i (g x)) ((i + 1 : Nat) : Int))
    (s : List β) (hs : s.length = l.length) : Ev (fun k => L k s 0) (l.map g) := by
  refine loop_run l.length L (fun i s => s.length = l.length ∧ ∀ j, j < i → s[j]? = (l.map g)[j]?) _ ?_ ?_ 0 s (Nat.zero_le _) ⟨hs, fun j hj => by omega⟩
  · rintro s ⟨h1, h2⟩
    have : s = l.map g := by
      apply List.ext_getElem?
      intro j
      by_cases hj : j < l.length
      · exact h2 j hj
      · rw [List.getElem?_eq_none (by omega), List.getElem?_eq_none (by simp; omega)]
    subst this
    exact ev_succ ⟨0, fun k _ => hdone k _⟩
  · rintro i s hi ⟨h1, h2⟩
    have hx := List.getElem?_eq_getElem hi
    refine ⟨s.set i (g l[i]), ⟨by simp [h1], fun j hj => ?_⟩, 0, fun k _ => hstep k i _ s hx hi h1⟩
    by_cases hji : j = i
    · subst hji
      rw [List.getElem?_set_self (by omega)]
      simp [hi]
    · rw [List.getElem?_set_ne (by omega)]
      exact h2 j (by omega)
/-- Two rows held against each other, element by element. -/
theorem eq_loop {α : Type} [DecidableEq α] (a b : List α) (L : Nat → Int → Option Bool) (hlen : a.length = b.length)
    (hdone : ∀ k, L (k + 1) (a.length : Int) = some true)
    (hstep : ∀ k i x y, a[i]? = some x → b[i]? = some y → i < a.length → i < b.length → L (k + 1) (i : Int) = if x = y then L k ((i + 1 : Nat) : Int) else some false) :
    Ev (fun k => L k 0) (decide (a = b)) := by
  suffices H : ∀ d i, i ≤ a.length → a.length - i = d → Ev (fun k => L k (i : Int)) (decide (a.drop i = b.drop i)) by
    simpa using H _ 0 (Nat.zero_le _) rfl
  intro d
  induction d with
  | zero =>
    intro i hi hd
    have : i = a.length := by omega
    subst this
    refine ev_succ ⟨0, fun k _ => ?_⟩
    rw [List.drop_length, hlen, List.drop_length]
    rw [← hlen, hdone]
    simp
  | succ d ih =>
    intro i hi hd
    have h1 : i < a.length := by omega
    have h2 : i < b.length := by omega
    obtain ⟨K, hK⟩ := ih (i + 1) (by omega) (by omega)
    replace hK : ∀ k, K ≤ k → L k ((i + 1 : Nat) : Int) = some (decide (a.drop (i + 1) = b.drop (i + 1))) := hK
    refine ev_succ ⟨K, fun k hk => ?_⟩
    show L (k + 1) (i : Int) = _
    rw [hstep k i _ _ (List.getElem?_eq_getElem h1) (List.getElem?_eq_getElem h2) h1 h2, List.drop_eq_getElem_cons h1, List.drop_eq_getElem_cons h2]
    by_cases h : a[i] = b[i]
    · rw [if_pos h, hK k hk, h]
      simp only [List.cons.injEq, true_and]
    · rw [if_neg h]
      congr 1
      symm
      exact decide_eq_false (fun e => h (List.cons.inj e).1)
/-- Marks from c on, w a place. -/
def marks {β : Type} (m : Int → β) (w : Int) (c : Int) (n : Nat) : List β := (List.range n).map (fun i : Nat => m (c + w * (i : Int)))
theorem marks_len {β : Type} (m : Int → β) (w c : Int) (n : Nat) : (marks m w c n).length = n := by simp [marks]
theorem marks_at {β : Type} (m : Int → β) (w c : Int) (n i : Nat) (h : i < n) : (marks m w c n)[i]? = some (m (c + w * (i : Int))) := by simp [marks, h]
/-- Marking a row in place. -/
theorem mark_loop {β : Type} (m : Int → β) (w : Int) (n : Nat) (c0 : Int) (L : Nat → List β → Int → Int → Option (Int × List β))
    (hdone : ∀ k s c, s.length = n → L (k + 1) s c (n : Int) = some (c, s))
    (hstep : ∀ k i s, i < n → s.length = n → L (k + 1) s (c0 + w * (i : Int)) (i : Int) = L k (s.set i (m (c0 + w * (i : Int)))) (c0 + w * ((i + 1 : Nat) : Int)) ((i + 1 : Nat) : Int))
    (s : List β) (hs : s.length = n) : Ev (fun k => L k s c0 0) (c0 + w * (n : Int), marks m w c0 n) := by
  have := loop_run n (fun k (p : List β × Int) i => L k p.1 p.2 i) (fun i p => p.2 = c0 + w * (i : Int) ∧ p.1.length = n ∧ ∀ j, j < i → p.1[j]? = (marks m w c0 n)[j]?) (c0 + w * (n : Int), marks m w c0 n) ?_ ?_ 0 (s, c0) (Nat.zero_le _) ⟨by simp, hs, fun j hj => by omega⟩
  · exact this
  · rintro ⟨s, c⟩ ⟨h0, h1, h2⟩
    simp only at h0 h1 h2
    have : s = marks m w c0 n := by
      apply List.ext_getElem?
      intro j
      by_cases hj : j < n
      · exact h2 j hj
      · rw [List.getElem?_eq_none (by omega), List.getElem?_eq_none (by rw [marks_len]; omega)]
    subst this
    refine ev_succ ⟨0, fun k _ => ?_⟩
    show L (k + 1) _ c _ = _
    rw [hdone k _ c h1, h0]
  · rintro i ⟨s, c⟩ hi ⟨h0, h1, h2⟩
    simp only at h0 h1 h2
    refine ⟨(s.set i (m (c0 + w * (i : Int))), c0 + w * ((i + 1 : Nat) : Int)), ⟨rfl, by simp [h1], fun j hj => ?_⟩, 0, fun k _ => ?_⟩
    · by_cases hji : j = i
      · subst hji
        simp only
        rw [List.getElem?_set_self (by omega), marks_at _ _ _ _ _ hi]
      · simp only
        rw [List.getElem?_set_ne (by omega)]
        exact h2 j (by omega)
    · simp only [h0]
      exact hstep k i s hi h1
/-- A row's marks told again. -/
theorem held_loop (w : Int) (n : Nat) (c0 : Int) (L : Nat → Int → Int → Option Int)
    (hdone : ∀ k c, L (k + 1) c (n : Int) = some c)
    (hstep : ∀ k i, i < n → L (k + 1) (c0 + w * (i : Int)) (i : Int) = L k (c0 + w * ((i + 1 : Nat) : Int)) ((i + 1 : Nat) : Int)) :
    Ev (fun k => L k c0 0) (c0 + w * (n : Int)) := by
  have := loop_run n L (fun i c => c = c0 + w * (i : Int)) (c0 + w * (n : Int)) ?_ ?_ 0 c0 (Nat.zero_le _) (by simp)
  · exact this
  · rintro c h0
    refine ev_succ ⟨0, fun k _ => ?_⟩
    show L (k + 1) c _ = _
    rw [hdone k c, h0]
  · rintro i c hi h0
    subst h0
    exact ⟨_, rfl, 0, fun k _ => hstep k i hi⟩

theorem rdE_at {l : List S74} {i : Nat} {x : S74} (h : l[i]? = some x) : rd_T74 l (i : Int) = x := by
  unfold rd_T74
  simp [List.getD, h]
theorem rdLE_at {l : List S76} {i : Nat} {x : S76} (h : l[i]? = some x) : rd_T76 l (i : Int) = x := by
  unfold rd_T76
  simp [List.getD, h]
def e6 (x : S76) : S74 := ⟨x.f0, x.f1, x.f2, x.f3, x.f4, x.f5⟩
theorem edit_ext (x y : S74) : x = y ↔ x.f0 = y.f0 ∧ x.f1 = y.f1 ∧ x.f2 = y.f2 ∧ x.f3 = y.f3 ∧ x.f4 = y.f4 ∧ x.f5 = y.f5 := by
  obtain ⟨a, b, c, d, e, f⟩ := x
  obtain ⟨a', b', c', d', e', f'⟩ := y
  simp only [S74.mk.injEq]
instance : DecidableEq S74 := fun x y => decidable_of_iff _ (edit_ext x y).symm
theorem szEdit (l : List S76) (c : Int) (h : l.length ≤ 9223372036854775807) (hc : 0 ≤ c ∧ c ≤ 1048576) : laws_szEditS.f l c = some (if c < (l.length : Int) then -1 else c - l.length) := by
  unfold laws_szEditS.f
  rw [w64 (by omega)]
  split <;> split <;> first | rfl | omega
theorem toEditS_ev (l : List S76) (h : l.length ≤ 1048576) : Ev (fun k => laws_toEditS.f k l) (l.map e6) := by
  have H := copy_loop l e6 (fun k s i => laws_toEditS.l0 k l s i) (fun k s => by simp only [laws_toEditS.l0, nltc, if_false]) (fun k i x s hx hi hs => by
    simp only [laws_toEditS.l0, laws_toEdit.f, Option.bind_some, ltc hi, nnc, hs, if_true, rdLE_at hx, w64s hi (show l.length ≤ 9223372036854775807 by omega), Int.toNat_natCast, e6]) (List.replicate l.length z74) (by simp)
  obtain ⟨K, hK⟩ := H
  refine ⟨K, fun k hk => ?_⟩
  simp only [laws_toEditS.f, nnc, if_true, Int.toNat_natCast, show l.length ≤ 5864062014805 from by omega]
  exact hK k hk
theorem eqEdit_eq (a b : S74) : laws_eqEdit.f a.f0 a.f1 a.f2 a.f3 a.f4 a.f5 b.f0 b.f1 b.f2 b.f3 b.f4 b.f5 = some (decide (a = b)) := by
  unfold laws_eqEdit.f
  rw [show (decide (a = b)) = decide (a.f0 = b.f0 ∧ a.f1 = b.f1 ∧ a.f2 = b.f2 ∧ a.f3 = b.f3 ∧ a.f4 = b.f4 ∧ a.f5 = b.f5) from by simp only [edit_ext]]
  by_cases h0 : a.f0 = b.f0
  · by_cases h1 : a.f1 = b.f1
    · by_cases h2 : a.f2 = b.f2
      · by_cases h3 : a.f3 = b.f3
        · by_cases h4 : a.f4 = b.f4
          · by_cases h5 : a.f5 = b.f5 <;> simp [h0, h1, h2, h3, h4, h5]
          · simp [h0, h1, h2, h3, h4]
        · simp [h0, h1, h2, h3]
      · simp [h0, h1, h2]
    · simp [h0, h1]
  · simp [h0]
theorem eqEditS_ev (a b : List S74) (h : a.length ≤ 9223372036854775807) : Ev (fun k => laws_eqEditS.f k a b) (decide (a = b)) := by
  by_cases hl : a.length = b.length
  · have H := eq_loop a b (fun k i => laws_eqEditS.l0 k a b i) hl (fun k => by simp only [laws_eqEditS.l0, nltc, if_false]) (fun k i x y hx hy hi hi2 => by
      simp only [laws_eqEditS.l0, ltc hi, ltc hi2, nnc, if_true, rdE_at hx, rdE_at hy, w64s hi h, eqEdit_eq, Option.bind_some, decide_eq_true_eq])
    obtain ⟨K, hK⟩ := H
    refine ⟨K, fun k hk => ?_⟩
    simp only [laws_eqEditS.f, hl, if_true]
    exact hK k hk
  · refine ⟨0, fun k _ => ?_⟩
    simp only [laws_eqEditS.f]
    rw [if_neg (by omega)]
    congr 1
    symm
    exact decide_eq_false (fun e => hl (by rw [e]))
theorem eqEditS_self (a : List S74) (h : a.length ≤ 9223372036854775807) : Ev (fun k => laws_eqEditS.f k a a) true := Ev.is (eqEditS_ev a a h) (by simp)
def mEdit (c : Int) : S74 := ⟨c, c + 1, c + 2, c + 3, c + 4, c + 5⟩
theorem markEditS_ev (l : List S74) (c : Int) (h : 0 ≤ c ∧ c + 6 * l.length ≤ 9223372036854775800) : Ev (fun k => laws_markEditS.f k l c) (c + 6 * l.length, marks mEdit 6 c l.length) := by
  have H := mark_loop mEdit 6 l.length c (fun k s c i => laws_markEditS.l0 k s c i) (fun k s c hs => by simp only [laws_markEditS.l0, hs, nltc, if_false]) (fun k i s hi hs => by
    have a1 : wrap64 (c + 6 * (i : Int) + 1) = c + 6 * (i : Int) + 1 := w64 (by omega)
    have a2 : wrap64 (c + 6 * (i : Int) + 1 + 1) = c + 6 * (i : Int) + 2 := by rw [w64 (by omega)]; omega
    have a3 : wrap64 (c + 6 * (i : Int) + 2 + 1) = c + 6 * (i : Int) + 3 := by rw [w64 (by omega)]; omega
    have a4 : wrap64 (c + 6 * (i : Int) + 3 + 1) = c + 6 * (i : Int) + 4 := by rw [w64 (by omega)]; omega
    have a5 : wrap64 (c + 6 * (i : Int) + 4 + 1) = c + 6 * (i : Int) + 5 := by rw [w64 (by omega)]; omega
    have a6 : wrap64 (c + 6 * (i : Int) + 5 + 1) = c + 6 * ((i + 1 : Nat) : Int) := by rw [w64 (by omega)]; omega
    have rs : ∀ (t : List S74) (x : S74), t.length = l.length → rd_T74 (t.set i x) (i : Int) = x := fun t x ht => rdE_at (List.getElem?_set_self (by omega))
    simp only [laws_markEditS.l0, hs, ltc hi, nnc, if_true, w64s hi (show l.length ≤ 9223372036854775807 by omega), Int.toNat_natCast, Option.bind_some, a1, a2, a3, a4, a5, a6]
    rw [rs _ _ hs]
    simp only [List.set_set]
    rw [rs _ _ hs]
    simp only [List.set_set]
    rw [rs _ _ hs]
    simp only [List.set_set]
    rw [rs _ _ hs]
    simp only [List.set_set]
    rw [rs _ _ hs]
    rfl) l rfl
  simpa [laws_markEditS.f] using H
theorem heldEditS_ev (c : Int) (n : Nat) (h : 0 ≤ c ∧ c + 6 * n ≤ 9223372036854775800) : Ev (fun k => laws_heldEditS.f k (marks mEdit 6 c n) c) (c + 6 * n) := by
  have H := held_loop 6 n c (fun k c' i => laws_heldEditS.l0 k (marks mEdit 6 c n) c' i) (fun k c' => by simp only [laws_heldEditS.l0, marks_len, nltc, if_false]) (fun k i hi => by
    have a1 : wrap64 (c + 6 * (i : Int) + 1) = c + 6 * (i : Int) + 1 := w64 (by omega)
    have a2 : wrap64 (c + 6 * (i : Int) + 1 + 1) = c + 6 * (i : Int) + 2 := by rw [w64 (by omega)]; omega
    have a3 : wrap64 (c + 6 * (i : Int) + 2 + 1) = c + 6 * (i : Int) + 3 := by rw [w64 (by omega)]; omega
    have a4 : wrap64 (c + 6 * (i : Int) + 3 + 1) = c + 6 * (i : Int) + 4 := by rw [w64 (by omega)]; omega
    have a5 : wrap64 (c + 6 * (i : Int) + 4 + 1) = c + 6 * (i : Int) + 5 := by rw [w64 (by omega)]; omega
    have a6 : wrap64 (c + 6 * (i : Int) + 5 + 1) = c + 6 * ((i + 1 : Nat) : Int) := by rw [w64 (by omega)]; omega
    simp only [laws_heldEditS.l0, marks_len, ltc hi, nnc, if_true, rdE_at (marks_at mEdit 6 c n i hi), mEdit, w64s hi (show n ≤ 9223372036854775807 by omega), a1, a2, a3, a4, a5, a6])
  simpa [laws_heldEditS.f] using H

/-- The edits by an author (is: true), or by others. -/
def byOf (by' : Int) (is : Bool) (l : List S74) : List S74 := l.filter (fun x => (x.f5 == by') == is)
theorem byOf_len (b : Int) (is : Bool) (l : List S74) : (byOf b is l).length ≤ l.length := List.length_filter_le _ _
theorem implEditsOf_ev (l : List S74) (b : Int) (is : Bool) (hl : l.length ≤ 2932031007401) : Ev (fun k => impl_editsOf.f k l b is) (byOf b is l) := by
  have := loop_list0 l (fun k s i => impl_editsOf.l0 k b is s l (l.length : Int) i) (fun t s => s ++ byOf b is t) (fun i s => s.length ≤ i) ?_ ?_ [] (by simp)
  · simpa [impl_editsOf.f] using this
  · intro s hs
    exact ev_succ ⟨0, fun k _ => by simp only [impl_editsOf.l0, nltc, if_false, byOf, List.filter_nil, List.append_nil]⟩
  · intro i x t s hi hx ht hs ih
    by_cases h : ((x.f5 == b) == is) = true
    · obtain ⟨K, hK⟩ := ih (s ++ [x]) (by simp; omega)
      refine ev_succ ⟨K, fun k hk => ?_⟩
      have h1 := hK k hk
      simp only [List.append_assoc] at h1
      simp only [impl_editsOf.l0, ltc hi, nnc, if_true, rdE_at hx, h, show s.length < 2932031007402 by omega, w64s hi (show l.length ≤ 9223372036854775807 by omega)]
      rw [h1]
      simp [byOf, h]
    · obtain ⟨K, hK⟩ := ih s (by omega)
      refine ev_succ ⟨K, fun k hk => ?_⟩
      have h1 := hK k hk
      simp only at h1
      simp only [impl_editsOf.l0, ltc hi, nnc, if_true, rdE_at hx, h, if_false, w64s hi (show l.length ≤ 9223372036854775807 by omega)]
      rw [h1]
      simp [byOf, h]
theorem implWithoutBy_ev (l : List S74) (b : Int) (hl : l.length ≤ 2932031007401) : Ev (fun k => impl_WithoutBy.f k l b) (byOf b false l) := by
  unfold impl_WithoutBy.f
  exact Ev.bind (implEditsOf_ev l b false hl) (Ev.now _)
theorem specWithoutBy_ev (l : List S74) (b : Int) (hl : l.length ≤ 2932031007401) : Ev (fun k => spec_WithoutBy.f k l b) (byOf b false l) := by
  have := loop_list0 l (fun k s i => spec_WithoutBy.l0 k l b s i) (fun t s => s ++ byOf b false t) (fun i s => s.length ≤ i) ?_ ?_ [] (by simp)
  · simpa [spec_WithoutBy.f] using this
  · intro s hs
    exact ev_succ ⟨0, fun k _ => by simp only [spec_WithoutBy.l0, nltc, if_false, byOf, List.filter_nil, List.append_nil]⟩
  · intro i x t s hi hx ht hs ih
    by_cases h : x.f5 = b
    · obtain ⟨K, hK⟩ := ih s (by omega)
      refine ev_succ ⟨K, fun k hk => ?_⟩
      have h1 := hK k hk
      simp only at h1
      simp only [spec_WithoutBy.l0, ltc hi, nnc, if_true, rdE_at hx, h, w64s hi (show l.length ≤ 9223372036854775807 by omega)]
      rw [h1]
      simp [byOf, h]
    · obtain ⟨K, hK⟩ := ih (s ++ [x]) (by simp; omega)
      refine ev_succ ⟨K, fun k hk => ?_⟩
      have h1 := hK k hk
      simp only [List.append_assoc] at h1
      simp only [spec_WithoutBy.l0, ltc hi, nnc, if_true, rdE_at hx, h, if_false, show s.length < 2932031007402 by omega, w64s hi (show l.length ≤ 9223372036854775807 by omega)]
      rw [h1]
      simp [byOf, h]

theorem FnExactWithoutBy : FnExactWithoutBy_Pure := by
  intro l b hl _ _
  have hm : maxLen = 9223372036854775807 := by decide
  refine Ev.rounds (g := fun k => laws_FnExactWithoutBy.f k l b) ?_
  unfold laws_FnExactWithoutBy.f
  refine Ev.pure (szEdit l 1048576 (by omega) (by decide)) ?_
  by_cases h1 : (1048576 : Int) < l.length
  · exact Ev.yes (by rw [if_pos h1]; decide) (Ev.now _)
  refine Ev.no (by rw [if_neg h1]; omega) ?_
  have e1 := toEditS_ev l (by omega)
  have hlen : (l.map e6).length = l.length := by simp
  generalize l.map e6 = a at e1 hlen
  have e3 := specWithoutBy_ev a b (by omega)
  have e4 := implWithoutBy_ev a b (by omega)
  have hr := byOf_len b false a
  generalize byOf b false a = r at e3 e4 hr
  have e5 := eqEditS_self a (by omega)
  have e6 := eqEditS_self r (by omega)
  have e7 := markEditS_ev a 1 (by omega)
  have e8 := markEditS_ev r 1 (by omega)
  have e9 := heldEditS_ev 1 r.length (by omega)
  have ej : Ev (fun k => laws_FnExactWithoutBy.j0 k l b r r false) true := by
    refine Ev.step (fun k => by rw [laws_FnExactWithoutBy.j0]) ?_
    exact Ev.no (by simp) (Ev.bind e8 (Ev.bind e9 (Ev.no (by omega) (Ev.yes rfl (Ev.bind e1 (Ev.bind e4 (Ev.bind e6 (Ev.yes rfl (Ev.bind e9 (Ev.no (by omega) (Ev.yes rfl (Ev.now true))))))))))))
  exact Ev.bind e1 (Ev.bind e3 (Ev.bind e1 (Ev.bind e4 (Ev.bind e6 (Ev.yes rfl (Ev.bind e1 (Ev.bind e5 (Ev.yes rfl (Ev.bind e7 (Ev.no (by simp only; omega) (Ev.bind e6 ej)))))))))))

end Go.Proofs.Ytbafockooilcnaa.Pure
