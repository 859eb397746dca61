/- FnHandles: the pure statement of the law, for every input: what the program's functions and the reference's come to is the same, or what the law says holds. No condition beside the statement's own. -/
import Derived.Test.YtiiibfpijmmbfaaQFnHandlesx15
namespace Go.Proofs.Ytiiibfpijmmbfaa.Pure
open Go.RowKit Go.Proofs.Ytiiibfpijmmbfaa.QFnHandles Go.Proofs.YtiiibfpijmmbfaaW.PrintWords Go.Proofs.YtiiibfpijmmbfaaW.PrintLast Go.Proofs.YtiiibfpijmmbfaaW.PrintMore
set_option linter.unusedVariables false
set_option linter.unusedSimpArgs false


theorem i64b {x : Int} (h : (Lit.int .i64 x).wf = true) : -9223372036854775808 ≤ x ∧ x ≤ 9223372036854775807 := by
  simp [Lit.wf, IntKind.min, IntKind.max, IntKind.signed, IntKind.bits] at h
  omega
theorem u8b {x : Int} (h : (Lit.int .u8 x).wf = true) : 0 ≤ x ∧ x ≤ 255 := by
  simp [Lit.wf, IntKind.min, IntKind.max, IntKind.signed, IntKind.bits] at h
  omega
theorem w64 {n : Int} (h : -9223372036854775808 ≤ n ∧ n ≤ 9223372036854775807) : wrap64 n = n := by unfold wrap64; omega
theorem w64s {i : Nat} {n : Nat} (h : i < n) (hn : n ≤ 9223372036854775807) : wrap64 ((i : Int) + 1) = ((i + 1 : Nat) : Int) := by unfold wrap64; omega
theorem ltc {i n : Nat} (h : i < n) : (i : Int) < (n : Int) := by omega
theorem nnc (i : Nat) : (0 : Int) ≤ (i : Int) := by omega
theorem nltc (n : Nat) : ¬ (n : Int) < (n : Int) := by omega
theorem rd_at {l : List Int} {i : Nat} {x : Int} (h : l[i]? = some x) : rd l (i : Int) = x := by
  unfold rd
  simp [List.getD, h]
/-- More rounds than some number. -/
theorem ev_k {α : Type} {g : Nat → Option α} {r : α} (h : Ev g r) : ∃ K, ∀ k, K ≤ k → g k = some r := h
theorem ev_succ {α : Type} {g : Nat → Option α} {r : α} (h : ∃ K, ∀ k, K ≤ k → g (k + 1) = some r) : Ev g r := by
  obtain ⟨K, h⟩ := h
  refine ⟨K + 1, fun k hk => ?_⟩
  obtain ⟨m, rfl⟩ : ∃ m, k = m + 1 := ⟨k - 1, by omega⟩
  exact h m (by omega)
/-- A loop over a list, from the front: what it comes to is told of the list's tails. -/
theorem loop_list {α σ ρ : Type} (l : List α) (L : Nat → σ → Int → Option ρ) (f : List α → σ → ρ) (I : Nat → σ → Prop)
    (hnil : ∀ s, I l.length s → Ev (fun k => L k s (l.length : Int)) (f [] s))
    (hcons : ∀ (i : Nat) (x : α) (t : List α) (s : σ), i < l.length → l[i]? = some x → l.drop (i + 1) = t → I i s →
      (∀ s', I (i + 1) s' → Ev (fun k => L k s' ((i + 1 : Nat) : Int)) (f t s')) → Ev (fun k => L k s (i : Int)) (f (x :: t) s)) :
    ∀ (i : Nat) (s : σ), i ≤ l.length → I i s → Ev (fun k => L k s (i : Int)) (f (l.drop i) s) := by
  intro i s hi hI
  generalize hd : l.length - i = d
  induction d generalizing i s with
  | zero =>
    have : i = l.length := by omega
    subst this
    rw [List.drop_length]
    exact hnil s hI
  | succ d ih =>
    have hlt : i < l.length := by omega
    rw [List.drop_eq_getElem_cons hlt]
    exact hcons i l[i] _ s hlt (List.getElem?_eq_getElem hlt) rfl hI (fun s' hI' => ih (i + 1) s' (by omega) hI' (by omega))
theorem loop_list0 {α σ ρ : Type} (l : List α) (L : Nat → σ → Int → Option ρ) (f : List α → σ → ρ) (I : Nat → σ → Prop)
    (hnil : ∀ s, I l.length s → Ev (fun k => L k s (l.length : Int)) (f [] s))
    (hcons : ∀ (i : Nat) (x : α) (t : List α) (s : σ), i < l.length → l[i]? = some x → l.drop (i + 1) = t → I i s →
      (∀ s', I (i + 1) s' → Ev (fun k => L k s' ((i + 1 : Nat) : Int)) (f t s')) → Ev (fun k => L k s (i : Int)) (f (x :: t) s))
    (s : σ) (hI : I 0 s) : Ev (fun k => L k s 0) (f l s) := by
  have := loop_list l L f I hnil hcons 0 s (Nat.zero_le _) hI
  simpa using this
theorem Ev.yes {α : Type} {c : Prop} [Decidable c] {f g : Nat → Option α} {r : α} (h : c) (e : Ev f r) : Ev (fun n => if c then f n else g n) r := by
  simp only [if_pos h]
  exact e
theorem Ev.no {α : Type} {c : Prop} [Decidable c] {f g : Nat → Option α} {r : α} (h : ¬ c) (e : Ev g r) : Ev (fun n => if c then f n else g n) r := by
  simp only [if_neg h]
  exact e
theorem Ev.pure {α β : Type} {x : Option α} {f : Nat → α → Option β} {a : α} {r : β} (h : x = some a) (k : Ev (fun n => f n a) r) : Ev (fun n => x.bind (f n)) r := by
  subst h
  exact k
theorem Ev.is {α : Type} {g : Nat → Option α} {r r' : α} (h : Ev g r) (e : r = r') : Ev g r' := e ▸ h

/-- A loop over the places of a row, with what holds at each: what it comes to. -/
theorem loop_run {σ ρ : Type} (n : Nat) (L : Nat → σ → Int → Option ρ) (I : Nat → σ → Prop) (r : ρ)
    (hdone : ∀ s, I n s → Ev (fun k => L k s (n : Int)) r)
    (hstep : ∀ i s, i < n → I i s → ∃ s', I (i + 1) s' ∧ ∃ K, ∀ k, K ≤ k → L (k + 1) s (i : Int) = L k s' ((i + 1 : Nat) : Int)) :
    ∀ (i : Nat) (s : σ), i ≤ n → I i s → Ev (fun k => L k s (i : Int)) r := by
  intro i s hi hI
  generalize hd : n - i = d
  induction d generalizing i s with
  | zero =>
    have : i = n := by omega
    subst this
    exact hdone s hI
  | succ d ih =>
    obtain ⟨s', hI', K, hK⟩ := hstep i s (by omega) hI
    obtain ⟨K', hK'⟩ := ih (i + 1) s' (by omega) hI' (by omega)
    refine ev_succ ⟨K + K', fun k hk => ?_⟩
    show L (k + 1) s (i : Int) = some r
    rw [hK k (by omega)]
    exact hK' k (by omega)
/-- Copying element by element. -/
theorem copy_loop {α β : Type} (l : List α) (g : α → β) (L : Nat → List β → Int → Option (List β))
    (hdone : ∀ k s, L (k + 1) s (l.length : Int) = some s)
    (hstep : ∀ k i x s, l[i]? = some x → i < l.length → s.length = l.length → L (k + 1) s (i : Int) = L k (s.set i (g x)) ((i + 1 : Nat) : Int))
    (s : List β) (hs : s.length = l.length) : Ev (fun k => L k s 0) (l.map g) := by
  refine loop_run l.length L (fun i s => s.length = l.length ∧ ∀ j, j < i → s[j]? = (l.map g)[j]?) _ ?_ ?_ 0 s (Nat.zero_le _) ⟨hs, fun j hj => by omega⟩
  · rintro s ⟨h1, h2⟩
    have : s = l.map g := by
      apply List.ext_getElem?
      intro j
      by_cases hj : j < l.length
      · exact h2 j hj
      · rw [List.getElem?_eq_none (by omega), List.getElem?_eq_none (by simp; omega)]
    subst this
    exact ev_succ ⟨0, fun k _ => hdone k _⟩
  · rintro i s hi ⟨h1, h2⟩
    have hx := List.getElem?_eq_getElem hi
    refine ⟨s.set i (g l[i]), ⟨by simp [h1], fun j hj => ?_⟩, 0, fun k _ => hstep k i _ s hx hi h1⟩
    by_cases hji : j = i
    · subst hji
      rw [List.getElem?_set_self (by omega)]
      simp [hi]
    · rw [List.getElem?_set_ne (by omega)]
      exact h2 j (by omega)
/-- Two rows held against each other, element by element. -/
theorem eq_loop {α : Type} [DecidableEq α] (a b : List α) (L : Nat → Int → Option Bool) (hlen : a.length = b.length)
    (hdone : ∀ k, L (k + 1) (a.length : Int) = some true)
    (hstep : ∀ k i x y, a[i]? = some x → b[i]? = some y → i < a.length → i < b.length → L (k + 1) (i : Int) = if x = y then L k ((i + 1 : Nat) : Int) else some false) :
    Ev (fun k => L k 0) (decide (a = b)) := by
  suffices H : ∀ d i, i ≤ a.length → a.length - i = d → Ev (fun k => L k (i : Int)) (decide (a.drop i = b.drop i)) by
    simpa using H _ 0 (Nat.zero_le _) rfl
  intro d
  induction d with
  | zero =>
    intro i hi hd
    have : i = a.length := by omega
    subst this
    refine ev_succ ⟨0, fun k _ => ?_⟩
    rw [List.drop_length, hlen, List.drop_length]
    rw [← hlen, hdone]
    simp
  | succ d ih =>
    intro i hi hd
    have h1 : i < a.length := by omega
    have h2 : i < b.length := by omega
    obtain ⟨K, hK⟩ := ih (i + 1) (by omega) (by omega)
    replace hK : ∀ k, K ≤ k → L k ((i + 1 : Nat) : Int) = some (decide (a.drop (i + 1) = b.drop (i + 1))) := hK
    refine ev_succ ⟨K, fun k hk => ?_⟩
    show L (k + 1) (i : Int) = _
    rw [hstep k i _ _ (List.getElem?_eq_getElem h1) (List.getElem?_eq_getElem h2) h1 h2, List.drop_eq_getElem_cons h1, List.drop_eq_getElem_cons h2]
    by_cases h : a[i] = b[i]
    · rw [if_pos h, hK k hk, h]
      simp only [List.cons.injEq, true_and]
    · rw [if_neg h]
      congr 1
      symm
      exact decide_eq_false (fun e => h (List.cons.inj e).1)
/-- Marks from c on, w a place. -/
def marks {β : Type} (m : Int → β) (w : Int) (c : Int) (n : Nat) : List β := (List.range n).map (fun i : Nat => m (c + w * (i : Int)))
theorem marks_len {β : Type} (m : Int → β) (w c : Int) (n : Nat) : (marks m w c n).length = n := by simp [marks]
theorem marks_at {β : Type} (m : Int → β) (w c : Int) (n i : Nat) (h : i < n) : (marks m w c n)[i]? = some (m (c + w * (i : Int))) := by simp [marks, h]
/-- Marking a row in place. -/
theorem mark_loop {β : Type} (m : Int → β) (w : Int) (n : Nat) (c0 : Int) (L : Nat → List β → Int → Int → Option (Int × List β))
    (hdone : ∀ k s c, s.length = n → L (k + 1) s c (n : Int) = some (c, s))
    (hstep : ∀ k i s, i < n → s.length = n → L (k + 1) s (c0 + w * (i : Int)) (i : Int) = L k (s.set i (m (c0 + w * (i : Int)))) (c0 + w * ((i + 1 : Nat) : Int)) ((i + 1 : Nat) : Int))
    (s : List β) (hs : s.length = n) : Ev (fun k => L k s c0 0) (c0 + w * (n : Int), marks m w c0 n) := by
  have := loop_run n (fun k (p : List β × Int) i => L k p.1 p.2 i) (fun i p => p.2 = c0 + w * (i : Int) ∧ p.1.length = n ∧ ∀ j, j < i → p.1[j]? = (marks m w c0 n)[j]?) (c0 + w * (n : Int), marks m w c0 n) ?_ ?_ 0 (s, c0) (Nat.zero_le _) ⟨by simp, hs, fun j hj => by omega⟩
  · exact this
  · rintro ⟨s, c⟩ ⟨h0, h1, h2⟩
    simp only at h0 h1 h2
    have : s = marks m w c0 n := by
      apply List.ext_getElem?
      intro j
      by_cases hj : j < n
      · exact h2 j hj
      · rw [List.getElem?_eq_none (by omega), List.getElem?_eq_none (by rw [marks_len]; omega)]
    subst this
    refine ev_succ ⟨0, fun k _ => ?_⟩
    show L (k + 1) _ c _ = _
    rw [hdone k _ c h1, h0]
  · rintro i ⟨s, c⟩ hi ⟨h0, h1, h2⟩
    simp only at h0 h1 h2
    refine ⟨(s.set i (m (c0 + w * (i : Int))), c0 + w * ((i + 1 : Nat) : Int)), ⟨rfl, by simp [h1], fun j hj => ?_⟩, 0, fun k _ => ?_⟩
    · by_cases hji : j = i
      · subst hji
        simp only
        rw [List.getElem?_set_self (by omega), marks_at _ _ _ _ _ hi]
      · simp only
        rw [List.getElem?_set_ne (by omega)]
        exact h2 j (by omega)
    · simp only [h0]
      exact hstep k i s hi h1
/-- A row's marks told again. -/
theorem held_loop (w : Int) (n : Nat) (c0 : Int) (L : Nat → Int → Int → Option Int)
    (hdone : ∀ k c, L (k + 1) c (n : Int) = some c)
    (hstep : ∀ k i, i < n → L (k + 1) (c0 + w * (i : Int)) (i : Int) = L k (c0 + w * ((i + 1 : Nat) : Int)) ((i + 1 : Nat) : Int)) :
    Ev (fun k => L k c0 0) (c0 + w * (n : Int)) := by
  have := loop_run n L (fun i c => c = c0 + w * (i : Int)) (c0 + w * (n : Int)) ?_ ?_ 0 c0 (Nat.zero_le _) (by simp)
  · exact this
  · rintro c h0
    refine ev_succ ⟨0, fun k _ => ?_⟩
    show L (k + 1) c _ = _
    rw [hdone k c, h0]
  · rintro i c hi h0
    subst h0
    exact ⟨_, rfl, 0, fun k _ => hstep k i hi⟩
/-- As 'loop_run', where a round may take several. -/
theorem loop_ev {σ ρ : Type} (n : Nat) (L : Nat → σ → Int → Option ρ) (I : Nat → σ → Prop) (r : ρ)
    (hdone : ∀ s, I n s → Ev (fun k => L k s (n : Int)) r)
    (hstep : ∀ i s, i < n → I i s → ∃ s', I (i + 1) s' ∧ (Ev (fun k => L k s' ((i + 1 : Nat) : Int)) r → Ev (fun k => L k s (i : Int)) r)) :
    ∀ (i : Nat) (s : σ), i ≤ n → I i s → Ev (fun k => L k s (i : Int)) r := by
  intro i s hi hI
  generalize hd : n - i = d
  induction d generalizing i s with
  | zero =>
    have : i = n := by omega
    subst this
    exact hdone s hI
  | succ d ih =>
    obtain ⟨s', hI', hs⟩ := hstep i s (by omega) hI
    exact hs (ih (i + 1) s' (by omega) hI' (by omega))

theorem rdN_at {l : List S59} {i : Nat} {x : S59} (h : l[i]? = some x) : rd_T59 l (i : Int) = x := by
  unfold rd_T59
  simp [List.getD, h]
theorem node_ext (x y : S59) : x = y ↔ x.f0 = y.f0 ∧ x.f1 = y.f1 ∧ x.f2 = y.f2 ∧ x.f3 = y.f3 ∧ x.f4 = y.f4 := by
  obtain ⟨a, b, c, d, e⟩ := x
  obtain ⟨a', b', c', d', e'⟩ := y
  simp only [S59.mk.injEq]
instance : DecidableEq S59 := fun x y => decidable_of_iff _ (node_ext x y).symm
def mNode (c : Int) : S59 := ⟨c, c + 1, c + 2, c + 3, c + 4⟩

/-- The place of the first node with an id, from a place on. -/
def nodeFrom (id : Int) : List S59 → Nat → Int
  | [], _ => -1
  | x :: t, i => if x.f0 = id then (i : Int) else nodeFrom id t (i + 1)
def nodeOf (l : List S59) (id : Int) : Int := nodeFrom id l 0
theorem implNodeOf_ev (l : List S59) (id : Int) (hl : l.length ≤ 9223372036854775807) : Ev (fun k => impl_NodeOf.f k l id) (nodeOf l id) := by
  have := loop_list0 l (fun k (s : Nat) i => impl_NodeOf.l0 k id l (l.length : Int) i) (fun t s => nodeFrom id t s) (fun i s => s = i) ?_ ?_ 0 rfl
  · exact this
  · intro s hs
    exact ev_succ ⟨0, fun k _ => by simp only [impl_NodeOf.l0, nltc, if_false, nodeFrom]⟩
  · intro i x t s hi hx ht hs ih
    subst hs
    obtain ⟨K, hK⟩ := ih (s + 1) rfl
    refine ev_succ ⟨K, fun k hk => ?_⟩
    simp only [impl_NodeOf.l0, ltc hi, nnc, if_true, rdN_at hx, w64s hi hl, nodeFrom]
    split
    · rfl
    · exact hK k hk
theorem specNodeOf_ev (l : List S59) (id : Int) (hl : l.length ≤ 9223372036854775807) : Ev (fun k => spec_NodeOf.f k l id) (nodeOf l id) := by
  have := loop_list0 l (fun k (s : Nat) i => spec_NodeOf.l0 k l id i) (fun t s => nodeFrom id t s) (fun i s => s = i) ?_ ?_ 0 rfl
  · exact this
  · intro s hs
    exact ev_succ ⟨0, fun k _ => by simp only [spec_NodeOf.l0, nltc, if_false, nodeFrom]⟩
  · intro i x t s hi hx ht hs ih
    subst hs
    obtain ⟨K, hK⟩ := ih (s + 1) rfl
    refine ev_succ ⟨K, fun k hk => ?_⟩
    simp only [spec_NodeOf.l0, ltc hi, nnc, if_true, rdN_at hx, w64s hi hl, nodeFrom]
    split
    · rfl
    · exact hK k hk

/-- A loop over places that stops where a test fails. -/
theorem all_loop (n : Nat) (P : Nat → Bool) (L : Nat → Int → Option Bool) (hdone : Ev (fun k => L k (n : Int)) true)
    (hno : ∀ i, i < n → P i = false → Ev (fun k => L k (i : Int)) false)
    (hyes : ∀ i, i < n → P i = true → ∀ r, Ev (fun k => L k ((i + 1 : Nat) : Int)) r → Ev (fun k => L k (i : Int)) r) : Ev (fun k => L k 0) ((List.range n).all P) := by
  suffices H : ∀ d i, i + d = n → Ev (fun k => L k (i : Int)) ((List.range' i d).all P) by
    rw [List.range_eq_range']
    exact H n 0 (by omega)
  intro d
  induction d with
  | zero =>
    intro i hi
    have : i = n := by omega
    subst this
    exact hdone
  | succ d ih =>
    intro i hi
    rw [List.range'_succ, List.all_cons]
    cases h : P i with
    | false => exact hno i (by omega) h
    | true => exact hyes i (by omega) h _ (by simpa using ih (i + 1) (by omega))
def okN (x : S59) : Bool := decide ((0 ≤ x.f2 ∧ x.f2 ≤ 9) ∧ (0 ≤ x.f3 ∧ x.f3 ≤ 999) ∧ (0 ≤ x.f4 ∧ x.f4 ≤ 5))
/-- What holds of a node behind the root. -/
def docAt (l : List S59) (i : Nat) : Bool := okN (rd_T59 l (i : Int)) && (decide (i = 0) || (decide ((rd_T59 l ((i - 1 : Nat) : Int)).f0 < (rd_T59 l (i : Int)).f0) && decide (0 ≤ nodeOf (l.take i) (rd_T59 l (i : Int)).f1)))
def rootOk (l : List S59) : Bool := decide ((rd_T59 l 0).f0 = 0) && decide ((rd_T59 l 0).f1 = -1)
def isDoc (l : List S59) : Bool := decide (1 ≤ l.length ∧ l.length ≤ 16) && (rootOk l && (List.range l.length).all (docAt l))

theorem nodeFrom_cases (id : Int) (l : List S59) : ∀ s : Nat, (nodeFrom id l s = -1 ∧ ∀ x ∈ l, x.f0 ≠ id) ∨ ∃ (j : Nat) (x : S59), l[j]? = some x ∧ x.f0 = id ∧ nodeFrom id l s = ((s + j : Nat) : Int) ∧ ∀ (j' : Nat) (y : S59), j' < j → l[j']? = some y → y.f0 ≠ id := by
  induction l with
  | nil => intro s; exact .inl ⟨rfl, by simp⟩
  | cons x t ih =>
    intro s
    by_cases h : x.f0 = id
    · refine .inr ⟨0, x, rfl, h, by simp [nodeFrom, h], fun j' y hj => by omega⟩
    · rcases ih (s + 1) with ⟨h1, h2⟩ | ⟨j, y, h1, h2, h3, h4⟩
      · refine .inl ⟨by simp only [nodeFrom, h, if_false]; exact h1, ?_⟩
        intro z hz
        rcases List.mem_cons.1 hz with rfl | hz
        · exact h
        · exact h2 z hz
      · refine .inr ⟨j + 1, y, by simpa using h1, h2, ?_, ?_⟩
        · simp only [nodeFrom, h, if_false]
          rw [h3]
          omega
        · intro j' z hj hz
          cases j' with
          | zero => simp at hz; subst hz; exact h
          | succ j' => exact h4 j' z (by omega) (by simpa using hz)
/-- Where a node stands: nowhere, or at its first place. -/
theorem nodeOf_cases (id : Int) (l : List S59) : (nodeOf l id = -1 ∧ ∀ x ∈ l, x.f0 ≠ id) ∨ ∃ (j : Nat) (x : S59), l[j]? = some x ∧ x.f0 = id ∧ nodeOf l id = (j : Int) ∧ ∀ (j' : Nat) (y : S59), j' < j → l[j']? = some y → y.f0 ≠ id := by
  have := nodeFrom_cases id l 0
  simpa [nodeOf] using this
theorem nodeOf_lt (id : Int) (l : List S59) : -1 ≤ nodeOf l id ∧ nodeOf l id < l.length := by
  rcases nodeOf_cases id l with ⟨h, _⟩ | ⟨j, x, h1, _, h, _⟩
  · omega
  · have := (List.getElem?_eq_some_iff.1 h1).1
    omega
theorem rdN_get (l : List S59) (i : Nat) (h : i < l.length) : l[i]? = some (rd_T59 l (i : Int)) := by
  rw [List.getElem?_eq_getElem h]
  congr 1
  exact (rdN_at (List.getElem?_eq_getElem h)).symm
theorem nodeOf_at (id : Int) (l : List S59) (h : 0 ≤ nodeOf l id) : (rd_T59 l (nodeOf l id)).f0 = id := by
  rcases nodeOf_cases id l with ⟨h', _⟩ | ⟨j, x, h1, h2, h3, _⟩
  · omega
  · rw [h3, rdN_at h1, h2]
theorem nodeOf_take (id : Int) (l : List S59) (i : Nat) (h : 0 ≤ nodeOf (l.take i) id) : nodeOf l id = nodeOf (l.take i) id ∧ nodeOf l id < i := by
  rcases nodeOf_cases id (l.take i) with ⟨h', _⟩ | ⟨j, x, h1, h2, h3, h4⟩
  · omega
  · have hj : j < i := by
      have := (List.getElem?_eq_some_iff.1 h1).1
      rw [List.length_take] at this
      omega
    rw [List.getElem?_take_of_lt hj] at h1
    rcases nodeOf_cases id l with ⟨_, h6⟩ | ⟨j2, x2, g1, g2, g3, g4⟩
    · exact absurd h2 (h6 x (List.mem_of_getElem? h1))
    · have e : j2 = j := by
        by_cases a : j2 < j
        · exact absurd g2 (h4 j2 x2 a (by rw [List.getElem?_take_of_lt (by omega)]; exact g1))
        · by_cases b : j < j2
          · exact absurd h2 (g4 j x b h1)
          · omega
      rw [g3, h3, e]
      omega
/-- What is known of a document. -/
structure Doc (l : List S59) : Prop where
  one : 1 ≤ l.length
  most : l.length ≤ 16
  root : (rd_T59 l 0).f0 = 0
  rootp : (rd_T59 l 0).f1 = -1
  ok : ∀ i : Nat, i < l.length → okN (rd_T59 l (i : Int)) = true
  ord : ∀ i : Nat, 0 < i → i < l.length → (rd_T59 l ((i - 1 : Nat) : Int)).f0 < (rd_T59 l (i : Int)).f0
  par : ∀ i : Nat, 0 < i → i < l.length → 0 ≤ nodeOf (l.take i) (rd_T59 l (i : Int)).f1
theorem isDoc_iff (l : List S59) : isDoc l = true ↔ Doc l := by
  unfold isDoc rootOk docAt
  simp only [Bool.and_eq_true, decide_eq_true_eq, List.all_eq_true, List.mem_range, Bool.or_eq_true]
  constructor
  · rintro ⟨⟨h1, h2⟩, ⟨h3, h4⟩, h5⟩
    exact ⟨h1, h2, h3, h4, fun i hi => (h5 i hi).1, fun i h0 hi => by
      rcases (h5 i hi).2 with e | e
      · omega
      · exact e.1, fun i h0 hi => by
      rcases (h5 i hi).2 with e | e
      · omega
      · exact e.2⟩
  · intro h
    refine ⟨⟨h.one, h.most⟩, ⟨h.root, h.rootp⟩, fun i hi => ⟨h.ok i hi, ?_⟩⟩
    by_cases h0 : i = 0
    · exact .inl h0
    · exact .inr ⟨h.ord i (by omega) hi, h.par i (by omega) hi⟩
theorem Doc.mono {l : List S59} (h : Doc l) : ∀ j i : Nat, i < j → j < l.length → (rd_T59 l (i : Int)).f0 < (rd_T59 l (j : Int)).f0 := by
  intro j
  induction j with
  | zero => intro i hi; omega
  | succ j ih =>
    intro i hi hj
    have h1 := h.ord (j + 1) (by omega) hj
    simp only [Nat.add_sub_cancel] at h1
    by_cases e : i = j
    · subst e; exact h1
    · have := ih i (by omega) (by omega)
      omega
theorem Doc.node {l : List S59} (h : Doc l) (i : Nat) (hi : i < l.length) : nodeOf l (rd_T59 l (i : Int)).f0 = (i : Int) := by
  rcases nodeOf_cases (rd_T59 l (i : Int)).f0 l with ⟨_, h6⟩ | ⟨j, x, g1, g2, g3, g4⟩
  · exact absurd rfl (h6 _ (List.mem_of_getElem? (rdN_get l i hi)))
  · have hj := (List.getElem?_eq_some_iff.1 g1).1
    have hx := rdN_at g1
    rw [← hx] at g2
    by_cases a : i < j
    · have := h.mono j i a hj; omega
    · by_cases b : j < i
      · have := h.mono i j b hi; omega
      · rw [g3]; omega
theorem Doc.ids {l : List S59} (h : Doc l) (i : Nat) (hi : i < l.length) : (i : Int) ≤ (rd_T59 l (i : Int)).f0 := by
  induction i with
  | zero =>
    have h0 : (rd_T59 l ((0 : Nat) : Int)).f0 = 0 := h.root
    omega
  | succ i ih =>
    have h1 := h.ord (i + 1) (by omega) hi
    simp only [Nat.add_sub_cancel] at h1
    have := ih (by omega)
    omega
/-- The parent of a node behind the root stands before it. -/
theorem Doc.up {l : List S59} (h : Doc l) (i : Nat) (h0 : 0 < i) (hi : i < l.length) : 0 ≤ nodeOf l (rd_T59 l (i : Int)).f1 ∧ nodeOf l (rd_T59 l (i : Int)).f1 < (i : Int) := by
  have h1 := h.par i h0 hi
  have := nodeOf_take _ l i h1
  omega
/-- Going up from a node, d steps at most: does one come to top? -/
def upTo (l : List S59) (top : Int) : Nat → Int → Bool
  | 0, id => decide (id = top)
  | d + 1, id => if id = top then true else if nodeOf l id ≤ 0 then false else upTo l top d (rd_T59 l (nodeOf l id)).f1
def isUnder (l : List S59) (id top : Int) : Bool := isDoc l && (decide (0 ≤ nodeOf l id) && (decide (0 ≤ nodeOf l top) && upTo l top l.length id))

def okAt (l : List S59) (h : List Int) (b : Int) (i : Nat) : Bool := decide ((rd_T59 l (i : Int)).f4 = b) || !decide ((rd_T59 l (i : Int)).f2 ∈ h)
/-- Going up from a node's place, d steps at most: are all of them to be seen? -/
def vis (l : List S59) (h : List Int) (b : Int) : Nat → Int → Bool
  | 0, _ => true
  | d + 1, k => if k < 0 then true else okAt l h b k.toNat && vis l h b d (nodeOf (l.take k.toNat) (rd_T59 l k).f1)
theorem nodeOf_take_lt (l : List S59) (id : Int) (k : Nat) : nodeOf (l.take k) id < (k : Int) := by
  have := nodeOf_lt id (l.take k)
  rw [List.length_take] at this
  omega
theorem vis_fuel (l : List S59) (h : List Int) (b : Int) : ∀ (d d' : Nat) (k : Int), k < d → k < d' → vis l h b d k = vis l h b d' k := by
  intro d
  induction d with
  | zero =>
    intro d' k h1 h2
    cases d' with
    | zero => rfl
    | succ d' => simp only [vis]; rw [if_pos (by omega)]
  | succ d ih =>
    intro d' k h1 h2
    cases d' with
    | zero => simp only [vis]; rw [if_pos (by omega)]
    | succ d' =>
      simp only [vis]
      by_cases hk : k < 0
      · rw [if_pos hk, if_pos hk]
      · rw [if_neg hk, if_neg hk]
        have := nodeOf_take_lt l (rd_T59 l k).f1 k.toNat
        rw [ih d' _ (by omega) (by omega)]
def visible (l : List S59) (h : List Int) (b : Int) (i : Nat) : Bool := vis l h b (i + 1) (i : Int)
theorem visible_zero (l : List S59) (h : List Int) (b : Int) : visible l h b 0 = okAt l h b 0 := by
  unfold visible
  simp [vis]
theorem visible_up (l : List S59) (h : List Int) (b : Int) (hd : Doc l) (i : Nat) (h0 : 0 < i) (hi : i < l.length) : visible l h b i = (okAt l h b i && visible l h b (nodeOf l (rd_T59 l (i : Int)).f1).toNat) := by
  have hp := hd.par i h0 hi
  have ht := nodeOf_take _ l i hp
  have hu := hd.up i h0 hi
  unfold visible
  rw [vis, if_neg (by omega), Int.toNat_natCast, ← ht.1]
  congr 1
  rw [Int.toNat_of_nonneg hu.1]
  exact vis_fuel l h b _ _ _ (by omega) (by omega)
def seenUpTo (l : List S59) (h : List Int) (b : Int) (n : Nat) : List S59 := ((List.range n).filter (visible l h b)).map (fun i : Nat => rd_T59 l (i : Int))
def seenL (l : List S59) (h : List Int) (b : Int) : List S59 := if isDoc l = true then seenUpTo l h b l.length else []
theorem seenUpTo_succ (l : List S59) (h : List Int) (b : Int) (n : Nat) : seenUpTo l h b (n + 1) = seenUpTo l h b n ++ (if visible l h b n = true then [rd_T59 l (n : Int)] else []) := by
  unfold seenUpTo
  rw [List.range_succ, List.filter_append, List.map_append]
  congr 1
  by_cases hv : visible l h b n = true
  · simp [hv]
  · simp [hv]
theorem seenUpTo_len (l : List S59) (h : List Int) (b : Int) (n : Nat) : (seenUpTo l h b n).length ≤ n := by
  unfold seenUpTo
  rw [List.length_map]
  have := List.length_filter_le (visible l h b) (List.range n)
  simpa using this
theorem seenL_len (l : List S59) (h : List Int) (b : Int) : (seenL l h b).length ≤ l.length := by
  unfold seenL
  split
  · exact seenUpTo_len l h b _
  · simp
theorem node_eta (x : S59) : (⟨x.f0, x.f1, x.f2, x.f3, x.f4⟩ : S59) = x := rfl

theorem l1In (a b c : Int) : spec_l1In.f a b c = some (decide (b ≤ a ∧ a ≤ c)) := by
  unfold spec_l1In.f
  simp only [ge_iff_le]
  by_cases h : b ≤ a
  · rw [if_pos h]
    simp [h]
  · rw [if_neg h]
    simp [h]

theorem okS_chain (x : S59) {f : Nat → Option Bool} {r : Bool} (h : okN x = true → Ev f r) (h' : okN x = false → r = false) :
    Ev (fun k => (spec_l1In.f x.f2 0 9).bind fun t => if t = true then ((spec_l1In.f x.f3 0 999).bind fun t => if t = true then ((spec_l1In.f x.f4 0 5).bind fun t => if t = true then f k else some false) else some false) else some false) r := by
  unfold okN at h h'
  refine Ev.pure (l1In _ _ _) ?_
  by_cases a1 : 0 ≤ x.f2 ∧ x.f2 ≤ 9
  · refine Ev.yes (by simpa using a1) (Ev.pure (l1In _ _ _) ?_)
    by_cases a2 : 0 ≤ x.f3 ∧ x.f3 ≤ 999
    · refine Ev.yes (by simpa using a2) (Ev.pure (l1In _ _ _) ?_)
      by_cases a3 : 0 ≤ x.f4 ∧ x.f4 ≤ 5
      · exact Ev.yes (by simpa using a3) (h (by simp only [a1, a2, a3, and_self, decide_true]))
      · exact Ev.no (by simp only [a3, decide_false]; decide) (Ev.is (Ev.now _) (h' (by simp only [a3, and_false, decide_false])).symm)
    · exact Ev.no (by simp only [a2, decide_false]; decide) (Ev.is (Ev.now _) (h' (by simp only [a2, and_false, false_and, decide_false])).symm)
  · exact Ev.no (by simp only [a1, decide_false]; decide) (Ev.is (Ev.now _) (h' (by simp only [a1, false_and, decide_false])).symm)
theorem specDoc_j2 (l : List S59) (i : Nat) (hi : i < l.length) (hl : l.length ≤ 9223372036854775807) {r : Bool} (h : okN (rd_T59 l (i : Int)) = true → Ev (fun k => spec_IsDocument.l0 k l ((i + 1 : Nat) : Int)) r) (h' : okN (rd_T59 l (i : Int)) = false → r = false) : Ev (fun k => spec_IsDocument.j2 k l i false) r := by
  refine Ev.step (fun k => by rw [spec_IsDocument.j2]) ?_
  refine Ev.no (by simp) (Ev.yes (nnc _) (Ev.yes (ltc hi) ?_))
  rw [w64s hi hl]
  exact okS_chain _ h h'
theorem specDoc_at (l : List S59) (i : Nat) (hi : i < l.length) (hl : l.length ≤ 9223372036854775807) {r : Bool} (h : docAt l i = true → Ev (fun k => spec_IsDocument.l0 k l ((i + 1 : Nat) : Int)) r) (h' : docAt l i = false → r = false) : Ev (fun k => spec_IsDocument.l0 k l (i : Int)) r := by
  unfold docAt at h h'
  refine Ev.step (fun k => by rw [spec_IsDocument.l0]) ?_
  refine Ev.yes (ltc hi) ?_
  by_cases h0 : i = 0
  · subst h0
    refine Ev.no (by simp) (specDoc_j2 l 0 hi hl (fun e => h (by rw [e]; rfl)) (fun e => h' (by rw [e]; rfl)))
  · have hw : wrap64 ((i : Int) - 1) = ((i - 1 : Nat) : Int) := by rw [w64 (by omega)]; omega
    refine Ev.yes (by omega) ?_
    rw [hw]
    refine Ev.yes (nnc _) (Ev.yes (ltc (by omega)) (Ev.yes (nnc _) ?_))
    have jt : Ev (fun k => spec_IsDocument.j2 k l i true) false := by
      refine Ev.step (fun k => by rw [spec_IsDocument.j2]) ?_
      exact Ev.yes rfl (Ev.now _)
    by_cases h1 : (rd_T59 l ((i - 1 : Nat) : Int)).f0 ≥ (rd_T59 l (i : Int)).f0
    · refine Ev.yes h1 (Ev.is jt (h' ?_).symm)
      rw [decide_eq_false h0, decide_eq_false (by omega : ¬ (rd_T59 l ((i - 1 : Nat) : Int)).f0 < (rd_T59 l (i : Int)).f0)]
      simp
    · refine Ev.no h1 (Ev.yes (by omega) ?_)
      have ht := specNodeOf_ev (l.take i) (rd_T59 l (i : Int)).f1 (by simp; omega)
      refine Ev.bind (by simpa using ht) ?_
      by_cases h2 : nodeOf (l.take i) (rd_T59 l (i : Int)).f1 < 0
      · rw [decide_eq_true h2]
        refine Ev.is jt (h' ?_).symm
        rw [decide_eq_false h0, decide_eq_false (by omega : ¬ 0 ≤ nodeOf (l.take i) (rd_T59 l (i : Int)).f1)]
        simp
      · rw [decide_eq_false h2]
        have e1 : decide ((rd_T59 l ((i - 1 : Nat) : Int)).f0 < (rd_T59 l (i : Int)).f0) = true := decide_eq_true (by omega)
        have e2 : decide (0 ≤ nodeOf (l.take i) (rd_T59 l (i : Int)).f1) = true := decide_eq_true (by omega)
        rw [e1, e2] at h h'
        exact specDoc_j2 l i hi hl (fun e => h (by simp [e])) (fun e => h' (by simp [e]))
theorem specDoc_ev (l : List S59) (hl : l.length ≤ 9223372036854775807) : Ev (fun k => spec_IsDocument.f k l) (isDoc l) := by
  have hloop : Ev (fun k => spec_IsDocument.l0 k l 0) ((List.range l.length).all (docAt l)) :=
    all_loop l.length (docAt l) (fun k i => spec_IsDocument.l0 k l i) (ev_succ ⟨0, fun k _ => by simp only [spec_IsDocument.l0, nltc, if_false]⟩)
      (fun i hi hP => specDoc_at l i hi hl (fun e => by rw [hP] at e; cases e) (fun _ => rfl)) (fun i hi hP r hr => specDoc_at l i hi hl (fun _ => hr) (fun e => by rw [hP] at e; cases e))
  have jt : Ev (fun k => spec_IsDocument.j0 k l true) false := by
    refine Ev.step (fun k => by rw [spec_IsDocument.j0]) ?_
    exact Ev.yes rfl (Ev.now _)
  have jf : Ev (fun k => spec_IsDocument.j0 k l false) ((List.range l.length).all (docAt l)) := by
    refine Ev.step (fun k => by rw [spec_IsDocument.j0]) ?_
    exact Ev.no (by simp) hloop
  unfold isDoc rootOk spec_IsDocument.f
  refine Ev.pure (l1In _ _ _) ?_
  by_cases h1 : 1 ≤ (l.length : Int) ∧ (l.length : Int) ≤ 16
  · have h1' : decide (1 ≤ l.length ∧ l.length ≤ 16) = true := decide_eq_true (by omega)
    rw [h1', Bool.true_and]
    refine Ev.yes (by simpa using h1) (Ev.yes (by omega) ?_)
    by_cases h2 : (rd_T59 l 0).f0 = 0
    · rw [decide_eq_true h2, Bool.true_and]
      refine Ev.yes h2 ?_
      by_cases h3 : (rd_T59 l 0).f1 = -1
      · rw [decide_eq_true h3, h3]
        exact jf
      · rw [decide_eq_false h3, show ((rd_T59 l 0).f1 != (-1)) = true from by simpa using h3]
        exact jt
    · rw [decide_eq_false h2]
      exact Ev.no h2 jt
  · have h1' : decide (1 ≤ l.length ∧ l.length ≤ 16) = false := decide_eq_false (by omega)
    rw [h1']
    exact Ev.no (by simp only [h1, decide_false]; decide) jt

theorem has_ev (h : List Int) (x : Int) (hl : h.length ≤ 9223372036854775807) : Ev (fun k => spec_l7Has.f k h x) (decide (x ∈ h)) := by
  refine loop_list0 h (fun k (s : Unit) i => spec_l7Has.l0 k h x i) (fun t s => decide (x ∈ t)) (fun _ _ => True) ?_ ?_ () trivial
  · intro s _
    exact ev_succ ⟨0, fun k _ => by simp only [spec_l7Has.l0, nltc, if_false]; simp⟩
  · intro i y t s hi hx ht _ ih
    refine Ev.step (fun k => by rw [spec_l7Has.l0]) ?_
    refine Ev.yes (ltc hi) (Ev.yes (nnc _) ?_)
    rw [rd_at hx]
    by_cases e : y = x
    · exact Ev.yes e (Ev.is (Ev.now _) (by simp [e]))
    · refine Ev.no e ?_
      rw [w64s hi hl]
      exact Ev.is (ih () trivial) (by simp [Ne.symm e])
theorem sees_ev (l : List S59) (h : List Int) (b : Int) (hl : l.length ≤ 9223372036854775807) (hh : h.length ≤ 9223372036854775807) : ∀ (d : Nat) (k : Int), k < d → k < l.length → Ev (fun n => spec_l7Sees.l0 n l h b k) (vis l h b d k) := by
  intro d
  induction d with
  | zero =>
    intro k h1 h2
    refine Ev.step (fun n => by rw [spec_l7Sees.l0]) ?_
    exact Ev.no (by omega) (Ev.now _)
  | succ d ih =>
    intro k h1 h2
    refine Ev.step (fun n => by rw [spec_l7Sees.l0]) ?_
    rw [vis]
    by_cases hk : k < 0
    · rw [if_pos hk]
      exact Ev.no (by omega) (Ev.now _)
    · rw [if_neg hk]
      obtain ⟨n, rfl⟩ := Int.eq_ofNat_of_zero_le (show 0 ≤ k by omega)
      rw [Int.toNat_natCast]
      have hlt := nodeOf_take_lt l (rd_T59 l (n : Int)).f1 n
      have hn := specNodeOf_ev (l.take n) (rd_T59 l (n : Int)).f1 (by simp; omega)
      have rest := ih (nodeOf (l.take n) (rd_T59 l (n : Int)).f1) (by omega) (by omega)
      refine Ev.yes (by omega) (Ev.yes (by omega) (Ev.yes h2 (Ev.bind (has_ev h _ hh) ?_)))
      unfold okAt
      by_cases e : (rd_T59 l (n : Int)).f2 ∈ h
      · refine Ev.yes (by simp [e]) ?_
        by_cases e2 : (rd_T59 l (n : Int)).f4 = b
        · exact Ev.yes e2 (Ev.yes (by omega) (Ev.bind hn (Ev.is rest (by simp [e2]))))
        · exact Ev.no e2 (Ev.is (Ev.now _) (by simp [e, e2]))
      · exact Ev.no (by simp [e]) (Ev.yes (by omega) (Ev.bind hn (Ev.is rest (by simp [e]))))
theorem specSeen_ev (l : List S59) (h : List Int) (b : Int) (hl : l.length ≤ 1048576) (hh : h.length ≤ 9223372036854775807) : Ev (fun k => spec_SeenBy.f k l h b) (seenL l h b) := by
  unfold spec_SeenBy.f seenL
  cases hd : isDoc l with
  | false =>
    rw [if_neg (by decide)]
    have ej : Ev (fun k => spec_SeenBy.j1 k l h b [] 0 false) [] := by
      refine Ev.step (fun k => by rw [spec_SeenBy.j1]) ?_
      exact Ev.no (by simp) (Ev.now _)
    refine Ev.step (fun k => by rw [spec_SeenBy.l0]) ?_
    by_cases h0 : (0 : Int) < l.length
    · have := specDoc_ev l (by omega)
      rw [hd] at this
      exact Ev.yes h0 (Ev.bind this ej)
    · exact Ev.no h0 ej
  | true =>
    rw [if_pos rfl]
    have doc := specDoc_ev l (by omega)
    rw [hd] at doc
    refine loop_ev l.length (fun k s i => spec_SeenBy.l0 k l h b s i) (fun i s => s = seenUpTo l h b i) _ ?_ ?_ 0 [] (Nat.zero_le _) rfl
    · rintro s rfl
      refine Ev.step (fun k => by rw [spec_SeenBy.l0]) ?_
      refine Ev.no (nltc _) ?_
      refine Ev.step (fun k => by rw [spec_SeenBy.j1]) ?_
      exact Ev.no (by simp) (Ev.now _)
    · rintro i s hi rfl
      refine ⟨_, rfl, fun rest => ?_⟩
      have e2 := sees_ev l h b (by omega) hh (i + 1) (i : Int) (by omega) (by omega)
      have hlen := seenUpTo_len l h b i
      refine Ev.step (fun k => by rw [spec_SeenBy.l0]) ?_
      refine Ev.yes (ltc hi) (Ev.bind doc ?_)
      refine Ev.step (fun k => by rw [spec_SeenBy.j1]) ?_
      refine Ev.yes rfl ?_
      unfold spec_l7Sees.f
      refine Ev.bind e2 ?_
      rw [seenUpTo_succ] at rest
      rw [w64s hi (by omega)]
      by_cases hv : visible l h b i = true
      · rw [if_pos hv] at rest
        exact Ev.yes hv (Ev.yes (nnc _) (Ev.yes (ltc hi) (Ev.yes (by omega) rest)))
      · rw [if_neg hv, List.append_nil] at rest
        exact Ev.no hv rest

theorem inR (a b c : Int) : impl_InRange.f a b c = some (decide (b ≤ a ∧ a ≤ c)) := by
  unfold impl_InRange.f
  by_cases h : b ≤ a
  · rw [if_pos h]
    simp [h]
  · rw [if_neg h]
    simp [h]

theorem okI_chain (x : S59) {f : Nat → Bool → Option Bool} {r : Bool} (h : Ev (fun k => f k (!okN x)) r) :
    Ev (fun k => (impl_InRange.f x.f2 0 9).bind fun t => if t = true then ((impl_InRange.f x.f3 0 999).bind fun t => if t = true then ((impl_InRange.f x.f4 0 5).bind fun t => f k (!t)) else f k true) else f k true) r := by
  unfold okN at h
  refine Ev.pure (inR _ _ _) ?_
  by_cases a1 : 0 ≤ x.f2 ∧ x.f2 ≤ 9
  · refine Ev.yes (by simpa using a1) (Ev.pure (inR _ _ _) ?_)
    by_cases a2 : 0 ≤ x.f3 ∧ x.f3 ≤ 999
    · refine Ev.yes (by simpa using a2) (Ev.pure (inR _ _ _) ?_)
      simpa only [a1, a2, and_self, true_and] using h
    · refine Ev.no (by simp only [a2, decide_false]; decide) ?_
      simpa only [a2, and_false, false_and, decide_false, Bool.not_false] using h
  · refine Ev.no (by simp only [a1, decide_false]; decide) ?_
    simpa only [a1, false_and, decide_false, Bool.not_false] using h
/-- A node of a document, the root's own test with it. -/
def docAtI (l : List S59) (i : Nat) : Bool := docAt l i && (!decide (i = 0) || rootOk l)
theorem implDoc_at (l : List S59) (i : Nat) (hi : i < l.length) (hl : l.length ≤ 9223372036854775807) {r : Bool} (h : docAtI l i = true → Ev (fun k => impl_IsDocument.l0 k l l (l.length : Int) ((i + 1 : Nat) : Int)) r) (h' : docAtI l i = false → r = false) : Ev (fun k => impl_IsDocument.l0 k l l (l.length : Int) (i : Int)) r := by
  unfold docAtI docAt rootOk at h h'
  refine Ev.step (fun k => by rw [impl_IsDocument.l0]) ?_
  refine Ev.yes (ltc hi) (Ev.yes (nnc _) (Ev.yes (ltc hi) ?_))
  refine okI_chain (rd_T59 l (i : Int)) (f := fun k b => impl_IsDocument.j2 k l (i : Int) l (l.length : Int) (i : Int) b (rd_T59 l (i : Int)).f0 (rd_T59 l (i : Int)).f1 (rd_T59 l (i : Int)).f2 (rd_T59 l (i : Int)).f3 (rd_T59 l (i : Int)).f4) ?_
  refine Ev.step (fun k => by rw [impl_IsDocument.j2]) ?_
  cases hok : okN (rd_T59 l (i : Int)) with
  | false =>
    rw [hok] at h'
    exact Ev.yes rfl (Ev.is (Ev.now _) (h' (by simp)).symm)
  | true =>
    rw [hok] at h h'
    refine Ev.no (by simp) ?_
    rw [w64s hi hl]
    by_cases h0 : i = 0
    · subst h0
      refine Ev.yes rfl ?_
      by_cases h2 : (rd_T59 l ((0 : Nat) : Int)).f0 = 0
      · refine Ev.yes h2 ?_
        by_cases h3 : (rd_T59 l ((0 : Nat) : Int)).f1 = -1
        · refine Ev.yes h3 (h ?_)
          have h2' : (rd_T59 l 0).f0 = 0 := h2
          have h3' : (rd_T59 l 0).f1 = -1 := h3
          simp [h2', h3']
        · refine Ev.no h3 (Ev.is (Ev.now _) (h' ?_).symm)
          have h3' : ¬ (rd_T59 l 0).f1 = -1 := h3
          simp [h3']
      · refine Ev.no h2 (Ev.is (Ev.now _) (h' ?_).symm)
        have h2' : ¬ (rd_T59 l 0).f0 = 0 := h2
        simp [h2']
    · have hw : wrap64 ((i : Int) - 1) = ((i - 1 : Nat) : Int) := by rw [w64 (by omega)]; omega
      refine Ev.no (by omega) ?_
      rw [hw]
      refine Ev.yes (nnc _) (Ev.yes (ltc (by omega)) ?_)
      by_cases h1 : (rd_T59 l (i : Int)).f0 ≤ (rd_T59 l ((i - 1 : Nat) : Int)).f0
      · refine Ev.yes h1 (Ev.is (Ev.now _) (h' ?_).symm)
        rw [decide_eq_false h0, decide_eq_false (by omega : ¬ (rd_T59 l ((i - 1 : Nat) : Int)).f0 < (rd_T59 l (i : Int)).f0)]
        simp
      · refine Ev.no h1 (Ev.yes (nnc _) (Ev.yes (by omega) ?_))
        have ht := implNodeOf_ev (l.take i) (rd_T59 l (i : Int)).f1 (by simp; omega)
        refine Ev.bind (by simpa using ht) ?_
        by_cases h2 : nodeOf (l.take i) (rd_T59 l (i : Int)).f1 < 0
        · refine Ev.yes h2 (Ev.is (Ev.now _) (h' ?_).symm)
          rw [decide_eq_false h0, decide_eq_false (by omega : ¬ 0 ≤ nodeOf (l.take i) (rd_T59 l (i : Int)).f1)]
          simp
        · refine Ev.no h2 (h ?_)
          rw [decide_eq_false h0, decide_eq_true (by omega : (rd_T59 l ((i - 1 : Nat) : Int)).f0 < (rd_T59 l (i : Int)).f0), decide_eq_true (by omega : 0 ≤ nodeOf (l.take i) (rd_T59 l (i : Int)).f1)]
          simp
theorem docAtI_all (l : List S59) (h : 1 ≤ l.length) : (List.range l.length).all (docAtI l) = (rootOk l && (List.range l.length).all (docAt l)) := by
  rw [Bool.eq_iff_iff]
  simp only [List.all_eq_true, Bool.and_eq_true, List.mem_range, docAtI, Bool.or_eq_true, Bool.not_eq_true', decide_eq_false_iff_not]
  constructor
  · intro H
    refine ⟨?_, fun i hi => (H i hi).1⟩
    rcases (H 0 (by omega)).2 with h0 | h0
    · exact absurd rfl h0
    · exact h0
  · rintro ⟨h1, h2⟩ i hi
    exact ⟨h2 i hi, .inr h1⟩
theorem implDoc_ev (l : List S59) (hl : l.length ≤ 9223372036854775807) : Ev (fun k => impl_IsDocument.f k l) (isDoc l) := by
  have hloop : Ev (fun k => impl_IsDocument.l0 k l l (l.length : Int) 0) ((List.range l.length).all (docAtI l)) :=
    all_loop l.length (docAtI l) (fun k i => impl_IsDocument.l0 k l l (l.length : Int) i) (ev_succ ⟨0, fun k _ => by simp only [impl_IsDocument.l0, nltc, if_false]⟩)
      (fun i hi hP => implDoc_at l i hi hl (fun e => by rw [hP] at e; cases e) (fun _ => rfl)) (fun i hi hP r hr => implDoc_at l i hi hl (fun _ => hr) (fun e => by rw [hP] at e; cases e))
  have jt : Ev (fun k => impl_IsDocument.j0 k l true) false := by
    refine Ev.step (fun k => by rw [impl_IsDocument.j0]) ?_
    exact Ev.yes rfl (Ev.now _)
  unfold isDoc impl_IsDocument.f
  by_cases h1 : (l.length : Int) < 1
  · rw [decide_eq_false (by omega : ¬ (1 ≤ l.length ∧ l.length ≤ 16))]
    exact Ev.yes h1 jt
  · refine Ev.no h1 ?_
    by_cases h2 : (l.length : Int) > 16
    · rw [decide_eq_true h2, decide_eq_false (by omega : ¬ (1 ≤ l.length ∧ l.length ≤ 16))]
      exact jt
    · rw [decide_eq_false h2, decide_eq_true (by omega : 1 ≤ l.length ∧ l.length ≤ 16), Bool.true_and, ← docAtI_all l (by omega)]
      refine Ev.step (fun k => by rw [impl_IsDocument.j0]) ?_
      exact Ev.no (by simp) hloop

theorem contains_ev (h : List Int) (x : Int) (hl : h.length ≤ 9223372036854775807) : Ev (fun k => slices_Contains_int_int.f k h x) (decide (x ∈ h)) := by
  have H : ∃ v : Int, Ev (fun k => slices_Index_int_int.f k h x) v ∧ (decide (v ≥ 0) = decide (x ∈ h)) := by
    unfold slices_Index_int_int.f
    suffices H : ∀ (d i : Nat), i + d = h.length → ∃ v : Int, Ev (fun k => slices_Index_int_int.l0 k h x (h.length : Int) i) v ∧ (decide (v ≥ 0) = decide (x ∈ h.drop i)) by
      simpa using H h.length 0 (by omega)
    intro d
    induction d with
    | zero =>
      intro i hi
      have : i = h.length := by omega
      subst this
      refine ⟨-1, ?_, by rw [List.drop_length]; simp⟩
      refine Ev.step (fun k => by rw [slices_Index_int_int.l0]) ?_
      exact Ev.no (nltc _) (Ev.now _)
    | succ d ih =>
      intro i hi
      have hlt : i < h.length := by omega
      rw [List.drop_eq_getElem_cons hlt]
      have hx := rd_at (List.getElem?_eq_getElem hlt)
      obtain ⟨v, e, hv⟩ := ih (i + 1) (by omega)
      by_cases e2 : x = h[i]
      · refine ⟨(i : Int), ?_, by rw [decide_eq_true (show (i : Int) ≥ 0 by omega), decide_eq_true (show x ∈ h[i] :: h.drop (i + 1) from List.mem_cons.2 (.inl e2))]⟩
        refine Ev.step (fun k => by rw [slices_Index_int_int.l0]) ?_
        rw [hx]
        exact Ev.yes (ltc hlt) (Ev.yes (nnc _) (Ev.yes (ltc hlt) (Ev.yes e2 (Ev.now _))))
      · refine ⟨v, ?_, by rw [hv]; simp only [List.mem_cons, e2, false_or]⟩
        refine Ev.step (fun k => by rw [slices_Index_int_int.l0]) ?_
        rw [hx, w64s hlt hl]
        exact Ev.yes (ltc hlt) (Ev.yes (nnc _) (Ev.yes (ltc hlt) (Ev.no e2 e)))
  obtain ⟨v, e, hv⟩ := H
  unfold slices_Contains_int_int.f
  exact Ev.bind e (Ev.is (Ev.now _) hv)
theorem rdOf_at {l : List Bool} {i : Nat} {x : Bool} (h : l[i]? = some x) : rdOf false l (i : Int) = x := by
  unfold rdOf
  simp [List.getD, h]
theorem implSeen_ev (l : List S59) (h : List Int) (b : Int) (hl : l.length ≤ 1048576) (hh : h.length ≤ 9223372036854775807) : Ev (fun k => impl_SeenBy.f k l h b) (seenL l h b) := by
  unfold impl_SeenBy.f seenL
  refine Ev.pure (a := []) rfl (Ev.bind (implDoc_ev l (by omega)) ?_)
  cases hd : isDoc l with
  | false => exact Ev.no (by simp) (Ev.is (Ev.now _) (by rw [if_neg (by decide)]))
  | true =>
    have doc := (isDoc_iff l).1 hd
    rw [if_pos rfl]
    refine Ev.yes rfl (Ev.yes (nnc _) (Ev.yes (by rw [Int.toNat_natCast]; omega) ?_))
    rw [Int.toNat_natCast]
    refine loop_ev l.length (fun k (s : List S59 × List Bool) i => impl_SeenBy.l0 k l h b s.1 s.2 l (l.length : Int) i) (fun i s => s.1 = seenUpTo l h b i ∧ s.2.length = l.length ∧ ∀ j, j < i → s.2[j]? = some (visible l h b j)) _ ?_ ?_ 0 ([], List.replicate l.length false) (Nat.zero_le _) ⟨rfl, by simp, fun j hj => by omega⟩
    · rintro ⟨s, q⟩ ⟨h1, h2, h3⟩
      simp only at h1
      subst h1
      refine Ev.step (fun k => by rw [impl_SeenBy.l0]) ?_
      exact Ev.no (nltc _) (Ev.now _)
    · rintro i ⟨s, q⟩ hi ⟨h1, h2, h3⟩
      simp only at h1 h2 h3
      subst h1
      refine ⟨(seenUpTo l h b (i + 1), q.set i (visible l h b i)), ⟨rfl, by simp [h2], fun j hj => ?_⟩, fun rest => ?_⟩
      · simp only
        by_cases e : j = i
        · subst e
          rw [List.getElem?_set_self (by omega)]
        · rw [List.getElem?_set_ne (by omega)]
          exact h3 j (by omega)
      · simp only at rest
        have hlen := seenUpTo_len l h b i
        rw [seenUpTo_succ] at rest
        -- the end of a round, the seen bit known
        have fin : ∀ q' : List Bool, q'.length = l.length → q'.set i (visible l h b i) = q.set i (visible l h b i) → q'[i]? = some (visible l h b i) →
            Ev (fun k => if rdOf false q' (i : Int) = true then (if (seenUpTo l h b i).length < 3518437208883 then impl_SeenBy.l0 k l h b (seenUpTo l h b i ++ [(⟨(rd_T59 l (i : Int)).f0, (rd_T59 l (i : Int)).f1, (rd_T59 l (i : Int)).f2, (rd_T59 l (i : Int)).f3, (rd_T59 l (i : Int)).f4⟩ : S59)]) q' l (l.length : Int) ((i + 1 : Nat) : Int) else none) else impl_SeenBy.l0 k l h b (seenUpTo l h b i) q' l (l.length : Int) ((i + 1 : Nat) : Int)) (seenUpTo l h b l.length) := by
          intro q' hq hs hv
          have e : q' = q.set i (visible l h b i) := by
            rw [← hs]
            apply List.ext_getElem?
            intro j
            by_cases e : j = i
            · subst e; rw [List.getElem?_set_self (by omega), hv]
            · rw [List.getElem?_set_ne (by omega)]
          rw [rdOf_at hv, e]
          by_cases v : visible l h b i = true
          · rw [if_pos v] at rest
            exact Ev.yes v (Ev.yes (by omega) rest)
          · rw [if_neg v, List.append_nil] at rest
            exact Ev.no v rest
        have j1 : Ev (fun k => impl_SeenBy.j1 k l h b (seenUpTo l h b i) (q.set i (okAt l h b i)) (i : Int) l (l.length : Int) (i : Int) (rd_T59 l (i : Int)).f0 (rd_T59 l (i : Int)).f1 (rd_T59 l (i : Int)).f2 (rd_T59 l (i : Int)).f3 (rd_T59 l (i : Int)).f4) (seenUpTo l h b l.length) := by
          refine Ev.step (fun k => by rw [impl_SeenBy.j1]) ?_
          have hself : (q.set i (okAt l h b i))[i]? = some (okAt l h b i) := List.getElem?_set_self (by omega)
          by_cases h0 : i = 0
          · subst h0
            refine Ev.no (by simp) ?_
            refine Ev.step (fun k => by rw [impl_SeenBy.j2]) ?_
            rw [w64s hi (by omega)]
            have hv := visible_zero l h b
            exact Ev.no (by simp) (Ev.yes (nnc _) (Ev.yes (by simp [h2]; omega) (fin _ (by simp [h2]) (by rw [List.set_set]) (by rw [hself, hv]))))
          · refine Ev.yes (by omega) (Ev.bind (implNodeOf_ev l _ (by omega)) ?_)
            have hu := doc.up i (by omega) hi
            have hv := visible_up l h b doc i (by omega) hi
            obtain ⟨j, hj⟩ := Int.eq_ofNat_of_zero_le hu.1
            rw [hj] at hu hv ⊢
            rw [Int.toNat_natCast] at hv
            have hjq : (q.set i (okAt l h b i))[j]? = some (visible l h b j) := by
              rw [List.getElem?_set_ne (by omega)]
              exact h3 j (by omega)
            refine Ev.yes (nnc _) (Ev.yes (by simp [h2]; omega) ?_)
            rw [rdOf_at hjq]
            refine Ev.step (fun k => by rw [impl_SeenBy.j2]) ?_
            rw [w64s hi (by omega)]
            cases hvj : visible l h b j with
            | true =>
              rw [hvj, Bool.and_true] at hv
              exact Ev.no (by simp) (Ev.yes (nnc _) (Ev.yes (by simp [h2]; omega) (fin _ (by simp [h2]) (by rw [List.set_set]) (by rw [hself, hv]))))
            | false =>
              rw [hvj, Bool.and_false] at hv
              refine Ev.yes rfl (Ev.yes (nnc _) (Ev.yes (by simp [h2]; omega) (Ev.pure (a := (q.set i (okAt l h b i)).set i false) (by simp) ?_)))
              exact fin _ (by simp [h2]) (by simp) (by rw [hv, List.getElem?_set_self (by simp [h2]; omega)])
        refine Ev.step (fun k => by rw [impl_SeenBy.l0]) ?_
        refine Ev.yes (ltc hi) (Ev.yes (nnc _) (Ev.yes (ltc hi) ?_))
        by_cases e : (rd_T59 l (i : Int)).f4 = b
        · have : okAt l h b i = true := by simp [okAt, e]
          rw [this] at j1
          exact Ev.yes e (Ev.yes (by simp [h2]; omega) (by simpa using j1))
        · have : okAt l h b i = !decide ((rd_T59 l (i : Int)).f2 ∈ h) := by simp [okAt, e]
          rw [this] at j1
          exact Ev.no e (Ev.bind (contains_ev h _ hh) (Ev.yes (by simp [h2]; omega) (by simpa using j1)))

def foldM (a v : Int) : Int := (a * 1000003 + v % 2147483647 + 13) % 2147483647
theorem foldM_b (a v : Int) : 0 ≤ foldM a v ∧ foldM a v < 2147483647 := by unfold foldM; omega
theorem foldl_b (l : List Int) (a : Int) (h : 0 ≤ a ∧ a < 2147483647) : 0 ≤ l.foldl foldM a ∧ l.foldl foldM a < 2147483647 := by
  induction l generalizing a with
  | nil => exact h
  | cons x t ih => exact ih _ (foldM_b a x)
theorem fold_eq (a v : Int) (h : 0 ≤ a ∧ a < 2147483647) : Int.tmod (wrap64 ((wrap64 ((wrap64 (a * 1000003)) + v % 2147483647)) + 13)) 2147483647 = foldM a v := by
  rw [w64 (n := a * 1000003) (by omega), w64 (n := a * 1000003 + v % 2147483647) (by omega), w64 (by omega)]
  exact Int.tmod_eq_emod_of_nonneg (by omega)

theorem modT (p q : Int) (h : 1 ≤ q) : (if Int.tmod p q < 0 then Int.tmod p q + q else Int.tmod p q) = p % q ∧ -q < Int.tmod p q ∧ Int.tmod p q < q := by
  have h1 := Int.tmod_lt_of_pos p (show 0 < q by omega)
  have h2 : -q < Int.tmod p q := by
    have := Int.tmod_lt_of_pos (-p) (show 0 < q by omega)
    rw [Int.neg_tmod] at this
    omega
  have h3 := Int.emod_nonneg p (show q ≠ 0 by omega)
  have h4 := Int.emod_lt_of_pos p (show 0 < q by omega)
  refine ⟨?_, h2, h1⟩
  have h5 : (Int.tmod p q) % q = p % q := by
    rw [Int.tmod_def, Int.sub_eq_add_neg, ← Int.mul_neg, Int.add_mul_emod_self_left]
  split
  · rw [← h5]
    rw [← Int.add_emod_right, Int.emod_eq_of_lt (by omega) (by omega)]
  · rw [← h5]
    rw [Int.emod_eq_of_lt (by omega) (by omega)]

/-- Mod of the reference. -/
theorem modS (p q : Int) : spec_Mod.f p q = some (if 1 ≤ q ∧ q ≤ 1000000000000 then p % q else 0) := by
  unfold spec_Mod.f
  rw [l1In]
  by_cases h : 1 ≤ q ∧ q ≤ 1000000000000
  · obtain ⟨h1, h2, h3⟩ := modT p q h.1
    simp only [h, Option.bind_some, decide_true, and_self, if_true]
    rw [if_neg (show ¬ q = 0 by omega), w64 (by omega), ← h1]
    congr 1
    split
    · rw [Int.tmod_eq_emod_of_nonneg (by omega)]
      exact Int.emod_eq_of_lt (by omega) (by omega)
    · rw [Int.tmod_eq_emod_of_nonneg (by omega)]
      rw [Int.add_emod_right]
      exact Int.emod_eq_of_lt (by omega) (by omega)
  · simp only [h, Option.bind_some, decide_false, if_false, Bool.false_eq_true]

theorem specHash_ev (l : List Int) (hl : l.length ≤ 9223372036854775807) : Ev (fun k => spec_Hash.f k l) (l.foldl foldM 11) := by
  refine loop_list0 l (fun k s i => spec_Hash.l0 k l s i) (fun t s => t.foldl foldM s) (fun _ s => 0 ≤ s ∧ s < 2147483647) ?_ ?_ 11 (by decide)
  · intro s hs
    exact ev_succ ⟨0, fun k _ => by simp only [spec_Hash.l0, nltc, if_false, List.foldl_nil]⟩
  · intro i x t s hi hx ht hs ih
    obtain ⟨K, hK⟩ := ih (foldM s x) (foldM_b s x)
    refine ev_succ ⟨K, fun k hk => ?_⟩
    have e : (1 : Int) ≤ 2147483647 ∧ (2147483647 : Int) ≤ 1000000000000 := by decide
    simp only [spec_Hash.l0, ltc hi, nnc, if_true, rd_at hx, modS, e, and_self, Option.bind_some, w64s hi hl]
    rw [fold_eq s x hs]
    exact hK k hk

def handle (a b c : Int) : Int := if (1 ≤ a ∧ a ≤ 9999) ∧ (0 ≤ b ∧ b ≤ 5) ∧ (0 ≤ c ∧ c ≤ 99) then (List.foldl foldM 11 [a, b, c]) % 100000 + 1 else 0

theorem specHandle_ev (a b c : Int) : Ev (fun k => spec_HandleOf.f k a b c) (handle a b c) := by
  obtain ⟨K, hK⟩ := specHash_ev [a, b, c] (by simp)
  replace hK : ∀ k, K ≤ k → spec_Hash.f k ([a, b, c] : List Int) = some (List.foldl foldM 11 [a, b, c]) := hK
  have e : (1 : Int) ≤ 100000 ∧ (100000 : Int) ≤ 1000000000000 := by decide
  have hb := foldl_b [a, b, c] 11 (by decide)
  have hw : wrap64 ((List.foldl foldM 11 [a, b, c]) % 100000 + 1) = (List.foldl foldM 11 [a, b, c]) % 100000 + 1 := w64 (by omega)
  refine ev_succ ⟨K, fun k hk => ?_⟩
  simp only [spec_HandleOf.f, l1In, Option.bind_some]
  unfold handle
  by_cases h1 : 1 ≤ a ∧ a ≤ 9999
  · by_cases h2 : 0 ≤ b ∧ b ≤ 5
    · by_cases h3 : 0 ≤ c ∧ c ≤ 99
      · simp only [h1, h2, h3, and_self, decide_true, if_true, spec_HandleOf.j0, Bool.not_true, Bool.false_eq_true, if_false, hK k hk, Option.bind_some, modS, e, hw]
      · simp only [h1, h2, h3, and_self, and_false, decide_true, decide_false, if_true, spec_HandleOf.j0, Bool.not_false, if_false]
    · simp only [h1, h2, and_self, and_false, false_and, decide_true, decide_false, if_true, spec_HandleOf.j0, Bool.false_eq_true, if_false]
  · simp only [h1, false_and, decide_false, if_true, spec_HandleOf.j0, Bool.false_eq_true, if_false]

/-- Mod of the program. -/
theorem modI (p q : Int) : impl_Mod.f p q = some (if 1 ≤ q ∧ q ≤ 1000000000000 then p % q else 0) := by
  unfold impl_Mod.f
  rw [inR]
  by_cases h : 1 ≤ q ∧ q ≤ 1000000000000
  · obtain ⟨h1, h2, h3⟩ := modT p q h.1
    simp only [h, Option.bind_some, decide_true, and_self, if_true]
    rw [if_neg (show ¬ q = 0 by omega), w64 (by omega), ← h1]
    split <;> rfl
  · simp only [h, Option.bind_some, decide_false, if_false, Bool.false_eq_true]

theorem foldI (a v : Int) (h : 0 ≤ a ∧ a < 2147483647) : impl_fold.f a v = some (foldM a v) := by
  have e : (1 : Int) ≤ 2147483647 ∧ (2147483647 : Int) ≤ 1000000000000 := by decide
  simp only [impl_fold.f, modI, e, and_self, if_true, Option.bind_some]
  rw [fold_eq a v h]

theorem implHash_ev (l : List Int) (hl : l.length ≤ 9223372036854775807) : Ev (fun k => impl_Hash.f k l) (l.foldl foldM 11) := by
  refine loop_list0 l (fun k s i => impl_Hash.l0 k s l (l.length : Int) i) (fun t s => t.foldl foldM s) (fun _ s => 0 ≤ s ∧ s < 2147483647) ?_ ?_ 11 (by decide)
  · intro s hs
    exact ev_succ ⟨0, fun k _ => by simp only [impl_Hash.l0, nltc, if_false, List.foldl_nil]⟩
  · intro i x t s hi hx ht hs ih
    obtain ⟨K, hK⟩ := ih (foldM s x) (foldM_b s x)
    refine ev_succ ⟨K, fun k hk => ?_⟩
    simp only [impl_Hash.l0, ltc hi, nnc, if_true, rd_at hx, foldI s x hs, Option.bind_some, w64s hi hl]
    exact hK k hk

theorem implHandle_ev (a b c : Int) : Ev (fun k => impl_HandleOf.f k a b c) (handle a b c) := by
  obtain ⟨K, hK⟩ := implHash_ev [a, b, c] (by simp)
  replace hK : ∀ k, K ≤ k → impl_Hash.f k ([a, b, c] : List Int) = some (List.foldl foldM 11 [a, b, c]) := hK
  have e : (1 : Int) ≤ 100000 ∧ (100000 : Int) ≤ 1000000000000 := by decide
  have hb := foldl_b [a, b, c] 11 (by decide)
  have hw : wrap64 ((List.foldl foldM 11 [a, b, c]) % 100000 + 1) = (List.foldl foldM 11 [a, b, c]) % 100000 + 1 := w64 (by omega)
  refine ev_succ ⟨K, fun k hk => ?_⟩
  simp only [impl_HandleOf.f, inR, Option.bind_some]
  unfold handle
  by_cases h1 : 1 ≤ a ∧ a ≤ 9999
  · by_cases h2 : 0 ≤ b ∧ b ≤ 5
    · by_cases h3 : 0 ≤ c ∧ c ≤ 99
      · simp only [h1, h2, h3, and_self, decide_true, if_true, impl_HandleOf.j0, Bool.not_true, Bool.false_eq_true, if_false, hK k hk, Option.bind_some, modI, e, hw]
      · simp only [h1, h2, h3, and_self, and_false, decide_true, decide_false, if_true, impl_HandleOf.j0, Bool.not_false, if_false]
    · simp only [h1, h2, and_self, and_false, false_and, decide_true, decide_false, if_true, impl_HandleOf.j0, Bool.false_eq_true, if_false]
  · simp only [h1, false_and, decide_false, if_true, impl_HandleOf.j0, Bool.false_eq_true, if_false]

def handlesL (l : List S59) (h : List Int) (p b : Int) : List Int := (seenL l h b).map (fun x => handle p b x.f0)
theorem handlesL_len (l : List S59) (h : List Int) (p b : Int) : (handlesL l h p b).length ≤ l.length := by
  unfold handlesL
  rw [List.length_map]
  exact seenL_len l h b
theorem implHandles_ev (l : List S59) (h : List Int) (p b : Int) (hl : l.length ≤ 1048576) (hh : h.length ≤ 9223372036854775807) : Ev (fun k => impl_HandlesFor.f k l h p b) (handlesL l h p b) := by
  unfold impl_HandlesFor.f handlesL
  refine Ev.bind (implSeen_ev l h b hl hh) ?_
  have hr := seenL_len l h b
  generalize seenL l h b = r at hr
  refine loop_list0 r (fun k (s : List Int) i => impl_HandlesFor.l0 k p b s r (r.length : Int) i) (fun t s => s ++ t.map (fun x => handle p b x.f0)) (fun i s => s.length = i) ?_ ?_ [] rfl
  · intro s _
    refine Ev.step (fun k => by rw [impl_HandlesFor.l0]) ?_
    exact Ev.no (nltc _) (Ev.is (Ev.now _) (by simp))
  · intro i y t s hi hx ht hs ih
    refine Ev.step (fun k => by rw [impl_HandlesFor.l0]) ?_
    rw [rdN_at hx, w64s hi (by omega)]
    refine Ev.yes (ltc hi) (Ev.yes (nnc _) (Ev.yes (ltc hi) (Ev.bind (implHandle_ev p b y.f0) (Ev.yes (by omega) (Ev.is (ih _ (by simp [hs])) (by simp))))))

/-- The id of the first of the nodes whose handle is the given one, or -1. -/
def resFrom (b c : Int) (w : Int) : List S59 → Int
  | [] => -1
  | x :: t => if handle b c x.f0 = w then x.f0 else resFrom b c w t
def resolveL (l : List S59) (h : List Int) (a b w : Int) : Int := if w ≥ 1 then resFrom a b w (seenL l h b) else -1

theorem implResolve_ev (l : List S59) (h : List Int) (a b w : Int) (hl : l.length ≤ 1048576) (hh : h.length ≤ 9223372036854775807) : Ev (fun k => impl_ResolveHandle.f k l h a b w) (resolveL l h a b w) := by
  unfold impl_ResolveHandle.f
  have hr := seenL_len l h b
  unfold resolveL
  by_cases hw : w ≥ 1
  · rw [if_pos hw]
    refine Ev.no (by omega) (Ev.bind (implSeen_ev l h b hl hh) ?_)
    generalize seenL l h b = r at hr
    refine loop_list0 r (fun k (s : Unit) i => impl_ResolveHandle.l0 k a b w r (r.length : Int) i) (fun t s => resFrom a b w t) (fun _ _ => True) ?_ ?_ () trivial
    · intro s _
      refine Ev.step (fun k => by rw [impl_ResolveHandle.l0]) ?_
      exact Ev.no (nltc _) (Ev.now _)
    · intro i y t s hi hx ht _ ih
      refine Ev.step (fun k => by rw [impl_ResolveHandle.l0]) ?_
      rw [rdN_at hx, w64s hi (by omega)]
      refine Ev.yes (ltc hi) (Ev.yes (nnc _) (Ev.yes (ltc hi) (Ev.bind (implHandle_ev a b y.f0) ?_)))
      unfold resFrom
      by_cases e : handle a b y.f0 = w
      · rw [if_pos e]
        exact Ev.yes e (Ev.now _)
      · rw [if_neg e]
        exact Ev.no e (ih () trivial)
  · rw [if_neg hw]
    exact Ev.yes (by omega) (Ev.now _)

/-- How many of the handles are foreign, counted on from c. -/
def foreign (f : Int → Int) : List Int → Int → Int
  | [], c => c
  | x :: t, c => foreign f t (if f x < 0 then c + 1 else c)
theorem implForeign_ev (l : List S59) (h : List Int) (p b : Int) (ws : List Int) (hl : l.length ≤ 1048576) (hh : h.length ≤ 9223372036854775807) (hw : ws.length ≤ 1048576) : Ev (fun k => impl_ForeignHandles.f k l h p b ws) (foreign (resolveL l h p b) ws 0) := by
  refine loop_list0 ws (fun k (s : Int) i => impl_ForeignHandles.l0 k l h p b s ws (ws.length : Int) i) (fun t s => foreign (resolveL l h p b) t s) (fun i s => 0 ≤ s ∧ s ≤ i) ?_ ?_ 0 (by omega)
  · intro s _
    refine Ev.step (fun k => by rw [impl_ForeignHandles.l0]) ?_
    exact Ev.no (nltc _) (Ev.now _)
  · intro i y t s hi hx ht hs ih
    refine Ev.step (fun k => by rw [impl_ForeignHandles.l0]) ?_
    rw [rd_at hx, w64s hi (by omega), w64 (show _ ≤ s + 1 ∧ s + 1 ≤ _ by omega)]
    refine Ev.yes (ltc hi) (Ev.yes (nnc _) (Ev.yes (ltc hi) (Ev.bind (implResolve_ev l h p b y hl hh) ?_)))
    unfold foreign
    by_cases e : resolveL l h p b y < 0
    · rw [if_pos e]
      exact Ev.yes e (ih (s + 1) (by omega))
    · rw [if_neg e]
      exact Ev.no e (ih s (by omega))

theorem implAbove_l (l : List S59) (h : Doc l) (top : Int) : ∀ (d : Nat) (id : Int), nodeOf l id ≤ d → Ev (fun k => impl_above.l0 k l id top) (upTo l top d id) := by
  intro d
  have hlen : l.length ≤ 9223372036854775807 := by have := h.most; omega
  induction d with
  | zero =>
    intro id hd
    refine Ev.step (fun k => by rw [impl_above.l0]) ?_
    unfold upTo
    by_cases e : id = top
    · exact Ev.yes e (Ev.is (Ev.now _) (by simp [e]))
    · exact Ev.no e (Ev.bind (implNodeOf_ev l id hlen) (Ev.yes (by omega) (Ev.is (Ev.now _) (by simp [e]))))
  | succ d ih =>
    intro id hd
    refine Ev.step (fun k => by rw [impl_above.l0]) ?_
    unfold upTo
    by_cases e : id = top
    · exact Ev.yes e (Ev.is (Ev.now _) (by rw [if_pos e]))
    · rw [if_neg e]
      refine Ev.no e (Ev.bind (implNodeOf_ev l id hlen) ?_)
      by_cases e2 : nodeOf l id ≤ 0
      · rw [if_pos e2]
        exact Ev.yes e2 (Ev.now _)
      · rw [if_neg e2]
        have hr := nodeOf_lt id l
        refine Ev.no e2 (Ev.yes (by omega) (Ev.yes hr.2 (ih _ ?_)))
        obtain ⟨i, hi⟩ := Int.eq_ofNat_of_zero_le (show 0 ≤ nodeOf l id by omega)
        rw [hi]
        have := h.up i (by omega) (by omega)
        omega
theorem implAbove_ev (l : List S59) (h : Doc l) (id top : Int) : Ev (fun k => impl_above.f k l id top) (upTo l top l.length id) := by
  unfold impl_above.f
  have := nodeOf_lt id l
  exact implAbove_l l h top l.length id (by omega)
theorem implUnder_ev (l : List S59) (id top : Int) (hl : l.length ≤ 9223372036854775807) : Ev (fun k => impl_IsUnder.f k l id top) (isUnder l id top) := by
  unfold impl_IsUnder.f isUnder
  refine Ev.bind (implDoc_ev l hl) ?_
  cases hd : isDoc l with
  | false => exact Ev.no (by simp) (Ev.now _)
  | true =>
    have h := (isDoc_iff l).1 hd
    refine Ev.yes rfl (Ev.bind (implNodeOf_ev l id hl) ?_)
    by_cases h1 : nodeOf l id ≥ 0
    · refine Ev.yes h1 (Ev.bind (implNodeOf_ev l top hl) ?_)
      by_cases h2 : nodeOf l top ≥ 0
      · exact Ev.yes h2 (Ev.bind (implAbove_ev l h id top) (Ev.is (Ev.now _) (by rw [decide_eq_true (show 0 ≤ nodeOf l id from h1), decide_eq_true (show 0 ≤ nodeOf l top from h2)]; simp)))
      · exact Ev.no h2 (Ev.is (Ev.now _) (by rw [decide_eq_false (show ¬ 0 ≤ nodeOf l top from h2)]; simp))
    · exact Ev.no h1 (Ev.is (Ev.now _) (by rw [decide_eq_false (show ¬ 0 ≤ nodeOf l id from h1)]; simp))

def okEdit (a b c d e f : Int) : Bool := decide ((1 ≤ a ∧ a ≤ 4) ∧ (1 ≤ b ∧ b ≤ 99) ∧ (0 ≤ c ∧ c ≤ 99) ∧ (0 ≤ d ∧ d ≤ 9) ∧ (0 ≤ e ∧ e ≤ 999) ∧ (0 ≤ f ∧ f ≤ 5))

theorem isEditI (a b c d e f : Int) : impl_IsEdit.f a b c d e f = some (okEdit a b c d e f) := by
  unfold impl_IsEdit.f okEdit
  simp only [inR, Option.bind_some]
  by_cases h1 : 1 ≤ a ∧ a ≤ 4
  · by_cases h2 : 1 ≤ b ∧ b ≤ 99
    · by_cases h3 : 0 ≤ c ∧ c ≤ 99
      · by_cases h4 : 0 ≤ d ∧ d ≤ 9
        · by_cases h5 : 0 ≤ e ∧ e ≤ 999
          · simp only [h1, h2, h3, h4, h5, and_self, decide_true, if_true, true_and]
          · simp only [h1, h2, h3, h4, h5, and_self, decide_true, if_true, decide_false, Bool.false_eq_true, if_false, false_and, and_false]
        · simp only [h1, h2, h3, h4, and_self, decide_true, if_true, decide_false, Bool.false_eq_true, if_false, false_and, and_false]
      · simp only [h1, h2, h3, and_self, decide_true, if_true, decide_false, Bool.false_eq_true, if_false, false_and, and_false]
    · simp only [h1, h2, and_self, decide_true, if_true, decide_false, Bool.false_eq_true, if_false, false_and, and_false]
  · simp only [h1, decide_false, Bool.false_eq_true, if_false, false_and]
def sees (l : List S59) (h : List Int) (b id : Int) : Bool := decide (nodeOf (seenL l h b) id ≥ 0)
def allSeen (l : List S59) (h : List Int) (b top : Int) : List S59 → Bool
  | [] => true
  | x :: t => if isUnder l x.f0 top = true then (if sees l h b x.f0 = true then allSeen l h b top t else false) else allSeen l h b top t
def mayEdit (l : List S59) (h : List Int) (o n p q r b : Int) : Bool :=
  if okEdit o n p q r b = true then
    (if nodeOf l n ≥ 0 ∧ sees l h b n = false then false
     else if o = 1 ∨ o = 4 then sees l h b p
     else if o = 2 then allSeen l h b n l
     else true)
  else false
theorem sees_lt {l : List S59} {h : List Int} {b id : Int} : (nodeOf (seenL l h b) id < 0) ↔ sees l h b id = false := by
  unfold sees
  rw [decide_eq_false_iff_not]
  omega
theorem implMayEdit_ev (l : List S59) (h : List Int) (o n p q r b : Int) (hl : l.length ≤ 1048576) (hh : h.length ≤ 9223372036854775807) : Ev (fun k => impl_MayEdit.f k l h o n p q r b) (mayEdit l h o n p q r b) := by
  have hr := seenL_len l h b
  have l0 : Ev (fun k => impl_MayEdit.l0 k l (seenL l h b) l (l.length : Int) 0 o n p q r b) (allSeen l h b n l) := by
    refine loop_list0 l (fun k (s : Unit) i => impl_MayEdit.l0 k l (seenL l h b) l (l.length : Int) i o n p q r b) (fun t s => allSeen l h b n t) (fun _ _ => True) ?_ ?_ () trivial
    · intro s _
      refine Ev.step (fun k => by rw [impl_MayEdit.l0]) ?_
      exact Ev.no (nltc _) (Ev.now _)
    · intro i y t s hi hx ht _ ih
      refine Ev.step (fun k => by rw [impl_MayEdit.l0]) ?_
      rw [rdN_at hx, w64s hi (by omega)]
      refine Ev.yes (ltc hi) (Ev.yes (nnc _) (Ev.yes (ltc hi) (Ev.bind (implUnder_ev l y.f0 n (by omega)) ?_)))
      unfold allSeen
      by_cases e : isUnder l y.f0 n = true
      · rw [if_pos e]
        refine Ev.yes e (Ev.bind (implNodeOf_ev _ y.f0 (by omega)) ?_)
        by_cases e2 : nodeOf (seenL l h b) y.f0 < 0
        · rw [if_neg (by rw [sees_lt.1 e2]; decide)]
          exact Ev.yes e2 (Ev.now _)
        · have e3 : sees l h b y.f0 = true := by
            cases hs : sees l h b y.f0 with
            | true => rfl
            | false => exact absurd (sees_lt.2 hs) e2
          rw [if_pos e3]
          exact Ev.no e2 (ih () trivial)
      · rw [if_neg e]
        exact Ev.no e (ih () trivial)
  have j1 : ∀ s, s = true → Ev (fun k => impl_MayEdit.j1 k l (seenL l h b) o s o n p q r b) (sees l h b p) := by
    rintro s rfl
    refine Ev.step (fun k => by rw [impl_MayEdit.j1]) ?_
    exact Ev.yes rfl (Ev.bind (implNodeOf_ev _ p (by omega)) (Ev.now _))
  have j1f : ∀ s, s = false → Ev (fun k => impl_MayEdit.j1 k l (seenL l h b) o s o n p q r b) (if o = 2 then allSeen l h b n l else true) := by
    rintro s rfl
    refine Ev.step (fun k => by rw [impl_MayEdit.j1]) ?_
    refine Ev.no (by simp) ?_
    by_cases ho : o = 2
    · rw [if_pos ho]
      exact Ev.yes ho l0
    · rw [if_neg ho]
      exact Ev.no ho (Ev.now _)
  have j0 : ∀ s, s = false → Ev (fun k => impl_MayEdit.j0 k l (seenL l h b) s o n p q r b) (if o = 1 ∨ o = 4 then sees l h b p else if o = 2 then allSeen l h b n l else true) := by
    rintro s rfl
    refine Ev.step (fun k => by rw [impl_MayEdit.j0]) ?_
    refine Ev.no (by simp) ?_
    by_cases h1 : o = 1
    · rw [if_pos (Or.inl h1)]
      exact Ev.yes h1 (j1 _ (by simp [h1]))
    refine Ev.no h1 ?_
    by_cases h4 : o = 4
    · rw [if_pos (Or.inr h4)]
      exact j1 _ (by simp [h4])
    rw [if_neg (by omega)]
    exact j1f _ (by simp [h4])
  unfold impl_MayEdit.f mayEdit
  refine Ev.pure (isEditI o n p q r b) ?_
  by_cases hk : okEdit o n p q r b = true
  · rw [if_pos hk]
    refine Ev.yes hk (Ev.bind (implSeen_ev l h b hl hh) (Ev.bind (implNodeOf_ev l n (by omega)) ?_))
    by_cases hn : nodeOf l n ≥ 0
    · refine Ev.yes hn (Ev.bind (implNodeOf_ev _ n (by omega)) ?_)
      by_cases e2 : nodeOf (seenL l h b) n < 0
      · rw [if_pos ⟨hn, sees_lt.1 e2⟩]
        rw [decide_eq_true e2]
        refine Ev.step (fun k => by rw [impl_MayEdit.j0]) ?_
        exact Ev.yes rfl (Ev.now _)
      · rw [if_neg (fun x => e2 (sees_lt.2 x.2))]
        exact j0 _ (by simp [e2])
    · rw [if_neg (fun x => hn x.1)]
      exact Ev.no hn (j0 _ rfl)
  · rw [if_neg hk]
    exact Ev.no hk (Ev.now _)

/-- A document, told by what is in it. -/
structure Tree (l : List S59) : Prop where
  most : l.length ≤ 16
  root : ∃ (x : S59) (t : List S59), l = x :: t ∧ x.f0 = 0 ∧ x.f1 = -1
  ok : ∀ x ∈ l, okN x = true
  up : l.Pairwise (fun x y => x.f0 < y.f0)
  par : ∀ x ∈ l, x.f0 ≠ 0 → ∃ y ∈ l, y.f0 = x.f1 ∧ x.f1 < x.f0
theorem Tree.same {l : List S59} (h : l.Pairwise (fun x y => x.f0 < y.f0)) {x y : S59} (hx : x ∈ l) (hy : y ∈ l) (e : x.f0 = y.f0) : x = y := by
  induction l with
  | nil => cases hx
  | cons z t ih =>
    obtain ⟨h1, h2⟩ := List.pairwise_cons.1 h
    rcases List.mem_cons.1 hx with rfl | hx'
    · rcases List.mem_cons.1 hy with rfl | hy'
      · rfl
      · have := h1 y hy'
        omega
    · rcases List.mem_cons.1 hy with rfl | hy'
      · have := h1 x hx'
        omega
      · exact ih h2 hx' hy'
theorem nodeOf_mem (l : List S59) (id : Int) : 0 ≤ nodeOf l id ↔ ∃ x ∈ l, x.f0 = id := by
  rcases nodeOf_cases id l with ⟨h1, h2⟩ | ⟨j, x, h1, h2, h3, h4⟩
  · constructor
    · intro h
      omega
    · rintro ⟨x, hx, e⟩
      exact absurd e (h2 x hx)
  · constructor
    · intro _
      exact ⟨x, List.mem_of_getElem? h1, h2⟩
    · intro _
      omega
theorem nodeOf_neg (l : List S59) (id : Int) : nodeOf l id < 0 ↔ ∀ x ∈ l, x.f0 ≠ id := by
  have := nodeOf_mem l id
  constructor
  · intro h x hx e
    have := this.2 ⟨x, hx, e⟩
    omega
  · intro h
    by_cases g : 0 ≤ nodeOf l id
    · obtain ⟨x, hx, e⟩ := this.1 g
      exact absurd e (h x hx)
    · omega
theorem nodeOf_get (l : List S59) (id : Int) (h : 0 ≤ nodeOf l id) : rd_T59 l (nodeOf l id) ∈ l ∧ (rd_T59 l (nodeOf l id)).f0 = id := by
  have hr := nodeOf_lt id l
  obtain ⟨i, hi⟩ := Int.eq_ofNat_of_zero_le h
  refine ⟨?_, nodeOf_at id l h⟩
  rw [hi]
  exact List.mem_of_getElem? (rdN_get l i (by omega))
theorem Doc.tree {l : List S59} (h : Doc l) : Tree l := by
  have hup : l.Pairwise (fun x y => x.f0 < y.f0) := by
    rw [List.pairwise_iff_getElem]
    intro i j hi hj hij
    have e1 := rdN_at (List.getElem?_eq_getElem hi)
    have e2 := rdN_at (List.getElem?_eq_getElem hj)
    have := h.mono j i hij hj
    rw [e1, e2] at this
    exact this
  refine ⟨h.most, ?_, ?_, hup, ?_⟩
  · have h1 := h.one
    cases l with
    | nil => simp at h1
    | cons x t =>
      have e : rd_T59 (x :: t) 0 = x := rdN_at (i := 0) rfl
      refine ⟨x, t, rfl, ?_, ?_⟩
      · rw [← e]; exact h.root
      · rw [← e]; exact h.rootp
  · intro x hx
    obtain ⟨i, hi, rfl⟩ := List.mem_iff_getElem.1 hx
    rw [← rdN_at (List.getElem?_eq_getElem hi)]
    exact h.ok i hi
  · intro x hx h0
    obtain ⟨i, hi, rfl⟩ := List.mem_iff_getElem.1 hx
    have e := rdN_at (List.getElem?_eq_getElem hi)
    have hi0 : 0 < i := by
      by_cases g : i = 0
      · subst g
        have hr : (rd_T59 l ((0 : Nat) : Int)).f0 = 0 := h.root
        rw [e] at hr
        exact absurd hr h0
      · omega
    have hu := h.up i hi0 hi
    rw [e] at hu
    obtain ⟨hm, hf⟩ := nodeOf_get l _ hu.1
    refine ⟨_, hm, hf, ?_⟩
    obtain ⟨j, hj⟩ := Int.eq_ofNat_of_zero_le hu.1
    have := h.mono i j (by omega) hi
    rw [e, ← hj, hf] at this
    exact this
theorem Tree.doc {l : List S59} (h : Tree l) : Doc l := by
  obtain ⟨x, t, rfl, hx0, hx1⟩ := h.root
  have e0 : rd_T59 (x :: t) 0 = x := rdN_at (i := 0) rfl
  have hmono : ∀ j i : Nat, i < j → j < (x :: t).length → (rd_T59 (x :: t) (i : Int)).f0 < (rd_T59 (x :: t) (j : Int)).f0 := by
    intro j i hij hj
    rw [rdN_at (List.getElem?_eq_getElem (show i < (x :: t).length by omega)), rdN_at (List.getElem?_eq_getElem hj)]
    exact List.pairwise_iff_getElem.1 h.up i j (by omega) hj hij
  refine ⟨by simp, h.most, by rw [e0]; exact hx0, by rw [e0]; exact hx1, ?_, ?_, ?_⟩
  · intro i hi
    rw [rdN_at (List.getElem?_eq_getElem hi)]
    exact h.ok _ (List.getElem_mem hi)
  · intro i h0 hi
    exact hmono i (i - 1) (by omega) hi
  · intro i h0 hi
    have e := rdN_at (List.getElem?_eq_getElem hi)
    have hne : (rd_T59 (x :: t) (i : Int)).f0 ≠ 0 := by
      have := hmono i 0 h0 hi
      have e0' : rd_T59 (x :: t) ((0 : Nat) : Int) = x := e0
      rw [e0'] at this
      omega
    rw [e] at hne ⊢
    obtain ⟨y, hy, h1, h2⟩ := h.par _ (List.getElem_mem hi) hne
    obtain ⟨j, hj, rfl⟩ := List.mem_iff_getElem.1 hy
    have hji : j < i := by
      by_cases g : j < i
      · exact g
      · by_cases g2 : j = i
        · subst g2
          omega
        · have := hmono j i (by omega) hj
          rw [e, rdN_at (List.getElem?_eq_getElem hj)] at this
          omega
    refine (nodeOf_mem _ _).2 ⟨(x :: t)[j], ?_, h1⟩
    rw [List.mem_iff_getElem?]
    exact ⟨j, by rw [List.getElem?_take_of_lt hji, List.getElem?_eq_getElem hj]⟩
theorem doc_iff (l : List S59) : isDoc l = true ↔ Tree l := by
  rw [isDoc_iff]
  exact ⟨Doc.tree, Tree.doc⟩

/-- Where a new node goes: behind those with a lower number. -/
def insAt (n : Int) : List S59 → Nat
  | [] => 0
  | x :: t => if x.f0 < n then insAt n t + 1 else 0
def insL (l : List S59) (x : S59) : List S59 := l.take (insAt x.f0 l) ++ (x :: l.drop (insAt x.f0 l))
def dropL (l : List S59) (n : Int) : List S59 := l.filter (fun x => !(isUnder l x.f0 n))
/-- Of a list of nodes those that are not under a node of a document. -/
def dropL' (l : List S59) (n : Int) (t : List S59) : List S59 := t.filter (fun x => !(isUnder l x.f0 n))
def textOf (x : S59) (r b : Int) : S59 := ⟨x.f0, x.f1, x.f2, r, b⟩
def moveOf (x : S59) (p b : Int) : S59 := ⟨x.f0, p, x.f2, x.f3, b⟩
def nodeAt (l : List S59) (n : Int) : S59 := rd_T59 l (nodeOf l n)
/-- What an edit makes of a document. -/
def applyL (l : List S59) (o n p q r b : Int) : List S59 × Bool :=
  if isDoc l = true ∧ okEdit o n p q r b = true then
    (if o = 1 then (if nodeOf l n ≥ 0 ∨ nodeOf l p < 0 ∨ p > n ∨ 16 ≤ l.length then (l, false) else (insL l ⟨n, p, q, r, b⟩, true))
     else if o = 2 then (if nodeOf l n < 0 then (l, false) else (dropL l n, true))
     else if nodeOf l n < 0 then (l, false)
     else if o = 3 then (l.set (nodeOf l n).toNat (textOf (nodeAt l n) r b), true)
     else if nodeOf l p < 0 ∨ p ≥ n then (l, false)
     else (l.set (nodeOf l n).toNat (moveOf (nodeAt l n) p b), true))
  else (l, false)
theorem insAt_le (n : Int) (l : List S59) : insAt n l ≤ l.length := by
  induction l with
  | nil => exact Nat.zero_le _
  | cons x t ih =>
    unfold insAt
    split
    · simp; omega
    · exact Nat.zero_le _
theorem insL_len (l : List S59) (x : S59) : (insL l x).length = l.length + 1 := by
  unfold insL
  have := insAt_le x.f0 l
  simp
  omega
theorem dropL_len (l : List S59) (n : Int) : (dropL l n).length ≤ l.length := List.length_filter_le _ _
theorem isDoc_most {l : List S59} (h : isDoc l = true) : 1 ≤ l.length ∧ l.length ≤ 16 := ⟨((isDoc_iff l).1 h).one, ((isDoc_iff l).1 h).most⟩
theorem applyL_len (l : List S59) (o n p q r b : Int) : (applyL l o n p q r b).1.length ≤ l.length ∨ (applyL l o n p q r b).1.length ≤ 16 := by
  unfold applyL
  split
  · rename_i h
    have hm := isDoc_most h.1
    repeat' split
    all_goals first
      | exact .inl (Nat.le_refl _)
      | (right; simp only [insL_len]; omega)
      | (left; simp only [List.length_set]; omega)
      | (left; exact dropL_len _ _)
  · exact .inl (Nat.le_refl _)
theorem mem_insL (l : List S59) (x y : S59) : y ∈ insL l x ↔ y = x ∨ y ∈ l := by
  have h : ∀ z, z ∈ l ↔ z ∈ l.take (insAt x.f0 l) ∨ z ∈ l.drop (insAt x.f0 l) := by
    intro z
    conv => lhs; rw [← List.take_append_drop (insAt x.f0 l) l]
    exact List.mem_append
  unfold insL
  rw [List.mem_append, List.mem_cons, h y]
  constructor
  · rintro (h | h | h)
    · exact .inr (.inl h)
    · exact .inl h
    · exact .inr (.inr h)
  · rintro (h | h | h)
    · exact .inr (.inl h)
    · exact .inl h
    · exact .inr (.inr h)
theorem insL_nil (x : S59) : insL [] x = [x] := rfl
theorem insL_cons (y x : S59) (t : List S59) : insL (y :: t) x = if y.f0 < x.f0 then y :: insL t x else x :: y :: t := by
  unfold insL
  by_cases h : y.f0 < x.f0
  · rw [if_pos h, insAt, if_pos h]
    rfl
  · rw [if_neg h, insAt, if_neg h]
    rfl
theorem insL_up (l : List S59) (x : S59) (h : l.Pairwise (fun x y => x.f0 < y.f0)) (hn : ∀ y ∈ l, y.f0 ≠ x.f0) : (insL l x).Pairwise (fun x y => x.f0 < y.f0) := by
  induction l with
  | nil => rw [insL_nil]; exact List.pairwise_singleton _ _
  | cons y t ih =>
    obtain ⟨h1, h2⟩ := List.pairwise_cons.1 h
    have hy := hn y List.mem_cons_self
    rw [insL_cons]
    split
    · rename_i g
      refine List.pairwise_cons.2 ⟨fun z hz => ?_, ih h2 (fun z hz => hn z (List.mem_cons_of_mem _ hz))⟩
      rcases (mem_insL t x z).1 hz with rfl | hz
      · exact g
      · exact h1 z hz
    · rename_i g
      refine List.pairwise_cons.2 ⟨fun z hz => ?_, h⟩
      rcases List.mem_cons.1 hz with rfl | hz
      · omega
      · have := h1 z hz
        omega
/-- Writing at a node's place is writing at each node of its number. -/
theorem set_map (l : List S59) (h : l.Pairwise (fun x y => x.f0 < y.f0)) (n : Int) (hn : 0 ≤ nodeOf l n) (f : S59 → S59) : l.set (nodeOf l n).toNat (f (nodeAt l n)) = l.map (fun x => if x.f0 = n then f x else x) := by
  have hr := nodeOf_lt n l
  obtain ⟨i, hi⟩ := Int.eq_ofNat_of_zero_le hn
  have hg := nodeOf_get l n hn
  have hlt : i < l.length := by omega
  unfold nodeAt
  rw [hi] at hg ⊢
  have e := rdN_at (List.getElem?_eq_getElem hlt)
  rw [e] at hg ⊢
  apply List.ext_getElem?
  intro j
  rw [Int.toNat_natCast, List.getElem?_map]
  by_cases hj : j = i
  · subst hj
    rw [List.getElem?_set_self hlt, List.getElem?_eq_getElem hlt]
    simp only [Option.map_some, if_pos hg.2]
  · rw [List.getElem?_set_ne (by omega)]
    by_cases hjl : j < l.length
    · rw [List.getElem?_eq_getElem hjl]
      have hne : l[j].f0 ≠ n := by
        intro e2
        have hpw := List.pairwise_iff_getElem.1 h
        rcases Nat.lt_or_ge j i with g | g
        · have := hpw j i hjl hlt g
          omega
        · have := hpw i j hlt hjl (by omega)
          omega
      simp only [Option.map_some, if_neg hne]
    · rw [List.getElem?_eq_none (by omega)]
      rfl
/-- Going up, enough steps given, comes to the same whatever is given beyond. -/
theorem upTo_step (l : List S59) (h : Doc l) (top : Int) : ∀ (d d' : Nat) (id : Int), nodeOf l id ≤ d → nodeOf l id ≤ d' → upTo l top d id = upTo l top d' id := by
  intro d
  induction d with
  | zero =>
    intro d' id h1 h2
    cases d' with
    | zero => rfl
    | succ d' =>
      unfold upTo
      by_cases e : id = top
      · simp [e]
      · rw [if_neg e, if_pos (by omega)]
        simp [e]
  | succ d ih =>
    intro d' id h1 h2
    cases d' with
    | zero =>
      unfold upTo
      by_cases e : id = top
      · simp [e]
      · rw [if_neg e, if_pos (by omega)]
        simp [e]
    | succ d' =>
      unfold upTo
      by_cases e : id = top
      · simp [e]
      · rw [if_neg e, if_neg e]
        by_cases g : nodeOf l id ≤ 0
        · rw [if_pos g, if_pos g]
        · rw [if_neg g, if_neg g]
          have hr := nodeOf_lt id l
          obtain ⟨i, hi⟩ := Int.eq_ofNat_of_zero_le (show 0 ≤ nodeOf l id by omega)
          have hu := h.up i (by omega) (by omega)
          rw [hi]
          exact ih d' _ (by omega) (by omega)
/-- A node is under another if it is that node, or its parent is under it. -/
theorem under_up (l : List S59) (h : Doc l) (top : Int) (ht : 0 ≤ nodeOf l top) (x : S59) (hx : x ∈ l) (h0 : x.f0 ≠ 0) : isUnder l x.f0 top = (decide (x.f0 = top) || isUnder l x.f1 top) := by
  have hd := (isDoc_iff l).2 h
  have ht' := h.tree
  have hxn : 0 ≤ nodeOf l x.f0 := (nodeOf_mem l _).2 ⟨x, hx, rfl⟩
  obtain ⟨y, hy, hy1, hy2⟩ := ht'.par x hx h0
  have hyn : 0 ≤ nodeOf l x.f1 := (nodeOf_mem l _).2 ⟨y, hy, hy1⟩
  have hgx := nodeOf_get l x.f0 hxn
  have ex := Tree.same ht'.up hgx.1 hx hgx.2
  have hr := nodeOf_lt x.f0 l
  have hry := nodeOf_lt x.f1 l
  unfold isUnder
  rw [hd, decide_eq_true hxn, decide_eq_true ht, decide_eq_true hyn]
  simp only [Bool.true_and]
  have hlen : ∃ m, l.length = m + 1 := ⟨l.length - 1, by have := h.one; omega⟩
  obtain ⟨m, hm⟩ := hlen
  have hpos : ¬ nodeOf l x.f0 ≤ 0 := by
    intro g
    have hz : nodeOf l x.f0 = 0 := by omega
    have := h.root
    rw [hz] at ex
    rw [ex] at this
    exact h0 this
  have hlt : nodeOf l x.f1 < nodeOf l x.f0 := by
    obtain ⟨i, hi⟩ := Int.eq_ofNat_of_zero_le hxn
    have hu := h.up i (by omega) (by omega)
    rw [hi] at ex
    rw [ex] at hu
    omega
  conv => lhs; rw [hm, upTo]
  by_cases e : x.f0 = top
  · simp [e]
  · rw [if_neg e, if_neg hpos, ex, decide_eq_false e, Bool.false_or]
    exact upTo_step l h top _ _ _ (by omega) (by omega)
theorem under_root (l : List S59) (h : Doc l) (top : Int) (ht : top ≠ 0) : isUnder l 0 top = false := by
  have hz : nodeOf l 0 ≤ 0 := by
    have h1 := h.root
    have := h.node 0 h.one
    have h2 : (rd_T59 l ((0 : Nat) : Int)).f0 = 0 := h1
    rw [h2] at this
    omega
  unfold isUnder
  have hlen : ∃ m, l.length = m + 1 := ⟨l.length - 1, by have := h.one; omega⟩
  obtain ⟨m, hm⟩ := hlen
  rw [hm, upTo, if_neg (by omega), if_pos hz]
  simp
theorem under_self (l : List S59) (h : Doc l) (id : Int) (hn : 0 ≤ nodeOf l id) : isUnder l id id = true := by
  unfold isUnder
  have hlen : ∃ m, l.length = m + 1 := ⟨l.length - 1, by have := h.one; omega⟩
  obtain ⟨m, hm⟩ := hlen
  rw [(isDoc_iff l).2 h, decide_eq_true hn, hm, upTo, if_pos rfl]
  rfl

theorem applyL_no (l : List S59) (o n p q r b : Int) (h : (applyL l o n p q r b).2 = false) : (applyL l o n p q r b).1 = l := by
  unfold applyL at h ⊢
  split
  · rename_i g
    rw [if_pos g] at h
    repeat' split
    all_goals first
      | rfl
      | (exfalso; revert h; simp only [*, if_true, if_false, Bool.true_eq_false, false_implies, not_false_eq_true, not_true, ite_true, ite_false, reduceCtorEq]; done)
      | (exfalso; simp_all; done)
  · rfl
/-- What an edit that is carried out makes. -/
theorem applyL_yes (l : List S59) (o n p q r b : Int) (h : (applyL l o n p q r b).2 = true) : isDoc l = true ∧ okEdit o n p q r b = true ∧
    ((o = 1 ∧ nodeOf l n < 0 ∧ 0 ≤ nodeOf l p ∧ p ≤ n ∧ l.length < 16 ∧ (applyL l o n p q r b).1 = insL l ⟨n, p, q, r, b⟩) ∨
     (o = 2 ∧ 0 ≤ nodeOf l n ∧ (applyL l o n p q r b).1 = dropL l n) ∨
     (o = 3 ∧ 0 ≤ nodeOf l n ∧ (applyL l o n p q r b).1 = l.map (fun x => if x.f0 = n then textOf x r b else x)) ∨
     (o = 4 ∧ 0 ≤ nodeOf l n ∧ 0 ≤ nodeOf l p ∧ p < n ∧ (applyL l o n p q r b).1 = l.map (fun x => if x.f0 = n then moveOf x p b else x))) := by
  unfold applyL at h ⊢
  by_cases g : isDoc l = true ∧ okEdit o n p q r b = true
  · rw [if_pos g] at h ⊢
    refine ⟨g.1, g.2, ?_⟩
    have hup := ((doc_iff l).1 g.1).up
    have hk : 1 ≤ o ∧ o ≤ 4 := by
      have := g.2
      unfold okEdit at this
      exact (of_decide_eq_true this).1
    by_cases h1 : o = 1
    · rw [if_pos h1] at h ⊢
      by_cases h2 : nodeOf l n ≥ 0 ∨ nodeOf l p < 0 ∨ p > n ∨ 16 ≤ l.length
      · rw [if_pos h2] at h
        cases h
      · rw [if_neg h2] at h ⊢
        exact .inl ⟨h1, by omega, by omega, by omega, by omega, rfl⟩
    · rw [if_neg h1] at h ⊢
      by_cases h2 : o = 2
      · rw [if_pos h2] at h ⊢
        by_cases h3 : nodeOf l n < 0
        · rw [if_pos h3] at h
          cases h
        · rw [if_neg h3] at h ⊢
          exact .inr (.inl ⟨h2, by omega, rfl⟩)
      · rw [if_neg h2] at h ⊢
        by_cases h3 : nodeOf l n < 0
        · rw [if_pos h3] at h
          cases h
        · rw [if_neg h3] at h ⊢
          by_cases h4 : o = 3
          · rw [if_pos h4] at h ⊢
            refine .inr (.inr (.inl ⟨h4, by omega, ?_⟩))
            exact set_map l hup n (by omega) (fun x => textOf x r b)
          · rw [if_neg h4] at h ⊢
            by_cases h5 : nodeOf l p < 0 ∨ p ≥ n
            · rw [if_pos h5] at h
              cases h
            · rw [if_neg h5] at h ⊢
              refine .inr (.inr (.inr ⟨by omega, by omega, by omega, by omega, ?_⟩))
              exact set_map l hup n (by omega) (fun x => moveOf x p b)
  · rw [if_neg g] at h
    cases h
theorem tree_map (l : List S59) (h : Tree l) (f : S59 → S59) (hid : ∀ x, (f x).f0 = x.f0) (hok : ∀ x ∈ l, okN (f x) = true) (hroot : ∀ x, x.f0 = 0 → f x = x)
    (hpar : ∀ x ∈ l, x.f0 ≠ 0 → (f x).f1 = x.f1 ∨ (∃ y ∈ l, y.f0 = (f x).f1 ∧ (f x).f1 < x.f0)) : Tree (l.map f) := by
  obtain ⟨x, t, rfl, hx0, hx1⟩ := h.root
  refine ⟨by rw [List.length_map]; exact h.most, ⟨f x, t.map f, rfl, by rw [hid]; exact hx0, by rw [hroot x hx0]; exact hx1⟩, ?_, ?_, ?_⟩
  · intro y hy
    obtain ⟨z, hz, rfl⟩ := List.mem_map.1 hy
    exact hok z hz
  · refine List.pairwise_map.2 (h.up.imp ?_)
    intro a c hac
    rw [hid, hid]
    exact hac
  · intro y hy h0
    obtain ⟨z, hz, rfl⟩ := List.mem_map.1 hy
    rw [hid] at h0 ⊢
    rcases hpar z hz h0 with e | ⟨u, hu, e1, e2⟩
    · obtain ⟨u, hu, e1, e2⟩ := h.par z hz h0
      exact ⟨f u, List.mem_map_of_mem hu, by rw [hid, e, e1], by rw [e]; exact e2⟩
    · exact ⟨f u, List.mem_map_of_mem hu, by rw [hid, e1], e2⟩
theorem okN_iff (x : S59) : okN x = true ↔ (0 ≤ x.f2 ∧ x.f2 ≤ 9) ∧ (0 ≤ x.f3 ∧ x.f3 ≤ 999) ∧ (0 ≤ x.f4 ∧ x.f4 ≤ 5) := by
  unfold okN
  exact decide_eq_true_iff
theorem applyL_tree (l : List S59) (o n p q r b : Int) (h : (applyL l o n p q r b).2 = true) : Tree (applyL l o n p q r b).1 := by
  obtain ⟨hd, hk, hc⟩ := applyL_yes l o n p q r b h
  have ht := (doc_iff l).1 hd
  have hD := (isDoc_iff l).1 hd
  unfold okEdit at hk
  replace hk := of_decide_eq_true hk
  rcases hc with ⟨rfl, hn, hp, hpn, hl, e⟩ | ⟨rfl, hn, e⟩ | ⟨rfl, hn, e⟩ | ⟨rfl, hn, hp, hpn, e⟩
  · rw [e]
    have hnot := (nodeOf_neg l n).1 hn
    obtain ⟨y, hy, hyp⟩ := (nodeOf_mem l p).1 hp
    obtain ⟨x, t, hxt, hx0, hx1⟩ := ht.root
    refine ⟨by rw [insL_len]; omega, ?_, ?_, insL_up l _ ht.up hnot, ?_⟩
    · subst hxt
      refine ⟨x, insL t ⟨n, p, q, r, b⟩, ?_, hx0, hx1⟩
      rw [insL_cons, if_pos (by rw [hx0]; show 0 < n; omega)]
    · intro z hz
      rcases (mem_insL l _ z).1 hz with rfl | hz
      · exact (okN_iff _).2 ⟨by simp only; omega, by simp only; omega, by simp only; omega⟩
      · exact ht.ok z hz
    · intro z hz h0
      rcases (mem_insL l _ z).1 hz with rfl | hz
      · refine ⟨y, (mem_insL l _ y).2 (.inr hy), hyp, ?_⟩
        have := hnot y hy
        simp only
        omega
      · obtain ⟨u, hu, e1, e2⟩ := ht.par z hz h0
        exact ⟨u, (mem_insL l _ u).2 (.inr hu), e1, e2⟩
  · rw [e]
    obtain ⟨x, t, hxt, hx0, hx1⟩ := ht.root
    have hsub : ∀ z, z ∈ dropL l n ↔ z ∈ l ∧ isUnder l z.f0 n = false := by
      intro z
      unfold dropL
      rw [List.mem_filter, Bool.not_eq_true']
    refine ⟨Nat.le_trans (dropL_len l n) ht.most, ?_, fun z hz => ht.ok z ((hsub z).1 hz).1, ht.up.filter _, ?_⟩
    · refine ⟨x, t.filter (fun x => !(isUnder l x.f0 n)), ?_, hx0, hx1⟩
      unfold dropL
      conv => lhs; arg 2; rw [hxt]
      rw [List.filter_cons_of_pos]
      rw [hx0, under_root l hD n (by omega)]
      rfl
    · intro z hz h0
      obtain ⟨hz1, hz2⟩ := (hsub z).1 hz
      obtain ⟨u, hu, e1, e2⟩ := ht.par z hz1 h0
      refine ⟨u, (hsub u).2 ⟨hu, ?_⟩, e1, e2⟩
      rw [under_up l hD n hn z hz1 h0] at hz2
      rw [e1]
      exact (Bool.or_eq_false_iff.1 hz2).2
  · rw [e]
    refine tree_map l ht _ ?_ ?_ ?_ ?_
    · intro x
      split <;> rfl
    · intro x hx
      have := (okN_iff x).1 (ht.ok x hx)
      split
      · exact (okN_iff _).2 ⟨this.1, by simp only [textOf]; omega, by simp only [textOf]; omega⟩
      · exact ht.ok x hx
    · intro x hx0
      rw [if_neg (by omega)]
    · intro x hx h0
      split <;> exact .inl rfl
  · rw [e]
    obtain ⟨y, hy, hyp⟩ := (nodeOf_mem l p).1 hp
    refine tree_map l ht _ ?_ ?_ ?_ ?_
    · intro x
      split <;> rfl
    · intro x hx
      have := (okN_iff x).1 (ht.ok x hx)
      split
      · exact (okN_iff _).2 ⟨this.1, this.2.1, by simp only [moveOf]; omega⟩
      · exact ht.ok x hx
    · intro x hx0
      rw [if_neg (by omega)]
    · intro x hx h0
      split
      · rename_i g
        exact .inr ⟨y, hy, hyp, by rw [g]; exact hpn⟩
      · exact .inl rfl
theorem applyL_doc (l : List S59) (o n p q r b : Int) : isDoc (applyL l o n p q r b).1 = isDoc l := by
  cases h : (applyL l o n p q r b).2 with
  | false => rw [applyL_no _ _ _ _ _ _ _ h]
  | true =>
    rw [(applyL_yes _ _ _ _ _ _ _ h).1]
    exact (doc_iff _).2 (applyL_tree _ _ _ _ _ _ _ h)
/-- What is there behind an edit was there, or is its node with its author. -/
theorem applyL_new (l : List S59) (o n p q r b : Int) (y : S59) (hy : y ∈ (applyL l o n p q r b).1) : y ∈ l ∨ (y.f0 = n ∧ y.f4 = b ∧ (applyL l o n p q r b).2 = true) := by
  cases h : (applyL l o n p q r b).2 with
  | false =>
    rw [applyL_no _ _ _ _ _ _ _ h] at hy
    exact .inl hy
  | true =>
    obtain ⟨hd, hk, hc⟩ := applyL_yes l o n p q r b h
    rcases hc with ⟨rfl, hn, hp, hpn, hl, e⟩ | ⟨rfl, hn, e⟩ | ⟨rfl, hn, e⟩ | ⟨rfl, hn, hp, hpn, e⟩
    · rw [e] at hy
      rcases (mem_insL l _ y).1 hy with rfl | hy
      · exact .inr ⟨rfl, rfl, rfl⟩
      · exact .inl hy
    · rw [e] at hy
      exact .inl (List.mem_filter.1 hy).1
    · rw [e] at hy
      obtain ⟨z, hz, rfl⟩ := List.mem_map.1 hy
      split
      · rename_i g
        exact .inr ⟨g, rfl, rfl⟩
      · exact .inl hz
    · rw [e] at hy
      obtain ⟨z, hz, rfl⟩ := List.mem_map.1 hy
      split
      · rename_i g
        exact .inr ⟨g, rfl, rfl⟩
      · exact .inl hz
/-- What was there and is not the edit's node is there still, or was dropped with it. -/
theorem applyL_old (l : List S59) (o n p q r b : Int) (h : (applyL l o n p q r b).2 = true) (y : S59) (hy : y ∈ l) (hne : y.f0 ≠ n) :
    y ∈ (applyL l o n p q r b).1 ∨ (o = 2 ∧ isUnder l y.f0 n = true ∧ ∀ z ∈ (applyL l o n p q r b).1, z.f0 ≠ y.f0) := by
  obtain ⟨hd, hk, hc⟩ := applyL_yes l o n p q r b h
  have ht := (doc_iff l).1 hd
  rcases hc with ⟨rfl, hn, hp, hpn, hl, e⟩ | ⟨rfl, hn, e⟩ | ⟨rfl, hn, e⟩ | ⟨rfl, hn, hp, hpn, e⟩
  · rw [e]
    exact .inl ((mem_insL l _ y).2 (.inr hy))
  · rw [e]
    cases hu : isUnder l y.f0 n with
    | false => exact .inl (List.mem_filter.2 ⟨hy, by rw [hu]; rfl⟩)
    | true =>
      refine .inr ⟨rfl, rfl, fun z hz e2 => ?_⟩
      obtain ⟨hz1, hz2⟩ := List.mem_filter.1 hz
      rw [e2, hu] at hz2
      cases hz2
  · rw [e]
    refine .inl (List.mem_map.2 ⟨y, hy, ?_⟩)
    rw [if_neg hne]
  · rw [e]
    refine .inl (List.mem_map.2 ⟨y, hy, ?_⟩)
    rw [if_neg hne]
/-- The edit's own node: gone, or its author's. -/
theorem applyL_own (l : List S59) (o n p q r b : Int) (h : (applyL l o n p q r b).2 = true) :
    (o = 2 ∧ ∀ z ∈ (applyL l o n p q r b).1, z.f0 ≠ n) ∨ (o ≠ 2 ∧ ∃ z ∈ (applyL l o n p q r b).1, z.f0 = n ∧ z.f4 = b ∧ (o = 3 → z.f3 = r)) := by
  obtain ⟨hd, hk, hc⟩ := applyL_yes l o n p q r b h
  have hD := (isDoc_iff l).1 hd
  rcases hc with ⟨rfl, hn, hp, hpn, hl, e⟩ | ⟨rfl, hn, e⟩ | ⟨rfl, hn, e⟩ | ⟨rfl, hn, hp, hpn, e⟩
  · rw [e]
    exact .inr ⟨by omega, _, (mem_insL l _ _).2 (.inl rfl), rfl, rfl, by omega⟩
  · rw [e]
    refine .inl ⟨rfl, fun z hz e2 => ?_⟩
    obtain ⟨hz1, hz2⟩ := List.mem_filter.1 hz
    rw [e2, under_self l hD n hn] at hz2
    cases hz2
  · rw [e]
    obtain ⟨x, hx, hxn⟩ := (nodeOf_mem l n).1 hn
    exact .inr ⟨by omega, _, List.mem_map.2 ⟨x, hx, rfl⟩, by rw [if_pos hxn]; exact hxn, by rw [if_pos hxn]; rfl, fun _ => by rw [if_pos hxn]; rfl⟩
  · rw [e]
    obtain ⟨x, hx, hxn⟩ := (nodeOf_mem l n).1 hn
    exact .inr ⟨by omega, _, List.mem_map.2 ⟨x, hx, rfl⟩, by rw [if_pos hxn]; exact hxn, by rw [if_pos hxn]; rfl, by omega⟩
/-- Where a node of a document stands. -/
theorem node_at (l : List S59) (h : l.Pairwise (fun x y => x.f0 < y.f0)) (x : S59) (hx : x ∈ l) : 0 ≤ nodeOf l x.f0 ∧ nodeOf l x.f0 < l.length ∧ nodeAt l x.f0 = x := by
  have hn : 0 ≤ nodeOf l x.f0 := (nodeOf_mem l _).2 ⟨x, hx, rfl⟩
  have hg := nodeOf_get l x.f0 hn
  exact ⟨hn, (nodeOf_lt x.f0 l).2, Tree.same h hg.1 hx hg.2⟩

theorem insAt_get (n : Int) (l : List S59) : (∀ (i : Nat) (x : S59), i < insAt n l → l[i]? = some x → x.f0 < n) ∧ (∀ x : S59, l[insAt n l]? = some x → ¬ x.f0 < n) := by
  induction l with
  | nil => exact ⟨fun i x h => by simp [insAt] at h, fun x h => by simp at h⟩
  | cons y t ih =>
    by_cases h : y.f0 < n
    · have e : insAt n (y :: t) = insAt n t + 1 := by rw [insAt, if_pos h]
      rw [e]
      refine ⟨fun i x hi hx => ?_, fun x hx => ?_⟩
      · cases i with
        | zero => simp at hx; subst hx; exact h
        | succ i => exact ih.1 i x (by omega) (by simpa using hx)
      · exact ih.2 x (by simpa using hx)
    · have e : insAt n (y :: t) = 0 := by rw [insAt, if_neg h]
      rw [e]
      exact ⟨fun i x hi => by omega, fun x hx => by simp at hx; subst hx; exact h⟩
theorem set_text (l : List S59) (k : Nat) (hk : k < l.length) (r b : Int) :
    ((l.set k ⟨(rd_T59 l (k : Int)).f0, (rd_T59 l (k : Int)).f1, (rd_T59 l (k : Int)).f2, r, (rd_T59 l (k : Int)).f4⟩).set k
      ⟨(rd_T59 (l.set k ⟨(rd_T59 l (k : Int)).f0, (rd_T59 l (k : Int)).f1, (rd_T59 l (k : Int)).f2, r, (rd_T59 l (k : Int)).f4⟩) (k : Int)).f0, (rd_T59 (l.set k ⟨(rd_T59 l (k : Int)).f0, (rd_T59 l (k : Int)).f1, (rd_T59 l (k : Int)).f2, r, (rd_T59 l (k : Int)).f4⟩) (k : Int)).f1, (rd_T59 (l.set k ⟨(rd_T59 l (k : Int)).f0, (rd_T59 l (k : Int)).f1, (rd_T59 l (k : Int)).f2, r, (rd_T59 l (k : Int)).f4⟩) (k : Int)).f2, (rd_T59 (l.set k ⟨(rd_T59 l (k : Int)).f0, (rd_T59 l (k : Int)).f1, (rd_T59 l (k : Int)).f2, r, (rd_T59 l (k : Int)).f4⟩) (k : Int)).f3, b⟩) = l.set k (textOf (rd_T59 l (k : Int)) r b) := by
  have rs : ∀ (x : S59), rd_T59 (l.set k x) (k : Int) = x := fun x => rdN_at (List.getElem?_set_self hk)
  rw [rs, List.set_set]
  rfl
theorem set_move (l : List S59) (k : Nat) (hk : k < l.length) (p b : Int) :
    ((l.set k ⟨(rd_T59 l (k : Int)).f0, p, (rd_T59 l (k : Int)).f2, (rd_T59 l (k : Int)).f3, (rd_T59 l (k : Int)).f4⟩).set k
      ⟨(rd_T59 (l.set k ⟨(rd_T59 l (k : Int)).f0, p, (rd_T59 l (k : Int)).f2, (rd_T59 l (k : Int)).f3, (rd_T59 l (k : Int)).f4⟩) (k : Int)).f0, (rd_T59 (l.set k ⟨(rd_T59 l (k : Int)).f0, p, (rd_T59 l (k : Int)).f2, (rd_T59 l (k : Int)).f3, (rd_T59 l (k : Int)).f4⟩) (k : Int)).f1, (rd_T59 (l.set k ⟨(rd_T59 l (k : Int)).f0, p, (rd_T59 l (k : Int)).f2, (rd_T59 l (k : Int)).f3, (rd_T59 l (k : Int)).f4⟩) (k : Int)).f2, (rd_T59 (l.set k ⟨(rd_T59 l (k : Int)).f0, p, (rd_T59 l (k : Int)).f2, (rd_T59 l (k : Int)).f3, (rd_T59 l (k : Int)).f4⟩) (k : Int)).f3, b⟩) = l.set k (moveOf (rd_T59 l (k : Int)) p b) := by
  have rs : ∀ (x : S59), rd_T59 (l.set k x) (k : Int) = x := fun x => rdN_at (List.getElem?_set_self hk)
  rw [rs, List.set_set]
  rfl
theorem clone_ok (l : List S59) (h : l.length ≤ 1000000000) : impl_Node_71.f l = some l := by
  unfold impl_Node_71.f
  rw [if_pos h]
theorem insert_ok (l : List S59) (x : S59) (h1 : 1 ≤ l.length) (hm : l.length ≤ 1000000) (i : Nat) (hi : i ≤ l.length) : impl_Node_74.f l (i : Int) [x] = some (l.take i ++ (x :: l.drop i)) := by
  unfold impl_Node_74.f
  rw [if_pos ⟨by omega, by omega, h1, hm, rfl⟩, Int.toNat_natCast]
  rfl
theorem implAdd_l (l : List S59) (o n p q r b : Int) (h1 : 1 ≤ l.length) (hm : l.length ≤ 1000000) : ∀ (d i : Nat), i + d = insAt n l → Ev (fun k => impl_ApplyEdit.l0 k l l (i : Int) o n p q r b) (insL l ⟨n, p, q, r, b⟩, true) := by
  have hle := insAt_le n l
  have hget := insAt_get n l
  intro d
  induction d with
  | zero =>
    intro i hi
    have hi' : i = insAt n l := by omega
    have tail : Ev (fun k => impl_ApplyEdit.j3 k l (i : Int) o n p q r b) (insL l ⟨n, p, q, r, b⟩, true) := by
      refine Ev.step (fun k => by rw [impl_ApplyEdit.j3]) ?_
      refine Ev.pure (insert_ok l _ h1 hm i (by omega)) (Ev.is (Ev.now _) ?_)
      unfold insL
      rw [hi']
    refine Ev.step (fun k => by rw [impl_ApplyEdit.l0]) ?_
    by_cases h2 : (i : Int) < (l.length : Int)
    · have h3 := hget.2 (rd_T59 l (i : Int)) (by rw [← hi']; exact rdN_get l i (by omega))
      exact Ev.yes h2 (Ev.yes (nnc _) (Ev.no h3 tail))
    · exact Ev.no h2 tail
  | succ d ih =>
    intro i hi
    have hlt : i < l.length := by omega
    refine Ev.step (fun k => by rw [impl_ApplyEdit.l0]) ?_
    refine Ev.yes (ltc hlt) (Ev.yes (nnc _) (Ev.yes (hget.1 i _ (by omega) (rdN_get l i hlt)) ?_))
    rw [w64s hlt (by omega)]
    exact ih (i + 1) (by omega)
theorem implDrop_l (l : List S59) (hD : Doc l) (o n p q r b : Int) (hn : 0 ≤ nodeOf l n) (hl : l.length ≤ 1048576) : Ev (fun k => impl_ApplyEdit.l1 k l [] l (l.length : Int) 0 o n p q r b) (dropL l n, true) := by
  have hun : ∀ x ∈ l, isUnder l x.f0 n = upTo l n l.length x.f0 := by
    intro x hx
    unfold isUnder
    rw [(isDoc_iff l).2 hD, decide_eq_true hn, decide_eq_true ((nodeOf_mem l x.f0).2 ⟨x, hx, rfl⟩)]
    rfl
  have := loop_list0 l (fun k s i => impl_ApplyEdit.l1 k l s l (l.length : Int) i o n p q r b) (fun t s => (s ++ dropL' l n t, true)) (fun i s => s.length ≤ i) ?_ ?_ [] (by simp)
  · simpa [dropL', dropL] using this
  · intro s hs
    refine Ev.step (fun k => by rw [impl_ApplyEdit.l1]) ?_
    exact Ev.no (nltc _) (Ev.is (Ev.now _) (by simp [dropL']))
  · intro i y t s hi hx ht hs ih
    refine Ev.step (fun k => by rw [impl_ApplyEdit.l1]) ?_
    rw [rdN_at hx, w64s hi (by omega)]
    refine Ev.yes (ltc hi) (Ev.yes (nnc _) (Ev.yes (ltc hi) (Ev.bind (implAbove_ev l hD y.f0 n) ?_)))
    rw [← hun y (List.mem_of_getElem? hx)]
    by_cases e : isUnder l y.f0 n = true
    · refine Ev.yes e (Ev.is (ih s (by omega)) ?_)
      simp [dropL', e]
    · refine Ev.no e (Ev.yes (by omega) (Ev.is (ih (s ++ [y]) (by simp; omega)) ?_))
      simp only [Bool.not_eq_true] at e
      simp [dropL', e]
theorem implApply_ev (l : List S59) (o n p q r b : Int) (hl : l.length ≤ 1048576) : Ev (fun k => impl_ApplyEdit.f k l o n p q r b) (applyL l o n p q r b) := by
  have hb9 : l.length ≤ 9223372036854775807 := by omega
  have j0t : Ev (fun k => impl_ApplyEdit.j0 k l l true o n p q r b) (l, false) := by
    refine Ev.step (fun k => by rw [impl_ApplyEdit.j0]) ?_
    exact Ev.yes rfl (Ev.now _)
  have j1t : Ev (fun k => impl_ApplyEdit.j1 k l l true o n p q r b) (l, false) := by
    refine Ev.step (fun k => by rw [impl_ApplyEdit.j1]) ?_
    exact Ev.yes rfl (Ev.now _)
  unfold impl_ApplyEdit.f applyL
  refine Ev.pure (clone_ok l (by omega)) (Ev.bind (implDoc_ev l hb9) ?_)
  cases hd : isDoc l with
  | false => exact Ev.no (by simp) (Ev.is j0t (by simp))
  | true =>
    have hD := (isDoc_iff l).1 hd
    have hone := hD.one
    have hmost := hD.most
    refine Ev.yes rfl (Ev.pure (isEditI o n p q r b) ?_)
    cases hk : okEdit o n p q r b with
    | false => exact Ev.is j0t (by simp)
    | true =>
      rw [if_pos ⟨rfl, rfl⟩]
      have j1f : Ev (fun k => impl_ApplyEdit.j1 k l l false o n p q r b) (insL l ⟨n, p, q, r, b⟩, true) := by
        refine Ev.step (fun k => by rw [impl_ApplyEdit.j1]) ?_
        exact Ev.no (by simp) (implAdd_l l o n p q r b hone (by omega) (insAt n l) 0 (by omega))
      refine Ev.step (fun k => by rw [impl_ApplyEdit.j0]) ?_
      refine Ev.no (by simp) (Ev.bind (implNodeOf_ev l n hb9) ?_)
      by_cases h1 : o = 1
      · rw [if_pos h1]
        refine Ev.yes h1 ?_
        by_cases h2 : nodeOf l n ≥ 0
        · exact Ev.yes h2 (Ev.is j1t (by rw [if_pos (Or.inl h2)]))
        refine Ev.no h2 (Ev.bind (implNodeOf_ev l p hb9) ?_)
        by_cases h3 : nodeOf l p < 0
        · exact Ev.yes h3 (Ev.is j1t (by rw [if_pos (Or.inr (Or.inl h3))]))
        refine Ev.no h3 ?_
        by_cases h4 : p > n
        · exact Ev.yes h4 (Ev.is j1t (by rw [if_pos (Or.inr (Or.inr (Or.inl h4)))]))
        refine Ev.no h4 ?_
        by_cases h5 : (l.length : Int) ≥ 16
        · rw [decide_eq_true h5]
          exact Ev.is j1t (by rw [if_pos (Or.inr (Or.inr (Or.inr (by omega))))])
        · rw [decide_eq_false h5]
          exact Ev.is j1f (by rw [if_neg (by omega)])
      rw [if_neg h1]
      refine Ev.no h1 ?_
      have hr := nodeOf_lt n l
      by_cases h2 : o = 2
      · rw [if_pos h2]
        refine Ev.yes h2 ?_
        by_cases h3 : nodeOf l n < 0
        · exact Ev.yes h3 (Ev.is (Ev.now _) (by rw [if_pos h3]))
        · exact Ev.no h3 (Ev.is (implDrop_l l hD o n p q r b (by omega) hl) (by rw [if_neg h3]))
      rw [if_neg h2]
      refine Ev.no h2 ?_
      by_cases h3 : o = 3
      · refine Ev.yes h3 ?_
        by_cases h4 : nodeOf l n < 0
        · exact Ev.yes h4 (Ev.is (Ev.now _) (by rw [if_pos h4]))
        refine Ev.no h4 ?_
        rw [if_neg h4, if_pos h3]
        unfold nodeAt
        obtain ⟨i, hi⟩ := Int.eq_ofNat_of_zero_le (show 0 ≤ nodeOf l n by omega)
        rw [hi] at hr ⊢
        rw [Int.toNat_natCast]
        exact Ev.yes (nnc _) (Ev.yes hr.2 (Ev.pure rfl (Ev.is (Ev.now _) (by rw [set_text l i (by omega)]))))
      · refine Ev.no h3 ?_
        by_cases h4 : nodeOf l n < 0
        · exact Ev.yes h4 (Ev.is (Ev.now _) (by rw [if_pos h4]))
        rw [if_neg h4, if_neg h3]
        refine Ev.no h4 (Ev.bind (implNodeOf_ev l p hb9) ?_)
        by_cases h5 : nodeOf l p < 0
        · exact Ev.yes h5 (Ev.is (Ev.now _) (by rw [if_pos (Or.inl h5)]))
        refine Ev.no h5 ?_
        by_cases h6 : p ≥ n
        · exact Ev.yes h6 (Ev.is (Ev.now _) (by rw [if_pos (Or.inr h6)]))
        refine Ev.no h6 ?_
        rw [if_neg (show ¬ (nodeOf l p < 0 ∨ p ≥ n) by omega)]
        unfold nodeAt
        obtain ⟨i, hi⟩ := Int.eq_ofNat_of_zero_le (show 0 ≤ nodeOf l n by omega)
        rw [hi] at hr ⊢
        rw [Int.toNat_natCast]
        exact Ev.yes (nnc _) (Ev.yes hr.2 (Ev.pure rfl (Ev.is (Ev.now _) (by rw [set_move l i (by omega)]))))

def guardL (l : List S59) (h : List Int) (o n p q r b : Int) : List S59 × Bool :=
  if mayEdit l h o n p q r b = true then applyL l o n p q r b else (l, false)
theorem guardL_len (l : List S59) (h : List Int) (o n p q r b : Int) : (guardL l h o n p q r b).1.length ≤ l.length ∨ (guardL l h o n p q r b).1.length ≤ 16 := by
  unfold guardL
  split
  · exact applyL_len l o n p q r b
  · exact .inl (Nat.le_refl _)
theorem implGuard_ev (l : List S59) (h : List Int) (o n p q r b : Int) (hl : l.length ≤ 1048576) (hh : h.length ≤ 9223372036854775807) : Ev (fun k => impl_GuardEdit.f k l h o n p q r b) (guardL l h o n p q r b) := by
  unfold impl_GuardEdit.f guardL
  refine Ev.bind (implMayEdit_ev l h o n p q r b hl hh) ?_
  by_cases e : mayEdit l h o n p q r b = true
  · rw [if_pos e]
    exact Ev.yes e (Ev.bind (implApply_ev l o n p q r b hl) (Ev.now _))
  · rw [if_neg e]
    exact Ev.no e (Ev.pure (clone_ok l (by omega)) (Ev.now _))

def byHandle (l : List S59) (h : List Int) (p w r b : Int) : List S59 × Bool :=
  if resolveL l h p b w < 0 then (l, false) else guardL l h 3 (resolveL l h p b w) 0 0 r b
theorem byHandle_len (l : List S59) (h : List Int) (p w r b : Int) : (byHandle l h p w r b).1.length ≤ l.length ∨ (byHandle l h p w r b).1.length ≤ 16 := by
  unfold byHandle
  split
  · exact .inl (Nat.le_refl _)
  · exact guardL_len _ _ _ _ _ _ _ _
theorem implBy_ev (l : List S59) (h : List Int) (p w r b : Int) (hl : l.length ≤ 1048576) (hh : h.length ≤ 1048576) : Ev (fun k => impl_EditByHandle.f k l h p w r b) (byHandle l h p w r b) := by
  unfold impl_EditByHandle.f byHandle
  refine Ev.bind (implResolve_ev l h p b w (by omega) (by omega)) ?_
  by_cases e : resolveL l h p b w < 0
  · rw [if_pos e]
    exact Ev.yes e (Ev.pure (clone_ok l (by omega)) (Ev.now _))
  · rw [if_neg e]
    exact Ev.no e (Ev.bind (implGuard_ev l h _ _ _ _ _ _ hl (by omega)) (Ev.now _))

theorem ne_chain (x y : S59) : (!(x.f0 == y.f0) || (!(x.f1 == y.f1) || (!(x.f2 == y.f2) || (!(x.f3 == y.f3) || (!(x.f4 == y.f4)))))) = !decide (x = y) := by
  rw [show (decide (x = y)) = decide (x.f0 = y.f0 ∧ x.f1 = y.f1 ∧ x.f2 = y.f2 ∧ x.f3 = y.f3 ∧ x.f4 = y.f4) from by simp only [node_ext]]
  by_cases h0 : x.f0 = y.f0 <;> by_cases h1 : x.f1 = y.f1 <;> by_cases h2 : x.f2 = y.f2 <;> by_cases h3 : x.f3 = y.f3 <;> by_cases h4 : x.f4 = y.f4 <;> simp [h0, h1, h2, h3, h4]
theorem ne_if {α : Type} (x y : S59) (a b : α) : (if (!(x.f0 == y.f0) || (!(x.f1 == y.f1) || (!(x.f2 == y.f2) || (!(x.f3 == y.f3) || (!(x.f4 == y.f4)))))) = true then a else b) = if x = y then b else a := by
  rw [ne_chain]
  by_cases h : x = y <;> simp [h]
theorem implEqDocs_ev (a b : List S59) (h : a.length ≤ 9223372036854775807) : Ev (fun k => impl_EqualDocuments.f k a b) (decide (a = b)) := by
  by_cases hl : a.length = b.length
  · have H := eq_loop a b (fun k i => impl_Node_88.l0 k a b (a.length : Int) i) hl (fun k => by simp only [impl_Node_88.l0, nltc, if_false]) (fun k i x y hx hy hi hi2 => by
      simp only [impl_Node_88.l0, ltc hi, ltc hi2, nnc, if_true, rdN_at hx, rdN_at hy, w64s hi h, ne_if])
    obtain ⟨K, hK⟩ := H
    refine ⟨K, fun k hk => ?_⟩
    have := hK k hk
    simp only at this
    simp only [impl_EqualDocuments.f, impl_Node_88.f, hl, if_true]
    rw [← hl, this]
    rfl
  · refine ⟨0, fun k _ => ?_⟩
    simp only [impl_EqualDocuments.f, impl_Node_88.f]
    rw [if_neg (by omega)]
    simp only [Option.bind_some]
    congr 1
    symm
    exact decide_eq_false (fun e => hl (by rw [e]))

theorem and255 (x : Int) : 0 ≤ Go.bits .and .i64 x 255 ∧ Go.bits .and .i64 x 255 ≤ 255 := by
  simp only [Go.bits, BitVec.toNat_and]
  have h : (BitVec.ofInt IntKind.i64.bits x).toNat &&& (BitVec.ofInt IntKind.i64.bits 255).toNat ≤ 255 := by
    have e : (BitVec.ofInt IntKind.i64.bits 255).toNat = 255 := by decide
    rw [e]
    exact Nat.and_le_right
  generalize (BitVec.ofInt IntKind.i64.bits x).toNat &&& (BitVec.ofInt IntKind.i64.bits 255).toNat = n at h
  rw [IntKind.wrap_i64]
  omega
/-- A cursor's place is within its bytes. -/
def OKC (l : List Int) (i : Int) : Prop := 0 ≤ i ∧ i ≤ l.length
theorem l1New_ev (l : List Int) (hl : l.length ≤ 140737488355328) : ∃ h, Ev (fun k => spec_l1New.f k l) (l, 0, h) := by
  suffices H : ∀ (d i : Nat) (x : Int), i ≤ l.length → l.length - i = d → ∃ h, Ev (fun k => spec_l1New.l0 k l x i) (l, 0, h) from H _ 0 _ (Nat.zero_le _) rfl
  intro d
  induction d with
  | zero =>
    intro i x hi hd
    have : i = l.length := by omega
    subst this
    exact ⟨x, ev_succ ⟨0, fun k _ => by simp only [spec_l1New.l0, nltc, if_false]⟩⟩
  | succ d ih =>
    intro i x hi hd
    have hlt : i < l.length := by omega
    by_cases h4 : (i : Int) < 4000
    · obtain ⟨h, K, hK⟩ := ih (i + 1) (Go.bits .and .i64 (wrap64 ((wrap64 ((wrap64 (x * 137)) + (wrap64 (rd l (i : Int))))) + 11)) 1073741823) (by omega) (by omega)
      refine ⟨h, ev_succ ⟨K, fun k hk => ?_⟩⟩
      simp only [spec_l1New.l0, ltc hlt, h4, nnc, if_true, w64s hlt (show l.length ≤ 9223372036854775807 by omega)]
      exact hK k hk
    · exact ⟨x, ev_succ ⟨0, fun k _ => by simp only [spec_l1New.l0, ltc hlt, h4, if_true, if_false]⟩⟩
theorem l1Byte_draw (l : List Int) (i h : Int) (hl : l.length ≤ 140737488355328) (hi : OKC l i) : ∃ x i' h', spec_l1Byte.f l i h = some (x, i', h') ∧ OKC l i' ∧ 0 ≤ x ∧ x ≤ 255 := by
  unfold OKC at hi
  unfold spec_l1Byte.f
  by_cases h1 : i < (l.length : Int)
  · rw [if_pos h1, if_pos hi.1]
    refine ⟨_, _, _, rfl, ?_, and255 _⟩
    rw [w64 (by omega)]
    unfold OKC
    omega
  · rw [if_neg h1]
    exact ⟨_, _, _, rfl, hi, and255 _⟩
theorem tmod_b (x n : Int) (hx : 0 ≤ x) (hn : 0 < n) : 0 ≤ Int.tmod x n ∧ Int.tmod x n < n := by
  rw [Int.tmod_eq_emod_of_nonneg hx]
  exact ⟨Int.emod_nonneg _ (by omega), Int.emod_lt_of_pos _ hn⟩
theorem l1Below_draw (l : List Int) (i h n : Int) (hl : l.length ≤ 140737488355328) (hi : OKC l i) : ∃ x i' h', spec_l1Below.f l i h n = some (x, i', h') ∧ OKC l i' ∧ 0 ≤ x ∧ (0 < n → x < n) ∧ (n ≤ 0 → x = 0) := by
  unfold spec_l1Below.f
  by_cases h1 : n ≤ 0
  · rw [if_pos h1]
    exact ⟨0, i, h, rfl, hi, by omega, by omega, fun _ => rfl⟩
  · rw [if_neg h1]
    obtain ⟨x, i1, g1, e1, o1, b1, c1⟩ := l1Byte_draw l i h hl hi
    by_cases h2 : n ≤ 256
    · rw [if_pos h2, e1]
      simp only [Option.bind_some]
      rw [if_neg (by omega)]
      have := tmod_b x n b1 (by omega)
      exact ⟨_, _, _, rfl, o1, this.1, fun _ => this.2, by omega⟩
    · rw [if_neg h2, e1]
      simp only [Option.bind_some]
      obtain ⟨y, i2, g2, e2, o2, b2, c2⟩ := l1Byte_draw l i1 g1 hl o1
      rw [e2]
      simp only [Option.bind_some]
      obtain ⟨z, i3, g3, e3, o3, b3, c3⟩ := l1Byte_draw l i2 g2 hl o2
      rw [e3]
      simp only [Option.bind_some]
      rw [if_neg (by omega), w64 (n := x * 65536) (by omega), w64 (n := y * 256) (by omega), w64 (n := x * 65536 + y * 256) (by omega), w64 (by omega)]
      have := tmod_b (x * 65536 + y * 256 + z) n (by omega) (by omega)
      exact ⟨_, _, _, rfl, o3, this.1, fun _ => this.2, by omega⟩
theorem l1Once_draw (l : List Int) (i h n : Int) (hl : l.length ≤ 140737488355328) (hi : OKC l i) : ∃ b i' h', spec_l1Once.f l i h n = some (b, i', h') ∧ OKC l i' := by
  obtain ⟨x, i1, g1, e1, o1, _⟩ := l1Below_draw l i h n hl hi
  unfold spec_l1Once.f
  rw [e1]
  exact ⟨_, _, _, rfl, o1⟩
theorem l1Int_draw (l : List Int) (i h : Int) (m : List Int) (hl : l.length ≤ 140737488355328) (hi : OKC l i) (hm : 0 < m.length) : ∃ x i' h', spec_l1Int.f l i h m = some (x, i', h') ∧ OKC l i' ∧ x ∈ m := by
  obtain ⟨x, i1, g1, e1, o1, b1, c1, _⟩ := l1Below_draw l i h (m.length : Int) hl hi
  have c1 := c1 (by omega)
  unfold spec_l1Int.f
  rw [e1]
  simp only [Option.bind_some]
  rw [if_pos b1, if_pos c1]
  refine ⟨_, _, _, rfl, o1, ?_⟩
  obtain ⟨n, rfl⟩ := Int.eq_ofNat_of_zero_le b1
  have hn : n < m.length := by omega
  rw [rd_at (List.getElem?_eq_getElem hn)]
  exact List.getElem_mem hn
theorem l4Draw_l (l : List Int) (hl : l.length ≤ 140737488355328) : ∀ (d : Nat) (s : List S59) (c i h : Int), OKC l i → 1 ≤ s.length → s.length + d ≤ 1000 → ∃ a i' h', Ev (fun k => spec_l4Draw.l0 k s c (d : Int) l i h) (a, i', h') ∧ OKC l i' ∧ 1 ≤ a.length ∧ a.length ≤ 1000 := by
  intro d
  induction d with
  | zero =>
    intro s c i h hi h1 hm
    refine ⟨s, i, h, ?_, hi, h1, by omega⟩
    refine Ev.step (fun k => by rw [spec_l4Draw.l0]) ?_
    exact Ev.no (by simp) (Ev.now _)
  | succ d ih =>
    intro s c i h hi h1 hm
    obtain ⟨x0, i0, g0, e0, o0, _⟩ := l1Below_draw l i h 2 hl hi
    obtain ⟨x1, i1, g1, e1, o1, b1, c1, _⟩ := l1Below_draw l i0 g0 (s.length : Int) hl o0
    obtain ⟨x2, i2, g2, e2, o2, _⟩ := l1Below_draw l i1 g1 5 hl o1
    obtain ⟨x3, i3, g3, e3, o3, _⟩ := l1Below_draw l i2 g2 50 hl o2
    obtain ⟨x4, i4, g4, e4, o4, _⟩ := l1Below_draw l i3 g3 3 hl o3
    obtain ⟨a, i', h', ea, oa, la⟩ := ih (s ++ [⟨wrap64 (wrap64 (c + 1) + x0), (rd_T59 s x1).f0, x2, x3, x4⟩]) (wrap64 (wrap64 (c + 1) + x0)) i4 g4 o4 (by simp) (by simp; omega)
    refine ⟨a, i', h', ?_, oa, la⟩
    refine Ev.step (fun k => by rw [spec_l4Draw.l0]) ?_
    refine Ev.yes (by omega) (Ev.pure e0 (Ev.pure e1 (Ev.yes b1 (Ev.yes (c1 (by omega)) (Ev.pure e2 (Ev.pure e3 (Ev.pure e4 (Ev.yes (by omega) ?_))))))))
    have e : wrap64 (((d + 1 : Nat) : Int) - 1) = (d : Int) := by
      rw [w64 (by omega)]
      omega
    rw [e]
    exact ea
theorem l4Draw_ev (l : List Int) (hl : l.length ≤ 140737488355328) (i h : Int) (hi : OKC l i) : ∃ a i' h', Ev (fun k => spec_l4Draw.f k l i h) (a, i', h') ∧ OKC l i' ∧ 1 ≤ a.length ∧ a.length ≤ 1000 := by
  obtain ⟨x0, i0, g0, e0, o0, b0, c0, _⟩ := l1Below_draw l i h 7 hl hi
  obtain ⟨n, rfl⟩ := Int.eq_ofNat_of_zero_le b0
  have := c0 (by decide)
  obtain ⟨a, i', h', ea, oa, la⟩ := l4Draw_l l hl n [⟨0, -1, 0, 0, 0⟩] 0 i0 g0 o0 (by simp) (by simp; omega)
  refine ⟨a, i', h', ?_, oa, la⟩
  unfold spec_l4Draw.f
  exact Ev.pure e0 ea

/-- A number put into an ascending list, where it isn't in it. -/
def lowers (n : Int) : List Int → Nat
  | [] => 0
  | x :: t => if x < n then lowers n t + 1 else 0
def putL (l : List Int) (n : Int) : List Int := if (l.drop (lowers n l)).head? = some n then l else l.take (lowers n l) ++ (n :: l.drop (lowers n l))
def putAll (l acc : List Int) : List Int := l.foldl putL acc
theorem lowers_le (n : Int) (l : List Int) : lowers n l ≤ l.length := by
  induction l with
  | nil => exact Nat.zero_le _
  | cons x t ih =>
    unfold lowers
    split
    · simp; omega
    · exact Nat.zero_le _
theorem putL_nil (n : Int) : putL [] n = [n] := rfl
theorem putL_lt {x n : Int} (t : List Int) (h : x < n) : putL (x :: t) n = x :: putL t n := by
  unfold putL
  rw [lowers, if_pos h]
  simp only [List.drop_succ_cons, List.take_succ_cons, List.cons_append]
  split <;> rfl
theorem putL_eq (n : Int) (t : List Int) : putL (n :: t) n = n :: t := by
  unfold putL
  rw [lowers, if_neg (Int.lt_irrefl n)]
  simp
theorem putL_gt {x n : Int} (t : List Int) (h : n < x) : putL (x :: t) n = n :: x :: t := by
  unfold putL
  rw [lowers, if_neg (show ¬ x < n by omega)]
  rw [if_neg (by simp; omega)]
  simp
theorem mem_putL (l : List Int) (n x : Int) : x ∈ putL l n ↔ x = n ∨ x ∈ l := by
  induction l with
  | nil => simp [putL_nil]
  | cons y t ih =>
    rcases Int.lt_trichotomy y n with h | h | h
    · rw [putL_lt t h, List.mem_cons, ih, List.mem_cons]
      constructor
      · rintro (h | h | h)
        · exact .inr (.inl h)
        · exact .inl h
        · exact .inr (.inr h)
      · rintro (h | h | h)
        · exact .inr (.inl h)
        · exact .inl h
        · exact .inr (.inr h)
    · subst h
      rw [putL_eq, List.mem_cons]
      constructor
      · rintro (h | h)
        · exact .inl h
        · exact .inr (.inr h)
      · rintro (h | h | h)
        · exact .inl h
        · exact .inl h
        · exact .inr h
    · rw [putL_gt t h, List.mem_cons]
theorem putL_up (l : List Int) (n : Int) (h : l.Pairwise (· < ·)) : (putL l n).Pairwise (· < ·) := by
  induction l with
  | nil => rw [putL_nil]; exact List.pairwise_singleton _ _
  | cons y t ih =>
    obtain ⟨h1, h2⟩ := List.pairwise_cons.1 h
    rcases Int.lt_trichotomy y n with g | g | g
    · rw [putL_lt t g]
      refine List.pairwise_cons.2 ⟨fun z hz => ?_, ih h2⟩
      rcases (mem_putL t n z).1 hz with rfl | hz
      · exact g
      · exact h1 z hz
    · subst g
      rw [putL_eq]
      exact h
    · rw [putL_gt t g]
      refine List.pairwise_cons.2 ⟨fun z hz => ?_, h⟩
      rcases List.mem_cons.1 hz with rfl | hz
      · exact g
      · have := h1 z hz
        omega
theorem mem_putAll (l : List Int) : ∀ (acc : List Int) (x : Int), x ∈ putAll l acc ↔ x ∈ acc ∨ x ∈ l := by
  induction l with
  | nil => intro acc x; simp [putAll]
  | cons y t ih =>
    intro acc x
    have := ih (putL acc y) x
    rw [mem_putL] at this
    show x ∈ putAll t (putL acc y) ↔ _
    rw [this, List.mem_cons]
    constructor
    · rintro ((h | h) | h)
      · exact .inr (.inl h)
      · exact .inl h
      · exact .inr (.inr h)
    · rintro (h | h | h)
      · exact .inl (.inr h)
      · exact .inl (.inl h)
      · exact .inr h
theorem putAll_up (l : List Int) : ∀ (acc : List Int), acc.Pairwise (· < ·) → (putAll l acc).Pairwise (· < ·) := by
  induction l with
  | nil => intro acc h; exact h
  | cons y t ih => intro acc h; exact ih _ (putL_up acc y h)
theorem putL_len (l : List Int) (n : Int) : (putL l n).length ≤ l.length + 1 ∧ l.length ≤ (putL l n).length := by
  unfold putL
  have := lowers_le n l
  split
  · omega
  · simp
    omega
theorem putAll_len (l : List Int) : ∀ (acc : List Int), (putAll l acc).length ≤ acc.length + l.length := by
  induction l with
  | nil => intro acc; simp [putAll]
  | cons y t ih =>
    intro acc
    have h1 := ih (putL acc y)
    have h2 := putL_len acc y
    show (putAll t (putL acc y)).length ≤ _
    simp
    omega
/-- Two lists that ascend and hold the same are the same. -/
theorem up_ext : ∀ (a b : List Int), a.Pairwise (· < ·) → b.Pairwise (· < ·) → (∀ x, x ∈ a ↔ x ∈ b) → a = b
  | [], [], _, _, _ => rfl
  | [], y :: t, _, _, h => by have := (h y).2 List.mem_cons_self; cases this
  | x :: s, [], _, _, h => by have := (h x).1 List.mem_cons_self; cases this
  | x :: s, y :: t, ha, hb, h => by
    obtain ⟨a1, a2⟩ := List.pairwise_cons.1 ha
    obtain ⟨b1, b2⟩ := List.pairwise_cons.1 hb
    have e : x = y := by
      rcases List.mem_cons.1 ((h x).1 List.mem_cons_self) with e | e
      · exact e
      · rcases List.mem_cons.1 ((h y).2 List.mem_cons_self) with e' | e'
        · exact e'.symm
        · have h1 := b1 x e
          have h2 := a1 y e'
          omega
    subst e
    congr 1
    refine up_ext s t a2 b2 (fun z => ⟨fun hz => ?_, fun hz => ?_⟩)
    · rcases List.mem_cons.1 ((h z).1 (List.mem_cons_of_mem _ hz)) with e | e
      · subst e
        have := a1 z hz
        omega
      · exact e
    · rcases List.mem_cons.1 ((h z).2 (List.mem_cons_of_mem _ hz)) with e | e
      · subst e
        have := b1 z hz
        omega
      · exact e

theorem lowers_get (n : Int) (l : List Int) : (∀ (i : Nat) (x : Int), i < lowers n l → l[i]? = some x → x < n) ∧ (∀ x : Int, l[lowers n l]? = some x → ¬ x < n) := by
  induction l with
  | nil => exact ⟨fun i x h => by simp [lowers] at h, fun x h => by simp at h⟩
  | cons y t ih =>
    by_cases h : y < n
    · have e : lowers n (y :: t) = lowers n t + 1 := by rw [lowers, if_pos h]
      rw [e]
      refine ⟨fun i x hi hx => ?_, fun x hx => ?_⟩
      · cases i with
        | zero => simp at hx; subst hx; exact h
        | succ i => exact ih.1 i x (by omega) (by simpa using hx)
      · exact ih.2 x (by simpa using hx)
    · have e : lowers n (y :: t) = 0 := by rw [lowers, if_neg h]
      rw [e]
      exact ⟨fun i x hi => by omega, fun x hx => by simp at hx; subst hx; exact h⟩
theorem rd_get (l : List Int) (i : Nat) (h : i < l.length) : l[i]? = some (rd l (i : Int)) := by
  rw [List.getElem?_eq_getElem h]
  congr 1
  exact (rd_at (List.getElem?_eq_getElem h)).symm
theorem specPut_ev (l : List Int) (n : Int) (hl : l.length ≤ 4000000) : Ev (fun k => spec_l6Put.f k l n) (putL l n) := by
  have hle := lowers_le n l
  have hget := lowers_get n l
  suffices H : ∀ (d i : Nat), i + d = lowers n l → Ev (fun k => spec_l6Put.l0 k l n (i : Int)) (putL l n) from H (lowers n l) 0 (by omega)
  intro d
  induction d with
  | zero =>
    intro i hi
    have hi' : i = lowers n l := by omega
    refine Ev.step (fun k => by rw [spec_l6Put.l0]) ?_
    by_cases h1 : (i : Int) < (l.length : Int)
    · have hx := rd_get l i (by omega)
      have h2 := hget.2 (rd l (i : Int)) (by rw [← hi']; exact hx)
      have hh : (l.drop (lowers n l)).head? = some (rd l (i : Int)) := by
        rw [← hi', List.head?_drop]
        exact hx
      refine Ev.yes h1 (Ev.yes (nnc _) (Ev.no h2 ?_))
      by_cases h3 : rd l (i : Int) = n
      · refine Ev.yes h3 (Ev.pure rfl (Ev.yes (by simp; omega) (Ev.is (Ev.now _) ?_)))
        unfold putL
        rw [if_pos (by rw [hh, h3])]
        rfl
      · refine Ev.no h3 (Ev.pure rfl (Ev.yes (by omega) (Ev.yes (by simp; omega) (Ev.pure rfl (Ev.pure rfl (Ev.yes (by simp; omega) (Ev.pure rfl (Ev.yes (by simp; omega) (Ev.is (Ev.now _) ?_)))))))))
        unfold putL
        rw [if_neg (by rw [hh]; intro e; exact h3 (Option.some.inj e)), Int.toNat_natCast, hi']
        simp
    · have hh : (l.drop (lowers n l)).head? = none := by
        rw [← hi', List.head?_drop, List.getElem?_eq_none (by omega)]
      refine Ev.no h1 (Ev.pure rfl (Ev.yes (nnc _) (Ev.yes (by omega) (Ev.yes (by simp; omega) (Ev.pure rfl (Ev.pure rfl (Ev.yes (by simp; omega) (Ev.pure rfl (Ev.yes (by simp; omega) (Ev.is (Ev.now _) ?_))))))))))
      unfold putL
      rw [if_neg (by rw [hh]; intro e; cases e), Int.toNat_natCast, hi']
      simp
  | succ d ih =>
    intro i hi
    have hlt : i < l.length := by omega
    refine Ev.step (fun k => by rw [spec_l6Put.l0]) ?_
    refine Ev.yes (ltc hlt) (Ev.yes (nnc _) (Ev.yes (hget.1 i _ (by omega) (rd_get l i hlt)) ?_))
    rw [w64s hlt (by omega)]
    exact ih (i + 1) (by omega)

theorem l4Any_l (l : List Int) (i h : Int) : ∀ (d : Nat) (s : List S59), s.length + d = 1017 → ∃ a, Ev (fun k => spec_l4Any.l0 k s l i h) (a, i, h) ∧ a.length ≤ 1017 := by
  intro d
  induction d with
  | zero =>
    intro s hs
    refine ⟨s, ?_, by omega⟩
    refine Ev.step (fun k => by rw [spec_l4Any.l0]) ?_
    exact Ev.no (by omega) (Ev.now _)
  | succ d ih =>
    intro s hs
    by_cases h1 : (s.length : Int) < 17
    · obtain ⟨a, ea, la⟩ := ih (s ++ [⟨wrap64 (100 + (s.length : Int)), 0, 0, 0, 0⟩]) (by simp; omega)
      refine ⟨a, ?_, la⟩
      refine Ev.step (fun k => by rw [spec_l4Any.l0]) ?_
      exact Ev.yes h1 (Ev.yes (by omega) ea)
    · refine ⟨s, ?_, by omega⟩
      refine Ev.step (fun k => by rw [spec_l4Any.l0]) ?_
      exact Ev.no h1 (Ev.now _)
theorem l4Any_ev (l : List Int) (hl : l.length ≤ 140737488355328) (i h : Int) (hi : OKC l i) : ∃ a i' h', Ev (fun k => spec_l4Any.f k l i h) (a, i', h') ∧ OKC l i' ∧ a.length ≤ 1017 := by
  obtain ⟨a, i0, g0, ea, o0, la1, la2⟩ := l4Draw_ev l hl i h hi
  obtain ⟨x1, i1, g1, e1, o1, b1, c1, _⟩ := l1Below_draw l i0 g0 (a.length : Int) hl o0
  have c1 := c1 (by omega)
  obtain ⟨x2, i2, g2, e2, o2, _⟩ := l1Below_draw l i1 g1 12 hl o1
  unfold spec_l4Any.f
  by_cases h0 : x2 = 0
  · obtain ⟨y, i3, g3, e3, o3, _⟩ := l1Int_draw l i2 g2 [-1, -2, 0, 99, (rd_T59 a x1).f0] hl o2 (by simp)
    refine ⟨_, _, _, Ev.bind ea (Ev.pure e1 (Ev.pure e2 (Ev.yes h0 (Ev.yes b1 (Ev.yes c1 (Ev.pure e3 (Ev.now _))))))), o3, ?_⟩
    simp only [List.length_set]
    omega
  by_cases h1 : x2 = 1
  · obtain ⟨y, i3, g3, e3, o3, _⟩ := l1Int_draw l i2 g2 [-1, 9, 10] hl o2 (by simp)
    refine ⟨_, _, _, Ev.bind ea (Ev.pure e1 (Ev.pure e2 (Ev.no h0 (Ev.yes h1 (Ev.pure e3 (Ev.yes b1 (Ev.yes c1 (Ev.now _)))))))), o3, ?_⟩
    simp only [List.length_set]
    omega
  by_cases h2 : x2 = 2
  · obtain ⟨y, i3, g3, e3, o3, _⟩ := l1Int_draw l i2 g2 [-1, 999, 1000] hl o2 (by simp)
    refine ⟨_, _, _, Ev.bind ea (Ev.pure e1 (Ev.pure e2 (Ev.no h0 (Ev.no h1 (Ev.yes h2 (Ev.pure e3 (Ev.yes b1 (Ev.yes c1 (Ev.now _))))))))), o3, ?_⟩
    simp only [List.length_set]
    omega
  by_cases h3 : x2 = 3
  · obtain ⟨y, i3, g3, e3, o3, _⟩ := l1Int_draw l i2 g2 [-1, 5, 6] hl o2 (by simp)
    refine ⟨_, _, _, Ev.bind ea (Ev.pure e1 (Ev.pure e2 (Ev.no h0 (Ev.no h1 (Ev.no h2 (Ev.yes h3 (Ev.pure e3 (Ev.yes b1 (Ev.yes c1 (Ev.now _)))))))))), o3, ?_⟩
    simp only [List.length_set]
    omega
  by_cases h4 : x2 = 4
  · obtain ⟨y, i3, g3, e3, o3, _⟩ := l1Int_draw l i2 g2 [-1, 0, 5, 9223372036854775807] hl o2 (by simp)
    refine ⟨_, _, _, Ev.bind ea (Ev.pure e1 (Ev.pure e2 (Ev.no h0 (Ev.no h1 (Ev.no h2 (Ev.no h3 (Ev.yes h4 (Ev.pure e3 (Ev.yes b1 (Ev.yes c1 (Ev.now _))))))))))), o3, ?_⟩
    simp only [List.length_set]
    omega
  by_cases h5 : x2 = 5
  · exact ⟨_, _, _, Ev.bind ea (Ev.pure e1 (Ev.pure e2 (Ev.no h0 (Ev.no h1 (Ev.no h2 (Ev.no h3 (Ev.no h4 (Ev.yes h5 (Ev.now _))))))))), o2, by simp⟩
  by_cases h6 : x2 = 6
  · obtain ⟨a', ea', la'⟩ := l4Any_l l i2 g2 (1017 - a.length) a (by omega)
    exact ⟨_, _, _, Ev.bind ea (Ev.pure e1 (Ev.pure e2 (Ev.no h0 (Ev.no h1 (Ev.no h2 (Ev.no h3 (Ev.no h4 (Ev.no h5 (Ev.yes h6 ea'))))))))), o2, la'⟩
  · exact ⟨_, _, _, Ev.bind ea (Ev.pure e1 (Ev.pure e2 (Ev.no h0 (Ev.no h1 (Ev.no h2 (Ev.no h3 (Ev.no h4 (Ev.no h5 (Ev.no h6 (Ev.now _)))))))))), o2, by simp only; omega⟩
theorem l7Hidden_l (l : List Int) (hl : l.length ≤ 140737488355328) : ∀ (d : Nat) (s : List Int) (i h : Int), OKC l i → s.length + d ≤ 1000 → ∃ a i' h', Ev (fun k => spec_l7Hidden.l0 k s (d : Int) l i h) (a, i', h') ∧ OKC l i' ∧ a.length ≤ 1000 := by
  intro d
  induction d with
  | zero =>
    intro s i h hi hm
    refine ⟨s, i, h, ?_, hi, by omega⟩
    refine Ev.step (fun k => by rw [spec_l7Hidden.l0]) ?_
    exact Ev.no (by simp) (Ev.now _)
  | succ d ih =>
    intro s i h hi hm
    obtain ⟨x0, i0, g0, e0, o0, _⟩ := l1Below_draw l i h 5 hl hi
    have hp := putL_len s x0
    obtain ⟨a, i', h', ea, oa, la⟩ := ih (putL s x0) i0 g0 o0 (by omega)
    refine ⟨a, i', h', ?_, oa, la⟩
    refine Ev.step (fun k => by rw [spec_l7Hidden.l0]) ?_
    refine Ev.yes (by omega) (Ev.pure e0 (Ev.bind (specPut_ev s x0 (by omega)) ?_))
    have e : wrap64 (((d + 1 : Nat) : Int) - 1) = (d : Int) := by
      rw [w64 (by omega)]
      omega
    rw [e]
    exact ea
theorem l7Hidden_ev (l : List Int) (hl : l.length ≤ 140737488355328) (i h : Int) (hi : OKC l i) : ∃ a i' h', Ev (fun k => spec_l7Hidden.f k l i h) (a, i', h') ∧ OKC l i' ∧ a.length ≤ 1000 := by
  obtain ⟨x0, i0, g0, e0, o0, b0, c0, _⟩ := l1Below_draw l i h 3 hl hi
  obtain ⟨n, rfl⟩ := Int.eq_ofNat_of_zero_le b0
  have := c0 (by decide)
  obtain ⟨a, i', h', ea, oa, la⟩ := l7Hidden_l l hl n [] i0 g0 o0 (by simp; omega)
  refine ⟨a, i', h', ?_, oa, la⟩
  unfold spec_l7Hidden.f
  exact Ev.pure e0 ea
theorem drawSeen_ev (l : List Int) (hl : l.length ≤ 140737488355328) : ∃ a s b, Ev (fun k => spec_DrawSeenBy.f k l) (a, s, b) ∧ a.length ≤ 1017 ∧ s.length ≤ 1000 ∧ 0 ≤ b ∧ b ≤ 3 := by
  obtain ⟨g0, d0⟩ := l1New_ev l hl
  obtain ⟨a, i1, g1, d1, o1, la⟩ := l4Any_ev l hl 0 g0 ⟨Int.le_refl _, by omega⟩
  obtain ⟨s, i2, g2, d2, o2, ls⟩ := l7Hidden_ev l hl i1 g1 o1
  obtain ⟨b, i3, g3, d3, o3, b3, c3, _⟩ := l1Below_draw l i2 g2 4 hl o2
  have := c3 (by decide)
  refine ⟨a, s, b, ?_, la, ls, b3, by omega⟩
  unfold spec_DrawSeenBy.f
  exact Ev.bind d0 (Ev.bind d1 (Ev.bind d2 (Ev.pure d3 (Ev.now _))))

theorem mem_seenUpTo (l : List S59) (h : List Int) (b : Int) (n : Nat) (x : S59) : x ∈ seenUpTo l h b n ↔ ∃ i, i < n ∧ visible l h b i = true ∧ rd_T59 l (i : Int) = x := by
  unfold seenUpTo
  simp only [List.mem_map, List.mem_filter, List.mem_range, and_assoc]
theorem mem_seenL {l : List S59} {h : List Int} {b : Int} {x : S59} (hx : x ∈ seenL l h b) : Tree l ∧ x ∈ l := by
  unfold seenL at hx
  split at hx
  · rename_i hd
    refine ⟨(doc_iff l).1 hd, ?_⟩
    obtain ⟨i, hi, _, e⟩ := (mem_seenUpTo l h b l.length x).1 hx
    rw [rdN_at (List.getElem?_eq_getElem hi)] at e
    rw [← e]
    exact List.getElem_mem hi
  · cases hx
theorem tree_nonneg {l : List S59} (h : Tree l) {x : S59} (hx : x ∈ l) : 0 ≤ x.f0 := by
  obtain ⟨r, t, e, h0, _⟩ := h.root
  have hu := h.up
  rw [e] at hu hx
  rcases List.mem_cons.1 hx with rfl | hx
  · omega
  · have := (List.pairwise_cons.1 hu).1 x hx
    omega

theorem resFrom_or (b c w : Int) (t : List S59) : resFrom b c w t = -1 ∨ ∃ x, x ∈ t ∧ x.f0 = resFrom b c w t ∧ handle b c (resFrom b c w t) = w := by
  induction t with
  | nil => exact .inl rfl
  | cons x t ih =>
    unfold resFrom
    by_cases h : handle b c x.f0 = w
    · rw [if_pos h]
      exact .inr ⟨x, List.mem_cons_self, rfl, h⟩
    · rw [if_neg h]
      rcases ih with ih | ⟨y, hy, e⟩
      · exact .inl ih
      · exact .inr ⟨y, List.mem_cons_of_mem _ hy, e⟩
theorem resFrom_found (b c w : Int) (t : List S59) (h0 : ∀ y ∈ t, 0 ≤ y.f0) (x : S59) (hx : x ∈ t) (h : handle b c x.f0 = w) : 0 ≤ resFrom b c w t := by
  induction t with
  | nil => cases hx
  | cons y t ih =>
    unfold resFrom
    by_cases e : handle b c y.f0 = w
    · rw [if_pos e]
      exact h0 y List.mem_cons_self
    · rw [if_neg e]
      rcases List.mem_cons.1 hx with rfl | hx
      · exact absurd h e
      · exact ih (fun z hz => h0 z (List.mem_cons_of_mem _ hz)) hx
theorem handle_pos (a b c : Int) (ha : 1 ≤ a ∧ a ≤ 9999) (hb : 0 ≤ b ∧ b ≤ 5) (hc : 0 ≤ c ∧ c ≤ 99) : 1 ≤ handle a b c := by
  unfold handle
  rw [if_pos ⟨ha, hb, hc⟩]
  omega
theorem foreign_none (f : Int → Int) (ws : List Int) (h : ∀ w ∈ ws, 0 ≤ f w) : ∀ c, foreign f ws c = c := by
  induction ws with
  | nil => intro c; rfl
  | cons w t ih =>
    intro c
    unfold foreign
    have := h w List.mem_cons_self
    rw [if_neg (by omega)]
    exact ih (fun z hz => h z (List.mem_cons_of_mem _ hz)) c
theorem drawResolve_ev (l : List Int) (hl : l.length ≤ 140737488355328) : ∃ a s p b w, Ev (fun k => spec_DrawResolveHandle.f k l) (a, s, p, b, w) ∧ a.length ≤ 1017 ∧ s.length ≤ 1000 ∧ 0 ≤ b ∧ b ≤ 3 := by
  obtain ⟨a, s, b, ed, la, ls, hb0, hb3⟩ := drawSeen_ev l hl
  obtain ⟨g0, d0⟩ := l1New_ev l hl
  have o : OKC l 0 := ⟨Int.le_refl _, by omega⟩
  obtain ⟨p, i1, g1, d1, o1, _⟩ := l1Int_draw l 0 g0 [77, 5, 0] hl o (by simp)
  obtain ⟨n, i2, g2, d2, o2, _⟩ := l1Below_draw l 0 g0 9 hl o
  obtain ⟨t, i3, g3, d3, o3⟩ := l1Once_draw l i2 g2 3 hl o2
  have hf : Ev (fun k => spec_DrawHandlesFor.f k l) (a, s, p, b) := by
    unfold spec_DrawHandlesFor.f
    exact Ev.bind ed (Ev.bind d0 (Ev.pure d1 (Ev.now _)))
  unfold spec_DrawResolveHandle.f
  by_cases ht : t = true
  · obtain ⟨m, i4, g4, d4, o4, _⟩ := l1Below_draw l i3 g3 4 hl o3
    exact ⟨a, s, p, b, _, Ev.bind hf (Ev.bind d0 (Ev.pure d2 (Ev.bind (specHandle_ev p b n) (Ev.pure d3 (Ev.yes ht (Ev.pure d4 (Ev.bind (specHandle_ev p m n) (Ev.now _)))))))), la, ls, hb0, hb3⟩
  · exact ⟨a, s, p, b, _, Ev.bind hf (Ev.bind d0 (Ev.pure d2 (Ev.bind (specHandle_ev p b n) (Ev.pure d3 (Ev.no ht (Ev.now _)))))), la, ls, hb0, hb3⟩
theorem byHandle_told (a : List S59) (s : List Int) (p w r b : Int) :
    ((byHandle a s p w r b).2 = false ∧ (byHandle a s p w r b).1 = a) ∨ ((byHandle a s p w r b).2 = true ∧ 1 ≤ resolveL a s p b w ∧ ∃ z, 0 ≤ nodeOf (byHandle a s p w r b).1 (resolveL a s p b w) ∧ nodeOf (byHandle a s p w r b).1 (resolveL a s p b w) < (byHandle a s p w r b).1.length ∧ rd_T59 (byHandle a s p w r b).1 (nodeOf (byHandle a s p w r b).1 (resolveL a s p b w)) = z ∧ z.f4 = b ∧ z.f3 = r) := by
  unfold byHandle
  generalize resolveL a s p b w = id
  by_cases h : id < 0
  · rw [if_pos h]
    exact .inl ⟨rfl, rfl⟩
  rw [if_neg h]
  unfold guardL
  by_cases hm : mayEdit a s 3 id 0 0 r b = true
  · rw [if_pos hm]
    cases e : (applyL a 3 id 0 0 r b).2 with
    | false => exact .inl ⟨rfl, applyL_no a 3 id 0 0 r b e⟩
    | true =>
      right
      refine ⟨rfl, ?_, ?_⟩
      · have := (applyL_yes a 3 id 0 0 r b e).2.1
        unfold okEdit at this
        have := of_decide_eq_true this
        omega
      · rcases applyL_own a 3 id 0 0 r b e with ⟨h2, _⟩ | ⟨_, z, hz, z0, z4, z3⟩
        · omega
        · have ht := applyL_tree a 3 id 0 0 r b e
          have hn := node_at _ ht.up z hz
          rw [z0] at hn
          exact ⟨z, hn.1, hn.2.1, hn.2.2, z4, z3 rfl⟩
  · rw [if_neg hm]
    exact .inl ⟨rfl, rfl⟩
theorem FnHandles : laws_FnHandles.Pure := by
  intro code h1 h2 _
  have hm : maxLen = 9223372036854775807 := by decide
  refine Ev.rounds (g := fun k => laws_FnHandles.f k code) ?_
  unfold laws_FnHandles.f
  refine Ev.pure (a := decide ((code.length : Int) > 1048576)) rfl ?_
  by_cases hb : (code.length : Int) > 1048576
  · exact Ev.yes (decide_eq_true hb) (Ev.now _)
  refine Ev.no (by simpa using hb) ?_
  have hcl : code.length ≤ 140737488355328 := by omega
  obtain ⟨a, s, p, b, w, hd, la, ls, hb0, hb3⟩ := drawResolve_ev code hcl
  have j3 : ∀ t, t = false → Ev (fun k => laws_FnHandles.j3 k code t) true := by
    rintro t rfl
    refine Ev.step (fun k => by rw [laws_FnHandles.j3]) ?_
    obtain ⟨g0, d0⟩ := l1New_ev code hcl
    obtain ⟨r, i1, g1, d1, o1, _⟩ := l1Int_draw code 0 g0 [5, 999, 1000] hcl ⟨Int.le_refl _, by omega⟩ (by simp)
    have he : Ev (fun k => spec_DrawEditByHandle.f k code) (a, s, p, w, r, b) := by
      unfold spec_DrawEditByHandle.f
      exact Ev.bind hd (Ev.bind d0 (Ev.pure d1 (Ev.now _)))
    refine Ev.no (by simp) (Ev.bind he (Ev.bind (implBy_ev a s p w r b (by omega) (by omega)) (Ev.bind (implResolve_ev a s p b w (by omega) (by omega)) ?_)))
    have hlen := byHandle_len a s p w r b
    rcases byHandle_told a s p w r b with ⟨e1, e2⟩ | ⟨e1, e2, z, e3, e4, e5, e6, e7⟩
    · refine Ev.no (by rw [e1]; decide) (Ev.bind (implEqDocs_ev _ _ (by omega)) (Ev.is (Ev.now _) ?_))
      simp only [e2, decide_true]
    · have hno := implNodeOf_ev (byHandle a s p w r b).1 (resolveL a s p b w) (by omega)
      refine Ev.yes e1 (Ev.yes e2 (Ev.bind hno (Ev.yes e3 (Ev.yes e4 (Ev.yes (by rw [e5]; exact e7) (Ev.bind hno (Ev.yes e3 (Ev.yes e4 (Ev.is (Ev.now _) ?_)))))))))
      rw [e5, e6]
      simp
  have hhl : (handlesL a s p b).length = (seenL a s b).length := by
    unfold handlesL
    rw [List.length_map]
  have hsl := seenL_len a s b
  have hfo : (1 ≤ p ∧ p ≤ 9999) → (∀ x ∈ seenL a s b, x.f0 ≤ 99) → foreign (resolveL a s p b) (handlesL a s p b) 0 = 0 := by
    intro hp h99
    refine foreign_none _ _ (fun v hv => ?_) 0
    unfold handlesL at hv
    obtain ⟨x, hx, e⟩ := List.mem_map.1 hv
    have hn : ∀ y ∈ seenL a s b, 0 ≤ y.f0 := fun y hy => tree_nonneg (mem_seenL hy).1 (mem_seenL hy).2
    have := handle_pos p b x.f0 hp ⟨hb0, by omega⟩ ⟨hn x hx, h99 x hx⟩
    unfold resolveL
    rw [if_pos (by omega)]
    exact resFrom_found p b v _ hn x hx e
  have l0 : ∀ sm, (sm = true → 1 ≤ p ∧ p ≤ 9999) → Ev (fun k => laws_FnHandles.l0 k code a s p b (handlesL a s p b) sm (seenL a s b) 0) true := by
    intro sm hsm
    refine loop_list0 (seenL a s b) (fun k (t : Bool) i => laws_FnHandles.l0 k code a s p b (handlesL a s p b) t (seenL a s b) i) (fun _ _ => true) (fun i t => t = true → (1 ≤ p ∧ p ≤ 9999) ∧ ∀ (j : Nat) (x : S59), j < i → (seenL a s b)[j]? = some x → x.f0 ≤ 99) ?_ ?_ sm (fun h => ⟨hsm h, by omega⟩)
    · intro t ht
      refine Ev.step (fun k => by rw [laws_FnHandles.l0]) ?_
      refine Ev.no (nltc _) (Ev.bind (implSeen_ev a s b (by omega) (by omega)) (Ev.yes (by rw [hhl]) ?_))
      by_cases h : t = true
      · obtain ⟨hp, h99⟩ := ht h
        have hz := hfo hp (fun x hx => by
          obtain ⟨j, hj, e⟩ := List.getElem_of_mem hx
          exact h99 j x hj (by rw [List.getElem?_eq_getElem hj, e]))
        refine Ev.yes h (Ev.bind (implForeign_ev a s p b (handlesL a s p b) (by omega) (by omega) (by omega)) (j3 _ ?_))
        rw [hz]
        rfl
      · exact Ev.no h (j3 _ rfl)
    · intro i x t s' hi hx ht hs ih
      refine Ev.step (fun k => by rw [laws_FnHandles.l0]) ?_
      rw [rdN_at hx, w64s hi (by omega)]
      refine Ev.yes (ltc hi) ?_
      by_cases h : s' = true
      · obtain ⟨hp, h99⟩ := hs h
        refine Ev.yes h (Ev.yes (nnc _) (ih _ (fun hd => ⟨hp, fun j y hj hy => ?_⟩)))
        by_cases hji : j = i
        · subst hji
          rw [hx] at hy
          cases hy
          exact of_decide_eq_true hd
        · exact h99 j y (by omega) hy
      · exact Ev.no h (ih false (by simp))
  have j1 : ∀ sm, (sm = true → 1 ≤ p ∧ p ≤ 9999) → Ev (fun k => laws_FnHandles.j1 k code a s p b (handlesL a s p b) sm) true := by
    intro sm hsm
    refine Ev.step (fun k => by rw [laws_FnHandles.j1]) ?_
    exact Ev.bind (specSeen_ev a s b (by omega) (by omega)) (l0 sm hsm)
  have j0 : ∀ t, t = false → Ev (fun k => laws_FnHandles.j0 k code a s p b t) true := by
    rintro t rfl
    refine Ev.step (fun k => by rw [laws_FnHandles.j0]) ?_
    refine Ev.no (by simp) (Ev.bind (implHandles_ev a s p b (by omega) (by omega)) ?_)
    by_cases hp : p ≥ 1
    · exact Ev.yes hp (j1 _ (fun h => ⟨hp, of_decide_eq_true h⟩))
    · exact Ev.no hp (j1 _ (by simp))
  refine Ev.bind hd (Ev.bind (implResolve_ev a s p b w (by omega) (by omega)) ?_)
  by_cases hr : resolveL a s p b w ≥ 0
  · have hw : handle p b (resolveL a s p b w) = w ∧ nodeOf (seenL a s b) (resolveL a s p b w) ≥ 0 := by
      unfold resolveL at hr ⊢
      by_cases h1 : w ≥ 1
      · rw [if_pos h1] at hr ⊢
        rcases resFrom_or p b w (seenL a s b) with e | ⟨x, hx, e1, e2⟩
        · rw [e] at hr
          omega
        · exact ⟨e2, (nodeOf_mem _ _).2 ⟨x, hx, e1⟩⟩
      · rw [if_neg h1] at hr
        omega
    have hs : Ev (fun k => impl_SeesNode.f k a s b (resolveL a s p b w)) true := by
      unfold impl_SeesNode.f
      exact Ev.bind (implSeen_ev a s b (by omega) (by omega)) (Ev.bind (implNodeOf_ev _ _ (by omega)) (Ev.is (Ev.now _) (decide_eq_true hw.2)))
    exact Ev.yes hr (Ev.bind (implHandle_ev p b _) (Ev.yes hw.1 (Ev.bind hs (j0 _ rfl))))
  · exact Ev.no hr (j0 _ rfl)

end Go.Proofs.Ytiiibfpijmmbfaa.Pure
