/- FnExactDeriveFromString: the pure statement of the law, for every input: what the program's functions and the reference's come to is the same, or what the law says holds. No condition beside the statement's own. -/
import Derived.Test.YtijmcphmjlbpjacQFnExactDeriveFromStringx1
namespace Go.Proofs.Ytijmcphmjlbpjac.Pure
open Go.RowKit Go.Proofs.Ytijmcphmjlbpjac.QFnExactDeriveFromString Go.Proofs.YtijmcphmjlbpjacW.PrintWords Go.Proofs.YtijmcphmjlbpjacW.PrintLast Go.Proofs.YtijmcphmjlbpjacW.PrintMore
set_option linter.unusedVariables false
set_option linter.unusedSimpArgs false


theorem i64b {x : Int} (h : (Lit.int .i64 x).wf = true) : -9223372036854775808 ≤ x ∧ x ≤ 9223372036854775807 := by
  simp [Lit.wf, IntKind.min, IntKind.max, IntKind.signed, IntKind.bits] at h
  omega
theorem u8b {x : Int} (h : (Lit.int .u8 x).wf = true) : 0 ≤ x ∧ x ≤ 255 := by
  simp [Lit.wf, IntKind.min, IntKind.max, IntKind.signed, IntKind.bits] at h
  omega
theorem w64 {n : Int} (h : -9223372036854775808 ≤ n ∧ n ≤ 9223372036854775807) : wrap64 n = n := by unfold wrap64; omega
theorem w64s {i : Nat} {n : Nat} (h : i < n) (hn : n ≤ 9223372036854775807) : wrap64 ((i : Int) + 1) = ((i + 1 : Nat) : Int) := by unfold wrap64; omega
theorem ltc {i n : Nat} (h : i < n) : (i : Int) < (n : Int) := by omega
theorem nnc (i : Nat) : (0 : Int) ≤ (i : Int) := by omega
theorem nltc (n : Nat) : ¬ (n : Int) < (n : Int) := by omega
theorem rd_at {l : List Int} {i : Nat} {x : Int} (h : l[i]? = some x) : rd l (i : Int) = x := by
  unfold rd
  simp [List.getD, h]
/-- More rounds than some number. -/
theorem ev_k {α : Type} {g : Nat → Option α} {r : α} (h : Ev g r) : ∃ K, ∀ k, K ≤ k → g k = some r := h
theorem ev_succ {α : Type} {g : Nat → Option α} {r : α} (h : ∃ K, ∀ k, K ≤ k → g (k + 1) = some r) : Ev g r := by
  obtain ⟨K, h⟩ := h
  refine ⟨K + 1, fun k hk => ?_⟩
  obtain ⟨m, rfl⟩ : ∃ m, k = m + 1 := ⟨k - 1, by omega⟩
  exact h m (by omega)
/-- A loop over a list, from the front: what it comes to is told of the list's tails. -/
theorem loop_list {α σ ρ : Type} (l : List α) (L : Nat → σ → Int → Option ρ) (f : List α → σ → ρ) (I : Nat → σ → Prop)
    (hnil : ∀ s, I l.length s → Ev (fun k => L k s (l.length : Int)) (f [] s))
    (hcons : ∀ (i : Nat) (x : α) (t : List α) (s : σ), i < l.length → l[i]? = some x → l.drop (i + 1) = t → I i s →
      (∀ s', I (i + 1) s' → Ev (fun k => L k s' ((i + 1 : Nat) : Int)) (f t s')) → Ev (fun k => L k s (i : Int)) (f (x :: t) s)) :
    ∀ (i : Nat) (s : σ), i ≤ l.length → I i s → Ev (fun k => L k s (i : Int)) (f (l.drop i) s) := by
  intro i s hi hI
  generalize hd : l.length - i = d
  induction d generalizing i s with
  | zero =>
    have : i = l.length := by omega
    subst this
    rw [List.drop_length]
    exact hnil s hI
  | succ d ih =>
    have hlt : i < l.length := by omega
    rw [List.drop_eq_getElem_cons hlt]
    exact hcons i l[i] _ s hlt (List.getElem?_eq_getElem hlt) rfl hI (fun s' hI' => ih (i + 1) s' (by omega) hI' (by omega))
theorem loop_list0 {α σ ρ : Type} (l : List α) (L : Nat → σ → Int → Option ρ) (f : List α → σ → ρ) (I : Nat → σ → Prop)
    (hnil : ∀ s, I l.length s → Ev (fun k => L k s (l.length : Int)) (f [] s))
    (hcons : ∀ (i : Nat) (x : α) (t : List α) (s : σ), i < l.length → l[i]? = some x → l.drop (i + 1) = t → I i s →
      (∀ s', I (i + 1) s' → Ev (fun k => L k s' ((i + 1 : Nat) : Int)) (f t s')) → Ev (fun k => L k s (i : Int)) (f (x :: t) s))
    (s : σ) (hI : I 0 s) : Ev (fun k => L k s 0) (f l s) := by
  have := loop_list l L f I hnil hcons 0 s (Nat.zero_le _) hI
  simpa using this
theorem Ev.yes {α : Type} {c : Prop} [Decidable c] {f g : Nat → Option α} {r : α} (h : c) (e : Ev f r) : Ev (fun n => if c then f n else g n) r := by
  simp only [if_pos h]
  exact e
theorem Ev.no {α : Type} {c : Prop} [Decidable c] {f g : Nat → Option α} {r : α} (h : ¬ c) (e : Ev g r) : Ev (fun n => if c then f n else g n) r := by
  simp only [if_neg h]
  exact e
theorem Ev.pure {α β : Type} {x : Option α} {f : Nat → α → Option β} {a : α} {r : β} (h : x = some a) (k : Ev (fun n => f n a) r) : Ev (fun n => x.bind (f n)) r := by
  subst h
  exact k
theorem Ev.is {α : Type} {g : Nat → Option α} {r r' : α} (h : Ev g r) (e : r = r') : Ev g r' := e ▸ h

/-- A loop over the places of a row, with what holds at each: what it comes to. -/
theorem loop_run {σ ρ : Type} (n : Nat) (L : Nat → σ → Int → Option ρ) (I : Nat → σ → Prop) (r : ρ)
    (hdone : ∀ s, I n s → Ev (fun k => L k s (n : Int)) r)
    (hstep : ∀ i s, i < n → I i s → ∃ s', I (i + 1) s' ∧ ∃ K, ∀ k, K ≤ k → L (k + 1) s (i : Int) = L k s' ((i + 1 : Nat) : Int)) :
    ∀ (i : Nat) (s : σ), i ≤ n → I i s → Ev (fun k => L k s (i : Int)) r := by
  intro i s hi hI
  generalize hd : n - i = d
  induction d generalizing i s with
  | zero =>
    have : i = n := by omega
    subst this
    exact hdone s hI
  | succ d ih =>
    obtain ⟨s', hI', K, hK⟩ := hstep i s (by omega) hI
    obtain ⟨K', hK'⟩ := ih (i + 1) s' (by omega) hI' (by omega)
    refine ev_succ ⟨K + K', fun k hk => ?_⟩
    show L (k + 1) s (i : Int) = some r
    rw [hK k (by omega)]
    exact hK' k (by omega)
/-- Copying element by element. -/
theorem copy_loop {α β : Type} (l : List α) (g : α → β) (L : Nat → List β → Int → Option (List β))
    (hdone : ∀ k s, L (k + 1) s (l.length : Int) = some s)
    (hstep : ∀ k i x s, l[i]? = some x → i < l.length → s.length = l.length → L (k + 1) s (i : Int) = L k (s.set i (g x)) ((i + 1 : Nat) : Int))
    (s : List β) (hs : s.length = l.length) : Ev (fun k => L k s 0) (l.map g) := by
  refine loop_run l.length L (fun i s => s.length = l.length ∧ ∀ j, j < i → s[j]? = (l.map g)[j]?) _ ?_ ?_ 0 s (Nat.zero_le _) ⟨hs, fun j hj => by omega⟩
  · rintro s ⟨h1, h2⟩
    have : s = l.map g := by
      apply List.ext_getElem?
      intro j
      by_cases hj : j < l.length
      · exact h2 j hj
      · rw [List.getElem?_eq_none (by omega), List.getElem?_eq_none (by simp; omega)]
    subst this
    exact ev_succ ⟨0, fun k _ => hdone k _⟩
  · rintro i s hi ⟨h1, h2⟩
    have hx := List.getElem?_eq_getElem hi
    refine ⟨s.set i (g l[i]), ⟨by simp [h1], fun j hj => ?_⟩, 0, fun k _ => hstep k i _ s hx hi h1⟩
    by_cases hji : j = i
    · subst hji
      rw [List.getElem?_set_self (by omega)]
      simp [hi]
    · rw [List.getElem?_set_ne (by omega)]
      exact h2 j (by omega)
/-- Two rows held against each other, element by element. -/
theorem eq_loop {α : Type} [DecidableEq α] (a b : List α) (L : Nat → Int → Option Bool) (hlen : a.length = b.length)
    (hdone : ∀ k, L (k + 1) (a.length : Int) = some true)
    (hstep : ∀ k i x y, a[i]? = some x → b[i]? = some y → i < a.length → i < b.length → L (k + 1) (i : Int) = if x = y then L k ((i + 1 : Nat) : Int) else some false) :
    Ev (fun k => L k 0) (decide (a = b)) := by
  suffices H : ∀ d i, i ≤ a.length → a.length - i = d → Ev (fun k => L k (i : Int)) (decide (a.drop i = b.drop i)) by
    simpa using H _ 0 (Nat.zero_le _) rfl
  intro d
  induction d with
  | zero =>
    intro i hi hd
    have : i = a.length := by omega
    subst this
    refine ev_succ ⟨0, fun k _ => ?_⟩
    rw [List.drop_length, hlen, List.drop_length]
    rw [← hlen, hdone]
    simp
  | succ d ih =>
    intro i hi hd
    have h1 : i < a.length := by omega
    have h2 : i < b.length := by omega
    obtain ⟨K, hK⟩ := ih (i + 1) (by omega) (by omega)
    replace hK : ∀ k, K ≤ k → L k ((i + 1 : Nat) : Int) = some (decide (a.drop (i + 1) = b.drop (i + 1))) := hK
    refine ev_succ ⟨K, fun k hk => ?_⟩
    show L (k + 1) (i : Int) = _
    rw [hstep k i _ _ (List.getElem?_eq_getElem h1) (List.getElem?_eq_getElem h2) h1 h2, List.drop_eq_getElem_cons h1, List.drop_eq_getElem_cons h2]
    by_cases h : a[i] = b[i]
    · rw [if_pos h, hK k hk, h]
      simp only [List.cons.injEq, true_and]
    · rw [if_neg h]
      congr 1
      symm
      exact decide_eq_false (fun e => h (List.cons.inj e).1)
/-- Marks from c on, w a place. -/
def marks {β : Type} (m : Int → β) (w : Int) (c : Int) (n : Nat) : List β := (List.range n).map (fun i : Nat => m (c + w * (i : Int)))
theorem marks_len {β : Type} (m : Int → β) (w c : Int) (n : Nat) : (marks m w c n).length = n := by simp [marks]
theorem marks_at {β : Type} (m : Int → β) (w c : Int) (n i : Nat) (h : i < n) : (marks m w c n)[i]? = some (m (c + w * (i : Int))) := by simp [marks, h]
/-- Marking a row in place. -/
theorem mark_loop {β : Type} (m : Int → β) (w : Int) (n : Nat) (c0 : Int) (L : Nat → List β → Int → Int → Option (Int × List β))
    (hdone : ∀ k s c, s.length = n → L (k + 1) s c (n : Int) = some (c, s))
    (hstep : ∀ k i s, i < n → s.length = n → L (k + 1) s (c0 + w * (i : Int)) (i : Int) = L k (s.set i (m (c0 + w * (i : Int)))) (c0 + w * ((i + 1 : Nat) : Int)) ((i + 1 : Nat) : Int))
    (s : List β) (hs : s.length = n) : Ev (fun k => L k s c0 0) (c0 + w * (n : Int), marks m w c0 n) := by
  have := loop_run n (fun k (p : List β × Int) i => L k p.1 p.2 i) (fun i p => p.2 = c0 + w * (i : Int) ∧ p.1.length = n ∧ ∀ j, j < i → p.1[j]? = (marks m w c0 n)[j]?) (c0 + w * (n : Int), marks m w c0 n) ?_ ?_ 0 (s, c0) (Nat.zero_le _) ⟨by simp, hs, fun j hj => by omega⟩
  · exact this
  · rintro ⟨s, c⟩ ⟨h0, h1, h2⟩
    simp only at h0 h1 h2
    have : s = marks m w c0 n := by
      apply List.ext_getElem?
      intro j
      by_cases hj : j < n
      · exact h2 j hj
      · rw [List.getElem?_eq_none (by omega), List.getElem?_eq_none (by rw [marks_len]; omega)]
    subst this
    refine ev_succ ⟨0, fun k _ => ?_⟩
    show L (k + 1) _ c _ = _
    rw [hdone k _ c h1, h0]
  · rintro i ⟨s, c⟩ hi ⟨h0, h1, h2⟩
    simp only at h0 h1 h2
    refine ⟨(s.set i (m (c0 + w * (i : Int))), c0 + w * ((i + 1 : Nat) : Int)), ⟨rfl, by simp [h1], fun j hj => ?_⟩, 0, fun k _ => ?_⟩
    · by_cases hji : j = i
      · subst hji
        simp only
        rw [List.getElem?_set_self (by omega), marks_at _ _ _ _ _ hi]
      · simp only
        rw [List.getElem?_set_ne (by omega)]
        exact h2 j (by omega)
    · simp only [h0]
      exact hstep k i s hi h1
/-- A row's marks told again. -/
theorem held_loop (w : Int) (n : Nat) (c0 : Int) (L : Nat → Int → Int → Option Int)
    (hdone : ∀ k c, L (k + 1) c (n : Int) = some c)
    (hstep : ∀ k i, i < n → L (k + 1) (c0 + w * (i : Int)) (i : Int) = L k (c0 + w * ((i + 1 : Nat) : Int)) ((i + 1 : Nat) : Int)) :
    Ev (fun k => L k c0 0) (c0 + w * (n : Int)) := by
  have := loop_run n L (fun i c => c = c0 + w * (i : Int)) (c0 + w * (n : Int)) ?_ ?_ 0 c0 (Nat.zero_le _) (by simp)
  · exact this
  · rintro c h0
    refine ev_succ ⟨0, fun k _ => ?_⟩
    show L (k + 1) c _ = _
    rw [hdone k c, h0]
  · rintro i c hi h0
    subst h0
    exact ⟨_, rfl, 0, fun k _ => hstep k i hi⟩
/-- As 'loop_run', where a round may take several. -/
theorem loop_ev {σ ρ : Type} (n : Nat) (L : Nat → σ → Int → Option ρ) (I : Nat → σ → Prop) (r : ρ)
    (hdone : ∀ s, I n s → Ev (fun k => L k s (n : Int)) r)
    (hstep : ∀ i s, i < n → I i s → ∃ s', I (i + 1) s' ∧ (Ev (fun k => L k s' ((i + 1 : Nat) : Int)) r → Ev (fun k => L k s (i : Int)) r)) :
    ∀ (i : Nat) (s : σ), i ≤ n → I i s → Ev (fun k => L k s (i : Int)) r := by
  intro i s hi hI
  generalize hd : n - i = d
  induction d generalizing i s with
  | zero =>
    have : i = n := by omega
    subst this
    exact hdone s hI
  | succ d ih =>
    obtain ⟨s', hI', hs⟩ := hstep i s (by omega) hI
    exact hs (ih (i + 1) s' (by omega) hI' (by omega))

def b2i (l : List Int) : List Int := (l.length : Int) :: l

def foldM (a v : Int) : Int := (a * 1000003 + v % 2147483647 + 13) % 2147483647
theorem foldM_b (a v : Int) : 0 ≤ foldM a v ∧ foldM a v < 2147483647 := by unfold foldM; omega
theorem foldl_b (l : List Int) (a : Int) (h : 0 ≤ a ∧ a < 2147483647) : 0 ≤ l.foldl foldM a ∧ l.foldl foldM a < 2147483647 := by
  induction l generalizing a with
  | nil => exact h
  | cons x t ih => exact ih _ (foldM_b a x)
theorem fold_eq (a v : Int) (h : 0 ≤ a ∧ a < 2147483647) : Int.tmod (wrap64 ((wrap64 ((wrap64 (a * 1000003)) + v % 2147483647)) + 13)) 2147483647 = foldM a v := by
  rw [w64 (n := a * 1000003) (by omega), w64 (n := a * 1000003 + v % 2147483647) (by omega), w64 (by omega)]
  exact Int.tmod_eq_emod_of_nonneg (by omega)

def khash (key : Int) (l : List Int) : Int := foldM (l.foldl foldM (foldM 11 key)) key
theorem khash_b (key : Int) (l : List Int) : 0 ≤ khash key l ∧ khash key l < 2147483647 := foldM_b _ _

theorem bytesOf_b (s : ByteArray) : ∀ x ∈ bytesOf s, 0 ≤ x ∧ x ≤ 255 := by
  intro x hx
  unfold bytesOf at hx
  obtain ⟨b, _, rfl⟩ := List.mem_map.1 hx
  have := b.toNat_lt
  omega
theorem b2i_len (l : List Int) : (b2i l).length = l.length + 1 := by simp [b2i]
def derive (key : Int) (s : ByteArray) : Int := if khash key (b2i (bytesOf s)) = 0 then 1 else khash key (b2i (bytesOf s))

theorem specB2I_ev (l : List Int) (hl : l.length ≤ 17592186044000) (hb : ∀ x ∈ l, 0 ≤ x ∧ x ≤ 255) : Ev (fun k => spec_BytesToInts.f k l) (b2i l) := by
  refine loop_run l.length (fun k s i => spec_BytesToInts.l0 k l s i) (fun i s => s = (l.length : Int) :: l.take i) _ ?_ ?_ 0 _ (Nat.zero_le _) (by simp)
  · rintro s rfl
    exact ev_succ ⟨0, fun k _ => by simp only [spec_BytesToInts.l0, nltc, if_false, b2i, List.take_length]⟩
  · rintro i s hi rfl
    have hx := List.getElem?_eq_getElem hi
    have hbx := hb _ (List.mem_of_getElem? hx)
    refine ⟨_, rfl, 0, fun k _ => ?_⟩
    simp only [spec_BytesToInts.l0, ltc hi, nnc, if_true, rd_at hx, w64s hi (show l.length ≤ 9223372036854775807 by omega)]
    rw [if_pos (by simp; omega), w64 (by omega), List.take_add_one, hx]
    rfl

theorem l1In (a b c : Int) : spec_l1In.f a b c = some (decide (b ≤ a ∧ a ≤ c)) := by
  unfold spec_l1In.f
  simp only [ge_iff_le]
  by_cases h : b ≤ a
  · rw [if_pos h]
    simp [h]
  · rw [if_neg h]
    simp [h]

theorem modT (p q : Int) (h : 1 ≤ q) : (if Int.tmod p q < 0 then Int.tmod p q + q else Int.tmod p q) = p % q ∧ -q < Int.tmod p q ∧ Int.tmod p q < q := by
  have h1 := Int.tmod_lt_of_pos p (show 0 < q by omega)
  have h2 : -q < Int.tmod p q := by
    have := Int.tmod_lt_of_pos (-p) (show 0 < q by omega)
    rw [Int.neg_tmod] at this
    omega
  have h3 := Int.emod_nonneg p (show q ≠ 0 by omega)
  have h4 := Int.emod_lt_of_pos p (show 0 < q by omega)
  refine ⟨?_, h2, h1⟩
  have h5 : (Int.tmod p q) % q = p % q := by
    rw [Int.tmod_def, Int.sub_eq_add_neg, ← Int.mul_neg, Int.add_mul_emod_self_left]
  split
  · rw [← h5]
    rw [← Int.add_emod_right, Int.emod_eq_of_lt (by omega) (by omega)]
  · rw [← h5]
    rw [Int.emod_eq_of_lt (by omega) (by omega)]

/-- Mod of the reference. -/
theorem modS (p q : Int) : spec_Mod.f p q = some (if 1 ≤ q ∧ q ≤ 1000000000000 then p % q else 0) := by
  unfold spec_Mod.f
  rw [l1In]
  by_cases h : 1 ≤ q ∧ q ≤ 1000000000000
  · obtain ⟨h1, h2, h3⟩ := modT p q h.1
    simp only [h, Option.bind_some, decide_true, and_self, if_true]
    rw [if_neg (show ¬ q = 0 by omega), w64 (by omega), ← h1]
    congr 1
    split
    · rw [Int.tmod_eq_emod_of_nonneg (by omega)]
      exact Int.emod_eq_of_lt (by omega) (by omega)
    · rw [Int.tmod_eq_emod_of_nonneg (by omega)]
      rw [Int.add_emod_right]
      exact Int.emod_eq_of_lt (by omega) (by omega)
  · simp only [h, Option.bind_some, decide_false, if_false, Bool.false_eq_true]

theorem specHash_ev (l : List Int) (hl : l.length ≤ 9223372036854775807) : Ev (fun k => spec_Hash.f k l) (l.foldl foldM 11) := by
  refine loop_list0 l (fun k s i => spec_Hash.l0 k l s i) (fun t s => t.foldl foldM s) (fun _ s => 0 ≤ s ∧ s < 2147483647) ?_ ?_ 11 (by decide)
  · intro s hs
    exact ev_succ ⟨0, fun k _ => by simp only [spec_Hash.l0, nltc, if_false, List.foldl_nil]⟩
  · intro i x t s hi hx ht hs ih
    obtain ⟨K, hK⟩ := ih (foldM s x) (foldM_b s x)
    refine ev_succ ⟨K, fun k hk => ?_⟩
    have e : (1 : Int) ≤ 2147483647 ∧ (2147483647 : Int) ≤ 1000000000000 := by decide
    simp only [spec_Hash.l0, ltc hi, nnc, if_true, rd_at hx, modS, e, and_self, Option.bind_some, w64s hi hl]
    rw [fold_eq s x hs]
    exact hK k hk

theorem specKHash_ev (key : Int) (l : List Int) (hl : l.length ≤ 17592186044400) : Ev (fun k => spec_KeyedHash.f k key l) (khash key l) := by
  obtain ⟨K, hK⟩ := specHash_ev ([key] ++ l ++ [key]) (by simp; omega)
  refine ⟨K, fun k hk => ?_⟩
  have := hK k hk
  simp only at this
  simp only [spec_KeyedHash.f, Option.bind_some]
  rw [if_pos (by simp; omega), if_pos (by simp; omega), this]
  simp [khash]

theorem specDerive_ev (key : Int) (s : ByteArray) (hs : s.size ≤ 1048576) : Ev (fun k => spec_DeriveFromString.f k key s) (derive key s) := by
  unfold spec_DeriveFromString.f derive
  have hl := bytesOf_length s
  have h2 := b2i_len (bytesOf s)
  refine Ev.yes (by omega) (Ev.bind (specB2I_ev (bytesOf s) (by omega) (bytesOf_b s)) (Ev.bind (specKHash_ev key (b2i (bytesOf s)) (by omega)) ?_))
  have hb := khash_b key (b2i (bytesOf s))
  generalize khash key (b2i (bytesOf s)) = n at hb
  refine Ev.pure (a := if n = 0 then 1 else n) ?_ (Ev.now _)
  unfold spec_Max.f
  by_cases h : n > 1
  · rw [if_pos h, if_neg (by omega)]
  · rw [if_neg h]
    by_cases h0 : n = 0
    · rw [if_pos h0]
    · rw [if_neg h0]
      congr 1
      omega

theorem implB2I_ev (l : List Int) (hl : l.length ≤ 17592186044000) (hb : ∀ x ∈ l, 0 ≤ x ∧ x ≤ 255) : Ev (fun k => impl_BytesToInts.f k l) (b2i l) := by
  refine loop_run l.length (fun k s i => impl_BytesToInts.l0 k s l (l.length : Int) i) (fun i s => s = (l.length : Int) :: l.take i) _ ?_ ?_ 0 _ (Nat.zero_le _) (by simp)
  · rintro s rfl
    exact ev_succ ⟨0, fun k _ => by simp only [impl_BytesToInts.l0, nltc, if_false, b2i, List.take_length]⟩
  · rintro i s hi rfl
    have hx := List.getElem?_eq_getElem hi
    have hbx := hb _ (List.mem_of_getElem? hx)
    refine ⟨_, rfl, 0, fun k _ => ?_⟩
    simp only [impl_BytesToInts.l0, ltc hi, nnc, if_true, rd_at hx, w64s hi (show l.length ≤ 9223372036854775807 by omega)]
    rw [if_pos (by simp; omega), w64 (by omega), List.take_add_one, hx]
    rfl

theorem inR (a b c : Int) : impl_InRange.f a b c = some (decide (b ≤ a ∧ a ≤ c)) := by
  unfold impl_InRange.f
  by_cases h : b ≤ a
  · rw [if_pos h]
    simp [h]
  · rw [if_neg h]
    simp [h]

/-- Mod of the program. -/
theorem modI (p q : Int) : impl_Mod.f p q = some (if 1 ≤ q ∧ q ≤ 1000000000000 then p % q else 0) := by
  unfold impl_Mod.f
  rw [inR]
  by_cases h : 1 ≤ q ∧ q ≤ 1000000000000
  · obtain ⟨h1, h2, h3⟩ := modT p q h.1
    simp only [h, Option.bind_some, decide_true, and_self, if_true]
    rw [if_neg (show ¬ q = 0 by omega), w64 (by omega), ← h1]
    split <;> rfl
  · simp only [h, Option.bind_some, decide_false, if_false, Bool.false_eq_true]

theorem foldI (a v : Int) (h : 0 ≤ a ∧ a < 2147483647) : impl_fold.f a v = some (foldM a v) := by
  have e : (1 : Int) ≤ 2147483647 ∧ (2147483647 : Int) ≤ 1000000000000 := by decide
  simp only [impl_fold.f, modI, e, and_self, if_true, Option.bind_some]
  rw [fold_eq a v h]

theorem implKHash_ev (key : Int) (l : List Int) (hl : l.length ≤ 9223372036854775807) : Ev (fun k => impl_KeyedHash.f k key l) (khash key l) := by
  have H := loop_list0 l (fun k s i => impl_KeyedHash.l0 k key s l (l.length : Int) i) (fun t s => foldM (t.foldl foldM s) key) (fun _ s => 0 ≤ s ∧ s < 2147483647) (by
    intro s hs
    exact ev_succ ⟨0, fun k _ => by simp only [impl_KeyedHash.l0, nltc, if_false, List.foldl_nil, foldI s key hs, Option.bind_some]⟩) (by
    intro i x t s hi hx ht hs ih
    obtain ⟨K, hK⟩ := ih (foldM s x) (foldM_b s x)
    refine ev_succ ⟨K, fun k hk => ?_⟩
    simp only [impl_KeyedHash.l0, ltc hi, nnc, if_true, rd_at hx, foldI s x hs, Option.bind_some, w64s hi hl]
    exact hK k hk) (foldM 11 key) (foldM_b 11 key)
  obtain ⟨K, hK⟩ := H
  refine ⟨K, fun k hk => ?_⟩
  simp only [impl_KeyedHash.f, foldI 11 key (by decide), Option.bind_some]
  exact hK k hk

theorem implDerive_ev (key : Int) (s : ByteArray) (hs : s.size ≤ 1048576) : Ev (fun k => impl_DeriveFromString.f k key s) (derive key s) := by
  unfold impl_DeriveFromString.f derive
  have hl := bytesOf_length s
  have h2 := b2i_len (bytesOf s)
  refine Ev.yes (by omega) (Ev.bind (implB2I_ev (bytesOf s) (by omega) (bytesOf_b s)) (Ev.bind (implKHash_ev key (b2i (bytesOf s)) (by omega)) ?_))
  generalize khash key (b2i (bytesOf s)) = n
  by_cases h0 : n = 0
  · exact Ev.yes h0 (Ev.is (Ev.now _) (by rw [if_pos h0]))
  · exact Ev.no h0 (Ev.is (Ev.now _) (by rw [if_neg h0]))

theorem FnExactDeriveFromString : laws_FnExactDeriveFromString.Pure := by
  intro key s _ _
  refine Ev.rounds (g := fun k => laws_FnExactDeriveFromString.f k key s) ?_
  unfold laws_FnExactDeriveFromString.f
  by_cases h : (s.size : Int) > 1048576
  · exact Ev.yes h (Ev.now _)
  · exact Ev.no h (Ev.bind (specDerive_ev key s (by omega)) (Ev.bind (implDerive_ev key s (by omega)) (Ev.yes rfl (Ev.now _))))

end Go.Proofs.Ytijmcphmjlbpjac.Pure
