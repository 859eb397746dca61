/- FnKeyedHash: the pure statement of the law, for every input: what the program's functions and the reference's come to is the same, or what the law says holds. No condition beside the statement's own. -/
import Derived.Test.YtbafockooilcnaaQFnKeyedHashx3
namespace Go.Proofs.Ytbafockooilcnaa.Pure
open Go.RowKit Go.Proofs.Ytbafockooilcnaa.QFnKeyedHash Go.Proofs.YtbafockooilcnaaW.PrintWords Go.Proofs.YtbafockooilcnaaW.PrintLast Go.Proofs.YtbafockooilcnaaW.PrintMore
set_option linter.unusedVariables false
set_option linter.unusedSimpArgs false


theorem i64b {x : Int} (h : (Lit.int .i64 x).wf = true) : -9223372036854775808 ≤ x ∧ x ≤ 9223372036854775807 := by
  simp [Lit.wf, IntKind.min, IntKind.max, IntKind.signed, IntKind.bits] at h
  omega
theorem u8b {x : Int} (h : (Lit.int .u8 x).wf = true) : 0 ≤ x ∧ x ≤ 255 := by
  simp [Lit.wf, IntKind.min, IntKind.max, IntKind.signed, IntKind.bits] at h
  omega
theorem w64 {n : Int} (h : -9223372036854775808 ≤ n ∧ n ≤ 9223372036854775807) : wrap64 n = n := by unfold wrap64; omega
theorem w64s {i : Nat} {n : Nat} (h : i < n) (hn : n ≤ 9223372036854775807) : wrap64 ((i : Int) + 1) = ((i + 1 : Nat) : Int) := by unfold wrap64; omega
theorem ltc {i n : Nat} (h : i < n) : (i : Int) < (n : Int) := by omega
theorem nnc (i : Nat) : (0 : Int) ≤ (i : Int) := by omega
theorem nltc (n : Nat) : ¬ (n : Int) < (n : Int) := by omega
theorem rd_at {l : List Int} {i : Nat} {x : Int} (h : l[i]? = some x) : rd l (i : Int) = x := by
  unfold rd
  simp [List.getD, h]
/-- More rounds than some number. -/
theorem ev_k {α : Type} {g : Nat → Option α} {r : α} (h : Ev g r) : ∃ K, ∀ k, K ≤ k → g k = some r := h
theorem ev_succ {α : Type} {g : Nat → Option α} {r : α} (h : ∃ K, ∀ k, K ≤ k → g (k + 1) = some r) : Ev g r := by
  obtain ⟨K, h⟩ := h
  refine ⟨K + 1, fun k hk => ?_⟩
  obtain ⟨m, rfl⟩ : ∃ m, k = m + 1 := ⟨k - 1, by omega⟩
  exact h m (by omega)
/-- A loop over a list, from the front: what it comes to is told of the list's tails. -/
theorem loop_list {α σ ρ : Type} (l : List α) (L : Nat → σ → Int → Option ρ) (f : List α → σ → ρ) (I : Nat → σ → Prop)
    (hnil : ∀ s, I l.length s → Ev (fun k => L k s (l.length : Int)) (f [] s))
    (hcons : ∀ (i : Nat) (x : α) (t : List α) (s : σ), i < l.length → l[i]? = some x → l.drop (i + 1) = t → I i s →
      (∀ s', I (i + 1) s' → Ev (fun k => L k s' ((i + 1 : Nat) : Int)) (f t s')) → Ev (fun k => L k s (i : Int)) (f (x :: t) s)) :
    ∀ (i : Nat) (s : σ), i ≤ l.length → I i s → Ev (fun k => L k s (i : Int)) (f (l.drop i) s) := by
  intro i s hi hI
  generalize hd : l.length - i = d
  induction d generalizing i s with
  | zero =>
    have : i = l.length := by omega
    subst this
    rw [List.drop_length]
    exact hnil s hI
  | succ d ih =>
    have hlt : i < l.length := by omega
    rw [List.drop_eq_getElem_cons hlt]
    exact hcons i l[i] _ s hlt (List.getElem?_eq_getElem hlt) rfl hI (fun s' hI' => ih (i + 1) s' (by omega) hI' (by omega))
theorem loop_list0 {α σ ρ : Type} (l : List α) (L : Nat → σ → Int → Option ρ) (f : List α → σ → ρ) (I : Nat → σ → Prop)
    (hnil : ∀ s, I l.length s → Ev (fun k => L k s (l.length : Int)) (f [] s))
    (hcons : ∀ (i : Nat) (x : α) (t : List α) (s : σ), i < l.length → l[i]? = some x → l.drop (i + 1) = t → I i s →
      (∀ s', I (i + 1) s' → Ev (fun k => L k s' ((i + 1 : Nat) : Int)) (f t s')) → Ev (fun k => L k s (i : Int)) (f (x :: t) s))
    (s : σ) (hI : I 0 s) : Ev (fun k => L k s 0) (f l s) := by
  have := loop_list l L f I hnil hcons 0 s (Nat.zero_le _) hI
  simpa using this
theorem Ev.yes {α : Type} {c : Prop} [Decidable c] {f g : Nat → Option α} {r : α} (h : c) (e : Ev f r) : Ev (fun n => if c then f n else g n) r := by
  simp only [if_pos h]
  exact e
theorem Ev.no {α : Type} {c : Prop} [Decidable c] {f g : Nat → Option α} {r : α} (h : ¬ c) (e : Ev g r) : Ev (fun n => if c then f n else g n) r := by
  simp only [if_neg h]
  exact e
theorem Ev.pure {α β : Type} {x : Option α} {f : Nat → α → Option β} {a : α} {r : β} (h : x = some a) (k : Ev (fun n => f n a) r) : Ev (fun n => x.bind (f n)) r := by
  subst h
  exact k
theorem Ev.is {α : Type} {g : Nat → Option α} {r r' : α} (h : Ev g r) (e : r = r') : Ev g r' := e ▸ h

/-- A loop over the places of a row, with what holds at each: what it comes to. -/
theorem loop_run {σ ρ : Type} (n : Nat) (L : Nat → σ → Int → Option ρ) (I : Nat → σ → Prop) (r : ρ)
    (hdone : ∀ s, I n s → Ev (fun k => L k s (n : Int)) r)
    (hstep : ∀ i s, i < n → I i s → ∃ s', I (i + 1) s' ∧ ∃ K, ∀ k, K ≤ k → L (k + 1) s (i : Int) = L k s' ((i + 1 : Nat) : Int)) :
    ∀ (i : Nat) (s : σ), i ≤ n → I i s → Ev (fun k => L k s (i : Int)) r := by
  intro i s hi hI
  generalize hd : n - i = d
  induction d generalizing i s with
  | zero =>
    have : i = n := by omega
    subst this
    exact hdone s hI
  | succ d ih =>
    obtain ⟨s', hI', K, hK⟩ := hstep i s (by omega) hI
    obtain ⟨K', hK'⟩ := ih (i + 1) s' (by omega) hI' (by omega)
    refine ev_succ ⟨K + K', fun k hk => ?_⟩
    show L (k + 1) s (i : Int) = some r
    rw [hK k (by omega)]
    exact hK' k (by omega)
/-- Copying element by element. -/
theorem copy_loop {α β : Type} (l : List α) (g : α → β) (L : Nat → List β → Int → Option (List β))
    (hdone : ∀ k s, L (k + 1) s (l.length : Int) = some s)
    (hstep : ∀ k i x s, l[i]? = some x → i < l.length → s.length = l.length → L (k + 1) s (i : Int) = L k (s.set i (g x)) ((i + 1 : Nat) : Int))
    (s : List β) (hs : s.length = l.length) : Ev (fun k => L k s 0) (l.map g) := by
  refine loop_run l.length L (fun i s => s.length = l.length ∧ ∀ j, j < i → s[j]? = (l.map g)[j]?) _ ?_ ?_ 0 s (Nat.zero_le _) ⟨hs, fun j hj => by omega⟩
  · rintro s ⟨h1, h2⟩
    have : s = l.map g := by
      apply List.ext_getElem?
      intro j
      by_cases hj : j < l.length
      · exact h2 j hj
      · rw [List.getElem?_eq_none (by omega), List.getElem?_eq_none (by simp; omega)]
    subst this
    exact ev_succ ⟨0, fun k _ => hdone k _⟩
  · rintro i s hi ⟨h1, h2⟩
    have hx := List.getElem?_eq_getElem hi
    refine ⟨s.set i (g l[i]), ⟨by simp [h1], fun j hj => ?_⟩, 0, fun k _ => hstep k i _ s hx hi h1⟩
    by_cases hji : j = i
    · subst hji
      rw [List.getElem?_set_self (by omega)]
      simp [hi]
    · rw [List.getElem?_set_ne (by omega)]
      exact h2 j (by omega)
/-- Two rows held against each other, element by element. -/
theorem eq_loop {α : Type} [DecidableEq α] (a b : List α) (L : Nat → Int → Option Bool) (hlen : a.length = b.length)
    (hdone : ∀ k, L (k + 1) (a.length : Int) = some true)
    (hstep : ∀ k i x y, a[i]? = some x → b[i]? = some y → i < a.length → i < b.length → L (k + 1) (i : Int) = if x = y then L k ((i + 1 : Nat) : Int) else some false) :
    Ev (fun k => L k 0) (decide (a = b)) := by
  suffices H : ∀ d i, i ≤ a.length → a.length - i = d → Ev (fun k => L k (i : Int)) (decide (a.drop i = b.drop i)) by
    simpa using H _ 0 (Nat.zero_le _) rfl
  intro d
  induction d with
  | zero =>
    intro i hi hd
    have : i = a.length := by omega
    subst this
    refine ev_succ ⟨0, fun k _ => ?_⟩
    rw [List.drop_length, hlen, List.drop_length]
    rw [← hlen, hdone]
    simp
  | succ d ih =>
    intro i hi hd
    have h1 : i < a.length := by omega
    have h2 : i < b.length := by omega
    obtain ⟨K, hK⟩ := ih (i + 1) (by omega) (by omega)
    replace hK : ∀ k, K ≤ k → L k ((i + 1 : Nat) : Int) = some (decide (a.drop (i + 1) = b.drop (i + 1))) := hK
    refine ev_succ ⟨K, fun k hk => ?_⟩
    show L (k + 1) (i : Int) = _
    rw [hstep k i _ _ (List.getElem?_eq_getElem h1) (List.getElem?_eq_getElem h2) h1 h2, List.drop_eq_getElem_cons h1, List.drop_eq_getElem_cons h2]
    by_cases h : a[i] = b[i]
    · rw [if_pos h, hK k hk, h]
      simp only [List.cons.injEq, true_and]
    · rw [if_neg h]
      congr 1
      symm
      exact decide_eq_false (fun e => h (List.cons.inj e).1)
/-- Marks from c on, w a place. -/
def marks {β : Type} (m : Int → β) (w : Int) (c : Int) (n : Nat) : List β := (List.range n).map (fun i : Nat => m (c + w * (i : Int)))
theorem marks_len {β : Type} (m : Int → β) (w c : Int) (n : Nat) : (marks m w c n).length = n := by simp [marks]
theorem marks_at {β : Type} (m : Int → β) (w c : Int) (n i : Nat) (h : i < n) : (marks m w c n)[i]? = some (m (c + w * (i : Int))) := by simp [marks, h]
/-- Marking a row in place. -/
theorem mark_loop {β : Type} (m : Int → β) (w : Int) (n : Nat) (c0 : Int) (L : Nat → List β → Int → Int → Option (Int × List β))
    (hdone : ∀ k s c, s.length = n → L (k + 1) s c (n : Int) = some (c, s))
    (hstep : ∀ k i s, i < n → s.length = n → L (k + 1) s (c0 + w * (i : Int)) (i : Int) = L k (s.set i (m (c0 + w * (i : Int)))) (c0 + w * ((i + 1 : Nat) : Int)) ((i + 1 : Nat) : Int))
    (s : List β) (hs : s.length = n) : Ev (fun k => L k s c0 0) (c0 + w * (n : Int), marks m w c0 n) := by
  have := loop_run n (fun k (p : List β × Int) i => L k p.1 p.2 i) (fun i p => p.2 = c0 + w * (i : Int) ∧ p.1.length = n ∧ ∀ j, j < i → p.1[j]? = (marks m w c0 n)[j]?) (c0 + w * (n : Int), marks m w c0 n) ?_ ?_ 0 (s, c0) (Nat.zero_le _) ⟨by simp, hs, fun j hj => by omega⟩
  · exact this
  · rintro ⟨s, c⟩ ⟨h0, h1, h2⟩
    simp only at h0 h1 h2
    have : s = marks m w c0 n := by
      apply List.ext_getElem?
      intro j
      by_cases hj : j < n
      · exact h2 j hj
      · rw [List.getElem?_eq_none (by omega), List.getElem?_eq_none (by rw [marks_len]; omega)]
    subst this
    refine ev_succ ⟨0, fun k _ => ?_⟩
    show L (k + 1) _ c _ = _
    rw [hdone k _ c h1, h0]
  · rintro i ⟨s, c⟩ hi ⟨h0, h1, h2⟩
    simp only at h0 h1 h2
    refine ⟨(s.set i (m (c0 + w * (i : Int))), c0 + w * ((i + 1 : Nat) : Int)), ⟨rfl, by simp [h1], fun j hj => ?_⟩, 0, fun k _ => ?_⟩
    · by_cases hji : j = i
      · subst hji
        simp only
        rw [List.getElem?_set_self (by omega), marks_at _ _ _ _ _ hi]
      · simp only
        rw [List.getElem?_set_ne (by omega)]
        exact h2 j (by omega)
    · simp only [h0]
      exact hstep k i s hi h1
/-- A row's marks told again. -/
theorem held_loop (w : Int) (n : Nat) (c0 : Int) (L : Nat → Int → Int → Option Int)
    (hdone : ∀ k c, L (k + 1) c (n : Int) = some c)
    (hstep : ∀ k i, i < n → L (k + 1) (c0 + w * (i : Int)) (i : Int) = L k (c0 + w * ((i + 1 : Nat) : Int)) ((i + 1 : Nat) : Int)) :
    Ev (fun k => L k c0 0) (c0 + w * (n : Int)) := by
  have := loop_run n L (fun i c => c = c0 + w * (i : Int)) (c0 + w * (n : Int)) ?_ ?_ 0 c0 (Nat.zero_le _) (by simp)
  · exact this
  · rintro c h0
    refine ev_succ ⟨0, fun k _ => ?_⟩
    show L (k + 1) c _ = _
    rw [hdone k c, h0]
  · rintro i c hi h0
    subst h0
    exact ⟨_, rfl, 0, fun k _ => hstep k i hi⟩
/-- As 'loop_run', where a round may take several. -/
theorem loop_ev {σ ρ : Type} (n : Nat) (L : Nat → σ → Int → Option ρ) (I : Nat → σ → Prop) (r : ρ)
    (hdone : ∀ s, I n s → Ev (fun k => L k s (n : Int)) r)
    (hstep : ∀ i s, i < n → I i s → ∃ s', I (i + 1) s' ∧ (Ev (fun k => L k s' ((i + 1 : Nat) : Int)) r → Ev (fun k => L k s (i : Int)) r)) :
    ∀ (i : Nat) (s : σ), i ≤ n → I i s → Ev (fun k => L k s (i : Int)) r := by
  intro i s hi hI
  generalize hd : n - i = d
  induction d generalizing i s with
  | zero =>
    have : i = n := by omega
    subst this
    exact hdone s hI
  | succ d ih =>
    obtain ⟨s', hI', hs⟩ := hstep i s (by omega) hI
    exact hs (ih (i + 1) s' (by omega) hI' (by omega))

theorem and255 (x : Int) : 0 ≤ Go.bits .and .i64 x 255 ∧ Go.bits .and .i64 x 255 ≤ 255 := by
  simp only [Go.bits, BitVec.toNat_and]
  have h : (BitVec.ofInt IntKind.i64.bits x).toNat &&& (BitVec.ofInt IntKind.i64.bits 255).toNat ≤ 255 := by
    have e : (BitVec.ofInt IntKind.i64.bits 255).toNat = 255 := by decide
    rw [e]
    exact Nat.and_le_right
  generalize (BitVec.ofInt IntKind.i64.bits x).toNat &&& (BitVec.ofInt IntKind.i64.bits 255).toNat = n at h
  rw [IntKind.wrap_i64]
  omega
/-- A cursor's place is within its bytes. -/
def OKC (l : List Int) (i : Int) : Prop := 0 ≤ i ∧ i ≤ l.length
theorem l1New_ev (l : List Int) (hl : l.length ≤ 140737488355328) : ∃ h, Ev (fun k => spec_l1New.f k l) (l, 0, h) := by
  suffices H : ∀ (d i : Nat) (x : Int), i ≤ l.length → l.length - i = d → ∃ h, Ev (fun k => spec_l1New.l0 k l x i) (l, 0, h) from H _ 0 _ (Nat.zero_le _) rfl
  intro d
  induction d with
  | zero =>
    intro i x hi hd
    have : i = l.length := by omega
    subst this
    exact ⟨x, ev_succ ⟨0, fun k _ => by simp only [spec_l1New.l0, nltc, if_false]⟩⟩
  | succ d ih =>
    intro i x hi hd
    have hlt : i < l.length := by omega
    by_cases h4 : (i : Int) < 4000
    · obtain ⟨h, K, hK⟩ := ih (i + 1) (Go.bits .and .i64 (wrap64 ((wrap64 ((wrap64 (x * 137)) + (wrap64 (rd l (i : Int))))) + 11)) 1073741823) (by omega) (by omega)
      refine ⟨h, ev_succ ⟨K, fun k hk => ?_⟩⟩
      simp only [spec_l1New.l0, ltc hlt, h4, nnc, if_true, w64s hlt (show l.length ≤ 9223372036854775807 by omega)]
      exact hK k hk
    · exact ⟨x, ev_succ ⟨0, fun k _ => by simp only [spec_l1New.l0, ltc hlt, h4, if_true, if_false]⟩⟩
theorem l1Byte_draw (l : List Int) (i h : Int) (hl : l.length ≤ 140737488355328) (hi : OKC l i) : ∃ x i' h', spec_l1Byte.f l i h = some (x, i', h') ∧ OKC l i' ∧ 0 ≤ x ∧ x ≤ 255 := by
  unfold OKC at hi
  unfold spec_l1Byte.f
  by_cases h1 : i < (l.length : Int)
  · rw [if_pos h1, if_pos hi.1]
    refine ⟨_, _, _, rfl, ?_, and255 _⟩
    rw [w64 (by omega)]
    unfold OKC
    omega
  · rw [if_neg h1]
    exact ⟨_, _, _, rfl, hi, and255 _⟩
theorem tmod_b (x n : Int) (hx : 0 ≤ x) (hn : 0 < n) : 0 ≤ Int.tmod x n ∧ Int.tmod x n < n := by
  rw [Int.tmod_eq_emod_of_nonneg hx]
  exact ⟨Int.emod_nonneg _ (by omega), Int.emod_lt_of_pos _ hn⟩
theorem l1Below_draw (l : List Int) (i h n : Int) (hl : l.length ≤ 140737488355328) (hi : OKC l i) : ∃ x i' h', spec_l1Below.f l i h n = some (x, i', h') ∧ OKC l i' ∧ 0 ≤ x ∧ (0 < n → x < n) ∧ (n ≤ 0 → x = 0) := by
  unfold spec_l1Below.f
  by_cases h1 : n ≤ 0
  · rw [if_pos h1]
    exact ⟨0, i, h, rfl, hi, by omega, by omega, fun _ => rfl⟩
  · rw [if_neg h1]
    obtain ⟨x, i1, g1, e1, o1, b1, c1⟩ := l1Byte_draw l i h hl hi
    by_cases h2 : n ≤ 256
    · rw [if_pos h2, e1]
      simp only [Option.bind_some]
      rw [if_neg (by omega)]
      have := tmod_b x n b1 (by omega)
      exact ⟨_, _, _, rfl, o1, this.1, fun _ => this.2, by omega⟩
    · rw [if_neg h2, e1]
      simp only [Option.bind_some]
      obtain ⟨y, i2, g2, e2, o2, b2, c2⟩ := l1Byte_draw l i1 g1 hl o1
      rw [e2]
      simp only [Option.bind_some]
      obtain ⟨z, i3, g3, e3, o3, b3, c3⟩ := l1Byte_draw l i2 g2 hl o2
      rw [e3]
      simp only [Option.bind_some]
      rw [if_neg (by omega), w64 (n := x * 65536) (by omega), w64 (n := y * 256) (by omega), w64 (n := x * 65536 + y * 256) (by omega), w64 (by omega)]
      have := tmod_b (x * 65536 + y * 256 + z) n (by omega) (by omega)
      exact ⟨_, _, _, rfl, o3, this.1, fun _ => this.2, by omega⟩
theorem l1Once_draw (l : List Int) (i h n : Int) (hl : l.length ≤ 140737488355328) (hi : OKC l i) : ∃ b i' h', spec_l1Once.f l i h n = some (b, i', h') ∧ OKC l i' := by
  obtain ⟨x, i1, g1, e1, o1, _⟩ := l1Below_draw l i h n hl hi
  unfold spec_l1Once.f
  rw [e1]
  exact ⟨_, _, _, rfl, o1⟩
theorem l1Int_draw (l : List Int) (i h : Int) (m : List Int) (hl : l.length ≤ 140737488355328) (hi : OKC l i) (hm : 0 < m.length) : ∃ x i' h', spec_l1Int.f l i h m = some (x, i', h') ∧ OKC l i' ∧ x ∈ m := by
  obtain ⟨x, i1, g1, e1, o1, b1, c1, _⟩ := l1Below_draw l i h (m.length : Int) hl hi
  have c1 := c1 (by omega)
  unfold spec_l1Int.f
  rw [e1]
  simp only [Option.bind_some]
  rw [if_pos b1, if_pos c1]
  refine ⟨_, _, _, rfl, o1, ?_⟩
  obtain ⟨n, rfl⟩ := Int.eq_ofNat_of_zero_le b1
  have hn : n < m.length := by omega
  rw [rd_at (List.getElem?_eq_getElem hn)]
  exact List.getElem_mem hn
theorem l3Word_draw (l : List Int) (i h : Int) (hl : l.length ≤ 140737488355328) (hi : OKC l i) : ∃ x i' h', spec_l3Word.f l i h = some (x, i', h') ∧ OKC l i' ∧ -1 ≤ x ∧ x ≤ 2147483648 := by
  unfold spec_l3Word.f
  obtain ⟨b1, i1, g1, e1, o1⟩ := l1Once_draw l i h 10 hl hi
  rw [e1]
  simp only [Option.bind_some]
  cases b1 with
  | true =>
    rw [if_pos rfl]
    obtain ⟨x, i2, g2, e2, o2, hx⟩ := l1Int_draw l i1 g1 [(-1), 2147483647, 2147483648] hl o1 (by decide)
    rw [e2]
    refine ⟨x, i2, g2, rfl, o2, ?_⟩
    simp at hx
    omega
  | false =>
    rw [if_neg (by decide)]
    obtain ⟨b2, i2, g2, e2, o2⟩ := l1Once_draw l i1 g1 4 hl o1
    rw [e2]
    simp only [Option.bind_some]
    cases b2 with
    | true =>
      rw [if_pos rfl]
      obtain ⟨x, i3, g3, e3, o3, hx⟩ := l1Int_draw l i2 g2 [0, 1, 2147483646] hl o2 (by decide)
      rw [e3]
      refine ⟨x, i3, g3, rfl, o3, ?_⟩
      simp at hx
      omega
    | false =>
      rw [if_neg (by decide)]
      obtain ⟨x, i3, g3, e3, o3, b3, c3, _⟩ := l1Below_draw l i2 g2 1000000 hl o2
      rw [e3]
      simp only [Option.bind_some]
      obtain ⟨y, i4, g4, e4, o4, b4, c4, _⟩ := l1Below_draw l i3 g3 2000 hl o3
      rw [e4]
      simp only [Option.bind_some]
      have c3 := c3 (by omega)
      have c4 := c4 (by omega)
      have h1 : 0 ≤ x * y := Int.mul_nonneg b3 b4
      have h2 : x * y ≤ 1000000 * 2000 := Int.mul_le_mul (by omega) (by omega) b4 (by omega)
      rw [w64 (by omega)]
      exact ⟨_, _, _, rfl, o4, by omega, by omega⟩
theorem l3Words_l (l : List Int) (hl : l.length ≤ 140737488355328) : ∀ (d : Nat) (s : List Int) (i h : Int), OKC l i → s.length + d ≤ 1000 → (∀ x ∈ s, -1 ≤ x ∧ x ≤ 2147483648) → ∃ y i' h', Ev (fun k => spec_l3Words.l0 k s d l i h) (y, i', h') ∧ OKC l i' ∧ y.length ≤ 1000 ∧ (∀ x ∈ y, -1 ≤ x ∧ x ≤ 2147483648) := by
  intro d
  induction d with
  | zero =>
    intro s i h hi hs hb
    refine ⟨s, i, h, ?_, hi, by omega, hb⟩
    refine Ev.step (fun k => by rw [spec_l3Words.l0]) ?_
    exact Ev.no (by omega) (Ev.now _)
  | succ d ih =>
    intro s i h hi hs hb
    obtain ⟨x, i2, g2, e2, o2, hx⟩ := l3Word_draw l i h hl hi
    obtain ⟨y, i', h', e, p⟩ := ih (s ++ [x]) i2 g2 o2 (by simp; omega) (by
      intro z hz
      rcases List.mem_append.1 hz with hz | hz
      · exact hb z hz
      · rw [List.mem_singleton.1 hz]; exact hx)
    refine ⟨y, i', h', ?_, p⟩
    refine Ev.step (fun k => by rw [spec_l3Words.l0]) ?_
    have hw : wrap64 (((d + 1 : Nat) : Int) - 1) = (d : Int) := by rw [w64 (by omega)]; omega
    rw [hw]
    exact Ev.yes (by omega) (Ev.pure e2 (Ev.yes (by omega) e))
theorem drawKHash_ev (l : List Int) (hl : l.length ≤ 140737488355328) : ∃ key y, Ev (fun k => spec_DrawKeyedHash.f k l) (key, y) ∧ y.length ≤ 1000 ∧ (∀ x ∈ y, -1 ≤ x ∧ x ≤ 2147483648) := by
  obtain ⟨h, e0⟩ := l1New_ev l hl
  obtain ⟨key, i1, g1, e1, o1, b1⟩ := l3Word_draw l 0 h hl ⟨by omega, by omega⟩
  obtain ⟨c, i2, g2, e2, o2, b2, c2, _⟩ := l1Below_draw l i1 g1 5 hl o1
  have c2 := c2 (by omega)
  obtain ⟨c, rfl⟩ := Int.eq_ofNat_of_zero_le b2
  obtain ⟨y, i3, g3, e3, o3, hs, hb⟩ := l3Words_l l hl c [] i2 g2 o2 (by simp; omega) (by simp)
  refine ⟨key, y, ?_, hs, hb⟩
  unfold spec_DrawKeyedHash.f spec_l3Words.f
  exact Ev.bind e0 (Ev.pure e1 (Ev.bind (Ev.pure e2 e3) (Ev.now _)))
theorem l1Str_draw (l : List Int) (i h : Int) (m : List ByteArray) (hl : l.length ≤ 140737488355328) (hi : OKC l i) (hm : 0 < m.length) : ∃ x i' h', spec_l1Str.f l i h m = some (x, i', h') ∧ OKC l i' ∧ x ∈ m := by
  obtain ⟨x, i1, g1, e1, o1, b1, c1, _⟩ := l1Below_draw l i h (m.length : Int) hl hi
  have c1 := c1 (by omega)
  unfold spec_l1Str.f
  rw [e1]
  simp only [Option.bind_some]
  rw [if_pos b1, if_pos c1]
  refine ⟨_, _, _, rfl, o1, ?_⟩
  obtain ⟨n, rfl⟩ := Int.eq_ofNat_of_zero_le b1
  have hn : n < m.length := by omega
  have : rdOf ByteArray.empty m (n : Int) = m[n] := by
    unfold rdOf
    simp [List.getD, List.getElem?_eq_getElem hn]
  rw [this]
  exact List.getElem_mem hn
theorem drawDerive_ev (l : List Int) (hl : l.length ≤ 140737488355328) : ∃ key s, Ev (fun k => spec_DrawDeriveFromString.f k l) (key, s) ∧ s.size ≤ 1000 := by
  obtain ⟨h, e0⟩ := l1New_ev l hl
  obtain ⟨key, i1, g1, e1, o1, b1⟩ := l3Word_draw l 0 h hl ⟨by omega, by omega⟩
  obtain ⟨s, i2, g2, e2, o2, hs⟩ := l1Str_draw l i1 g1 [(⟨#[]⟩ : ByteArray), (⟨#[97]⟩ : ByteArray), (⟨#[98]⟩ : ByteArray), (⟨#[97, 98]⟩ : ByteArray), (⟨#[110, 101, 119, 115]⟩ : ByteArray), (⟨#[120]⟩ : ByteArray)] hl o1 (by simp)
  refine ⟨key, s, ?_, ?_⟩
  · unfold spec_DrawDeriveFromString.f
    exact Ev.bind e0 (Ev.pure e1 (Ev.pure e2 (Ev.now _)))
  · simp only [List.mem_cons, List.not_mem_nil, or_false] at hs
    rcases hs with rfl | rfl | rfl | rfl | rfl | rfl <;> decide

theorem at_draw (l : List Int) (i : Nat) (hi : i ≤ 1000000) (hl : l.length ≤ 140737488355328) (hb : ∀ x ∈ l, 0 ≤ x ∧ x ≤ 255) : ∃ v, laws_at.f l (i : Int) = some v ∧ 0 ≤ v ∧ v ≤ 255 := by
  unfold laws_at.f
  by_cases h : (i : Int) < (l.length : Int)
  · have hlt : i < l.length := by omega
    have hx := hb _ (List.getElem_mem hlt)
    rw [if_pos h, if_pos (nnc _), rd_at (List.getElem?_eq_getElem hlt), w64 (by omega)]
    exact ⟨_, rfl, hx⟩
  · rw [if_neg h, w64 (n := (i : Int) * 31) (by omega), w64 (n := (l.length : Int) * 7) (by omega), w64 (by omega)]
    have := tmod_b ((i : Int) * 31 + (l.length : Int) * 7) 256 (by omega) (by omega)
    exact ⟨_, rfl, this.1, by omega⟩

theorem l1In (a b c : Int) : spec_l1In.f a b c = some (decide (b ≤ a ∧ a ≤ c)) := by
  unfold spec_l1In.f
  simp only [ge_iff_le]
  by_cases h : b ≤ a
  · rw [if_pos h]
    simp [h]
  · rw [if_neg h]
    simp [h]

theorem modT (p q : Int) (h : 1 ≤ q) : (if Int.tmod p q < 0 then Int.tmod p q + q else Int.tmod p q) = p % q ∧ -q < Int.tmod p q ∧ Int.tmod p q < q := by
  have h1 := Int.tmod_lt_of_pos p (show 0 < q by omega)
  have h2 : -q < Int.tmod p q := by
    have := Int.tmod_lt_of_pos (-p) (show 0 < q by omega)
    rw [Int.neg_tmod] at this
    omega
  have h3 := Int.emod_nonneg p (show q ≠ 0 by omega)
  have h4 := Int.emod_lt_of_pos p (show 0 < q by omega)
  refine ⟨?_, h2, h1⟩
  have h5 : (Int.tmod p q) % q = p % q := by
    rw [Int.tmod_def, Int.sub_eq_add_neg, ← Int.mul_neg, Int.add_mul_emod_self_left]
  split
  · rw [← h5]
    rw [← Int.add_emod_right, Int.emod_eq_of_lt (by omega) (by omega)]
  · rw [← h5]
    rw [Int.emod_eq_of_lt (by omega) (by omega)]

/-- Mod of the reference. -/
theorem modS (p q : Int) : spec_Mod.f p q = some (if 1 ≤ q ∧ q ≤ 1000000000000 then p % q else 0) := by
  unfold spec_Mod.f
  rw [l1In]
  by_cases h : 1 ≤ q ∧ q ≤ 1000000000000
  · obtain ⟨h1, h2, h3⟩ := modT p q h.1
    simp only [h, Option.bind_some, decide_true, and_self, if_true]
    rw [if_neg (show ¬ q = 0 by omega), w64 (by omega), ← h1]
    congr 1
    split
    · rw [Int.tmod_eq_emod_of_nonneg (by omega)]
      exact Int.emod_eq_of_lt (by omega) (by omega)
    · rw [Int.tmod_eq_emod_of_nonneg (by omega)]
      rw [Int.add_emod_right]
      exact Int.emod_eq_of_lt (by omega) (by omega)
  · simp only [h, Option.bind_some, decide_false, if_false, Bool.false_eq_true]

def foldM (a v : Int) : Int := (a * 1000003 + v % 2147483647 + 13) % 2147483647
theorem foldM_b (a v : Int) : 0 ≤ foldM a v ∧ foldM a v < 2147483647 := by unfold foldM; omega
theorem foldl_b (l : List Int) (a : Int) (h : 0 ≤ a ∧ a < 2147483647) : 0 ≤ l.foldl foldM a ∧ l.foldl foldM a < 2147483647 := by
  induction l generalizing a with
  | nil => exact h
  | cons x t ih => exact ih _ (foldM_b a x)
theorem fold_eq (a v : Int) (h : 0 ≤ a ∧ a < 2147483647) : Int.tmod (wrap64 ((wrap64 ((wrap64 (a * 1000003)) + v % 2147483647)) + 13)) 2147483647 = foldM a v := by
  rw [w64 (n := a * 1000003) (by omega), w64 (n := a * 1000003 + v % 2147483647) (by omega), w64 (by omega)]
  exact Int.tmod_eq_emod_of_nonneg (by omega)

theorem inR (a b c : Int) : impl_InRange.f a b c = some (decide (b ≤ a ∧ a ≤ c)) := by
  unfold impl_InRange.f
  by_cases h : b ≤ a
  · rw [if_pos h]
    simp [h]
  · rw [if_neg h]
    simp [h]

/-- Mod of the program. -/
theorem modI (p q : Int) : impl_Mod.f p q = some (if 1 ≤ q ∧ q ≤ 1000000000000 then p % q else 0) := by
  unfold impl_Mod.f
  rw [inR]
  by_cases h : 1 ≤ q ∧ q ≤ 1000000000000
  · obtain ⟨h1, h2, h3⟩ := modT p q h.1
    simp only [h, Option.bind_some, decide_true, and_self, if_true]
    rw [if_neg (show ¬ q = 0 by omega), w64 (by omega), ← h1]
    split <;> rfl
  · simp only [h, Option.bind_some, decide_false, if_false, Bool.false_eq_true]

theorem foldI (a v : Int) (h : 0 ≤ a ∧ a < 2147483647) : impl_fold.f a v = some (foldM a v) := by
  have e : (1 : Int) ≤ 2147483647 ∧ (2147483647 : Int) ≤ 1000000000000 := by decide
  simp only [impl_fold.f, modI, e, and_self, if_true, Option.bind_some]
  rw [fold_eq a v h]

theorem implHash_ev (l : List Int) (hl : l.length ≤ 9223372036854775807) : Ev (fun k => impl_Hash.f k l) (l.foldl foldM 11) := by
  refine loop_list0 l (fun k s i => impl_Hash.l0 k s l (l.length : Int) i) (fun t s => t.foldl foldM s) (fun _ s => 0 ≤ s ∧ s < 2147483647) ?_ ?_ 11 (by decide)
  · intro s hs
    exact ev_succ ⟨0, fun k _ => by simp only [impl_Hash.l0, nltc, if_false, List.foldl_nil]⟩
  · intro i x t s hi hx ht hs ih
    obtain ⟨K, hK⟩ := ih (foldM s x) (foldM_b s x)
    refine ev_succ ⟨K, fun k hk => ?_⟩
    simp only [impl_Hash.l0, ltc hi, nnc, if_true, rd_at hx, foldI s x hs, Option.bind_some, w64s hi hl]
    exact hK k hk

def b2i (l : List Int) : List Int := (l.length : Int) :: l

def khash (key : Int) (l : List Int) : Int := foldM (l.foldl foldM (foldM 11 key)) key
theorem khash_b (key : Int) (l : List Int) : 0 ≤ khash key l ∧ khash key l < 2147483647 := foldM_b _ _

theorem bytesOf_b (s : ByteArray) : ∀ x ∈ bytesOf s, 0 ≤ x ∧ x ≤ 255 := by
  intro x hx
  unfold bytesOf at hx
  obtain ⟨b, _, rfl⟩ := List.mem_map.1 hx
  have := b.toNat_lt
  omega
theorem b2i_len (l : List Int) : (b2i l).length = l.length + 1 := by simp [b2i]
def derive (key : Int) (s : ByteArray) : Int := if khash key (b2i (bytesOf s)) = 0 then 1 else khash key (b2i (bytesOf s))

theorem implB2I_ev (l : List Int) (hl : l.length ≤ 17592186044000) (hb : ∀ x ∈ l, 0 ≤ x ∧ x ≤ 255) : Ev (fun k => impl_BytesToInts.f k l) (b2i l) := by
  refine loop_run l.length (fun k s i => impl_BytesToInts.l0 k s l (l.length : Int) i) (fun i s => s = (l.length : Int) :: l.take i) _ ?_ ?_ 0 _ (Nat.zero_le _) (by simp)
  · rintro s rfl
    exact ev_succ ⟨0, fun k _ => by simp only [impl_BytesToInts.l0, nltc, if_false, b2i, List.take_length]⟩
  · rintro i s hi rfl
    have hx := List.getElem?_eq_getElem hi
    have hbx := hb _ (List.mem_of_getElem? hx)
    refine ⟨_, rfl, 0, fun k _ => ?_⟩
    simp only [impl_BytesToInts.l0, ltc hi, nnc, if_true, rd_at hx, w64s hi (show l.length ≤ 9223372036854775807 by omega)]
    rw [if_pos (by simp; omega), w64 (by omega), List.take_add_one, hx]
    rfl

theorem implKHash_ev (key : Int) (l : List Int) (hl : l.length ≤ 9223372036854775807) : Ev (fun k => impl_KeyedHash.f k key l) (khash key l) := by
  have H := loop_list0 l (fun k s i => impl_KeyedHash.l0 k key s l (l.length : Int) i) (fun t s => foldM (t.foldl foldM s) key) (fun _ s => 0 ≤ s ∧ s < 2147483647) (by
    intro s hs
    exact ev_succ ⟨0, fun k _ => by simp only [impl_KeyedHash.l0, nltc, if_false, List.foldl_nil, foldI s key hs, Option.bind_some]⟩) (by
    intro i x t s hi hx ht hs ih
    obtain ⟨K, hK⟩ := ih (foldM s x) (foldM_b s x)
    refine ev_succ ⟨K, fun k hk => ?_⟩
    simp only [impl_KeyedHash.l0, ltc hi, nnc, if_true, rd_at hx, foldI s x hs, Option.bind_some, w64s hi hl]
    exact hK k hk) (foldM 11 key) (foldM_b 11 key)
  obtain ⟨K, hK⟩ := H
  refine ⟨K, fun k hk => ?_⟩
  simp only [impl_KeyedHash.f, foldI 11 key (by decide), Option.bind_some]
  exact hK k hk

theorem implDerive_ev (key : Int) (s : ByteArray) (hs : s.size ≤ 1048576) : Ev (fun k => impl_DeriveFromString.f k key s) (derive key s) := by
  unfold impl_DeriveFromString.f derive
  have hl := bytesOf_length s
  have h2 := b2i_len (bytesOf s)
  refine Ev.yes (by omega) (Ev.bind (implB2I_ev (bytesOf s) (by omega) (bytesOf_b s)) (Ev.bind (implKHash_ev key (b2i (bytesOf s)) (by omega)) ?_))
  generalize khash key (b2i (bytesOf s)) = n
  by_cases h0 : n = 0
  · exact Ev.yes h0 (Ev.is (Ev.now _) (by rw [if_pos h0]))
  · exact Ev.no h0 (Ev.is (Ev.now _) (by rw [if_neg h0]))

theorem mul_inj {d k : Int} (h : d * 1000003 = 2147483647 * k) (h1 : -2147483647 < d) (h2 : d < 2147483647) : d = 0 := by
  have e : d = 2147483647 * (1523789695 * k - 709572 * d) := by
    have e2 : 1523789695 * (d * 1000003) = 1523789695 * (2147483647 * k) := by rw [h]
    omega
  generalize 1523789695 * k - 709572 * d = q at e
  omega
theorem mod_split {x y m : Int} (h : x % m = y % m) : ∃ k, x - y = m * k := by
  refine ⟨x / m - y / m, ?_⟩
  have h1 := Int.mul_ediv_add_emod x m
  have h2 := Int.mul_ediv_add_emod y m
  rw [Int.mul_sub]
  omega
theorem foldM_inj1 {a b v : Int} (ha : 0 ≤ a ∧ a < 2147483647) (hb : 0 ≤ b ∧ b < 2147483647) (h : foldM a v = foldM b v) : a = b := by
  unfold foldM at h
  generalize v % 2147483647 = r at h
  have h2 := mod_split h
  revert h2
  rintro ⟨k, hk⟩
  have h3 : (a - b) * 1000003 = 2147483647 * k := by
    rw [← hk, Int.sub_mul]
    omega
  clear h hk
  have h5 : -2147483647 < a - b := by omega
  have h6 : a - b < 2147483647 := by omega
  have h4 := mul_inj h3 h5 h6
  clear h3 h5 h6
  omega
theorem foldM_inj2 {a v u : Int} (h : foldM a v = foldM a u) : v % 2147483647 = u % 2147483647 := by
  unfold foldM at h
  omega
theorem foldl_inj (t : List Int) : ∀ {a b : Int}, 0 ≤ a ∧ a < 2147483647 → 0 ≤ b ∧ b < 2147483647 → t.foldl foldM a = t.foldl foldM b → a = b := by
  induction t with
  | nil => intro a b _ _ h; exact h
  | cons x t ih =>
    intro a b ha hb h
    exact foldM_inj1 ha hb (ih (foldM_b a x) (foldM_b b x) h)
theorem khash_set (key : Int) (l : List Int) (i : Nat) (hi : i < l.length) (y : Int) (h : khash key (l.set i y) = khash key l) : y % 2147483647 = l[i] % 2147483647 := by
  unfold khash at h
  have h1 := foldM_inj1 (foldl_b _ _ (foldM_b 11 key)) (foldl_b _ _ (foldM_b 11 key)) h
  rw [List.set_eq_take_append_cons_drop, if_pos hi] at h1
  have e : l = l.take i ++ l[i] :: l.drop (i + 1) := by
    rw [List.getElem_cons_drop, List.take_append_drop]
  have h2 : List.foldl foldM (foldM 11 key) l = List.foldl foldM (foldM 11 key) (l.take i ++ l[i] :: l.drop (i + 1)) := by rw [← e]
  rw [h2, List.foldl_append, List.foldl_append, List.foldl_cons, List.foldl_cons] at h1
  exact foldM_inj2 (foldl_inj _ (foldM_b _ _) (foldM_b _ _) h1)
theorem validKey_of (t : Int) (h : 0 ≤ t ∧ t < 2147483647) : impl_IsValidKey.f (if t = 0 then 1 else t) = some true := by
  unfold impl_IsValidKey.f
  rw [inR]
  simp only [Option.bind_some]
  congr 1
  rw [decide_eq_true]
  split <;> omega
theorem FnKeyedHash : laws_FnKeyedHash.Pure := by
  intro code h1 h2 hbytes
  have hm : maxLen = 9223372036854775807 := by decide
  refine Ev.rounds (g := fun k => laws_FnKeyedHash.f k code) ?_
  unfold laws_FnKeyedHash.f
  refine Ev.pure (a := decide ((code.length : Int) > 1048576)) rfl ?_
  by_cases hb : (code.length : Int) > 1048576
  · exact Ev.yes (by simpa using hb) (Ev.now _)
  refine Ev.no (by simpa using hb) ?_
  have hby : ∀ x ∈ code, 0 ≤ x ∧ x ≤ 255 := fun x hx => u8b (hbytes x hx)
  obtain ⟨key, w, e0, hw, hwb⟩ := drawKHash_ev code (by omega)
  obtain ⟨dk, ds, e1, hds⟩ := drawDerive_ev code (by omega)
  have e2 := implKHash_ev key w (by omega)
  have hk := khash_b key w
  have e3 : Ev (fun k => impl_Hash.f k ([key] ++ w ++ [key])) (khash key w) := Ev.is (implHash_ev ([key] ++ w ++ [key]) (by simp; omega)) (by simp [khash, List.foldl_append])
  have e4 : Ev (fun k => (spec_DrawDeriveFromString.f k code).bind fun bt => (impl_DeriveFromString.f k bt.1 bt.2).bind fun t => (impl_IsValidKey.f t).bind fun t2 => some t2) true := by
    refine Ev.bind e1 (Ev.bind (implDerive_ev dk ds (by omega)) ?_)
    exact Ev.pure (validKey_of _ (khash_b dk (b2i (bytesOf ds)))) (Ev.now _)
  obtain ⟨v0, f0, p0⟩ := at_draw code 0 (by omega) (by omega) hby
  obtain ⟨v1, f1, p1⟩ := at_draw code 1 (by omega) (by omega) hby
  have ej : Ev (fun k => laws_FnKeyedHash.j0 k code key w (khash key w) false) true := by
    refine Ev.step (fun k => by rw [laws_FnKeyedHash.j0]) ?_
    refine Ev.no (by decide) ?_
    by_cases hw0 : (w.length : Int) > 0
    · refine Ev.yes hw0 (Ev.pure (a := []) rfl (Ev.yes (by simp; omega) (Ev.pure (a := w) rfl (Ev.pure f0 ?_))))
      have ht := tmod_b v0 (w.length : Int) p0.1 hw0
      generalize Int.tmod v0 (w.length : Int) = j at ht
      obtain ⟨i, rfl⟩ := Int.eq_ofNat_of_zero_le ht.1
      have hi : i < w.length := by omega
      refine Ev.no (by omega) (Ev.yes ht.1 (Ev.yes ht.2 (Ev.pure f1 ?_)))
      rw [rd_at (List.getElem?_eq_getElem hi), Int.toNat_natCast]
      have hx := hwb _ (List.getElem_mem hi)
      have hs := khash_set key w i hi ((w[i] + 1 + v1) % 2147483647)
      rw [w64 (n := w[i] + 1) (by omega), w64 (n := w[i] + 1 + v1) (by omega)]
      refine Ev.pure (modS _ _) ?_
      rw [if_pos (by decide)]
      refine Ev.bind (implKHash_ev key (w.set i ((w[i] + 1 + v1) % 2147483647)) (by simp; omega)) (Ev.no ?_ e4)
      intro h
      have := hs h
      omega
    · exact Ev.no hw0 e4
  refine Ev.bind e0 (Ev.bind e2 (Ev.no (by omega) (Ev.no (by omega) (Ev.pure (a := [key]) rfl (Ev.yes (by simp; omega) (Ev.pure (a := [key] ++ w) rfl (Ev.yes (by simp; omega) (Ev.bind e3 ?_))))))))
  rw [show (khash key w != khash key w) = false by simp]
  exact ej

end Go.Proofs.Ytbafockooilcnaa.Pure
