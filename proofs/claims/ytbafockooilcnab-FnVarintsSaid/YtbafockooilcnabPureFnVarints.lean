/- FnVarints: the pure statement of the law, for every input: what the program's functions and the reference's come to is the same, or what the law says holds. No condition beside the statement's own. -/
import Derived.Test.YtbafockooilcnabQFnVarintsx4
namespace Go.Proofs.Ytbafockooilcnab.Pure
open Go.RowKit Go.Proofs.Ytbafockooilcnab.QFnVarints Go.Proofs.YtbafockooilcnabW.PrintWords Go.Proofs.YtbafockooilcnabW.PrintLast Go.Proofs.YtbafockooilcnabW.PrintMore
set_option linter.unusedVariables false
set_option linter.unusedSimpArgs false


theorem i64b {x : Int} (h : (Lit.int .i64 x).wf = true) : -9223372036854775808 ≤ x ∧ x ≤ 9223372036854775807 := by
  simp [Lit.wf, IntKind.min, IntKind.max, IntKind.signed, IntKind.bits] at h
  omega
theorem u8b {x : Int} (h : (Lit.int .u8 x).wf = true) : 0 ≤ x ∧ x ≤ 255 := by
  simp [Lit.wf, IntKind.min, IntKind.max, IntKind.signed, IntKind.bits] at h
  omega
theorem w64 {n : Int} (h : -9223372036854775808 ≤ n ∧ n ≤ 9223372036854775807) : wrap64 n = n := by unfold wrap64; omega
theorem w64s {i : Nat} {n : Nat} (h : i < n) (hn : n ≤ 9223372036854775807) : wrap64 ((i : Int) + 1) = ((i + 1 : Nat) : Int) := by unfold wrap64; omega
theorem ltc {i n : Nat} (h : i < n) : (i : Int) < (n : Int) := by omega
theorem nnc (i : Nat) : (0 : Int) ≤ (i : Int) := by omega
theorem nltc (n : Nat) : ¬ (n : Int) < (n : Int) := by omega
theorem rd_at {l : List Int} {i : Nat} {x : Int} (h : l[i]? = some x) : rd l (i : Int) = x := by
  unfold rd
  simp [List.getD, h]
/-- More rounds than some number. -/
theorem ev_k {α : Type} {g : Nat → Option α} {r : α} (h : Ev g r) : ∃ K, ∀ k, K ≤ k → g k = some r := h
theorem ev_succ {α : Type} {g : Nat → Option α} {r : α} (h : ∃ K, ∀ k, K ≤ k → g (k + 1) = some r) : Ev g r := by
  obtain ⟨K, h⟩ := h
  refine ⟨K + 1, fun k hk => ?_⟩
  obtain ⟨m, rfl⟩ : ∃ m, k = m + 1 := ⟨k - 1, by omega⟩
  exact h m (by omega)
/-- A loop over a list, from the front: what it comes to is told of the list's tails. -/
theorem loop_list {α σ ρ : Type} (l : List α) (L : Nat → σ → Int → Option ρ) (f : List α → σ → ρ) (I : Nat → σ → Prop)
    (hnil : ∀ s, I l.length s → Ev (fun k => L k s (l.length : Int)) (f [] s))
    (hcons : ∀ (i : Nat) (x : α) (t : List α) (s : σ), i < l.length → l[i]? = some x → l.drop (i + 1) = t → I i s →
      (∀ s', I (i + 1) s' → Ev (fun k => L k s' ((i + 1 : Nat) : Int)) (f t s')) → Ev (fun k => L k s (i : Int)) (f (x :: t) s)) :
    ∀ (i : Nat) (s : σ), i ≤ l.length → I i s → Ev (fun k => L k s (i : Int)) (f (l.drop i) s) := by
  intro i s hi hI
  generalize hd : l.length - i = d
  induction d generalizing i s with
  | zero =>
    have : i = l.length := by omega
    subst this
    rw [List.drop_length]
    exact hnil s hI
  | succ d ih =>
    have hlt : i < l.length := by omega
    rw [List.drop_eq_getElem_cons hlt]
    exact hcons i l[i] _ s hlt (List.getElem?_eq_getElem hlt) rfl hI (fun s' hI' => ih (i + 1) s' (by omega) hI' (by omega))
theorem loop_list0 {α σ ρ : Type} (l : List α) (L : Nat → σ → Int → Option ρ) (f : List α → σ → ρ) (I : Nat → σ → Prop)
    (hnil : ∀ s, I l.length s → Ev (fun k => L k s (l.length : Int)) (f [] s))
    (hcons : ∀ (i : Nat) (x : α) (t : List α) (s : σ), i < l.length → l[i]? = some x → l.drop (i + 1) = t → I i s →
      (∀ s', I (i + 1) s' → Ev (fun k => L k s' ((i + 1 : Nat) : Int)) (f t s')) → Ev (fun k => L k s (i : Int)) (f (x :: t) s))
    (s : σ) (hI : I 0 s) : Ev (fun k => L k s 0) (f l s) := by
  have := loop_list l L f I hnil hcons 0 s (Nat.zero_le _) hI
  simpa using this
theorem Ev.yes {α : Type} {c : Prop} [Decidable c] {f g : Nat → Option α} {r : α} (h : c) (e : Ev f r) : Ev (fun n => if c then f n else g n) r := by
  simp only [if_pos h]
  exact e
theorem Ev.no {α : Type} {c : Prop} [Decidable c] {f g : Nat → Option α} {r : α} (h : ¬ c) (e : Ev g r) : Ev (fun n => if c then f n else g n) r := by
  simp only [if_neg h]
  exact e
theorem Ev.pure {α β : Type} {x : Option α} {f : Nat → α → Option β} {a : α} {r : β} (h : x = some a) (k : Ev (fun n => f n a) r) : Ev (fun n => x.bind (f n)) r := by
  subst h
  exact k
theorem Ev.is {α : Type} {g : Nat → Option α} {r r' : α} (h : Ev g r) (e : r = r') : Ev g r' := e ▸ h

/-- A loop over the places of a row, with what holds at each: what it comes to. -/
theorem loop_run {σ ρ : Type} (n : Nat) (L : Nat → σ → Int → Option ρ) (I : Nat → σ → Prop) (r : ρ)
    (hdone : ∀ s, I n s → Ev (fun k => L k s (n : Int)) r)
    (hstep : ∀ i s, i < n → I i s → ∃ s', I (i + 1) s' ∧ ∃ K, ∀ k, K ≤ k → L (k + 1) s (i : Int) = L k s' ((i + 1 : Nat) : Int)) :
    ∀ (i : Nat) (s : σ), i ≤ n → I i s → Ev (fun k => L k s (i : Int)) r := by
  intro i s hi hI
  generalize hd : n - i = d
  induction d generalizing i s with
  | zero =>
    have : i = n := by omega
    subst this
    exact hdone s hI
  | succ d ih =>
    obtain ⟨s', hI', K, hK⟩ := hstep i s (by omega) hI
    obtain ⟨K', hK'⟩ := ih (i + 1) s' (by omega) hI' (by omega)
    refine ev_succ ⟨K + K', fun k hk => ?_⟩
    show L (k + 1) s (i : Int) = some r
    rw [hK k (by omega)]
    exact hK' k (by omega)
/-- Copying element by element. -/
theorem copy_loop {α β : Type} (l : List α) (g : α → β) (L : Nat → List β → Int → Option (List β))
    (hdone : ∀ k s, L (k + 1) s (l.length : Int) = some s)
    (hstep : ∀ k i x s, l[i]? = some x → i < l.length → s.length = l.length → L (k + 1) s (i : Int) = L k (s.set i (g x)) ((i + 1 : Nat) : Int))
    (s : List β) (hs : s.length = l.length) : Ev (fun k => L k s 0) (l.map g) := by
  refine loop_run l.length L (fun i s => s.length = l.length ∧ ∀ j, j < i → s[j]? = (l.map g)[j]?) _ ?_ ?_ 0 s (Nat.zero_le _) ⟨hs, fun j hj => by omega⟩
  · rintro s ⟨h1, h2⟩
    have : s = l.map g := by
      apply List.ext_getElem?
      intro j
      by_cases hj : j < l.length
      · exact h2 j hj
      · rw [List.getElem?_eq_none (by omega), List.getElem?_eq_none (by simp; omega)]
    subst this
    exact ev_succ ⟨0, fun k _ => hdone k _⟩
  · rintro i s hi ⟨h1, h2⟩
    have hx := List.getElem?_eq_getElem hi
    refine ⟨s.set i (g l[i]), ⟨by simp [h1], fun j hj => ?_⟩, 0, fun k _ => hstep k i _ s hx hi h1⟩
    by_cases hji : j = i
    · subst hji
      rw [List.getElem?_set_self (by omega)]
      simp [hi]
    · rw [List.getElem?_set_ne (by omega)]
      exact h2 j (by omega)
/-- Two rows held against each other, element by element. -/
theorem eq_loop {α : Type} [DecidableEq α] (a b : List α) (L : Nat → Int → Option Bool) (hlen : a.length = b.length)
    (hdone : ∀ k, L (k + 1) (a.length : Int) = some true)
    (hstep : ∀ k i x y, a[i]? = some x → b[i]? = some y → i < a.length → i < b.length → L (k + 1) (i : Int) = if x = y then L k ((i + 1 : Nat) : Int) else some false) :
    Ev (fun k => L k 0) (decide (a = b)) := by
  suffices H : ∀ d i, i ≤ a.length → a.length - i = d → Ev (fun k => L k (i : Int)) (decide (a.drop i = b.drop i)) by
    simpa using H _ 0 (Nat.zero_le _) rfl
  intro d
  induction d with
  | zero =>
    intro i hi hd
    have : i = a.length := by omega
    subst this
    refine ev_succ ⟨0, fun k _ => ?_⟩
    rw [List.drop_length, hlen, List.drop_length]
    rw [← hlen, hdone]
    simp
  | succ d ih =>
    intro i hi hd
    have h1 : i < a.length := by omega
    have h2 : i < b.length := by omega
    obtain ⟨K, hK⟩ := ih (i + 1) (by omega) (by omega)
    replace hK : ∀ k, K ≤ k → L k ((i + 1 : Nat) : Int) = some (decide (a.drop (i + 1) = b.drop (i + 1))) := hK
    refine ev_succ ⟨K, fun k hk => ?_⟩
    show L (k + 1) (i : Int) = _
    rw [hstep k i _ _ (List.getElem?_eq_getElem h1) (List.getElem?_eq_getElem h2) h1 h2, List.drop_eq_getElem_cons h1, List.drop_eq_getElem_cons h2]
    by_cases h : a[i] = b[i]
    · rw [if_pos h, hK k hk, h]
      simp only [List.cons.injEq, true_and]
    · rw [if_neg h]
      congr 1
      symm
      exact decide_eq_false (fun e => h (List.cons.inj e).1)
/-- Marks from c on, w a place. -/
def marks {β : Type} (m : Int → β) (w : Int) (c : Int) (n : Nat) : List β := (List.range n).map (fun i : Nat => m (c + w * (i : Int)))
theorem marks_len {β : Type} (m : Int → β) (w c : Int) (n : Nat) : (marks m w c n).length = n := by simp [marks]
theorem marks_at {β : Type} (m : Int → β) (w c : Int) (n i : Nat) (h : i < n) : (marks m w c n)[i]? = some (m (c + w * (i : Int))) := by simp [marks, h]
/-- Marking a row in place. -/
theorem mark_loop {β : Type} (m : Int → β) (w : Int) (n : Nat) (c0 : Int) (L : Nat → List β → Int → Int → Option (Int × List β))
    (hdone : ∀ k s c, s.length = n → L (k + 1) s c (n : Int) = some (c, s))
    (hstep : ∀ k i s, i < n → s.length = n → L (k + 1) s (c0 + w * (i : Int)) (i : Int) = L k (s.set i (m (c0 + w * (i : Int)))) (c0 + w * ((i + 1 : Nat) : Int)) ((i + 1 : Nat) : Int))
    (s : List β) (hs : s.length = n) : Ev (fun k => L k s c0 0) (c0 + w * (n : Int), marks m w c0 n) := by
  have := loop_run n (fun k (p : List β × Int) i => L k p.1 p.2 i) (fun i p => p.2 = c0 + w * (i : Int) ∧ p.1.length = n ∧ ∀ j, j < i → p.1[j]? = (marks m w c0 n)[j]?) (c0 + w * (n : Int), marks m w c0 n) ?_ ?_ 0 (s, c0) (Nat.zero_le _) ⟨by simp, hs, fun j hj => by omega⟩
  · exact this
  · rintro ⟨s, c⟩ ⟨h0, h1, h2⟩
    simp only at h0 h1 h2
    have : s = marks m w c0 n := by
      apply List.ext_getElem?
      intro j
      by_cases hj : j < n
      · exact h2 j hj
      · rw [List.getElem?_eq_none (by omega), List.getElem?_eq_none (by rw [marks_len]; omega)]
    subst this
    refine ev_succ ⟨0, fun k _ => ?_⟩
    show L (k + 1) _ c _ = _
    rw [hdone k _ c h1, h0]
  · rintro i ⟨s, c⟩ hi ⟨h0, h1, h2⟩
    simp only at h0 h1 h2
    refine ⟨(s.set i (m (c0 + w * (i : Int))), c0 + w * ((i + 1 : Nat) : Int)), ⟨rfl, by simp [h1], fun j hj => ?_⟩, 0, fun k _ => ?_⟩
    · by_cases hji : j = i
      · subst hji
        simp only
        rw [List.getElem?_set_self (by omega), marks_at _ _ _ _ _ hi]
      · simp only
        rw [List.getElem?_set_ne (by omega)]
        exact h2 j (by omega)
    · simp only [h0]
      exact hstep k i s hi h1
/-- A row's marks told again. -/
theorem held_loop (w : Int) (n : Nat) (c0 : Int) (L : Nat → Int → Int → Option Int)
    (hdone : ∀ k c, L (k + 1) c (n : Int) = some c)
    (hstep : ∀ k i, i < n → L (k + 1) (c0 + w * (i : Int)) (i : Int) = L k (c0 + w * ((i + 1 : Nat) : Int)) ((i + 1 : Nat) : Int)) :
    Ev (fun k => L k c0 0) (c0 + w * (n : Int)) := by
  have := loop_run n L (fun i c => c = c0 + w * (i : Int)) (c0 + w * (n : Int)) ?_ ?_ 0 c0 (Nat.zero_le _) (by simp)
  · exact this
  · rintro c h0
    refine ev_succ ⟨0, fun k _ => ?_⟩
    show L (k + 1) c _ = _
    rw [hdone k c, h0]
  · rintro i c hi h0
    subst h0
    exact ⟨_, rfl, 0, fun k _ => hstep k i hi⟩

theorem and255 (x : Int) : 0 ≤ Go.bits .and .i64 x 255 ∧ Go.bits .and .i64 x 255 ≤ 255 := by
  simp only [Go.bits, BitVec.toNat_and]
  have h : (BitVec.ofInt IntKind.i64.bits x).toNat &&& (BitVec.ofInt IntKind.i64.bits 255).toNat ≤ 255 := by
    have e : (BitVec.ofInt IntKind.i64.bits 255).toNat = 255 := by decide
    rw [e]
    exact Nat.and_le_right
  generalize (BitVec.ofInt IntKind.i64.bits x).toNat &&& (BitVec.ofInt IntKind.i64.bits 255).toNat = n at h
  rw [IntKind.wrap_i64]
  omega
/-- A cursor's place is within its bytes. -/
def OKC (l : List Int) (i : Int) : Prop := 0 ≤ i ∧ i ≤ l.length
theorem l1New_ev (l : List Int) (hl : l.length ≤ 140737488355328) : ∃ h, Ev (fun k => spec_l1New.f k l) (l, 0, h) := by
  suffices H : ∀ (d i : Nat) (x : Int), i ≤ l.length → l.length - i = d → ∃ h, Ev (fun k => spec_l1New.l0 k l x i) (l, 0, h) from H _ 0 _ (Nat.zero_le _) rfl
  intro d
  induction d with
  | zero =>
    intro i x hi hd
    have : i = l.length := by omega
    subst this
    exact ⟨x, ev_succ ⟨0, fun k _ => by simp only [spec_l1New.l0, nltc, if_false]⟩⟩
  | succ d ih =>
    intro i x hi hd
    have hlt : i < l.length := by omega
    by_cases h4 : (i : Int) < 4000
    · obtain ⟨h, K, hK⟩ := ih (i + 1) (Go.bits .and .i64 (wrap64 ((wrap64 ((wrap64 (x * 137)) + (wrap64 (rd l (i : Int))))) + 11)) 1073741823) (by omega) (by omega)
      refine ⟨h, ev_succ ⟨K, fun k hk => ?_⟩⟩
      simp only [spec_l1New.l0, ltc hlt, h4, nnc, if_true, w64s hlt (show l.length ≤ 9223372036854775807 by omega)]
      exact hK k hk
    · exact ⟨x, ev_succ ⟨0, fun k _ => by simp only [spec_l1New.l0, ltc hlt, h4, if_true, if_false]⟩⟩
theorem l1Byte_draw (l : List Int) (i h : Int) (hl : l.length ≤ 140737488355328) (hi : OKC l i) : ∃ x i' h', spec_l1Byte.f l i h = some (x, i', h') ∧ OKC l i' ∧ 0 ≤ x ∧ x ≤ 255 := by
  unfold OKC at hi
  unfold spec_l1Byte.f
  by_cases h1 : i < (l.length : Int)
  · rw [if_pos h1, if_pos hi.1]
    refine ⟨_, _, _, rfl, ?_, and255 _⟩
    rw [w64 (by omega)]
    unfold OKC
    omega
  · rw [if_neg h1]
    exact ⟨_, _, _, rfl, hi, and255 _⟩
theorem tmod_b (x n : Int) (hx : 0 ≤ x) (hn : 0 < n) : 0 ≤ Int.tmod x n ∧ Int.tmod x n < n := by
  rw [Int.tmod_eq_emod_of_nonneg hx]
  exact ⟨Int.emod_nonneg _ (by omega), Int.emod_lt_of_pos _ hn⟩
theorem l1Below_draw (l : List Int) (i h n : Int) (hl : l.length ≤ 140737488355328) (hi : OKC l i) : ∃ x i' h', spec_l1Below.f l i h n = some (x, i', h') ∧ OKC l i' ∧ 0 ≤ x ∧ (0 < n → x < n) ∧ (n ≤ 0 → x = 0) := by
  unfold spec_l1Below.f
  by_cases h1 : n ≤ 0
  · rw [if_pos h1]
    exact ⟨0, i, h, rfl, hi, by omega, by omega, fun _ => rfl⟩
  · rw [if_neg h1]
    obtain ⟨x, i1, g1, e1, o1, b1, c1⟩ := l1Byte_draw l i h hl hi
    by_cases h2 : n ≤ 256
    · rw [if_pos h2, e1]
      simp only [Option.bind_some]
      rw [if_neg (by omega)]
      have := tmod_b x n b1 (by omega)
      exact ⟨_, _, _, rfl, o1, this.1, fun _ => this.2, by omega⟩
    · rw [if_neg h2, e1]
      simp only [Option.bind_some]
      obtain ⟨y, i2, g2, e2, o2, b2, c2⟩ := l1Byte_draw l i1 g1 hl o1
      rw [e2]
      simp only [Option.bind_some]
      obtain ⟨z, i3, g3, e3, o3, b3, c3⟩ := l1Byte_draw l i2 g2 hl o2
      rw [e3]
      simp only [Option.bind_some]
      rw [if_neg (by omega), w64 (n := x * 65536) (by omega), w64 (n := y * 256) (by omega), w64 (n := x * 65536 + y * 256) (by omega), w64 (by omega)]
      have := tmod_b (x * 65536 + y * 256 + z) n (by omega) (by omega)
      exact ⟨_, _, _, rfl, o3, this.1, fun _ => this.2, by omega⟩
theorem l1Once_draw (l : List Int) (i h n : Int) (hl : l.length ≤ 140737488355328) (hi : OKC l i) : ∃ b i' h', spec_l1Once.f l i h n = some (b, i', h') ∧ OKC l i' := by
  obtain ⟨x, i1, g1, e1, o1, _⟩ := l1Below_draw l i h n hl hi
  unfold spec_l1Once.f
  rw [e1]
  exact ⟨_, _, _, rfl, o1⟩
theorem l1Int_draw (l : List Int) (i h : Int) (m : List Int) (hl : l.length ≤ 140737488355328) (hi : OKC l i) (hm : 0 < m.length) : ∃ x i' h', spec_l1Int.f l i h m = some (x, i', h') ∧ OKC l i' ∧ x ∈ m := by
  obtain ⟨x, i1, g1, e1, o1, b1, c1, _⟩ := l1Below_draw l i h (m.length : Int) hl hi
  have c1 := c1 (by omega)
  unfold spec_l1Int.f
  rw [e1]
  simp only [Option.bind_some]
  rw [if_pos b1, if_pos c1]
  refine ⟨_, _, _, rfl, o1, ?_⟩
  obtain ⟨n, rfl⟩ := Int.eq_ofNat_of_zero_le b1
  have hn : n < m.length := by omega
  rw [rd_at (List.getElem?_eq_getElem hn)]
  exact List.getElem_mem hn
theorem l1Bytes_ev (l : List Int) (hl : l.length ≤ 140737488355328) (n : Nat) (hn : n ≤ 1000000) (i h : Int) (hi : OKC l i) : ∃ s i' h', Ev (fun k => spec_l1Bytes.f k l i h n) (s, i', h') ∧ OKC l i' ∧ s.length = n ∧ ∀ x ∈ s, 0 ≤ x ∧ x ≤ 255 := by
  suffices H : ∀ (d j : Nat) (s : List Int) (i h : Int), j ≤ n → n - j = d → s.length = j → (∀ x ∈ s, 0 ≤ x ∧ x ≤ 255) → OKC l i → ∃ s' i' h', Ev (fun k => spec_l1Bytes.l0 k n s j l i h) (s', i', h') ∧ OKC l i' ∧ s'.length = n ∧ ∀ x ∈ s', 0 ≤ x ∧ x ≤ 255 from
    H _ 0 [] i h (Nat.zero_le _) rfl rfl (by simp) hi
  intro d
  induction d with
  | zero =>
    intro j s i h hj hd hs hb hi
    have : j = n := by omega
    subst this
    exact ⟨s, i, h, ev_succ ⟨0, fun k _ => by simp only [spec_l1Bytes.l0, nltc, if_false]⟩, hi, hs, hb⟩
  | succ d ih =>
    intro j s i h hj hd hs hb hi
    have hlt : j < n := by omega
    obtain ⟨x, i1, g1, e1, o1, b1, c1⟩ := l1Byte_draw l i h hl hi
    obtain ⟨s', i', h', ⟨K, hK⟩, o, hs', hb'⟩ := ih (j + 1) (s ++ [x % 256]) i1 g1 (by omega) (by omega) (by simp [hs]) (by
      intro y hy
      rcases List.mem_append.1 hy with hy | hy
      · exact hb y hy
      · rw [List.mem_singleton.1 hy]; omega) o1
    refine ⟨s', i', h', ev_succ ⟨K, fun k hk => ?_⟩, o, hs', hb'⟩
    simp only [spec_l1Bytes.l0, ltc hlt, if_true, e1, Option.bind_some, show s.length < 140737488355328 by omega, w64s hlt (show n ≤ 9223372036854775807 by omega)]
    exact hK k hk

theorem l1Num_draw (l : List Int) (i h : Int) (hl : l.length ≤ 140737488355328) (hi : OKC l i) : ∃ x i' h', spec_l1Num.f l i h = some (x, i', h') ∧ OKC l i' ∧ 0 ≤ x ∧ x ≤ 1000000000000 := by
  unfold spec_l1Num.f
  obtain ⟨c, i1, g1, e1, o1, b1, c1, _⟩ := l1Below_draw l i h 4 hl hi
  rw [e1]
  simp only [Option.bind_some]
  by_cases h0 : c = 0
  · rw [if_pos h0]
    obtain ⟨x, i2, g2, e2, o2, b2, c2, _⟩ := l1Below_draw l i1 g1 2000 hl o1
    rw [e2]
    exact ⟨x, i2, g2, rfl, o2, b2, by have := c2 (by omega); omega⟩
  rw [if_neg h0]
  by_cases h1 : c = 1
  · rw [if_pos h1]
    obtain ⟨x, i2, g2, e2, o2, hx⟩ := l1Int_draw l i1 g1 [0, 1, 127, 128, 2147483646, 2147483647, 1000000000000] hl o1 (by decide)
    rw [e2]
    refine ⟨x, i2, g2, rfl, o2, ?_⟩
    simp at hx
    omega
  rw [if_neg h1]
  by_cases h2 : c = 2
  · rw [if_pos h2]
    obtain ⟨x, i2, g2, e2, o2, b2, c2, _⟩ := l1Below_draw l i1 g1 1000000 hl o1
    rw [e2]
    simp only [Option.bind_some]
    obtain ⟨y, i3, g3, e3, o3, b3, c3, _⟩ := l1Below_draw l i2 g2 1000000 hl o2
    rw [e3]
    simp only [Option.bind_some]
    have c2 := c2 (by omega)
    have c3 := c3 (by omega)
    have q1 : 0 ≤ x * y := Int.mul_nonneg b2 b3
    have q2 : x * y ≤ 1000000 * 1000000 := Int.mul_le_mul (by omega) (by omega) b3 (by omega)
    rw [w64 (by omega)]
    exact ⟨_, _, _, rfl, o3, q1, by omega⟩
  rw [if_neg h2]
  obtain ⟨x, i2, g2, e2, o2, b2, c2, _⟩ := l1Below_draw l i1 g1 20 hl o1
  rw [e2]
  exact ⟨x, i2, g2, rfl, o2, b2, by have := c2 (by omega); omega⟩
theorem l1Odd_draw (l : List Int) (i h : Int) (hl : l.length ≤ 140737488355328) (hi : OKC l i) : ∃ x i' h', spec_l1Odd.f l i h = some (x, i', h') ∧ OKC l i' ∧ -9223372036854775808 ≤ x ∧ x ≤ 9223372036854775807 := by
  unfold spec_l1Odd.f
  obtain ⟨x, i2, g2, e2, o2, hx⟩ := l1Int_draw l i h [(-1), 0, 1, 2, 255, 256, 65535, 2147483647, 2147483648, 4294967295, 4294967296, (-2147483648), 9223372036854775807, (-9223372036854775808)] hl hi (by decide)
  rw [e2]
  refine ⟨x, i2, g2, rfl, o2, ?_⟩
  simp at hx
  omega
theorem l1Raw_draw (l : List Int) (i h : Int) (hl : l.length ≤ 140737488355328) (hi : OKC l i) : ∃ x i' h', spec_l1Raw.f l i h = some (x, i', h') ∧ OKC l i' ∧ -9223372036854775808 ≤ x ∧ x ≤ 9223372036854775807 := by
  unfold spec_l1Raw.f
  obtain ⟨b, i1, g1, e1, o1⟩ := l1Once_draw l i h 2 hl hi
  rw [e1]
  simp only [Option.bind_some]
  cases b with
  | true =>
    rw [if_pos rfl]
    obtain ⟨x, i2, g2, e2, o2, hx⟩ := l1Odd_draw l i1 g1 hl o1
    rw [e2]
    exact ⟨x, i2, g2, rfl, o2, hx⟩
  | false =>
    rw [if_neg (by decide)]
    obtain ⟨x, i2, g2, e2, o2, hx⟩ := l1Int_draw l i1 g1 [(-1), 1000000000000, 1000000000001] hl o1 (by decide)
    rw [e2]
    refine ⟨x, i2, g2, rfl, o2, ?_⟩
    simp at hx
    omega
theorem l1One_draw (l : List Int) (i h : Int) (hl : l.length ≤ 140737488355328) (hi : OKC l i) : ∃ x i' h', spec_l1One.f l i h = some (x, i', h') ∧ OKC l i' ∧ -9223372036854775808 ≤ x ∧ x ≤ 9223372036854775807 := by
  unfold spec_l1One.f
  obtain ⟨b, i1, g1, e1, o1⟩ := l1Once_draw l i h 6 hl hi
  rw [e1]
  simp only [Option.bind_some]
  cases b with
  | true =>
    rw [if_pos rfl]
    obtain ⟨x, i2, g2, e2, o2, hx⟩ := l1Raw_draw l i1 g1 hl o1
    rw [e2]
    exact ⟨x, i2, g2, rfl, o2, hx⟩
  | false =>
    rw [if_neg (by decide)]
    obtain ⟨x, i2, g2, e2, o2, hx⟩ := l1Num_draw l i1 g1 hl o1
    rw [e2]
    exact ⟨x, i2, g2, rfl, o2, by omega, by omega⟩
theorem drawAppendU_ev (l : List Int) (hl : l.length ≤ 140737488355328) : ∃ b n, Ev (fun k => spec_DrawAppendUvarint.f k l) (b, n) ∧ b.length ≤ 2 ∧ (∀ x ∈ b, 0 ≤ x ∧ x ≤ 255) ∧ -9223372036854775808 ≤ n ∧ n ≤ 9223372036854775807 := by
  obtain ⟨h, e0⟩ := l1New_ev l hl
  obtain ⟨c, i1, g1, e1, o1, b1, c1, _⟩ := l1Below_draw l 0 h 3 hl ⟨by omega, by omega⟩
  have c1 := c1 (by omega)
  obtain ⟨c, rfl⟩ := Int.eq_ofNat_of_zero_le b1
  obtain ⟨s, i2, g2, e2, o2, hs, hb⟩ := l1Bytes_ev l hl c (by omega) i1 g1 o1
  obtain ⟨n, i3, g3, e3, o3, hn⟩ := l1One_draw l i2 g2 hl o2
  refine ⟨s, n, ?_, by omega, hb, hn⟩
  unfold spec_DrawAppendUvarint.f
  exact Ev.bind e0 (Ev.pure e1 (Ev.bind e2 (Ev.pure e3 (Ev.now _))))
theorem wraps_i64 (n : Int) (h0 : 0 ≤ n) (h1 : n < 2 ^ 63) : IntKind.i64.wrap n = n := by rw [IntKind.wrap_i64]; omega
theorem and127 (x : Int) (h0 : 0 ≤ x) (h1 : x < 9223372036854775808) : Go.bits .and .i64 x 127 = x % 128 := bits_mask .i64 63 (by decide) wraps_i64 7 (by decide) x h0 h1
theorem and127b (x : Int) (h0 : 0 ≤ x) (h1 : x < 256) : Go.bits .and .u8 x 127 = x % 128 := bits_mask .u8 8 (by decide) wraps_u8 7 (by decide) x h0 h1
theorem bits_or_comm (k : IntKind) (x y : Int) : Go.bits .or k x y = Go.bits .or k y x := by simp only [Go.bits, BitVec.or_comm]
theorem or128 (x : Int) (h0 : 0 ≤ x) (h1 : x < 128) : Go.bits .or .i64 x 128 = x + 128 := by
  rw [bits_or_comm, Int.add_comm]
  exact bits_join .i64 63 (by decide) wraps_i64 7 128 x (by decide) (by decide) (by decide) h0 h1 (by omega)
theorem or128b (x : Int) (h0 : 0 ≤ x) (h1 : x < 128) : Go.bits .or .u8 x 128 = x + 128 := by
  rw [bits_or_comm, Int.add_comm]
  exact bits_join .u8 8 (by decide) wraps_u8 7 128 x (by decide) (by decide) (by decide) h0 h1 (by omega)
/-- A varint's bytes, d more than one at the most. -/
def uvd : Nat → Int → List Int
  | 0, n => [n]
  | d + 1, n => if n > 127 then (n % 128 + 128) :: uvd d (n / 128) else [n]
def uvar (n : Int) : List Int := if 0 ≤ n ∧ n ≤ 1000000000000 then uvd 5 n else []
theorem uvd_len (d : Nat) (n : Int) : (uvd d n).length ≤ d + 1 ∧ 1 ≤ (uvd d n).length := by
  induction d generalizing n with
  | zero => simp [uvd]
  | succ d ih =>
    have := ih (n / 128)
    unfold uvd
    split
    · simp only [List.length_cons]; omega
    · simp
theorem uvar_len (n : Int) : (uvar n).length ≤ 6 := by
  unfold uvar
  split
  · exact (uvd_len 5 n).1
  · simp
theorem uvd_byte (d : Nat) (n : Int) (h : 0 ≤ n ∧ n < 128 ^ (d + 1)) : ∀ x ∈ uvd d n, 0 ≤ x ∧ x ≤ 255 := by
  induction d generalizing n with
  | zero => intro x hx; simp [uvd] at hx; omega
  | succ d ih =>
    intro x hx
    unfold uvd at hx
    split at hx
    · rcases List.mem_cons.1 hx with rfl | hx
      · omega
      · refine ih (n / 128) ⟨by omega, ?_⟩ x hx
        exact Int.ediv_lt_of_lt_mul (by decide) (by rw [Int.pow_succ] at h; exact h.2)
    · simp at hx; omega
theorem uvar_byte (n : Int) : ∀ x ∈ uvar n, 0 ≤ x ∧ x ≤ 255 := by
  unfold uvar
  split
  · exact uvd_byte 5 n ⟨by omega, by omega⟩
  · simp

theorem l1In (a b c : Int) : spec_l1In.f a b c = some (decide (b ≤ a ∧ a ≤ c)) := by
  unfold spec_l1In.f
  simp only [ge_iff_le]
  by_cases h : b ≤ a
  · rw [if_pos h]
    simp [h]
  · rw [if_neg h]
    simp [h]

theorem specApp_l (d : Nat) : ∀ (n : Int) (s : List Int), 0 ≤ n → n < 9223372036854775808 → n < 128 ^ (d + 1) → s.length + d < 140737488355328 → Ev (fun k => spec_AppendUvarint.l0 k n s) (s ++ uvd d n) := by
  induction d with
  | zero =>
    intro n s h0 h1 h2 hs
    refine ev_succ ⟨0, fun k _ => ?_⟩
    have e : n % 256 = n := by omega
    simp only [spec_AppendUvarint.l0, show ¬ n > 127 by omega, if_false, show s.length < 140737488355328 by omega, if_true, e, uvd]
  | succ d ih =>
    intro n s h0 h1 h2 hs
    by_cases h : n > 127
    · obtain ⟨K, hK⟩ := ih (n / 128) (s ++ [n % 128 + 128]) (by omega) (by omega) (Int.ediv_lt_of_lt_mul (by decide) (by rw [Int.pow_succ] at h2; exact h2)) (by simp; omega)
      refine ev_succ ⟨K, fun k hk => ?_⟩
      have := hK k hk
      simp only at this
      simp only [spec_AppendUvarint.l0, h, if_true, show s.length < 140737488355328 by omega, and127 n h0 h1]
      rw [or128 (n % 128) (by omega) (by omega), show (n % 128 + 128) % 256 = n % 128 + 128 by omega, this]
      simp [uvd, h]
    · refine ev_succ ⟨0, fun k _ => ?_⟩
      have e : n % 256 = n := by omega
      simp only [spec_AppendUvarint.l0, h, if_false, show s.length < 140737488355328 by omega, if_true, e, uvd]
theorem specApp_ev (b : List Int) (n : Int) (hb : b.length ≤ 140737488355000) : Ev (fun k => spec_AppendUvarint.f k b n) (b ++ uvar n) := by
  by_cases h : 0 ≤ n ∧ n ≤ 1000000000000
  · obtain ⟨K, hK⟩ := specApp_l 5 n b h.1 (by omega) (by omega) (by omega)
    refine ⟨K, fun k hk => ?_⟩
    have := hK k hk
    simp only at this
    simp only [spec_AppendUvarint.f, Option.bind_some, List.nil_append, List.length_nil, show 0 + b.length < 140737488355328 by omega, if_true, l1In, h, and_self, decide_true, this, uvar]
  · refine ⟨0, fun k _ => ?_⟩
    simp only [spec_AppendUvarint.f, Option.bind_some, List.nil_append, List.length_nil, show 0 + b.length < 140737488355328 by omega, if_true, l1In, h, decide_false, Bool.false_eq_true, if_false, uvar, List.append_nil]

theorem drawReadU_l (l : List Int) (hl : l.length ≤ 140737488355328) : ∀ (d : Nat) (s : List Int) (i h : Int), OKC l i → s.length + d ≤ 1000 → (∀ x ∈ s, 0 ≤ x ∧ x ≤ 255) → ∃ y a, Ev (fun k => spec_DrawReadUvarint.l0 k s d l i h) (y, a) ∧ y.length ≤ 1000 ∧ (∀ x ∈ y, 0 ≤ x ∧ x ≤ 255) ∧ -1 ≤ a ∧ a ≤ 3 := by
  intro d
  induction d with
  | zero =>
    intro s i h hi hs hb
    obtain ⟨x, i2, g2, e2, o2, b2, c2, _⟩ := l1Below_draw l i h 4 hl hi
    have c2 := c2 (by omega)
    refine ⟨s, x - 1, ?_, by omega, hb, by omega, by omega⟩
    refine Ev.step (fun k => by rw [spec_DrawReadUvarint.l0]) ?_
    exact Ev.no (by omega) (Ev.pure e2 (Ev.is (Ev.now _) (by simp only; rw [w64 (by omega)])))
  | succ d ih =>
    intro s i h hi hs hb
    obtain ⟨x, i2, g2, e2, o2, hx⟩ := l1Int_draw l i h [128, 255, 0, 1, 127] hl hi (by decide)
    obtain ⟨y, a, e, p⟩ := ih (s ++ [x % 256]) i2 g2 o2 (by simp; omega) (by
      intro z hz
      rcases List.mem_append.1 hz with hz | hz
      · exact hb z hz
      · rw [List.mem_singleton.1 hz]; omega)
    refine ⟨y, a, ?_, p⟩
    refine Ev.step (fun k => by rw [spec_DrawReadUvarint.l0]) ?_
    have hw : wrap64 (((d + 1 : Nat) : Int) - 1) = (d : Int) := by rw [w64 (by omega)]; omega
    rw [hw]
    exact Ev.yes (by omega) (Ev.pure e2 (Ev.yes (by omega) e))
theorem drawReadU_ev (l : List Int) (hl : l.length ≤ 140737488355328) : ∃ y a, Ev (fun k => spec_DrawReadUvarint.f k l) (y, a) ∧ y.length ≤ 1000 ∧ (∀ x ∈ y, 0 ≤ x ∧ x ≤ 255) ∧ -1 ≤ a ∧ a ≤ 3 := by
  obtain ⟨h, e0⟩ := l1New_ev l hl
  obtain ⟨b, i1, g1, e1, o1⟩ := l1Once_draw l 0 h 2 hl ⟨by omega, by omega⟩
  cases b with
  | true =>
    obtain ⟨s, i2, g2, e2, o2, hs, hb⟩ := l1Bytes_ev l hl 1 (by omega) i1 g1 o1
    obtain ⟨n, i3, g3, e3, o3, hn⟩ := l1Num_draw l i2 g2 hl o2
    have e4 := specApp_ev s n (by omega)
    have hu := uvar_len n
    refine ⟨s ++ uvar n, 1, ?_, by rw [List.length_append]; omega, ?_, by omega, by omega⟩
    · unfold spec_DrawReadUvarint.f
      exact Ev.bind e0 (Ev.pure e1 (Ev.yes rfl (Ev.bind e2 (Ev.pure e3 (Ev.bind e4 (Ev.now _))))))
    · intro x hx
      rcases List.mem_append.1 hx with hx | hx
      · exact hb x hx
      · exact uvar_byte n x hx
  | false =>
    obtain ⟨c, i2, g2, e2, o2, b2, c2, _⟩ := l1Below_draw l i1 g1 8 hl o1
    have c2 := c2 (by omega)
    obtain ⟨c, rfl⟩ := Int.eq_ofNat_of_zero_le b2
    obtain ⟨y, a, e, p⟩ := drawReadU_l l hl c [] i2 g2 o2 (by simp; omega) (by simp)
    refine ⟨y, a, ?_, p⟩
    unfold spec_DrawReadUvarint.f
    exact Ev.bind e0 (Ev.pure e1 (Ev.no (by simp) (Ev.pure e2 e)))

theorem inR (a b c : Int) : impl_InRange.f a b c = some (decide (b ≤ a ∧ a ≤ c)) := by
  unfold impl_InRange.f
  by_cases h : b ≤ a
  · rw [if_pos h]
    simp [h]
  · rw [if_neg h]
    simp [h]

theorem implApp_l (d : Nat) : ∀ (n : Int) (s : List Int), 0 ≤ n → n < 9223372036854775808 → n < 128 ^ (d + 1) → s.length + d < 140737488355328 → Ev (fun k => impl_AppendUvarint.l0 k n s) (s ++ uvd d n) := by
  induction d with
  | zero =>
    intro n s h0 h1 h2 hs
    refine ev_succ ⟨0, fun k _ => ?_⟩
    have e : n % 256 = n := by omega
    simp only [impl_AppendUvarint.l0, show ¬ n > 127 by omega, if_false, show s.length < 140737488355328 by omega, if_true, e, uvd]
  | succ d ih =>
    intro n s h0 h1 h2 hs
    by_cases h : n > 127
    · obtain ⟨K, hK⟩ := ih (n / 128) (s ++ [n % 128 + 128]) (by omega) (by omega) (Int.ediv_lt_of_lt_mul (by decide) (by rw [Int.pow_succ] at h2; exact h2)) (by simp; omega)
      refine ev_succ ⟨K, fun k hk => ?_⟩
      have := hK k hk
      simp only at this
      simp only [impl_AppendUvarint.l0, h, if_true, show s.length < 140737488355328 by omega, and127 n h0 h1]
      rw [show n % 128 % 256 = n % 128 by omega, or128b (n % 128) (by omega) (by omega), this]
      simp [uvd, h]
    · refine ev_succ ⟨0, fun k _ => ?_⟩
      have e : n % 256 = n := by omega
      simp only [impl_AppendUvarint.l0, h, if_false, show s.length < 140737488355328 by omega, if_true, e, uvd]
theorem implApp_ev (b : List Int) (n : Int) (hb : b.length ≤ 140737488355000) : Ev (fun k => impl_AppendUvarint.f k b n) (b ++ uvar n) := by
  by_cases h : 0 ≤ n ∧ n ≤ 1000000000000
  · obtain ⟨K, hK⟩ := implApp_l 5 n b h.1 (by omega) (by omega) (by omega)
    refine ⟨K, fun k hk => ?_⟩
    have := hK k hk
    simp only at this
    simp only [impl_AppendUvarint.f, Option.bind_some, List.nil_append, List.length_nil, show 0 + b.length < 140737488355328 by omega, if_true, inR, h, and_self, decide_true, this, uvar]
  · refine ⟨0, fun k _ => ?_⟩
    simp only [impl_AppendUvarint.f, Option.bind_some, List.nil_append, List.length_nil, show 0 + b.length < 140737488355328 by omega, if_true, inR, h, decide_false, Bool.false_eq_true, if_false, uvar, List.append_nil]

theorem shl7 (k : Nat) (hk : k ≤ 5) (y : Int) (hy : 0 ≤ y ∧ y < 128) : shl .i64 y (wrap64 (7 * (k : Int))) = y * 128 ^ k := by
  have : k = 0 ∨ k = 1 ∨ k = 2 ∨ k = 3 ∨ k = 4 ∨ k = 5 := by omega
  rcases this with rfl | rfl | rfl | rfl | rfl | rfl
  · have e : wrap64 (7 * ((0 : Nat) : Int)) = 0 := by rw [w64 (by omega)]; rfl
    rw [e]; unfold shl; rw [IntKind.wrap_i64]; simp [IntKind.bits]; omega
  · have e : wrap64 (7 * ((1 : Nat) : Int)) = 7 := by rw [w64 (by omega)]; rfl
    rw [e]; unfold shl; rw [IntKind.wrap_i64]; simp [IntKind.bits]; omega
  · have e : wrap64 (7 * ((2 : Nat) : Int)) = 14 := by rw [w64 (by omega)]; rfl
    rw [e]; unfold shl; rw [IntKind.wrap_i64]; simp [IntKind.bits]; omega
  · have e : wrap64 (7 * ((3 : Nat) : Int)) = 21 := by rw [w64 (by omega)]; rfl
    rw [e]; unfold shl; rw [IntKind.wrap_i64]; simp [IntKind.bits]; omega
  · have e : wrap64 (7 * ((4 : Nat) : Int)) = 28 := by rw [w64 (by omega)]; rfl
    rw [e]; unfold shl; rw [IntKind.wrap_i64]; simp [IntKind.bits]; omega
  · have e : wrap64 (7 * ((5 : Nat) : Int)) = 35 := by rw [w64 (by omega)]; rfl
    rw [e]; unfold shl; rw [IntKind.wrap_i64]; simp [IntKind.bits]; omega
/-- What was read in k rounds is below 128 to the k. -/
def BD (k : Nat) (n : Int) : Prop := 0 ≤ n ∧ n < 128 ^ k
theorem or7 (k : Nat) (hk : k ≤ 5) (n y : Int) (hn : BD k n) (hy : 0 ≤ y ∧ y < 128) : Go.bits .or .i64 n (y * 128 ^ k) = n + y * 128 ^ k := by
  unfold BD at hn
  rw [bits_or_comm, Int.add_comm]
  have : k = 0 ∨ k = 1 ∨ k = 2 ∨ k = 3 ∨ k = 4 ∨ k = 5 := by omega
  rcases this with rfl | rfl | rfl | rfl | rfl | rfl
  · exact bits_join .i64 63 (by decide) wraps_i64 0 _ _ (by omega) (by omega) (by omega) hn.1 (by omega) (by omega)
  · exact bits_join .i64 63 (by decide) wraps_i64 7 _ _ (by omega) (by omega) (by omega) hn.1 (by omega) (by omega)
  · exact bits_join .i64 63 (by decide) wraps_i64 14 _ _ (by omega) (by omega) (by omega) hn.1 (by omega) (by omega)
  · exact bits_join .i64 63 (by decide) wraps_i64 21 _ _ (by omega) (by omega) (by omega) hn.1 (by omega) (by omega)
  · exact bits_join .i64 63 (by decide) wraps_i64 28 _ _ (by omega) (by omega) (by omega) hn.1 (by omega) (by omega)
  · exact bits_join .i64 63 (by decide) wraps_i64 35 _ _ (by omega) (by omega) (by omega) hn.1 (by omega) (by omega)
theorem pow_step (k : Nat) (n y : Int) (hn : BD k n) (hy : 0 ≤ y ∧ y < 128) : BD (k + 1) (n + y * 128 ^ k) := by
  unfold BD at hn ⊢
  have hp : (0 : Int) < 128 ^ k := Int.pow_pos (by decide)
  have h1 : 0 ≤ y * 128 ^ k := Int.mul_nonneg hy.1 (by omega)
  have h2 : y * 128 ^ k ≤ 127 * 128 ^ k := Int.mul_le_mul_of_nonneg_right (by omega) (by omega)
  have h3 : (128 : Int) ^ (k + 1) = 128 ^ k * 128 := Int.pow_succ _ _
  omega
/-- A varint read off the front of a row: round k, n so far; its value, and how many bytes it took in all. -/
def rdv : List Int → Nat → Int → Option (Int × Nat)
  | [], _, _ => none
  | x :: t, k, n => if 6 ≤ k then none else if x < 128 then (if (0 < k ∧ x = 0) ∨ n + x * 128 ^ k > 1000000000000 then none else some (n + x * 128 ^ k, k + 1)) else rdv t (k + 1) (n + (x % 128) * 128 ^ k)
def rdFin (a : Int) : Option (Int × Nat) → Int × Int × Bool
  | none => (0, 0, false)
  | some (v, m) => (v, a + m, true)
def readU (b : List Int) (a : Int) : Int × Int × Bool := if a < 0 then (0, 0, false) else rdFin a (rdv (b.drop a.toNat) 0 0)

theorem implRead_l (b : List Int) (hb : ∀ x ∈ b, 0 ≤ x ∧ x ≤ 255) (hl : b.length ≤ 140737488355328) (a : Nat) (ha : a ≤ 140737488355328) (d : Nat) :
    ∀ (k : Nat) (n : Int), k + d = 6 → BD k n → Ev (fun j => impl_ReadUvarint.l0 j b a n k) (rdFin a (rdv (b.drop (a + k)) k n)) := by
  induction d with
  | zero =>
    intro k n hk hn
    refine ev_succ ⟨0, fun j _ => ?_⟩
    have : rdv (b.drop (a + k)) k n = none := by
      cases b.drop (a + k) with
      | nil => rfl
      | cons x t => simp only [rdv, show 6 ≤ k by omega, if_true]
    rw [this]
    simp only [impl_ReadUvarint.l0, show ¬ (k : Int) < 6 by omega, if_false, rdFin]
  | succ d ih =>
    intro k n hk hn
    have hw : wrap64 ((a : Int) + (k : Int)) = ((a + k : Nat) : Int) := by rw [w64 (by omega)]; omega
    have h7 : wrap64 (7 * (k : Int)) = 7 * (k : Int) := w64 (by omega)
    by_cases hlt : a + k < b.length
    · have hx := List.getElem?_eq_getElem hlt
      have hbx := hb _ (List.mem_of_getElem? hx)
      rw [List.drop_eq_getElem_cons hlt]
      generalize b[a + k] = x at hx hbx
      have f1 : (k : Int) < 6 := by omega
      have f2 : (0 : Int) ≤ 7 * (k : Int) := by omega
      have f3 : ¬ 6 ≤ k := by omega
      have f4 : ¬ ((a + k : Nat) : Int) ≥ (b.length : Int) := by omega
      have f5 : wrap64 ((k : Int) + 1) = ((k + 1 : Nat) : Int) := by rw [w64 (by omega)]; omega
      have hw2 : wrap64 (((a + k : Nat) : Int) + 1) = (a : Int) + ((k + 1 : Nat) : Int) := by rw [w64 (by omega)]; omega
      have hr := rd_at hx
      have hm : 0 ≤ x % 128 ∧ x % 128 < 128 := by omega
      have hor := or7 k (by omega) n (x % 128) hn hm
      have hshl := shl7 k (by omega) (x % 128) hm
      have hand := and127b x (by omega) (by omega)
      have hwa : wrap64 (x % 128) = x % 128 := w64 (by omega)
      by_cases h128 : x < 128
      · have hxx : x % 128 = x := by omega
        rw [hxx] at hor hshl hand hwa
        refine ev_succ ⟨0, fun j _ => ?_⟩
        simp only [impl_ReadUvarint.l0, f1, if_true, hw, f4, if_false, nnc, ltc hlt, h7, f2, hr, h128, hand, hwa]
        rw [← h7, hshl, hor]
        simp only [rdv, f3, if_false, h128, if_true]
        by_cases hk0 : 0 < k
        · simp only [show (k : Int) > 0 by omega, if_true, hk0, true_and]
          by_cases hx0 : x = 0
          · simp only [hx0, if_true, true_or, rdFin]
          · simp only [hx0, if_false, false_or]
            split
            · rfl
            · simp only [rdFin, hw2]
        · simp only [show ¬ (k : Int) > 0 by omega, if_false, hk0, false_and, false_or]
          split
          · rfl
          · simp only [rdFin, hw2]
      · obtain ⟨K, hK⟩ := ih (k + 1) (n + x % 128 * 128 ^ k) (by omega) (pow_step k n (x % 128) hn hm)
        refine ev_succ ⟨K, fun j hj => ?_⟩
        have hj := hK j hj
        simp only at hj
        simp only [impl_ReadUvarint.l0, f1, if_true, hw, f4, if_false, nnc, ltc hlt, h7, f2, hr, h128, hand, hwa]
        rw [← h7, hshl, hor, f5, hj]
        simp only [rdv, f3, if_false, h128]
        rfl
    · refine ev_succ ⟨0, fun j _ => ?_⟩
      rw [List.drop_eq_nil_of_le (by omega)]
      simp only [impl_ReadUvarint.l0, show (k : Int) < 6 by omega, if_true, hw, show ((a + k : Nat) : Int) ≥ (b.length : Int) by omega, rdv, rdFin]
theorem implRead_ev (b : List Int) (a : Int) (hb : ∀ x ∈ b, 0 ≤ x ∧ x ≤ 255) (hl : b.length ≤ 140737488355328) : Ev (fun k => impl_ReadUvarint.f k b a) (readU b a) := by
  unfold readU
  by_cases h : a < 0
  · refine ev_succ ⟨0, fun j _ => ?_⟩
    simp only [impl_ReadUvarint.f, h, if_true, impl_ReadUvarint.j0]
  · rw [if_neg h]
    by_cases h2 : a ≥ (b.length : Int)
    · refine ev_succ ⟨0, fun j _ => ?_⟩
      rw [List.drop_eq_nil_of_le (by omega)]
      simp only [impl_ReadUvarint.f, h, h2, decide_true, if_false, if_true, impl_ReadUvarint.j0, rdv, rdFin]
    · obtain ⟨n, rfl⟩ := Int.eq_ofNat_of_zero_le (show 0 ≤ a by omega)
      obtain ⟨K, hK⟩ := implRead_l b hb hl n (by omega) 6 0 0 (by omega) ⟨by decide, by decide⟩
      refine ev_succ ⟨K, fun j hj => ?_⟩
      simp only [impl_ReadUvarint.f, h, h2, decide_false, if_false, impl_ReadUvarint.j0, Bool.false_eq_true]
      simpa using hK j hj

theorem specRead_l (b : List Int) (hb : ∀ x ∈ b, 0 ≤ x ∧ x ≤ 255) (hl : b.length ≤ 140737488355328) (a : Int) (ha : a ≤ 9223372036854775807) (d : Nat) :
    ∀ (k : Nat) (n : Int), k + d = 6 → BD k n → Ev (fun j => spec_ReadUvarint.l0 j b a n k) (if a < 0 then (0, 0, false) else rdFin a (rdv (b.drop (a.toNat + k)) k n)) := by
  induction d with
  | zero =>
    intro k n hk hn
    refine ev_succ ⟨0, fun j _ => ?_⟩
    have : rdv (b.drop (a.toNat + k)) k n = none := by
      cases b.drop (a.toNat + k) with
      | nil => rfl
      | cons x t => simp only [rdv, show 6 ≤ k by omega, if_true]
    rw [this]
    simp only [spec_ReadUvarint.l0, show ¬ (k : Int) < 6 by omega, if_false, rdFin, ite_self]
  | succ d ih =>
    intro k n hk hn
    by_cases hneg : a < 0
    · rw [if_pos hneg]
      refine ev_succ ⟨1, fun j hj => ?_⟩
      obtain ⟨j, rfl⟩ : ∃ m, j = m + 1 := ⟨j - 1, by omega⟩
      simp only [spec_ReadUvarint.l0, show (k : Int) < 6 by omega, if_true, hneg, spec_ReadUvarint.j1]
    rw [if_neg hneg]
    have hws : wrap64 ((b.length : Int) - (k : Int)) = (b.length : Int) - (k : Int) := w64 (by omega)
    by_cases hlt : a.toNat + k < b.length
    · have hw : wrap64 (a + (k : Int)) = ((a.toNat + k : Nat) : Int) := by rw [w64 (by omega)]; omega
      have h7 : wrap64 (7 * (k : Int)) = 7 * (k : Int) := w64 (by omega)
      have hx := List.getElem?_eq_getElem hlt
      have hbx := hb _ (List.mem_of_getElem? hx)
      rw [List.drop_eq_getElem_cons hlt]
      generalize b[a.toNat + k] = x at hx hbx
      have f1 : (k : Int) < 6 := by omega
      have f2 : (0 : Int) ≤ 7 * (k : Int) := by omega
      have f3 : ¬ 6 ≤ k := by omega
      have f4 : ¬ a ≥ (b.length : Int) - (k : Int) := by omega
      have f5 : wrap64 ((k : Int) + 1) = ((k + 1 : Nat) : Int) := by rw [w64 (by omega)]; omega
      have hw2 : wrap64 (((a.toNat + k : Nat) : Int) + 1) = a + ((k + 1 : Nat) : Int) := by rw [w64 (by omega)]; omega
      have hr := rd_at hx
      have hm : 0 ≤ x % 128 ∧ x % 128 < 128 := by omega
      have hor := or7 k (by omega) n (x % 128) hn hm
      have hshl := shl7 k (by omega) (x % 128) hm
      have hand := and127 x (by omega) (by omega)
      have hwx : wrap64 x = x := w64 (by omega)
      by_cases h128 : x < 128
      · have hxx : x % 128 = x := by omega
        rw [hxx] at hor hshl hand
        refine ev_succ ⟨1, fun j hj => ?_⟩
        obtain ⟨j, rfl⟩ : ∃ m, j = m + 1 := ⟨j - 1, by omega⟩
        simp only [spec_ReadUvarint.l0, spec_ReadUvarint.j1, f1, if_true, hneg, hws, f4, decide_false, Bool.false_eq_true, hw, if_false, nnc, ltc hlt, h7, f2, hr, hwx, h128, hand]
        rw [← h7, hshl, hor]
        simp only [rdv, f3, if_false, h128, if_true]
        by_cases hk0 : 0 < k
        · simp only [show (k : Int) > 0 by omega, if_true, hk0, true_and]
          by_cases hx0 : x = 0
          · simp only [hx0, if_true, true_or, rdFin]
          · simp only [hx0, if_false, false_or]
            split
            · rfl
            · simp only [rdFin, hw2]
        · simp only [show ¬ (k : Int) > 0 by omega, if_false, hk0, false_and, false_or, ite_self]
          split
          · rfl
          · simp only [rdFin, hw2]
      · obtain ⟨K, hK⟩ := ih (k + 1) (n + x % 128 * 128 ^ k) (by omega) (pow_step k n (x % 128) hn hm)
        refine ev_succ ⟨K + 1, fun j hj => ?_⟩
        obtain ⟨j, rfl⟩ : ∃ m, j = m + 1 := ⟨j - 1, by omega⟩
        have hj := hK j (by omega)
        simp only [hneg, if_false] at hj
        simp only [spec_ReadUvarint.l0, spec_ReadUvarint.j1, f1, if_true, hneg, hws, f4, decide_false, Bool.false_eq_true, hw, if_false, nnc, ltc hlt, h7, f2, hr, hwx, h128, hand]
        rw [← h7, hshl, hor, f5, hj]
        simp only [rdv, f3, if_false, h128]
        rfl
    · refine ev_succ ⟨1, fun j hj => ?_⟩
      obtain ⟨j, rfl⟩ : ∃ m, j = m + 1 := ⟨j - 1, by omega⟩
      rw [List.drop_eq_nil_of_le (by omega)]
      simp only [spec_ReadUvarint.l0, spec_ReadUvarint.j1, show (k : Int) < 6 by omega, if_true, hneg, if_false, hws, show a ≥ (b.length : Int) - (k : Int) by omega, decide_true, rdv, rdFin]
theorem specRead_ev (b : List Int) (a : Int) (hb : ∀ x ∈ b, 0 ≤ x ∧ x ≤ 255) (hl : b.length ≤ 140737488355328) (ha : a ≤ 9223372036854775807) : Ev (fun k => spec_ReadUvarint.f k b a) (readU b a) := by
  have := specRead_l b hb hl a ha 6 0 0 (by omega) ⟨by decide, by decide⟩
  simpa [spec_ReadUvarint.f, readU] using this

theorem rdv_b (l : List Int) (hb : ∀ x ∈ l, 0 ≤ x ∧ x ≤ 255) : ∀ (k : Nat) (n v : Int) (m : Nat), 0 ≤ n → rdv l k n = some (v, m) → 0 ≤ v ∧ v ≤ 1000000000000 ∧ k < m ∧ m ≤ k + l.length := by
  induction l with
  | nil => intro k n v m _ h; simp [rdv] at h
  | cons x t ih =>
    intro k n v m hn h
    have hx := hb x List.mem_cons_self
    have hp : (0 : Int) < 128 ^ k := Int.pow_pos (by decide)
    unfold rdv at h
    split at h
    · cases h
    · split at h
      · split at h
        · cases h
        · rename_i h1 h2 h3
          simp only [Option.some.injEq, Prod.mk.injEq] at h
          obtain ⟨rfl, rfl⟩ := h
          have h5 : 0 ≤ x * 128 ^ k := Int.mul_nonneg hx.1 (by omega)
          simp only [List.length_cons]
          omega
      · have h5 : 0 ≤ x % 128 * 128 ^ k := Int.mul_nonneg (by omega) (by omega)
        have := ih (fun y hy => hb y (List.mem_cons_of_mem _ hy)) (k + 1) _ v m (by omega) h
        simp only [List.length_cons]
        omega
theorem readU_cases (b : List Int) (a : Int) (hb : ∀ x ∈ b, 0 ≤ x ∧ x ≤ 255) : readU b a = (0, 0, false) ∨
    ∃ v e : Int, readU b a = (v, e, true) ∧ 0 ≤ v ∧ v ≤ 1000000000000 ∧ 0 ≤ a ∧ a < e ∧ e ≤ b.length ∧ rdv (b.drop a.toNat) 0 0 = some (v, (e - a).toNat) := by
  unfold readU
  split
  · exact .inl rfl
  · rename_i ha
    cases h : rdv (b.drop a.toNat) 0 0 with
    | none => exact .inl rfl
    | some p =>
      obtain ⟨v, m⟩ := p
      have := rdv_b (b.drop a.toNat) (fun x hx => hb x (List.mem_of_mem_drop hx)) 0 0 v m (by omega) h
      rw [List.length_drop] at this
      refine .inr ⟨v, a + m, rfl, by omega, by omega, by omega, by omega, by omega, ?_⟩
      rw [show (a + (m : Int) - a).toNat = m by omega]
def readB (b : List Int) (a most : Int) : List Int × Int × Bool :=
  if (readU b a).2.2 = true ∧ (readU b a).1 ≤ most ∧ (readU b a).1 ≤ (b.length : Int) - (readU b a).2.1 then ((b.take ((readU b a).2.1 + (readU b a).1).toNat).drop (readU b a).2.1.toNat, (readU b a).2.1 + (readU b a).1, true) else ([], 0, false)
theorem readB_len (b : List Int) (a most : Int) : (readB b a most).1.length ≤ b.length := by
  unfold readB
  split
  · simp only [List.length_drop, List.length_take]; omega
  · simp

theorem split128 (n P : Int) : n % 128 * P + n / 128 * (P * 128) = n * P := by
  have h : n % 128 + 128 * (n / 128) = n := Int.emod_add_mul_ediv n 128
  calc n % 128 * P + n / 128 * (P * 128) = (n % 128 + 128 * (n / 128)) * P := by
        rw [Int.add_mul, Int.mul_comm 128 (n / 128), Int.mul_assoc, Int.mul_comm P 128]
    _ = n * P := by rw [h]
/-- What was written is read. -/
theorem rdv_uvd (rest : List Int) : ∀ (d k : Nat) (n s : Int), k + d ≤ 5 → 0 ≤ n → n < 128 ^ (d + 1) → (k = 0 ∨ 0 < n) → s + n * 128 ^ k ≤ 1000000000000 → rdv (uvd d n ++ rest) k s = some (s + n * 128 ^ k, k + (uvd d n).length) := by
  intro d
  induction d with
  | zero =>
    intro k n s hk h0 h1 h2 h3
    simp only [uvd, List.cons_append, List.nil_append, rdv, List.length_cons, List.length_nil]
    rw [if_neg (by omega), if_pos (by omega), if_neg (by omega)]
  | succ d ih =>
    intro k n s hk h0 h1 h2 h3
    unfold uvd
    by_cases h : n > 127
    · rw [if_pos h]
      simp only [List.cons_append, rdv, List.length_cons]
      rw [if_neg (by omega), if_neg (by omega), show (n % 128 + 128) % 128 = n % 128 by omega]
      have e : (128 : Int) ^ (k + 1) = 128 ^ k * 128 := Int.pow_succ _ _
      have hs := split128 n (128 ^ k)
      have hn : n / 128 < 128 ^ (d + 1) := Int.ediv_lt_of_lt_mul (by decide) (by rw [Int.pow_succ] at h1; exact h1)
      have hsum : s + n % 128 * 128 ^ k + n / 128 * 128 ^ (k + 1) = s + n * 128 ^ k := by rw [e]; omega
      have := ih (k + 1) (n / 128) (s + n % 128 * 128 ^ k) (by omega) (by omega) hn (.inr (by omega)) (by rw [hsum]; exact h3)
      rw [this, hsum]
      congr 2
      omega
    · rw [if_neg h]
      simp only [List.cons_append, List.nil_append, rdv, List.length_cons, List.length_nil]
      rw [if_neg (by omega), if_pos (by omega), if_neg (by omega)]
/-- What was read was written. -/
theorem uvd_rdv : ∀ (l : List Int), (∀ x ∈ l, 0 ≤ x ∧ x ≤ 255) → ∀ (d k : Nat) (s v : Int) (m : Nat), k + d = 5 → rdv l k s = some (v, m) → ∃ n : Int, 0 ≤ n ∧ v = s + n * 128 ^ k ∧ k < m ∧ l.take (m - k) = uvd d n ∧ (k = 0 ∨ 0 < n) := by
  intro l
  induction l with
  | nil => intro _ d k s v m _ h; simp [rdv] at h
  | cons x t ih =>
    intro hb d k s v m hk h
    have hx := hb x List.mem_cons_self
    unfold rdv at h
    rw [if_neg (by omega)] at h
    by_cases h1 : x < 128
    · rw [if_pos h1] at h
      split at h
      · cases h
      · rename_i h2
        simp only [Option.some.injEq, Prod.mk.injEq] at h
        obtain ⟨rfl, rfl⟩ := h
        refine ⟨x, hx.1, rfl, by omega, ?_, ?_⟩
        · rw [show k + 1 - k = 1 by omega]
          cases d with
          | zero => simp [uvd]
          | succ d => simp [uvd, show ¬ x > 127 by omega]
        · by_cases e : k = 0
          · exact .inl e
          · refine .inr ?_
            by_cases e2 : x = 0
            · exact absurd (.inl ⟨by omega, e2⟩) h2
            · omega
    · rw [if_neg h1] at h
      cases d with
      | zero =>
        exfalso
        have : k = 5 := by omega
        subst this
        cases t with
        | nil => simp [rdv] at h
        | cons y t => simp [rdv] at h
      | succ d =>
        obtain ⟨n, g0, g1, g2, g3, g4⟩ := ih (fun y hy => hb y (List.mem_cons_of_mem _ hy)) d (k + 1) _ v m (by omega) h
        have hn : 0 < n := by omega
        have e : (128 : Int) ^ (k + 1) = 128 ^ k * 128 := Int.pow_succ _ _
        have hs := split128 (x % 128 + 128 * n) (128 ^ k)
        rw [show (x % 128 + 128 * n) % 128 = x % 128 by omega, show (x % 128 + 128 * n) / 128 = n by omega] at hs
        refine ⟨x % 128 + 128 * n, by omega, by rw [g1, e]; omega, by omega, ?_, .inr (by omega)⟩
        unfold uvd
        rw [if_pos (by omega), show (x % 128 + 128 * n) % 128 = x % 128 by omega, show (x % 128 + 128 * n) / 128 = n by omega, ← g3, show x % 128 + 128 = x by omega]
        rw [show m - k = (m - (k + 1)) + 1 by omega, List.take_succ_cons]
theorem readU_uvar (b rest : List Int) (n : Int) (h : 0 ≤ n ∧ n ≤ 1000000000000) : readU (b ++ (uvar n ++ rest)) b.length = (n, (b.length : Int) + (uvar n).length, true) := by
  unfold readU uvar
  rw [if_neg (by omega), if_pos h, Int.toNat_natCast, List.drop_left, rdv_uvd rest 5 0 n 0 (by omega) h.1 (by omega) (.inl rfl) (by omega)]
  simp [rdFin]
theorem uvar_readU (b : List Int) (a v e : Int) (hb : ∀ x ∈ b, 0 ≤ x ∧ x ≤ 255) (h : readU b a = (v, e, true)) : 0 ≤ a ∧ a < e ∧ e ≤ b.length ∧ uvar v = (b.take e.toNat).drop a.toNat := by
  rcases readU_cases b a hb with h' | ⟨v', e', h', h1, h2, h3, h4, h5, h6⟩
  · rw [h'] at h; cases h
  · rw [h'] at h
    simp only [Prod.mk.injEq, and_true] at h
    obtain ⟨rfl, rfl⟩ := h
    obtain ⟨n, g0, g1, g2, g3, g4⟩ := uvd_rdv _ (fun x hx => hb x (List.mem_of_mem_drop hx)) 5 0 0 _ _ (by omega) h6
    have : v' = n := by rw [g1]; omega
    subst this
    refine ⟨h3, h4, h5, ?_⟩
    unfold uvar
    rw [if_pos ⟨h1, h2⟩, ← g3, List.drop_take]
    congr 1
    omega

theorem sameBytes_ev (a b : List Int) (h : a.length ≤ 9223372036854775807) : Ev (fun k => laws_sameBytes.f k a b) (decide (a = b)) := by
  by_cases hl : a.length = b.length
  · have H := eq_loop a b (fun k i => laws_sameBytes.l0 k a b i) hl (fun k => by simp only [laws_sameBytes.l0, nltc, if_false]) (fun k i x y hx hy hi hi2 => by
      simp only [laws_sameBytes.l0, ltc hi, ltc hi2, nnc, if_true, rd_at hx, rd_at hy, w64s hi h])
    obtain ⟨K, hK⟩ := H
    refine ⟨K, fun k hk => ?_⟩
    simp only [laws_sameBytes.f, hl, if_true]
    exact hK k hk
  · refine ⟨0, fun k _ => ?_⟩
    simp only [laws_sameBytes.f]
    rw [if_neg (by omega)]
    congr 1
    symm
    exact decide_eq_false (fun e => hl (by rw [e]))
theorem sameBytes_self (a : List Int) (h : a.length ≤ 9223372036854775807) : Ev (fun k => laws_sameBytes.f k a a) true := Ev.is (sameBytes_ev a a h) (by simp)

theorem FnVarints : laws_FnVarints.Pure := by
  intro code h1 h2 _
  refine Ev.rounds (g := fun k => laws_FnVarints.f k code) ?_
  unfold laws_FnVarints.f
  refine Ev.pure (a := decide ((code.length : Int) > 1048576)) rfl ?_
  by_cases hb : (code.length : Int) > 1048576
  · exact Ev.yes (by simpa using hb) (Ev.now _)
  refine Ev.no (by simpa using hb) ?_
  obtain ⟨b, n, e0, hbl, hbb, hn⟩ := drawAppendU_ev code (by omega)
  obtain ⟨y, a, f0, hyl, hyb, ha⟩ := drawReadU_ev code (by omega)
  have hu := uvar_len n
  have hxb : ∀ x ∈ b ++ uvar n, 0 ≤ x ∧ x ≤ 255 := by
    intro x hx
    rcases List.mem_append.1 hx with hx | hx
    · exact hbb x hx
    · exact uvar_byte n x hx
  have e1 := implApp_ev b n (by omega)
  have e2 := implRead_ev (b ++ uvar n) b.length hxb (by rw [List.length_append]; omega)
  have ej1 : Ev (fun k => laws_FnVarints.j1 k code) true := by
    refine Ev.step (fun k => by rw [laws_FnVarints.j1]) ?_
    refine Ev.bind f0 (Ev.bind (implRead_ev y a hyb (by omega)) ?_)
    rcases readU_cases y a hyb with h | ⟨v, e, h, _⟩
    · rw [h]
      refine Ev.no (by simp) (Ev.bind (specRead_ev y a hyb (by omega) (by omega)) ?_)
      rw [h]
      exact Ev.yes rfl (Ev.yes rfl (Ev.now _))
    · obtain ⟨q1, q2, q3, q4⟩ := uvar_readU y a v e hyb h
      rw [h]
      have e3 := implApp_ev [] v (by simp)
      rw [List.nil_append] at e3
      have hv := uvar_len v
      have e4 := sameBytes_self (uvar v) (by omega)
      refine Ev.yes rfl (Ev.yes (by omega) (Ev.yes q3 (Ev.yes q2 (Ev.bind e3 (Ev.yes q1 (Ev.yes (by simp only; omega) ?_))))))
      simp only
      rw [← q4]
      exact Ev.bind e4 (Ev.now _)
  refine Ev.bind e0 (Ev.bind e1 (Ev.bind e2 ?_))
  by_cases hin : 0 ≤ n ∧ n ≤ 1000000000000
  · have hr : readU (b ++ uvar n) b.length = (n, (b.length : Int) + (uvar n).length, true) := by
      have := readU_uvar b [] n hin
      rwa [List.append_nil] at this
    rw [hr]
    refine Ev.no (by simp only; omega) ?_
    rw [decide_eq_false (show ¬ n > 1000000000000 by omega)]
    refine Ev.step (fun k => by rw [laws_FnVarints.j0]) ?_
    exact Ev.no (by simp) (Ev.yes rfl (Ev.yes rfl (Ev.yes (by simp) ej1)))
  · have hx : b ++ uvar n = b := by unfold uvar; rw [if_neg hin, List.append_nil]
    have hr : readU b b.length = (0, 0, false) := by
      unfold readU
      rw [if_neg (by omega), Int.toNat_natCast, List.drop_length]
      rfl
    rw [hx, hr]
    have e4 := sameBytes_self b (by omega)
    have ej : Ev (fun k => laws_FnVarints.j0 k code b n b 0 0 false true) true := by
      refine Ev.step (fun k => by rw [laws_FnVarints.j0]) ?_
      exact Ev.yes rfl (Ev.no (by simp) (Ev.bind e4 (Ev.yes rfl ej1)))
    by_cases hneg : n < 0
    · exact Ev.yes hneg ej
    · refine Ev.no hneg ?_
      rw [decide_eq_true (show n > 1000000000000 by omega)]
      exact ej

end Go.Proofs.Ytbafockooilcnab.Pure
