/- FnByteStrings: the pure statement of the law, for every input: what the program's functions and the reference's come to is the same, or what the law says holds. No condition beside the statement's own. -/
import Derived.Test.YtbafockooilcnabQFnByteStringsx3
namespace Go.Proofs.Ytbafockooilcnab.Pure
open Go.RowKit Go.Proofs.Ytbafockooilcnab.QFnByteStrings Go.Proofs.YtbafockooilcnabW.PrintWords Go.Proofs.YtbafockooilcnabW.PrintLast Go.Proofs.YtbafockooilcnabW.PrintMore
set_option linter.unusedVariables false
set_option linter.unusedSimpArgs false


theorem i64b {x : Int} (h : (Lit.int .i64 x).wf = true) : -9223372036854775808 ≤ x ∧ x ≤ 9223372036854775807 := by
  simp [Lit.wf, IntKind.min, IntKind.max, IntKind.signed, IntKind.bits] at h
  omega
theorem u8b {x : Int} (h : (Lit.int .u8 x).wf = true) : 0 ≤ x ∧ x ≤ 255 := by
  simp [Lit.wf, IntKind.min, IntKind.max, IntKind.signed, IntKind.bits] at h
  omega
theorem w64 {n : Int} (h : -9223372036854775808 ≤ n ∧ n ≤ 9223372036854775807) : wrap64 n = n := by unfold wrap64; omega
theorem w64s {i : Nat} {n : Nat} (h : i < n) (hn : n ≤ 9223372036854775807) : wrap64 ((i : Int) + 1) = ((i + 1 : Nat) : Int) := by unfold wrap64; omega
theorem ltc {i n : Nat} (h : i < n) : (i : Int) < (n : Int) := by omega
theorem nnc (i : Nat) : (0 : Int) ≤ (i : Int) := by omega
theorem nltc (n : Nat) : ¬ (n : Int) < (n : Int) := by omega
theorem rd_at {l : List Int} {i : Nat} {x : Int} (h : l[i]? = some x) : rd l (i : Int) = x := by
  unfold rd
  simp [List.getD, h]
/-- More rounds than some number. -/
theorem ev_k {α : Type} {g : Nat → Option α} {r : α} (h : Ev g r) : ∃ K, ∀ k, K ≤ k → g k = some r := h
theorem ev_succ {α : Type} {g : Nat → Option α} {r : α} (h : ∃ K, ∀ k, K ≤ k → g (k + 1) = some r) : Ev g r := by
  obtain ⟨K, h⟩ := h
  refine ⟨K + 1, fun k hk => ?_⟩
  obtain ⟨m, rfl⟩ : ∃ m, k = m + 1 := ⟨k - 1, by omega⟩
  exact h m (by omega)
/-- A loop over a list, from the front: what it comes to is told of the list's tails. -/
theorem loop_list {α σ ρ : Type} (l : List α) (L : Nat → σ → Int → Option ρ) (f : List α → σ → ρ) (I : Nat → σ → Prop)
    (hnil : ∀ s, I l.length s → Ev (fun k => L k s (l.length : Int)) (f [] s))
    (hcons : ∀ (i : Nat) (x : α) (t : List α) (s : σ), i < l.length → l[i]? = some x → l.drop (i + 1) = t → I i s →
      (∀ s', I (i + 1) s' → Ev (fun k => L k s' ((i + 1 : Nat) : Int)) (f t s')) → Ev (fun k => L k s (i : Int)) (f (x :: t) s)) :
    ∀ (i : Nat) (s : σ), i ≤ l.length → I i s → Ev (fun k => L k s (i : Int)) (f (l.drop i) s) := by
  intro i s hi hI
  generalize hd : l.length - i = d
  induction d generalizing i s with
  | zero =>
    have : i = l.length := by omega
    subst this
    rw [List.drop_length]
    exact hnil s hI
  | succ d ih =>
    have hlt : i < l.length := by omega
    rw [List.drop_eq_getElem_cons hlt]
    exact hcons i l[i] _ s hlt (List.getElem?_eq_getElem hlt) rfl hI (fun s' hI' => ih (i + 1) s' (by omega) hI' (by omega))
theorem loop_list0 {α σ ρ : Type} (l : List α) (L : Nat → σ → Int → Option ρ) (f : List α → σ → ρ) (I : Nat → σ → Prop)
    (hnil : ∀ s, I l.length s → Ev (fun k => L k s (l.length : Int)) (f [] s))
    (hcons : ∀ (i : Nat) (x : α) (t : List α) (s : σ), i < l.length → l[i]? = some x → l.drop (i + 1) = t → I i s →
      (∀ s', I (i + 1) s' → Ev (fun k => L k s' ((i + 1 : Nat) : Int)) (f t s')) → Ev (fun k => L k s (i : Int)) (f (x :: t) s))
    (s : σ) (hI : I 0 s) : Ev (fun k => L k s 0) (f l s) := by
  have := loop_list l L f I hnil hcons 0 s (Nat.zero_le _) hI
  simpa using this
theorem Ev.yes {α : Type} {c : Prop} [Decidable c] {f g : Nat → Option α} {r : α} (h : c) (e : Ev f r) : Ev (fun n => if c then f n else g n) r := by
  simp only [if_pos h]
  exact e
theorem Ev.no {α : Type} {c : Prop} [Decidable c] {f g : Nat → Option α} {r : α} (h : ¬ c) (e : Ev g r) : Ev (fun n => if c then f n else g n) r := by
  simp only [if_neg h]
  exact e
theorem Ev.pure {α β : Type} {x : Option α} {f : Nat → α → Option β} {a : α} {r : β} (h : x = some a) (k : Ev (fun n => f n a) r) : Ev (fun n => x.bind (f n)) r := by
  subst h
  exact k
theorem Ev.is {α : Type} {g : Nat → Option α} {r r' : α} (h : Ev g r) (e : r = r') : Ev g r' := e ▸ h

/-- A loop over the places of a row, with what holds at each: what it comes to. -/
theorem loop_run {σ ρ : Type} (n : Nat) (L : Nat → σ → Int → Option ρ) (I : Nat → σ → Prop) (r : ρ)
    (hdone : ∀ s, I n s → Ev (fun k => L k s (n : Int)) r)
    (hstep : ∀ i s, i < n → I i s → ∃ s', I (i + 1) s' ∧ ∃ K, ∀ k, K ≤ k → L (k + 1) s (i : Int) = L k s' ((i + 1 : Nat) : Int)) :
    ∀ (i : Nat) (s : σ), i ≤ n → I i s → Ev (fun k => L k s (i : Int)) r := by
  intro i s hi hI
  generalize hd : n - i = d
  induction d generalizing i s with
  | zero =>
    have : i = n := by omega
    subst this
    exact hdone s hI
  | succ d ih =>
    obtain ⟨s', hI', K, hK⟩ := hstep i s (by omega) hI
    obtain ⟨K', hK'⟩ := ih (i + 1) s' (by omega) hI' (by omega)
    refine ev_succ ⟨K + K', fun k hk => ?_⟩
    show L (k + 1) s (i : Int) = some r
    rw [hK k (by omega)]
    exact hK' k (by omega)
/-- Copying element by element. -/
theorem copy_loop {α β : Type} (l : List α) (g : α → β) (L : Nat → List β → Int → Option (List β))
    (hdone : ∀ k s, L (k + 1) s (l.length : Int) = some s)
    (hstep : ∀ k i x s, l[i]? = some x → i < l.length → s.length = l.length → L (k + 1) s (i : Int) = L k (s.set i (g x)) ((i + 1 : Nat) : Int))
    (s : List β) (hs : s.length = l.length) : Ev (fun k => L k s 0) (l.map g) := by
  refine loop_run l.length L (fun i s => s.length = l.length ∧ ∀ j, j < i → s[j]? = (l.map g)[j]?) _ ?_ ?_ 0 s (Nat.zero_le _) ⟨hs, fun j hj => by omega⟩
  · rintro s ⟨h1, h2⟩
    have : s = l.map g := by
      apply List.ext_getElem?
      intro j
      by_cases hj : j < l.length
      · exact h2 j hj
      · rw [List.getElem?_eq_none (by omega), List.getElem?_eq_none (by simp; omega)]
    subst this
    exact ev_succ ⟨0, fun k _ => hdone k _⟩
  · rintro i s hi ⟨h1, h2⟩
    have hx := List.getElem?_eq_getElem hi
    refine ⟨s.set i (g l[i]), ⟨by simp [h1], fun j hj => ?_⟩, 0, fun k _ => hstep k i _ s hx hi h1⟩
    by_cases hji : j = i
    · subst hji
      rw [List.getElem?_set_self (by omega)]
      simp [hi]
    · rw [List.getElem?_set_ne (by omega)]
      exact h2 j (by omega)
/-- Two rows held against each other, element by element. -/
theorem eq_loop {α : Type} [DecidableEq α] (a b : List α) (L : Nat → Int → Option Bool) (hlen : a.length = b.length)
    (hdone : ∀ k, L (k + 1) (a.length : Int) = some true)
    (hstep : ∀ k i x y, a[i]? = some x → b[i]? = some y → i < a.length → i < b.length → L (k + 1) (i : Int) = if x = y then L k ((i + 1 : Nat) : Int) else some false) :
    Ev (fun k => L k 0) (decide (a = b)) := by
  suffices H : ∀ d i, i ≤ a.length → a.length - i = d → Ev (fun k => L k (i : Int)) (decide (a.drop i = b.drop i)) by
    simpa using H _ 0 (Nat.zero_le _) rfl
  intro d
  induction d with
  | zero =>
    intro i hi hd
    have : i = a.length := by omega
    subst this
    refine ev_succ ⟨0, fun k _ => ?_⟩
    rw [List.drop_length, hlen, List.drop_length]
    rw [← hlen, hdone]
    simp
  | succ d ih =>
    intro i hi hd
    have h1 : i < a.length := by omega
    have h2 : i < b.length := by omega
    obtain ⟨K, hK⟩ := ih (i + 1) (by omega) (by omega)
    replace hK : ∀ k, K ≤ k → L k ((i + 1 : Nat) : Int) = some (decide (a.drop (i + 1) = b.drop (i + 1))) := hK
    refine ev_succ ⟨K, fun k hk => ?_⟩
    show L (k + 1) (i : Int) = _
    rw [hstep k i _ _ (List.getElem?_eq_getElem h1) (List.getElem?_eq_getElem h2) h1 h2, List.drop_eq_getElem_cons h1, List.drop_eq_getElem_cons h2]
    by_cases h : a[i] = b[i]
    · rw [if_pos h, hK k hk, h]
      simp only [List.cons.injEq, true_and]
    · rw [if_neg h]
      congr 1
      symm
      exact decide_eq_false (fun e => h (List.cons.inj e).1)
/-- Marks from c on, w a place. -/
def marks {β : Type} (m : Int → β) (w : Int) (c : Int) (n : Nat) : List β := (List.range n).map (fun i : Nat => m (c + w * (i : Int)))
theorem marks_len {β : Type} (m : Int → β) (w c : Int) (n : Nat) : (marks m w c n).length = n := by simp [marks]
theorem marks_at {β : Type} (m : Int → β) (w c : Int) (n i : Nat) (h : i < n) : (marks m w c n)[i]? = some (m (c + w * (i : Int))) := by simp [marks, h]
/-- Marking a row in place. -/
theorem mark_loop {β : Type} (m : Int → β) (w : Int) (n : Nat) (c0 : Int) (L : Nat → List β → Int → Int → Option (Int × List β))
    (hdone : ∀ k s c, s.length = n → L (k + 1) s c (n : Int) = some (c, s))
    (hstep : ∀ k i s, i < n → s.length = n → L (k + 1) s (c0 + w * (i : Int)) (i : Int) = L k (s.set i (m (c0 + w * (i : Int)))) (c0 + w * ((i + 1 : Nat) : Int)) ((i + 1 : Nat) : Int))
    (s : List β) (hs : s.length = n) : Ev (fun k => L k s c0 0) (c0 + w * (n : Int), marks m w c0 n) := by
  have := loop_run n (fun k (p : List β × Int) i => L k p.1 p.2 i) (fun i p => p.2 = c0 + w * (i : Int) ∧ p.1.length = n ∧ ∀ j, j < i → p.1[j]? = (marks m w c0 n)[j]?) (c0 + w * (n : Int), marks m w c0 n) ?_ ?_ 0 (s, c0) (Nat.zero_le _) ⟨by simp, hs, fun j hj => by omega⟩
  · exact this
  · rintro ⟨s, c⟩ ⟨h0, h1, h2⟩
    simp only at h0 h1 h2
    have : s = marks m w c0 n := by
      apply List.ext_getElem?
      intro j
      by_cases hj : j < n
      · exact h2 j hj
      · rw [List.getElem?_eq_none (by omega), List.getElem?_eq_none (by rw [marks_len]; omega)]
    subst this
    refine ev_succ ⟨0, fun k _ => ?_⟩
    show L (k + 1) _ c _ = _
    rw [hdone k _ c h1, h0]
  · rintro i ⟨s, c⟩ hi ⟨h0, h1, h2⟩
    simp only at h0 h1 h2
    refine ⟨(s.set i (m (c0 + w * (i : Int))), c0 + w * ((i + 1 : Nat) : Int)), ⟨rfl, by simp [h1], fun j hj => ?_⟩, 0, fun k _ => ?_⟩
    · by_cases hji : j = i
      · subst hji
        simp only
        rw [List.getElem?_set_self (by omega), marks_at _ _ _ _ _ hi]
      · simp only
        rw [List.getElem?_set_ne (by omega)]
        exact h2 j (by omega)
    · simp only [h0]
      exact hstep k i s hi h1
/-- A row's marks told again. -/
theorem held_loop (w : Int) (n : Nat) (c0 : Int) (L : Nat → Int → Int → Option Int)
    (hdone : ∀ k c, L (k + 1) c (n : Int) = some c)
    (hstep : ∀ k i, i < n → L (k + 1) (c0 + w * (i : Int)) (i : Int) = L k (c0 + w * ((i + 1 : Nat) : Int)) ((i + 1 : Nat) : Int)) :
    Ev (fun k => L k c0 0) (c0 + w * (n : Int)) := by
  have := loop_run n L (fun i c => c = c0 + w * (i : Int)) (c0 + w * (n : Int)) ?_ ?_ 0 c0 (Nat.zero_le _) (by simp)
  · exact this
  · rintro c h0
    refine ev_succ ⟨0, fun k _ => ?_⟩
    show L (k + 1) c _ = _
    rw [hdone k c, h0]
  · rintro i c hi h0
    subst h0
    exact ⟨_, rfl, 0, fun k _ => hstep k i hi⟩

theorem and255 (x : Int) : 0 ≤ Go.bits .and .i64 x 255 ∧ Go.bits .and .i64 x 255 ≤ 255 := by
  simp only [Go.bits, BitVec.toNat_and]
  have h : (BitVec.ofInt IntKind.i64.bits x).toNat &&& (BitVec.ofInt IntKind.i64.bits 255).toNat ≤ 255 := by
    have e : (BitVec.ofInt IntKind.i64.bits 255).toNat = 255 := by decide
    rw [e]
    exact Nat.and_le_right
  generalize (BitVec.ofInt IntKind.i64.bits x).toNat &&& (BitVec.ofInt IntKind.i64.bits 255).toNat = n at h
  rw [IntKind.wrap_i64]
  omega
/-- A cursor's place is within its bytes. -/
def OKC (l : List Int) (i : Int) : Prop := 0 ≤ i ∧ i ≤ l.length
theorem l1New_ev (l : List Int) (hl : l.length ≤ 140737488355328) : ∃ h, Ev (fun k => spec_l1New.f k l) (l, 0, h) := by
  suffices H : ∀ (d i : Nat) (x : Int), i ≤ l.length → l.length - i = d → ∃ h, Ev (fun k => spec_l1New.l0 k l x i) (l, 0, h) from H _ 0 _ (Nat.zero_le _) rfl
  intro d
  induction d with
  | zero =>
    intro i x hi hd
    have : i = l.length := by omega
    subst this
    exact ⟨x, ev_succ ⟨0, fun k _ => by simp only [spec_l1New.l0, nltc, if_false]⟩⟩
  | succ d ih =>
    intro i x hi hd
    have hlt : i < l.length := by omega
    by_cases h4 : (i : Int) < 4000
    · obtain ⟨h, K, hK⟩ := ih (i + 1) (Go.bits .and .i64 (wrap64 ((wrap64 ((wrap64 (x * 137)) + (wrap64 (rd l (i : Int))))) + 11)) 1073741823) (by omega) (by omega)
      refine ⟨h, ev_succ ⟨K, fun k hk => ?_⟩⟩
      simp only [spec_l1New.l0, ltc hlt, h4, nnc, if_true, w64s hlt (show l.length ≤ 9223372036854775807 by omega)]
      exact hK k hk
    · exact ⟨x, ev_succ ⟨0, fun k _ => by simp only [spec_l1New.l0, ltc hlt, h4, if_true, if_false]⟩⟩
theorem l1Byte_draw (l : List Int) (i h : Int) (hl : l.length ≤ 140737488355328) (hi : OKC l i) : ∃ x i' h', spec_l1Byte.f l i h = some (x, i', h') ∧ OKC l i' ∧ 0 ≤ x ∧ x ≤ 255 := by
  unfold OKC at hi
  unfold spec_l1Byte.f
  by_cases h1 : i < (l.length : Int)
  · rw [if_pos h1, if_pos hi.1]
    refine ⟨_, _, _, rfl, ?_, and255 _⟩
    rw [w64 (by omega)]
    unfold OKC
    omega
  · rw [if_neg h1]
    exact ⟨_, _, _, rfl, hi, and255 _⟩
theorem tmod_b (x n : Int) (hx : 0 ≤ x) (hn : 0 < n) : 0 ≤ Int.tmod x n ∧ Int.tmod x n < n := by
  rw [Int.tmod_eq_emod_of_nonneg hx]
  exact ⟨Int.emod_nonneg _ (by omega), Int.emod_lt_of_pos _ hn⟩
theorem l1Below_draw (l : List Int) (i h n : Int) (hl : l.length ≤ 140737488355328) (hi : OKC l i) : ∃ x i' h', spec_l1Below.f l i h n = some (x, i', h') ∧ OKC l i' ∧ 0 ≤ x ∧ (0 < n → x < n) ∧ (n ≤ 0 → x = 0) := by
  unfold spec_l1Below.f
  by_cases h1 : n ≤ 0
  · rw [if_pos h1]
    exact ⟨0, i, h, rfl, hi, by omega, by omega, fun _ => rfl⟩
  · rw [if_neg h1]
    obtain ⟨x, i1, g1, e1, o1, b1, c1⟩ := l1Byte_draw l i h hl hi
    by_cases h2 : n ≤ 256
    · rw [if_pos h2, e1]
      simp only [Option.bind_some]
      rw [if_neg (by omega)]
      have := tmod_b x n b1 (by omega)
      exact ⟨_, _, _, rfl, o1, this.1, fun _ => this.2, by omega⟩
    · rw [if_neg h2, e1]
      simp only [Option.bind_some]
      obtain ⟨y, i2, g2, e2, o2, b2, c2⟩ := l1Byte_draw l i1 g1 hl o1
      rw [e2]
      simp only [Option.bind_some]
      obtain ⟨z, i3, g3, e3, o3, b3, c3⟩ := l1Byte_draw l i2 g2 hl o2
      rw [e3]
      simp only [Option.bind_some]
      rw [if_neg (by omega), w64 (n := x * 65536) (by omega), w64 (n := y * 256) (by omega), w64 (n := x * 65536 + y * 256) (by omega), w64 (by omega)]
      have := tmod_b (x * 65536 + y * 256 + z) n (by omega) (by omega)
      exact ⟨_, _, _, rfl, o3, this.1, fun _ => this.2, by omega⟩
theorem l1Bytes_ev (l : List Int) (hl : l.length ≤ 140737488355328) (n : Nat) (hn : n ≤ 1000000) (i h : Int) (hi : OKC l i) : ∃ s i' h', Ev (fun k => spec_l1Bytes.f k l i h n) (s, i', h') ∧ OKC l i' ∧ s.length = n ∧ ∀ x ∈ s, 0 ≤ x ∧ x ≤ 255 := by
  suffices H : ∀ (d j : Nat) (s : List Int) (i h : Int), j ≤ n → n - j = d → s.length = j → (∀ x ∈ s, 0 ≤ x ∧ x ≤ 255) → OKC l i → ∃ s' i' h', Ev (fun k => spec_l1Bytes.l0 k n s j l i h) (s', i', h') ∧ OKC l i' ∧ s'.length = n ∧ ∀ x ∈ s', 0 ≤ x ∧ x ≤ 255 from
    H _ 0 [] i h (Nat.zero_le _) rfl rfl (by simp) hi
  intro d
  induction d with
  | zero =>
    intro j s i h hj hd hs hb hi
    have : j = n := by omega
    subst this
    exact ⟨s, i, h, ev_succ ⟨0, fun k _ => by simp only [spec_l1Bytes.l0, nltc, if_false]⟩, hi, hs, hb⟩
  | succ d ih =>
    intro j s i h hj hd hs hb hi
    have hlt : j < n := by omega
    obtain ⟨x, i1, g1, e1, o1, b1, c1⟩ := l1Byte_draw l i h hl hi
    obtain ⟨s', i', h', ⟨K, hK⟩, o, hs', hb'⟩ := ih (j + 1) (s ++ [x % 256]) i1 g1 (by omega) (by omega) (by simp [hs]) (by
      intro y hy
      rcases List.mem_append.1 hy with hy | hy
      · exact hb y hy
      · rw [List.mem_singleton.1 hy]; omega) o1
    refine ⟨s', i', h', ev_succ ⟨K, fun k hk => ?_⟩, o, hs', hb'⟩
    simp only [spec_l1Bytes.l0, ltc hlt, if_true, e1, Option.bind_some, show s.length < 140737488355328 by omega, w64s hlt (show n ≤ 9223372036854775807 by omega)]
    exact hK k hk

theorem drawAppendB_ev (l : List Int) (hl : l.length ≤ 140737488355328) : ∃ b d, Ev (fun k => spec_DrawAppendBytes.f k l) (b, d) ∧ b.length ≤ 2 ∧ d.length ≤ 5 ∧ (∀ x ∈ b, 0 ≤ x ∧ x ≤ 255) ∧ (∀ x ∈ d, 0 ≤ x ∧ x ≤ 255) := by
  obtain ⟨h, e0⟩ := l1New_ev l hl
  obtain ⟨c, i1, g1, e1, o1, b1, c1, _⟩ := l1Below_draw l 0 h 3 hl ⟨by omega, by omega⟩
  have c1 := c1 (by omega)
  obtain ⟨c, rfl⟩ := Int.eq_ofNat_of_zero_le b1
  obtain ⟨s, i2, g2, e2, o2, hs, hb⟩ := l1Bytes_ev l hl c (by omega) i1 g1 o1
  obtain ⟨d, i3, g3, e3, o3, b3, c3, _⟩ := l1Below_draw l i2 g2 6 hl o2
  have c3 := c3 (by omega)
  obtain ⟨d, rfl⟩ := Int.eq_ofNat_of_zero_le b3
  obtain ⟨t, i4, g4, e4, o4, ht, hbt⟩ := l1Bytes_ev l hl d (by omega) i3 g3 o3
  refine ⟨s, t, ?_, by omega, by omega, hb, hbt⟩
  unfold spec_DrawAppendBytes.f
  exact Ev.bind e0 (Ev.pure e1 (Ev.bind e2 (Ev.pure e3 (Ev.bind e4 (Ev.now _)))))

theorem wraps_i64 (n : Int) (h0 : 0 ≤ n) (h1 : n < 2 ^ 63) : IntKind.i64.wrap n = n := by rw [IntKind.wrap_i64]; omega
theorem and127 (x : Int) (h0 : 0 ≤ x) (h1 : x < 9223372036854775808) : Go.bits .and .i64 x 127 = x % 128 := bits_mask .i64 63 (by decide) wraps_i64 7 (by decide) x h0 h1
theorem and127b (x : Int) (h0 : 0 ≤ x) (h1 : x < 256) : Go.bits .and .u8 x 127 = x % 128 := bits_mask .u8 8 (by decide) wraps_u8 7 (by decide) x h0 h1
theorem bits_or_comm (k : IntKind) (x y : Int) : Go.bits .or k x y = Go.bits .or k y x := by simp only [Go.bits, BitVec.or_comm]
theorem or128 (x : Int) (h0 : 0 ≤ x) (h1 : x < 128) : Go.bits .or .i64 x 128 = x + 128 := by
  rw [bits_or_comm, Int.add_comm]
  exact bits_join .i64 63 (by decide) wraps_i64 7 128 x (by decide) (by decide) (by decide) h0 h1 (by omega)
theorem or128b (x : Int) (h0 : 0 ≤ x) (h1 : x < 128) : Go.bits .or .u8 x 128 = x + 128 := by
  rw [bits_or_comm, Int.add_comm]
  exact bits_join .u8 8 (by decide) wraps_u8 7 128 x (by decide) (by decide) (by decide) h0 h1 (by omega)
/-- A varint's bytes, d more than one at the most. -/
def uvd : Nat → Int → List Int
  | 0, n => [n]
  | d + 1, n => if n > 127 then (n % 128 + 128) :: uvd d (n / 128) else [n]
def uvar (n : Int) : List Int := if 0 ≤ n ∧ n ≤ 1000000000000 then uvd 5 n else []
theorem uvd_len (d : Nat) (n : Int) : (uvd d n).length ≤ d + 1 ∧ 1 ≤ (uvd d n).length := by
  induction d generalizing n with
  | zero => simp [uvd]
  | succ d ih =>
    have := ih (n / 128)
    unfold uvd
    split
    · simp only [List.length_cons]; omega
    · simp
theorem uvar_len (n : Int) : (uvar n).length ≤ 6 := by
  unfold uvar
  split
  · exact (uvd_len 5 n).1
  · simp
theorem uvd_byte (d : Nat) (n : Int) (h : 0 ≤ n ∧ n < 128 ^ (d + 1)) : ∀ x ∈ uvd d n, 0 ≤ x ∧ x ≤ 255 := by
  induction d generalizing n with
  | zero => intro x hx; simp [uvd] at hx; omega
  | succ d ih =>
    intro x hx
    unfold uvd at hx
    split at hx
    · rcases List.mem_cons.1 hx with rfl | hx
      · omega
      · refine ih (n / 128) ⟨by omega, ?_⟩ x hx
        exact Int.ediv_lt_of_lt_mul (by decide) (by rw [Int.pow_succ] at h; exact h.2)
    · simp at hx; omega
theorem uvar_byte (n : Int) : ∀ x ∈ uvar n, 0 ≤ x ∧ x ≤ 255 := by
  unfold uvar
  split
  · exact uvd_byte 5 n ⟨by omega, by omega⟩
  · simp

theorem inR (a b c : Int) : impl_InRange.f a b c = some (decide (b ≤ a ∧ a ≤ c)) := by
  unfold impl_InRange.f
  by_cases h : b ≤ a
  · rw [if_pos h]
    simp [h]
  · rw [if_neg h]
    simp [h]

theorem implApp_l (d : Nat) : ∀ (n : Int) (s : List Int), 0 ≤ n → n < 9223372036854775808 → n < 128 ^ (d + 1) → s.length + d < 140737488355328 → Ev (fun k => impl_AppendUvarint.l0 k n s) (s ++ uvd d n) := by
  induction d with
  | zero =>
    intro n s h0 h1 h2 hs
    refine ev_succ ⟨0, fun k _ => ?_⟩
    have e : n % 256 = n := by omega
    simp only [impl_AppendUvarint.l0, show ¬ n > 127 by omega, if_false, show s.length < 140737488355328 by omega, if_true, e, uvd]
  | succ d ih =>
    intro n s h0 h1 h2 hs
    by_cases h : n > 127
    · obtain ⟨K, hK⟩ := ih (n / 128) (s ++ [n % 128 + 128]) (by omega) (by omega) (Int.ediv_lt_of_lt_mul (by decide) (by rw [Int.pow_succ] at h2; exact h2)) (by simp; omega)
      refine ev_succ ⟨K, fun k hk => ?_⟩
      have := hK k hk
      simp only at this
      simp only [impl_AppendUvarint.l0, h, if_true, show s.length < 140737488355328 by omega, and127 n h0 h1]
      rw [show n % 128 % 256 = n % 128 by omega, or128b (n % 128) (by omega) (by omega), this]
      simp [uvd, h]
    · refine ev_succ ⟨0, fun k _ => ?_⟩
      have e : n % 256 = n := by omega
      simp only [impl_AppendUvarint.l0, h, if_false, show s.length < 140737488355328 by omega, if_true, e, uvd]
theorem implApp_ev (b : List Int) (n : Int) (hb : b.length ≤ 140737488355000) : Ev (fun k => impl_AppendUvarint.f k b n) (b ++ uvar n) := by
  by_cases h : 0 ≤ n ∧ n ≤ 1000000000000
  · obtain ⟨K, hK⟩ := implApp_l 5 n b h.1 (by omega) (by omega) (by omega)
    refine ⟨K, fun k hk => ?_⟩
    have := hK k hk
    simp only at this
    simp only [impl_AppendUvarint.f, Option.bind_some, List.nil_append, List.length_nil, show 0 + b.length < 140737488355328 by omega, if_true, inR, h, and_self, decide_true, this, uvar]
  · refine ⟨0, fun k _ => ?_⟩
    simp only [impl_AppendUvarint.f, Option.bind_some, List.nil_append, List.length_nil, show 0 + b.length < 140737488355328 by omega, if_true, inR, h, decide_false, Bool.false_eq_true, if_false, uvar, List.append_nil]

theorem implAB_ev (a b : List Int) (h : a.length + b.length ≤ 140737488354000) : Ev (fun k => impl_AppendBytes.f k a b) (a ++ uvar b.length ++ b) := by
  obtain ⟨K, hK⟩ := implApp_ev a b.length (by omega)
  have hl := uvar_len b.length
  refine ⟨K, fun k hk => ?_⟩
  have := hK k hk
  simp only at this
  simp only [impl_AppendBytes.f, this, Option.bind_some]
  rw [if_pos (by rw [List.length_append]; omega)]

theorem shl7 (k : Nat) (hk : k ≤ 5) (y : Int) (hy : 0 ≤ y ∧ y < 128) : shl .i64 y (wrap64 (7 * (k : Int))) = y * 128 ^ k := by
  have : k = 0 ∨ k = 1 ∨ k = 2 ∨ k = 3 ∨ k = 4 ∨ k = 5 := by omega
  rcases this with rfl | rfl | rfl | rfl | rfl | rfl
  · have e : wrap64 (7 * ((0 : Nat) : Int)) = 0 := by rw [w64 (by omega)]; rfl
    rw [e]; unfold shl; rw [IntKind.wrap_i64]; simp [IntKind.bits]; omega
  · have e : wrap64 (7 * ((1 : Nat) : Int)) = 7 := by rw [w64 (by omega)]; rfl
    rw [e]; unfold shl; rw [IntKind.wrap_i64]; simp [IntKind.bits]; omega
  · have e : wrap64 (7 * ((2 : Nat) : Int)) = 14 := by rw [w64 (by omega)]; rfl
    rw [e]; unfold shl; rw [IntKind.wrap_i64]; simp [IntKind.bits]; omega
  · have e : wrap64 (7 * ((3 : Nat) : Int)) = 21 := by rw [w64 (by omega)]; rfl
    rw [e]; unfold shl; rw [IntKind.wrap_i64]; simp [IntKind.bits]; omega
  · have e : wrap64 (7 * ((4 : Nat) : Int)) = 28 := by rw [w64 (by omega)]; rfl
    rw [e]; unfold shl; rw [IntKind.wrap_i64]; simp [IntKind.bits]; omega
  · have e : wrap64 (7 * ((5 : Nat) : Int)) = 35 := by rw [w64 (by omega)]; rfl
    rw [e]; unfold shl; rw [IntKind.wrap_i64]; simp [IntKind.bits]; omega
/-- What was read in k rounds is below 128 to the k. -/
def BD (k : Nat) (n : Int) : Prop := 0 ≤ n ∧ n < 128 ^ k
theorem or7 (k : Nat) (hk : k ≤ 5) (n y : Int) (hn : BD k n) (hy : 0 ≤ y ∧ y < 128) : Go.bits .or .i64 n (y * 128 ^ k) = n + y * 128 ^ k := by
  unfold BD at hn
  rw [bits_or_comm, Int.add_comm]
  have : k = 0 ∨ k = 1 ∨ k = 2 ∨ k = 3 ∨ k = 4 ∨ k = 5 := by omega
  rcases this with rfl | rfl | rfl | rfl | rfl | rfl
  · exact bits_join .i64 63 (by decide) wraps_i64 0 _ _ (by omega) (by omega) (by omega) hn.1 (by omega) (by omega)
  · exact bits_join .i64 63 (by decide) wraps_i64 7 _ _ (by omega) (by omega) (by omega) hn.1 (by omega) (by omega)
  · exact bits_join .i64 63 (by decide) wraps_i64 14 _ _ (by omega) (by omega) (by omega) hn.1 (by omega) (by omega)
  · exact bits_join .i64 63 (by decide) wraps_i64 21 _ _ (by omega) (by omega) (by omega) hn.1 (by omega) (by omega)
  · exact bits_join .i64 63 (by decide) wraps_i64 28 _ _ (by omega) (by omega) (by omega) hn.1 (by omega) (by omega)
  · exact bits_join .i64 63 (by decide) wraps_i64 35 _ _ (by omega) (by omega) (by omega) hn.1 (by omega) (by omega)
theorem pow_step (k : Nat) (n y : Int) (hn : BD k n) (hy : 0 ≤ y ∧ y < 128) : BD (k + 1) (n + y * 128 ^ k) := by
  unfold BD at hn ⊢
  have hp : (0 : Int) < 128 ^ k := Int.pow_pos (by decide)
  have h1 : 0 ≤ y * 128 ^ k := Int.mul_nonneg hy.1 (by omega)
  have h2 : y * 128 ^ k ≤ 127 * 128 ^ k := Int.mul_le_mul_of_nonneg_right (by omega) (by omega)
  have h3 : (128 : Int) ^ (k + 1) = 128 ^ k * 128 := Int.pow_succ _ _
  omega
/-- A varint read off the front of a row: round k, n so far; its value, and how many bytes it took in all. -/
def rdv : List Int → Nat → Int → Option (Int × Nat)
  | [], _, _ => none
  | x :: t, k, n => if 6 ≤ k then none else if x < 128 then (if (0 < k ∧ x = 0) ∨ n + x * 128 ^ k > 1000000000000 then none else some (n + x * 128 ^ k, k + 1)) else rdv t (k + 1) (n + (x % 128) * 128 ^ k)
def rdFin (a : Int) : Option (Int × Nat) → Int × Int × Bool
  | none => (0, 0, false)
  | some (v, m) => (v, a + m, true)
def readU (b : List Int) (a : Int) : Int × Int × Bool := if a < 0 then (0, 0, false) else rdFin a (rdv (b.drop a.toNat) 0 0)

theorem rdv_b (l : List Int) (hb : ∀ x ∈ l, 0 ≤ x ∧ x ≤ 255) : ∀ (k : Nat) (n v : Int) (m : Nat), 0 ≤ n → rdv l k n = some (v, m) → 0 ≤ v ∧ v ≤ 1000000000000 ∧ k < m ∧ m ≤ k + l.length := by
  induction l with
  | nil => intro k n v m _ h; simp [rdv] at h
  | cons x t ih =>
    intro k n v m hn h
    have hx := hb x List.mem_cons_self
    have hp : (0 : Int) < 128 ^ k := Int.pow_pos (by decide)
    unfold rdv at h
    split at h
    · cases h
    · split at h
      · split at h
        · cases h
        · rename_i h1 h2 h3
          simp only [Option.some.injEq, Prod.mk.injEq] at h
          obtain ⟨rfl, rfl⟩ := h
          have h5 : 0 ≤ x * 128 ^ k := Int.mul_nonneg hx.1 (by omega)
          simp only [List.length_cons]
          omega
      · have h5 : 0 ≤ x % 128 * 128 ^ k := Int.mul_nonneg (by omega) (by omega)
        have := ih (fun y hy => hb y (List.mem_cons_of_mem _ hy)) (k + 1) _ v m (by omega) h
        simp only [List.length_cons]
        omega
theorem readU_cases (b : List Int) (a : Int) (hb : ∀ x ∈ b, 0 ≤ x ∧ x ≤ 255) : readU b a = (0, 0, false) ∨
    ∃ v e : Int, readU b a = (v, e, true) ∧ 0 ≤ v ∧ v ≤ 1000000000000 ∧ 0 ≤ a ∧ a < e ∧ e ≤ b.length ∧ rdv (b.drop a.toNat) 0 0 = some (v, (e - a).toNat) := by
  unfold readU
  split
  · exact .inl rfl
  · rename_i ha
    cases h : rdv (b.drop a.toNat) 0 0 with
    | none => exact .inl rfl
    | some p =>
      obtain ⟨v, m⟩ := p
      have := rdv_b (b.drop a.toNat) (fun x hx => hb x (List.mem_of_mem_drop hx)) 0 0 v m (by omega) h
      rw [List.length_drop] at this
      refine .inr ⟨v, a + m, rfl, by omega, by omega, by omega, by omega, by omega, ?_⟩
      rw [show (a + (m : Int) - a).toNat = m by omega]
def readB (b : List Int) (a most : Int) : List Int × Int × Bool :=
  if (readU b a).2.2 = true ∧ (readU b a).1 ≤ most ∧ (readU b a).1 ≤ (b.length : Int) - (readU b a).2.1 then ((b.take ((readU b a).2.1 + (readU b a).1).toNat).drop (readU b a).2.1.toNat, (readU b a).2.1 + (readU b a).1, true) else ([], 0, false)
theorem readB_len (b : List Int) (a most : Int) : (readB b a most).1.length ≤ b.length := by
  unfold readB
  split
  · simp only [List.length_drop, List.length_take]; omega
  · simp

theorem implRead_l (b : List Int) (hb : ∀ x ∈ b, 0 ≤ x ∧ x ≤ 255) (hl : b.length ≤ 140737488355328) (a : Nat) (ha : a ≤ 140737488355328) (d : Nat) :
    ∀ (k : Nat) (n : Int), k + d = 6 → BD k n → Ev (fun j => impl_ReadUvarint.l0 j b a n k) (rdFin a (rdv (b.drop (a + k)) k n)) := by
  induction d with
  | zero =>
    intro k n hk hn
    refine ev_succ ⟨0, fun j _ => ?_⟩
    have : rdv (b.drop (a + k)) k n = none := by
      cases b.drop (a + k) with
      | nil => rfl
      | cons x t => simp only [rdv, show 6 ≤ k by omega, if_true]
    rw [this]
    simp only [impl_ReadUvarint.l0, show ¬ (k : Int) < 6 by omega, if_false, rdFin]
  | succ d ih =>
    intro k n hk hn
    have hw : wrap64 ((a : Int) + (k : Int)) = ((a + k : Nat) : Int) := by rw [w64 (by omega)]; omega
    have h7 : wrap64 (7 * (k : Int)) = 7 * (k : Int) := w64 (by omega)
    by_cases hlt : a + k < b.length
    · have hx := List.getElem?_eq_getElem hlt
      have hbx := hb _ (List.mem_of_getElem? hx)
      rw [List.drop_eq_getElem_cons hlt]
      generalize b[a + k] = x at hx hbx
      have f1 : (k : Int) < 6 := by omega
      have f2 : (0 : Int) ≤ 7 * (k : Int) := by omega
      have f3 : ¬ 6 ≤ k := by omega
      have f4 : ¬ ((a + k : Nat) : Int) ≥ (b.length : Int) := by omega
      have f5 : wrap64 ((k : Int) + 1) = ((k + 1 : Nat) : Int) := by rw [w64 (by omega)]; omega
      have hw2 : wrap64 (((a + k : Nat) : Int) + 1) = (a : Int) + ((k + 1 : Nat) : Int) := by rw [w64 (by omega)]; omega
      have hr := rd_at hx
      have hm : 0 ≤ x % 128 ∧ x % 128 < 128 := by omega
      have hor := or7 k (by omega) n (x % 128) hn hm
      have hshl := shl7 k (by omega) (x % 128) hm
      have hand := and127b x (by omega) (by omega)
      have hwa : wrap64 (x % 128) = x % 128 := w64 (by omega)
      by_cases h128 : x < 128
      · have hxx : x % 128 = x := by omega
        rw [hxx] at hor hshl hand hwa
        refine ev_succ ⟨0, fun j _ => ?_⟩
        simp only [impl_ReadUvarint.l0, f1, if_true, hw, f4, if_false, nnc, ltc hlt, h7, f2, hr, h128, hand, hwa]
        rw [← h7, hshl, hor]
        simp only [rdv, f3, if_false, h128, if_true]
        by_cases hk0 : 0 < k
        · simp only [show (k : Int) > 0 by omega, if_true, hk0, true_and]
          by_cases hx0 : x = 0
          · simp only [hx0, if_true, true_or, rdFin]
          · simp only [hx0, if_false, false_or]
            split
            · rfl
            · simp only [rdFin, hw2]
        · simp only [show ¬ (k : Int) > 0 by omega, if_false, hk0, false_and, false_or]
          split
          · rfl
          · simp only [rdFin, hw2]
      · obtain ⟨K, hK⟩ := ih (k + 1) (n + x % 128 * 128 ^ k) (by omega) (pow_step k n (x % 128) hn hm)
        refine ev_succ ⟨K, fun j hj => ?_⟩
        have hj := hK j hj
        simp only at hj
        simp only [impl_ReadUvarint.l0, f1, if_true, hw, f4, if_false, nnc, ltc hlt, h7, f2, hr, h128, hand, hwa]
        rw [← h7, hshl, hor, f5, hj]
        simp only [rdv, f3, if_false, h128]
        rfl
    · refine ev_succ ⟨0, fun j _ => ?_⟩
      rw [List.drop_eq_nil_of_le (by omega)]
      simp only [impl_ReadUvarint.l0, show (k : Int) < 6 by omega, if_true, hw, show ((a + k : Nat) : Int) ≥ (b.length : Int) by omega, rdv, rdFin]
theorem implRead_ev (b : List Int) (a : Int) (hb : ∀ x ∈ b, 0 ≤ x ∧ x ≤ 255) (hl : b.length ≤ 140737488355328) : Ev (fun k => impl_ReadUvarint.f k b a) (readU b a) := by
  unfold readU
  by_cases h : a < 0
  · refine ev_succ ⟨0, fun j _ => ?_⟩
    simp only [impl_ReadUvarint.f, h, if_true, impl_ReadUvarint.j0]
  · rw [if_neg h]
    by_cases h2 : a ≥ (b.length : Int)
    · refine ev_succ ⟨0, fun j _ => ?_⟩
      rw [List.drop_eq_nil_of_le (by omega)]
      simp only [impl_ReadUvarint.f, h, h2, decide_true, if_false, if_true, impl_ReadUvarint.j0, rdv, rdFin]
    · obtain ⟨n, rfl⟩ := Int.eq_ofNat_of_zero_le (show 0 ≤ a by omega)
      obtain ⟨K, hK⟩ := implRead_l b hb hl n (by omega) 6 0 0 (by omega) ⟨by decide, by decide⟩
      refine ev_succ ⟨K, fun j hj => ?_⟩
      simp only [impl_ReadUvarint.f, h, h2, decide_false, if_false, impl_ReadUvarint.j0, Bool.false_eq_true]
      simpa using hK j hj

theorem implReadB_ev (b : List Int) (a most : Int) (hb : ∀ x ∈ b, 0 ≤ x ∧ x ≤ 255) (hl : b.length ≤ 140737488355000) : Ev (fun k => impl_ReadBytes.f k b a most) (readB b a most) := by
  have e := implRead_ev b a hb (by omega)
  unfold readB impl_ReadBytes.f
  rcases readU_cases b a hb with h | ⟨v, e', h, h1, h2, h3, h4, h5, _⟩
  · rw [h] at e
    rw [h]
    exact Ev.bind e (Ev.no (by simp) (Ev.is (Ev.now _) (by simp)))
  · rw [h] at e
    rw [h]
    have hw : wrap64 ((b.length : Int) - e') = (b.length : Int) - e' := w64 (by omega)
    have hw2 : wrap64 (e' + v) = e' + v := w64 (by omega)
    refine Ev.bind e (Ev.yes rfl ?_)
    simp only [hw, hw2, Option.bind_some, List.nil_append, List.length_nil]
    by_cases c1 : v > most
    · exact Ev.yes c1 (Ev.is (Ev.now _) (by rw [if_neg (by first | omega | (simp only; omega))]))
    · refine Ev.no c1 ?_
      by_cases c2 : v > (b.length : Int) - e'
      · exact Ev.yes c2 (Ev.is (Ev.now _) (by rw [if_neg (by first | omega | (simp only; omega))]))
      · refine Ev.no c2 (Ev.yes (by omega) (Ev.yes (by omega) (Ev.yes (by omega) (Ev.yes ?_ (Ev.is (Ev.now _) ?_)))))
        · simp only [List.length_drop, List.length_take]; omega
        · rw [if_pos (by refine ⟨?_, ?_, ?_⟩ <;> first | trivial | rfl | omega | (simp only; omega))]

def encI (l : List Int) : List Int := l.flatMap uvar
theorem encI_len (l : List Int) : (encI l).length ≤ 6 * l.length := by
  induction l with
  | nil => simp [encI]
  | cons x t ih =>
    have := uvar_len x
    simp only [encI, List.flatMap_cons, List.length_append, List.length_cons] at *
    omega

theorem implEncI_ev (l : List Int) (hl : l.length ≤ 10000000000000) : Ev (fun k => impl_EncodeInts.f k l) (encI l) := by
  have := loop_list0 l (fun k s i => impl_EncodeInts.l0 k s l (l.length : Int) i) (fun t s => s ++ encI t) (fun i s => s.length ≤ 6 * i) ?_ ?_ [] (by simp)
  · simpa [impl_EncodeInts.f] using this
  · intro s hs
    exact ev_succ ⟨0, fun k _ => by simp only [impl_EncodeInts.l0, nltc, if_false, encI, List.flatMap_nil, List.append_nil]⟩
  · intro i x t s hi hx ht hs ih
    have hu := uvar_len x
    obtain ⟨K, hK⟩ := ih (s ++ uvar x) (by rw [List.length_append]; omega)
    obtain ⟨K', hK'⟩ := implApp_ev s x (by omega)
    refine ev_succ ⟨K + K', fun k hk => ?_⟩
    have h2 := hK' k (by omega)
    simp only at h2
    simp only [impl_EncodeInts.l0, ltc hi, nnc, if_true, rd_at hx, h2, Option.bind_some, w64s hi (show l.length ≤ 9223372036854775807 by omega)]
    have h1 := hK k (by omega)
    simp only [List.append_assoc] at h1
    simpa [encI] using h1

/-- c numbers read off the front, one after another. -/
def decL (b : List Int) : Nat → Int → List Int → List Int × Int × Bool
  | 0, a, s => (s, a, true)
  | c + 1, a, s => if (readU b a).2.2 = true then decL b c (readU b a).2.1 (s ++ [(readU b a).1]) else ([], 0, false)
def decI (b : List Int) (a c : Int) : List Int × Int × Bool := if (0 ≤ c ∧ c ≤ 100) ∧ (0 ≤ a ∧ a ≤ b.length) then decL b c.toNat a [] else ([], 0, false)
theorem decL_len (b : List Int) : ∀ (c : Nat) (a : Int) (s : List Int), (decL b c a s).1.length ≤ s.length + c := by
  intro c
  induction c with
  | zero => intro a s; simp [decL]
  | succ c ih =>
    intro a s
    unfold decL
    split
    · have := ih (readU b a).2.1 (s ++ [(readU b a).1])
      simp only [List.length_append, List.length_cons, List.length_nil] at this
      omega
    · simp
theorem decI_len (b : List Int) (a c : Int) : (decI b a c).1.length ≤ 100 := by
  unfold decI
  split
  · have := decL_len b c.toNat a []
    simp only [List.length_nil] at this
    omega
  · simp

theorem implDecL_ev (b : List Int) (hb : ∀ x ∈ b, 0 ≤ x ∧ x ≤ 255) (hl : b.length ≤ 140737488355000) (n : Nat) (hn : n ≤ 100) (d : Nat) : ∀ (i : Nat) (a : Int) (s : List Int), i + d = n → s.length = i → Ev (fun k => impl_DecodeInts.l0 k b a s n i) (decL b d a s) := by
  induction d with
  | zero =>
    intro i a s hi hs
    have : i = n := by omega
    subst this
    exact ev_succ ⟨0, fun k _ => by simp only [impl_DecodeInts.l0, nltc, if_false, decL]⟩
  | succ d ih =>
    intro i a s hi hs
    have hlt : i < n := by omega
    have e := implRead_ev b a hb (by omega)
    refine Ev.step (fun k => by rw [impl_DecodeInts.l0]) ?_
    refine Ev.yes (ltc hlt) (Ev.bind e ?_)
    unfold decL
    by_cases h : (readU b a).2.2 = true
    · rw [if_pos h]
      rw [w64s hlt (by omega)]
      exact Ev.yes h (Ev.yes (by omega) (ih (i + 1) _ _ (by omega) (by simp [hs])))
    · rw [if_neg h]
      exact Ev.no h (Ev.now _)
theorem implDecI_ev (b : List Int) (a c : Int) (hb : ∀ x ∈ b, 0 ≤ x ∧ x ≤ 255) (hl : b.length ≤ 140737488355000) : Ev (fun k => impl_DecodeInts.f k b a c) (decI b a c) := by
  unfold decI impl_DecodeInts.f
  refine Ev.pure (inR _ _ _) ?_
  by_cases h1 : 0 ≤ c ∧ c ≤ 100
  · refine Ev.yes (by simpa using h1) (Ev.pure (inR _ _ _) ?_)
    refine Ev.step (fun k => by rw [impl_DecodeInts.j0]) ?_
    by_cases h2 : 0 ≤ a ∧ a ≤ b.length
    · rw [if_pos ⟨h1, h2⟩]
      obtain ⟨n, rfl⟩ := Int.eq_ofNat_of_zero_le h1.1
      exact Ev.no (by simp [h2]) (implDecL_ev b hb hl n (by omega) n 0 a [] (by omega) rfl)
    · rw [if_neg (fun h => h2 h.2)]
      exact Ev.yes (by simp only [h2, decide_false, Bool.not_false]) (Ev.now _)
  · rw [if_neg (fun h => h1 h.1)]
    refine Ev.no (by simp only [h1, decide_false, Bool.false_eq_true, not_false_iff]) ?_
    refine Ev.step (fun k => by rw [impl_DecodeInts.j0]) ?_
    exact Ev.yes rfl (Ev.now _)

theorem split128 (n P : Int) : n % 128 * P + n / 128 * (P * 128) = n * P := by
  have h : n % 128 + 128 * (n / 128) = n := Int.emod_add_mul_ediv n 128
  calc n % 128 * P + n / 128 * (P * 128) = (n % 128 + 128 * (n / 128)) * P := by
        rw [Int.add_mul, Int.mul_comm 128 (n / 128), Int.mul_assoc, Int.mul_comm P 128]
    _ = n * P := by rw [h]
/-- What was written is read. -/
theorem rdv_uvd (rest : List Int) : ∀ (d k : Nat) (n s : Int), k + d ≤ 5 → 0 ≤ n → n < 128 ^ (d + 1) → (k = 0 ∨ 0 < n) → s + n * 128 ^ k ≤ 1000000000000 → rdv (uvd d n ++ rest) k s = some (s + n * 128 ^ k, k + (uvd d n).length) := by
  intro d
  induction d with
  | zero =>
    intro k n s hk h0 h1 h2 h3
    simp only [uvd, List.cons_append, List.nil_append, rdv, List.length_cons, List.length_nil]
    rw [if_neg (by omega), if_pos (by omega), if_neg (by omega)]
  | succ d ih =>
    intro k n s hk h0 h1 h2 h3
    unfold uvd
    by_cases h : n > 127
    · rw [if_pos h]
      simp only [List.cons_append, rdv, List.length_cons]
      rw [if_neg (by omega), if_neg (by omega), show (n % 128 + 128) % 128 = n % 128 by omega]
      have e : (128 : Int) ^ (k + 1) = 128 ^ k * 128 := Int.pow_succ _ _
      have hs := split128 n (128 ^ k)
      have hn : n / 128 < 128 ^ (d + 1) := Int.ediv_lt_of_lt_mul (by decide) (by rw [Int.pow_succ] at h1; exact h1)
      have hsum : s + n % 128 * 128 ^ k + n / 128 * 128 ^ (k + 1) = s + n * 128 ^ k := by rw [e]; omega
      have := ih (k + 1) (n / 128) (s + n % 128 * 128 ^ k) (by omega) (by omega) hn (.inr (by omega)) (by rw [hsum]; exact h3)
      rw [this, hsum]
      congr 2
      omega
    · rw [if_neg h]
      simp only [List.cons_append, List.nil_append, rdv, List.length_cons, List.length_nil]
      rw [if_neg (by omega), if_pos (by omega), if_neg (by omega)]
/-- What was read was written. -/
theorem uvd_rdv : ∀ (l : List Int), (∀ x ∈ l, 0 ≤ x ∧ x ≤ 255) → ∀ (d k : Nat) (s v : Int) (m : Nat), k + d = 5 → rdv l k s = some (v, m) → ∃ n : Int, 0 ≤ n ∧ v = s + n * 128 ^ k ∧ k < m ∧ l.take (m - k) = uvd d n ∧ (k = 0 ∨ 0 < n) := by
  intro l
  induction l with
  | nil => intro _ d k s v m _ h; simp [rdv] at h
  | cons x t ih =>
    intro hb d k s v m hk h
    have hx := hb x List.mem_cons_self
    unfold rdv at h
    rw [if_neg (by omega)] at h
    by_cases h1 : x < 128
    · rw [if_pos h1] at h
      split at h
      · cases h
      · rename_i h2
        simp only [Option.some.injEq, Prod.mk.injEq] at h
        obtain ⟨rfl, rfl⟩ := h
        refine ⟨x, hx.1, rfl, by omega, ?_, ?_⟩
        · rw [show k + 1 - k = 1 by omega]
          cases d with
          | zero => simp [uvd]
          | succ d => simp [uvd, show ¬ x > 127 by omega]
        · by_cases e : k = 0
          · exact .inl e
          · refine .inr ?_
            by_cases e2 : x = 0
            · exact absurd (.inl ⟨by omega, e2⟩) h2
            · omega
    · rw [if_neg h1] at h
      cases d with
      | zero =>
        exfalso
        have : k = 5 := by omega
        subst this
        cases t with
        | nil => simp [rdv] at h
        | cons y t => simp [rdv] at h
      | succ d =>
        obtain ⟨n, g0, g1, g2, g3, g4⟩ := ih (fun y hy => hb y (List.mem_cons_of_mem _ hy)) d (k + 1) _ v m (by omega) h
        have hn : 0 < n := by omega
        have e : (128 : Int) ^ (k + 1) = 128 ^ k * 128 := Int.pow_succ _ _
        have hs := split128 (x % 128 + 128 * n) (128 ^ k)
        rw [show (x % 128 + 128 * n) % 128 = x % 128 by omega, show (x % 128 + 128 * n) / 128 = n by omega] at hs
        refine ⟨x % 128 + 128 * n, by omega, by rw [g1, e]; omega, by omega, ?_, .inr (by omega)⟩
        unfold uvd
        rw [if_pos (by omega), show (x % 128 + 128 * n) % 128 = x % 128 by omega, show (x % 128 + 128 * n) / 128 = n by omega, ← g3, show x % 128 + 128 = x by omega]
        rw [show m - k = (m - (k + 1)) + 1 by omega, List.take_succ_cons]
theorem readU_uvar (b rest : List Int) (n : Int) (h : 0 ≤ n ∧ n ≤ 1000000000000) : readU (b ++ (uvar n ++ rest)) b.length = (n, (b.length : Int) + (uvar n).length, true) := by
  unfold readU uvar
  rw [if_neg (by omega), if_pos h, Int.toNat_natCast, List.drop_left, rdv_uvd rest 5 0 n 0 (by omega) h.1 (by omega) (.inl rfl) (by omega)]
  simp [rdFin]
theorem uvar_readU (b : List Int) (a v e : Int) (hb : ∀ x ∈ b, 0 ≤ x ∧ x ≤ 255) (h : readU b a = (v, e, true)) : 0 ≤ a ∧ a < e ∧ e ≤ b.length ∧ uvar v = (b.take e.toNat).drop a.toNat := by
  rcases readU_cases b a hb with h' | ⟨v', e', h', h1, h2, h3, h4, h5, h6⟩
  · rw [h'] at h; cases h
  · rw [h'] at h
    simp only [Prod.mk.injEq, and_true] at h
    obtain ⟨rfl, rfl⟩ := h
    obtain ⟨n, g0, g1, g2, g3, g4⟩ := uvd_rdv _ (fun x hx => hb x (List.mem_of_mem_drop hx)) 5 0 0 _ _ (by omega) h6
    have : v' = n := by rw [g1]; omega
    subst this
    refine ⟨h3, h4, h5, ?_⟩
    unfold uvar
    rw [if_pos ⟨h1, h2⟩, ← g3, List.drop_take]
    congr 1
    omega

theorem sameBytes_ev (a b : List Int) (h : a.length ≤ 9223372036854775807) : Ev (fun k => laws_sameBytes.f k a b) (decide (a = b)) := by
  by_cases hl : a.length = b.length
  · have H := eq_loop a b (fun k i => laws_sameBytes.l0 k a b i) hl (fun k => by simp only [laws_sameBytes.l0, nltc, if_false]) (fun k i x y hx hy hi hi2 => by
      simp only [laws_sameBytes.l0, ltc hi, ltc hi2, nnc, if_true, rd_at hx, rd_at hy, w64s hi h])
    obtain ⟨K, hK⟩ := H
    refine ⟨K, fun k hk => ?_⟩
    simp only [laws_sameBytes.f, hl, if_true]
    exact hK k hk
  · refine ⟨0, fun k _ => ?_⟩
    simp only [laws_sameBytes.f]
    rw [if_neg (by omega)]
    congr 1
    symm
    exact decide_eq_false (fun e => hl (by rw [e]))
theorem sameBytes_self (a : List Int) (h : a.length ≤ 9223372036854775807) : Ev (fun k => laws_sameBytes.f k a a) true := Ev.is (sameBytes_ev a a h) (by simp)

theorem sameInts_ev (a b : List Int) (h : a.length ≤ 9223372036854775807) : Ev (fun k => laws_sameInts.f k a b) (decide (a = b)) := by
  by_cases hl : a.length = b.length
  · have H := eq_loop a b (fun k i => laws_sameInts.l0 k a b i) hl (fun k => by simp only [laws_sameInts.l0, nltc, if_false]) (fun k i x y hx hy hi hi2 => by
      simp only [laws_sameInts.l0, ltc hi, ltc hi2, nnc, if_true, rd_at hx, rd_at hy, w64s hi h])
    obtain ⟨K, hK⟩ := H
    refine ⟨K, fun k hk => ?_⟩
    simp only [laws_sameInts.f, hl, if_true]
    exact hK k hk
  · refine ⟨0, fun k _ => ?_⟩
    simp only [laws_sameInts.f]
    rw [if_neg (by omega)]
    congr 1
    symm
    exact decide_eq_false (fun e => hl (by rw [e]))
theorem sameInts_self (a : List Int) (h : a.length ≤ 9223372036854775807) : Ev (fun k => laws_sameInts.f k a a) true := Ev.is (sameInts_ev a a h) (by simp)

theorem at_some (l : List Int) (i : Int) (hb : ∀ x ∈ l, 0 ≤ x ∧ x ≤ 255) (hi : 0 ≤ i ∧ i ≤ 100) (hl : l.length ≤ 1048576) : ∃ x, laws_at.f l i = some x ∧ 0 ≤ x ∧ x ≤ 255 := by
  unfold laws_at.f
  by_cases h : i < (l.length : Int)
  · rw [if_pos h, if_pos hi.1]
    obtain ⟨n, rfl⟩ := Int.eq_ofNat_of_zero_le hi.1
    have hn : n < l.length := by omega
    have hx := hb _ (List.mem_of_getElem? (List.getElem?_eq_getElem hn))
    rw [rd_at (List.getElem?_eq_getElem hn)]
    exact ⟨_, rfl, by rw [w64 (by omega)]; exact hx⟩
  · rw [if_neg h, w64 (n := i * 31) (by omega), w64 (n := (l.length : Int) * 7) (by omega), w64 (by omega), Int.tmod_eq_emod_of_nonneg (by omega)]
    exact ⟨_, rfl, by omega, by omega⟩
theorem decL_enc : ∀ (l : List Int) (b s : List Int), (∀ x ∈ l, 0 ≤ x ∧ x ≤ 1000000000000) → decL (b ++ encI l) l.length b.length s = (s ++ l, ((b ++ encI l).length : Int), true) := by
  intro l
  induction l with
  | nil => intro b s _; simp [decL, encI]
  | cons x t ih =>
    intro b s h
    have hx := h x List.mem_cons_self
    have e : b ++ encI (x :: t) = b ++ (uvar x ++ encI t) := by simp [encI]
    have r := readU_uvar b (encI t) x hx
    rw [e, List.length_cons]
    unfold decL
    rw [r]
    rw [if_pos rfl]
    simp only
    have e2 : b ++ (uvar x ++ encI t) = (b ++ uvar x) ++ encI t := by rw [List.append_assoc]
    rw [show ((b.length : Int) + ((uvar x).length : Int)) = ((b ++ uvar x).length : Int) by rw [List.length_append]; omega, e2, ih (b ++ uvar x) (s ++ [x]) (fun y hy => h y (List.mem_cons_of_mem _ hy))]
    simp
theorem decL_more : ∀ (l : List Int) (b s : List Int), (∀ x ∈ l, 0 ≤ x ∧ x ≤ 1000000000000) → decL (b ++ encI l) (l.length + 1) b.length s = ([], 0, false) := by
  intro l
  induction l with
  | nil =>
    intro b s _
    have : readU b b.length = (0, 0, false) := by
      unfold readU
      rw [if_neg (by omega), Int.toNat_natCast, List.drop_length]
      rfl
    simp [decL, encI, this]
  | cons x t ih =>
    intro b s h
    have hx := h x List.mem_cons_self
    have e : b ++ encI (x :: t) = b ++ (uvar x ++ encI t) := by simp [encI]
    have r := readU_uvar b (encI t) x hx
    rw [e, List.length_cons]
    unfold decL
    rw [r]
    rw [if_pos rfl]
    simp only
    have e2 : b ++ (uvar x ++ encI t) = (b ++ uvar x) ++ encI t := by rw [List.append_assoc]
    rw [show ((b.length : Int) + ((uvar x).length : Int)) = ((b ++ uvar x).length : Int) by rw [List.length_append]; omega, e2, ih (b ++ uvar x) (s ++ [x]) (fun y hy => h y (List.mem_cons_of_mem _ hy))]
theorem decI_enc (l : List Int) (h : ∀ x ∈ l, 0 ≤ x ∧ x ≤ 1000000000000) (hl : l.length ≤ 99) : decI (encI l) 0 l.length = (l, ((encI l).length : Int), true) ∧ decI (encI l) 0 ((l.length : Int) + 1) = ([], 0, false) := by
  have h1 := decL_enc l [] [] h
  have h2 := decL_more l [] [] h
  simp only [List.nil_append, List.length_nil] at h1 h2
  unfold decI
  rw [if_pos ⟨by omega, by omega⟩, if_pos ⟨by omega, by omega⟩, Int.toNat_natCast, show ((l.length : Int) + 1).toNat = l.length + 1 by omega]
  exact ⟨h1, h2⟩
theorem encI_byte (l : List Int) : ∀ x ∈ encI l, 0 ≤ x ∧ x ≤ 255 := by
  intro x hx
  obtain ⟨y, _, hy⟩ := List.mem_flatMap.1 hx
  exact uvar_byte y x hy
theorem readB_app (b d : List Int) (hd : d.length ≤ 1000000000) : readB (b ++ uvar d.length ++ d) b.length d.length = (d, ((b ++ uvar d.length ++ d).length : Int), true) ∧ (readB (b ++ uvar d.length ++ d) b.length ((d.length : Int) - 1)).2.2 = false := by
  have r := readU_uvar b d d.length (by omega)
  rw [← List.append_assoc] at r
  have hn : (((b.length : Int) + ((uvar (d.length : Int)).length : Int))).toNat = (b ++ uvar (d.length : Int)).length := by rw [List.length_append]; omega
  have hn2 : (((b.length : Int) + ((uvar (d.length : Int)).length : Int)) + (d.length : Int)).toNat = (b ++ uvar (d.length : Int) ++ d).length := by rw [List.length_append, List.length_append]; omega
  constructor
  · unfold readB
    rw [r]
    rw [if_pos ⟨rfl, by simp only; omega, by simp only [List.length_append, Int.natCast_add]; omega⟩]
    simp only
    rw [hn, hn2, List.take_length, List.drop_left]
    congr 2
    rw [List.length_append, List.length_append]
    omega
  · unfold readB
    rw [r]
    rw [if_neg (by simp only; omega)]
theorem prod3 (x y z : Int) (hx : 0 ≤ x ∧ x ≤ 255) (hy : 0 ≤ y ∧ y ≤ 255) (hz : 0 ≤ z ∧ z ≤ 255) : wrap64 (wrap64 (x * y) * z) = x * y * z ∧ 0 ≤ x * y * z ∧ x * y * z ≤ 1000000000000 := by
  have p1 : 0 ≤ x * y := Int.mul_nonneg hx.1 hy.1
  have p2 : x * y ≤ 255 * 255 := Int.mul_le_mul hx.2 hy.2 hy.1 (by decide)
  generalize x * y = a at p1 p2
  have p3 : 0 ≤ a * z := Int.mul_nonneg p1 hz.1
  have p4 : a * z ≤ (255 * 255) * 255 := Int.mul_le_mul p2 hz.2 hz.1 (by decide)
  generalize hb : a * z = b at p3 p4
  rw [w64 (n := a) (by omega), hb, w64 (by omega)]
  exact ⟨rfl, p3, by omega⟩
theorem bs_loop (code : List Int) (c0 : Int) (hcb : ∀ x ∈ code, 0 ≤ x ∧ x ≤ 255) (hlen : code.length ≤ 1048576) (ec0 : laws_at.f code 0 = some c0) (hc0 : 0 ≤ c0 ∧ c0 ≤ 255) :
    ∀ (n i : Nat) (l : List Int), (i : Int) + n = c0 % 6 → l.length = i → (∀ x ∈ l, 0 ≤ x ∧ x ≤ 1000000000000) → Ev (fun k => laws_FnByteStrings.l0 k code l i) true := by
  have hc6 : Int.tmod c0 6 = c0 % 6 := Int.tmod_eq_emod_of_nonneg hc0.1
  intro n
  induction n with
  | zero =>
    intro i l hi hl hlb
    refine Ev.step (fun k => by rw [laws_FnByteStrings.l0]) ?_
    refine Ev.pure ec0 ?_
    have q := encI_len l
    have hl99 : l.length ≤ 99 := by clear q ec0 hcb hlb; omega
    have hw1 : wrap64 ((l.length : Int) + 1) = (l.length : Int) + 1 := w64 (by omega)
    obtain ⟨g1, g2⟩ := decI_enc l hlb hl99
    have f1 := implEncI_ev l (by omega)
    have f2 := implDecI_ev (encI l) 0 l.length (encI_byte l) (by omega)
    have f3 := implDecI_ev (encI l) 0 ((l.length : Int) + 1) (encI_byte l) (by omega)
    rw [g1] at f2
    rw [g2] at f3
    have f4 := sameInts_self l (by omega)
    rw [hw1]
    exact Ev.no (by omega) (Ev.bind f1 (Ev.bind f2 (Ev.bind f3 (Ev.yes rfl (Ev.bind f4 (Ev.yes rfl (Ev.yes rfl (Ev.now _))))))))
  | succ n ih =>
    intro i l hi hl hlb
    have w1 : wrap64 ((i : Int) + 1) = ((i + 1 : Nat) : Int) := by rw [w64 (by omega)]; omega
    have w2 : wrap64 ((i : Int) + 2) = ((i + 2 : Nat) : Int) := by rw [w64 (by omega)]; omega
    have w3 : wrap64 ((i : Int) + 3) = ((i + 3 : Nat) : Int) := by rw [w64 (by omega)]; omega
    have hlt : (i : Int) < Int.tmod c0 6 := by omega
    have hll : l.length < 17592186044416 := by omega
    have hi1 : 0 ≤ ((i + 1 : Nat) : Int) ∧ ((i + 1 : Nat) : Int) ≤ 100 := by omega
    have hi2 : 0 ≤ ((i + 2 : Nat) : Int) ∧ ((i + 2 : Nat) : Int) ≤ 100 := by omega
    have hi3 : 0 ≤ ((i + 3 : Nat) : Int) ∧ ((i + 3 : Nat) : Int) ≤ 100 := by omega
    have hnext : ((i + 1 : Nat) : Int) + n = c0 % 6 := by omega
    obtain ⟨y1, ey1, hy1⟩ := at_some code ((i + 1 : Nat) : Int) hcb hi1 hlen
    obtain ⟨y2, ey2, hy2⟩ := at_some code ((i + 2 : Nat) : Int) hcb hi2 hlen
    obtain ⟨y3, ey3, hy3⟩ := at_some code ((i + 3 : Nat) : Int) hcb hi3 hlen
    obtain ⟨p1, p2, p3⟩ := prod3 y1 y2 y3 hy1 hy2 hy3
    have := ih (i + 1) (l ++ [y1 * y2 * y3]) hnext (by simp [hl]) (by
      intro z hz
      rcases List.mem_append.1 hz with hz | hz
      · exact hlb z hz
      · rw [List.mem_singleton.1 hz]; exact ⟨p2, p3⟩)
    refine Ev.step (fun k => by rw [laws_FnByteStrings.l0]) ?_
    refine Ev.pure ec0 (Ev.yes hlt ?_)
    rw [w1, w2, w3]
    refine Ev.pure ey1 (Ev.pure ey2 (Ev.pure ey3 (Ev.yes hll ?_)))
    rw [p1]
    exact this
theorem FnByteStrings : laws_FnByteStrings.Pure := by
  intro code h1 h2 hcb
  have hcb : ∀ x ∈ code, 0 ≤ x ∧ x ≤ 255 := fun x hx => u8b (hcb x hx)
  refine Ev.rounds (g := fun k => laws_FnByteStrings.f k code) ?_
  unfold laws_FnByteStrings.f
  refine Ev.pure (a := decide ((code.length : Int) > 1048576)) rfl ?_
  by_cases hb : (code.length : Int) > 1048576
  · exact Ev.yes (by simpa using hb) (Ev.now _)
  refine Ev.no (by simpa using hb) ?_
  obtain ⟨b, d, e0, hbl, hdl, hbb, hdb⟩ := drawAppendB_ev code (by omega)
  have hu := uvar_len d.length
  have e1 := implAB_ev b d (by omega)
  obtain ⟨r1, r2⟩ := readB_app b d (by omega)
  have hlen : (b ++ uvar d.length ++ d).length ≤ 20 := by rw [List.length_append, List.length_append]; omega
  have hxb : ∀ x ∈ b ++ uvar d.length ++ d, 0 ≤ x ∧ x ≤ 255 := by
    intro x hx
    rcases List.mem_append.1 hx with hx | hx
    · rcases List.mem_append.1 hx with hx | hx
      · exact hbb x hx
      · exact uvar_byte _ x hx
    · exact hdb x hx
  generalize b ++ uvar d.length ++ d = x at e1 r1 r2 hlen hxb
  have e2 := implReadB_ev x b.length d.length hxb (by omega)
  have e3 := implReadB_ev x b.length ((d.length : Int) - 1) hxb (by omega)
  rw [r1] at e2
  have e4 := sameBytes_self d (by omega)
  have hw : wrap64 ((d.length : Int) - 1) = (d.length : Int) - 1 := w64 (by omega)
  obtain ⟨c0, ec0, hc0⟩ := at_some code 0 hcb (by omega) (by omega)
  have ej : Ev (fun k => laws_FnByteStrings.j0 k code false) true := by
    refine Ev.step (fun k => by rw [laws_FnByteStrings.j0]) ?_
    refine Ev.no (by simp) ?_
    exact bs_loop code c0 hcb (by omega) ec0 hc0 (c0 % 6).toNat 0 [] (by omega) rfl (by simp)
  refine Ev.bind e0 (Ev.bind e1 (Ev.bind e2 ?_))
  simp only
  rw [hw]
  refine Ev.bind e3 (Ev.yes (by first | trivial | rfl) (Ev.bind e4 (Ev.yes rfl (Ev.yes (by first | trivial | rfl) ?_))))
  rw [r2]
  exact ej

end Go.Proofs.Ytbafockooilcnab.Pure
