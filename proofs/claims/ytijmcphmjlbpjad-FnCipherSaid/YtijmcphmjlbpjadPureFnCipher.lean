/- FnCipher: the pure statement of the law, for every input: what the program's functions and the reference's come to is the same, or what the law says holds. No condition beside the statement's own. -/
import Derived.Test.YtijmcphmjlbpjadQFnCipherx2
namespace Go.Proofs.Ytijmcphmjlbpjad.Pure
open Go.RowKit Go.Proofs.Ytijmcphmjlbpjad.QFnCipher Go.Proofs.YtijmcphmjlbpjadW.PrintWords Go.Proofs.YtijmcphmjlbpjadW.PrintLast Go.Proofs.YtijmcphmjlbpjadW.PrintMore
set_option linter.unusedVariables false
set_option linter.unusedSimpArgs false


theorem i64b {x : Int} (h : (Lit.int .i64 x).wf = true) : -9223372036854775808 ≤ x ∧ x ≤ 9223372036854775807 := by
  simp [Lit.wf, IntKind.min, IntKind.max, IntKind.signed, IntKind.bits] at h
  omega
theorem u8b {x : Int} (h : (Lit.int .u8 x).wf = true) : 0 ≤ x ∧ x ≤ 255 := by
  simp [Lit.wf, IntKind.min, IntKind.max, IntKind.signed, IntKind.bits] at h
  omega
theorem w64 {n : Int} (h : -9223372036854775808 ≤ n ∧ n ≤ 9223372036854775807) : wrap64 n = n := by unfold wrap64; omega
theorem w64s {i : Nat} {n : Nat} (h : i < n) (hn : n ≤ 9223372036854775807) : wrap64 ((i : Int) + 1) = ((i + 1 : Nat) : Int) := by unfold wrap64; omega
theorem ltc {i n : Nat} (h : i < n) : (i : Int) < (n : Int) := by omega
theorem nnc (i : Nat) : (0 : Int) ≤ (i : Int) := by omega
theorem nltc (n : Nat) : ¬ (n : Int) < (n : Int) := by omega
theorem rd_at {l : List Int} {i : Nat} {x : Int} (h : l[i]? = some x) : rd l (i : Int) = x := by
  unfold rd
  simp [List.getD, h]
/-- More rounds than some number. -/
theorem ev_k {α : Type} {g : Nat → Option α} {r : α} (h : Ev g r) : ∃ K, ∀ k, K ≤ k → g k = some r := h
theorem ev_succ {α : Type} {g : Nat → Option α} {r : α} (h : ∃ K, ∀ k, K ≤ k → g (k + 1) = some r) : Ev g r := by
  obtain ⟨K, h⟩ := h
  refine ⟨K + 1, fun k hk => ?_⟩
  obtain ⟨m, rfl⟩ : ∃ m, k = m + 1 := ⟨k - 1, by omega⟩
  exact h m (by omega)
/-- A loop over a list, from the front: what it comes to is told of the list's tails. -/
theorem loop_list {α σ ρ : Type} (l : List α) (L : Nat → σ → Int → Option ρ) (f : List α → σ → ρ) (I : Nat → σ → Prop)
    (hnil : ∀ s, I l.length s → Ev (fun k => L k s (l.length : Int)) (f [] s))
    (hcons : ∀ (i : Nat) (x : α) (t : List α) (s : σ), i < l.length → l[i]? = some x → l.drop (i + 1) = t → I i s →
      (∀ s', I (i + 1) s' → Ev (fun k => L k s' ((i + 1 : Nat) : Int)) (f t s')) → Ev (fun k => L k s (i : Int)) (f (x :: t) s)) :
    ∀ (i : Nat) (s : σ), i ≤ l.length → I i s → Ev (fun k => L k s (i : Int)) (f (l.drop i) s) := by
  intro i s hi hI
  generalize hd : l.length - i = d
  induction d generalizing i s with
  | zero =>
    have : i = l.length := by omega
    subst this
    rw [List.drop_length]
    exact hnil s hI
  | succ d ih =>
    have hlt : i < l.length := by omega
    rw [List.drop_eq_getElem_cons hlt]
    exact hcons i l[i] _ s hlt (List.getElem?_eq_getElem hlt) rfl hI (fun s' hI' => ih (i + 1) s' (by omega) hI' (by omega))
theorem loop_list0 {α σ ρ : Type} (l : List α) (L : Nat → σ → Int → Option ρ) (f : List α → σ → ρ) (I : Nat → σ → Prop)
    (hnil : ∀ s, I l.length s → Ev (fun k => L k s (l.length : Int)) (f [] s))
    (hcons : ∀ (i : Nat) (x : α) (t : List α) (s : σ), i < l.length → l[i]? = some x → l.drop (i + 1) = t → I i s →
      (∀ s', I (i + 1) s' → Ev (fun k => L k s' ((i + 1 : Nat) : Int)) (f t s')) → Ev (fun k => L k s (i : Int)) (f (x :: t) s))
    (s : σ) (hI : I 0 s) : Ev (fun k => L k s 0) (f l s) := by
  have := loop_list l L f I hnil hcons 0 s (Nat.zero_le _) hI
  simpa using this
theorem Ev.yes {α : Type} {c : Prop} [Decidable c] {f g : Nat → Option α} {r : α} (h : c) (e : Ev f r) : Ev (fun n => if c then f n else g n) r := by
  simp only [if_pos h]
  exact e
theorem Ev.no {α : Type} {c : Prop} [Decidable c] {f g : Nat → Option α} {r : α} (h : ¬ c) (e : Ev g r) : Ev (fun n => if c then f n else g n) r := by
  simp only [if_neg h]
  exact e
theorem Ev.pure {α β : Type} {x : Option α} {f : Nat → α → Option β} {a : α} {r : β} (h : x = some a) (k : Ev (fun n => f n a) r) : Ev (fun n => x.bind (f n)) r := by
  subst h
  exact k
theorem Ev.is {α : Type} {g : Nat → Option α} {r r' : α} (h : Ev g r) (e : r = r') : Ev g r' := e ▸ h

/-- A loop over the places of a row, with what holds at each: what it comes to. -/
theorem loop_run {σ ρ : Type} (n : Nat) (L : Nat → σ → Int → Option ρ) (I : Nat → σ → Prop) (r : ρ)
    (hdone : ∀ s, I n s → Ev (fun k => L k s (n : Int)) r)
    (hstep : ∀ i s, i < n → I i s → ∃ s', I (i + 1) s' ∧ ∃ K, ∀ k, K ≤ k → L (k + 1) s (i : Int) = L k s' ((i + 1 : Nat) : Int)) :
    ∀ (i : Nat) (s : σ), i ≤ n → I i s → Ev (fun k => L k s (i : Int)) r := by
  intro i s hi hI
  generalize hd : n - i = d
  induction d generalizing i s with
  | zero =>
    have : i = n := by omega
    subst this
    exact hdone s hI
  | succ d ih =>
    obtain ⟨s', hI', K, hK⟩ := hstep i s (by omega) hI
    obtain ⟨K', hK'⟩ := ih (i + 1) s' (by omega) hI' (by omega)
    refine ev_succ ⟨K + K', fun k hk => ?_⟩
    show L (k + 1) s (i : Int) = some r
    rw [hK k (by omega)]
    exact hK' k (by omega)
/-- Copying element by element. -/
theorem copy_loop {α β : Type} (l : List α) (g : α → β) (L : Nat → List β → Int → Option (List β))
    (hdone : ∀ k s, L (k + 1) s (l.length : Int) = some s)
    (hstep : ∀ k i x s, l[i]? = some x → i < l.length → s.length = l.length → L (k + 1) s (i : Int) = L k (s.set i (g x)) ((i + 1 : Nat) : Int))
    (s : List β) (hs : s.length = l.length) : Ev (fun k => L k s 0) (l.map g) := by
  refine loop_run l.length L (fun i s => s.length = l.length ∧ ∀ j, j < i → s[j]? = (l.map g)[j]?) _ ?_ ?_ 0 s (Nat.zero_le _) ⟨hs, fun j hj => by omega⟩
  · rintro s ⟨h1, h2⟩
    have : s = l.map g := by
      apply List.ext_getElem?
      intro j
      by_cases hj : j < l.length
      · exact h2 j hj
      · rw [List.getElem?_eq_none (by omega), List.getElem?_eq_none (by simp; omega)]
    subst this
    exact ev_succ ⟨0, fun k _ => hdone k _⟩
  · rintro i s hi ⟨h1, h2⟩
    have hx := List.getElem?_eq_getElem hi
    refine ⟨s.set i (g l[i]), ⟨by simp [h1], fun j hj => ?_⟩, 0, fun k _ => hstep k i _ s hx hi h1⟩
    by_cases hji : j = i
    · subst hji
      rw [List.getElem?_set_self (by omega)]
      simp [hi]
    · rw [List.getElem?_set_ne (by omega)]
      exact h2 j (by omega)
/-- Two rows held against each other, element by element. -/
theorem eq_loop {α : Type} [DecidableEq α] (a b : List α) (L : Nat → Int → Option Bool) (hlen : a.length = b.length)
    (hdone : ∀ k, L (k + 1) (a.length : Int) = some true)
    (hstep : ∀ k i x y, a[i]? = some x → b[i]? = some y → i < a.length → i < b.length → L (k + 1) (i : Int) = if x = y then L k ((i + 1 : Nat) : Int) else some false) :
    Ev (fun k => L k 0) (decide (a = b)) := by
  suffices H : ∀ d i, i ≤ a.length → a.length - i = d → Ev (fun k => L k (i : Int)) (decide (a.drop i = b.drop i)) by
    simpa using H _ 0 (Nat.zero_le _) rfl
  intro d
  induction d with
  | zero =>
    intro i hi hd
    have : i = a.length := by omega
    subst this
    refine ev_succ ⟨0, fun k _ => ?_⟩
    rw [List.drop_length, hlen, List.drop_length]
    rw [← hlen, hdone]
    simp
  | succ d ih =>
    intro i hi hd
    have h1 : i < a.length := by omega
    have h2 : i < b.length := by omega
    obtain ⟨K, hK⟩ := ih (i + 1) (by omega) (by omega)
    replace hK : ∀ k, K ≤ k → L k ((i + 1 : Nat) : Int) = some (decide (a.drop (i + 1) = b.drop (i + 1))) := hK
    refine ev_succ ⟨K, fun k hk => ?_⟩
    show L (k + 1) (i : Int) = _
    rw [hstep k i _ _ (List.getElem?_eq_getElem h1) (List.getElem?_eq_getElem h2) h1 h2, List.drop_eq_getElem_cons h1, List.drop_eq_getElem_cons h2]
    by_cases h : a[i] = b[i]
    · rw [if_pos h, hK k hk, h]
      simp only [List.cons.injEq, true_and]
    · rw [if_neg h]
      congr 1
      symm
      exact decide_eq_false (fun e => h (List.cons.inj e).1)
/-- Marks from c on, w a place. -/
def marks {β : Type} (m : Int → β) (w : Int) (c : Int) (n : Nat) : List β := (List.range n).map (fun i : Nat => m (c + w * (i : Int)))
theorem marks_len {β : Type} (m : Int → β) (w c : Int) (n : Nat) : (marks m w c n).length = n := by simp [marks]
theorem marks_at {β : Type} (m : Int → β) (w c : Int) (n i : Nat) (h : i < n) : (marks m w c n)[i]? = some (m (c + w * (i : Int))) := by simp [marks, h]
/-- Marking a row in place. -/
theorem mark_loop {β : Type} (m : Int → β) (w : Int) (n : Nat) (c0 : Int) (L : Nat → List β → Int → Int → Option (Int × List β))
    (hdone : ∀ k s c, s.length = n → L (k + 1) s c (n : Int) = some (c, s))
    (hstep : ∀ k i s, i < n → s.length = n → L (k + 1) s (c0 + w * (i : Int)) (i : Int) = L k (s.set i (m (c0 + w * (i : Int)))) (c0 + w * ((i + 1 : Nat) : Int)) ((i + 1 : Nat) : Int))
    (s : List β) (hs : s.length = n) : Ev (fun k => L k s c0 0) (c0 + w * (n : Int), marks m w c0 n) := by
  have := loop_run n (fun k (p : List β × Int) i => L k p.1 p.2 i) (fun i p => p.2 = c0 + w * (i : Int) ∧ p.1.length = n ∧ ∀ j, j < i → p.1[j]? = (marks m w c0 n)[j]?) (c0 + w * (n : Int), marks m w c0 n) ?_ ?_ 0 (s, c0) (Nat.zero_le _) ⟨by simp, hs, fun j hj => by omega⟩
  · exact this
  · rintro ⟨s, c⟩ ⟨h0, h1, h2⟩
    simp only at h0 h1 h2
    have : s = marks m w c0 n := by
      apply List.ext_getElem?
      intro j
      by_cases hj : j < n
      · exact h2 j hj
      · rw [List.getElem?_eq_none (by omega), List.getElem?_eq_none (by rw [marks_len]; omega)]
    subst this
    refine ev_succ ⟨0, fun k _ => ?_⟩
    show L (k + 1) _ c _ = _
    rw [hdone k _ c h1, h0]
  · rintro i ⟨s, c⟩ hi ⟨h0, h1, h2⟩
    simp only at h0 h1 h2
    refine ⟨(s.set i (m (c0 + w * (i : Int))), c0 + w * ((i + 1 : Nat) : Int)), ⟨rfl, by simp [h1], fun j hj => ?_⟩, 0, fun k _ => ?_⟩
    · by_cases hji : j = i
      · subst hji
        simp only
        rw [List.getElem?_set_self (by omega), marks_at _ _ _ _ _ hi]
      · simp only
        rw [List.getElem?_set_ne (by omega)]
        exact h2 j (by omega)
    · simp only [h0]
      exact hstep k i s hi h1
/-- A row's marks told again. -/
theorem held_loop (w : Int) (n : Nat) (c0 : Int) (L : Nat → Int → Int → Option Int)
    (hdone : ∀ k c, L (k + 1) c (n : Int) = some c)
    (hstep : ∀ k i, i < n → L (k + 1) (c0 + w * (i : Int)) (i : Int) = L k (c0 + w * ((i + 1 : Nat) : Int)) ((i + 1 : Nat) : Int)) :
    Ev (fun k => L k c0 0) (c0 + w * (n : Int)) := by
  have := loop_run n L (fun i c => c = c0 + w * (i : Int)) (c0 + w * (n : Int)) ?_ ?_ 0 c0 (Nat.zero_le _) (by simp)
  · exact this
  · rintro c h0
    refine ev_succ ⟨0, fun k _ => ?_⟩
    show L (k + 1) c _ = _
    rw [hdone k c, h0]
  · rintro i c hi h0
    subst h0
    exact ⟨_, rfl, 0, fun k _ => hstep k i hi⟩

theorem and255 (x : Int) : 0 ≤ Go.bits .and .i64 x 255 ∧ Go.bits .and .i64 x 255 ≤ 255 := by
  simp only [Go.bits, BitVec.toNat_and]
  have h : (BitVec.ofInt IntKind.i64.bits x).toNat &&& (BitVec.ofInt IntKind.i64.bits 255).toNat ≤ 255 := by
    have e : (BitVec.ofInt IntKind.i64.bits 255).toNat = 255 := by decide
    rw [e]
    exact Nat.and_le_right
  generalize (BitVec.ofInt IntKind.i64.bits x).toNat &&& (BitVec.ofInt IntKind.i64.bits 255).toNat = n at h
  rw [IntKind.wrap_i64]
  omega
/-- A cursor's place is within its bytes. -/
def OKC (l : List Int) (i : Int) : Prop := 0 ≤ i ∧ i ≤ l.length
theorem l1New_ev (l : List Int) (hl : l.length ≤ 140737488355328) : ∃ h, Ev (fun k => spec_l1New.f k l) (l, 0, h) := by
  suffices H : ∀ (d i : Nat) (x : Int), i ≤ l.length → l.length - i = d → ∃ h, Ev (fun k => spec_l1New.l0 k l x i) (l, 0, h) from H _ 0 _ (Nat.zero_le _) rfl
  intro d
  induction d with
  | zero =>
    intro i x hi hd
    have : i = l.length := by omega
    subst this
    exact ⟨x, ev_succ ⟨0, fun k _ => by simp only [spec_l1New.l0, nltc, if_false]⟩⟩
  | succ d ih =>
    intro i x hi hd
    have hlt : i < l.length := by omega
    by_cases h4 : (i : Int) < 4000
    · obtain ⟨h, K, hK⟩ := ih (i + 1) (Go.bits .and .i64 (wrap64 ((wrap64 ((wrap64 (x * 137)) + (wrap64 (rd l (i : Int))))) + 11)) 1073741823) (by omega) (by omega)
      refine ⟨h, ev_succ ⟨K, fun k hk => ?_⟩⟩
      simp only [spec_l1New.l0, ltc hlt, h4, nnc, if_true, w64s hlt (show l.length ≤ 9223372036854775807 by omega)]
      exact hK k hk
    · exact ⟨x, ev_succ ⟨0, fun k _ => by simp only [spec_l1New.l0, ltc hlt, h4, if_true, if_false]⟩⟩
theorem l1Byte_draw (l : List Int) (i h : Int) (hl : l.length ≤ 140737488355328) (hi : OKC l i) : ∃ x i' h', spec_l1Byte.f l i h = some (x, i', h') ∧ OKC l i' ∧ 0 ≤ x ∧ x ≤ 255 := by
  unfold OKC at hi
  unfold spec_l1Byte.f
  by_cases h1 : i < (l.length : Int)
  · rw [if_pos h1, if_pos hi.1]
    refine ⟨_, _, _, rfl, ?_, and255 _⟩
    rw [w64 (by omega)]
    unfold OKC
    omega
  · rw [if_neg h1]
    exact ⟨_, _, _, rfl, hi, and255 _⟩
theorem tmod_b (x n : Int) (hx : 0 ≤ x) (hn : 0 < n) : 0 ≤ Int.tmod x n ∧ Int.tmod x n < n := by
  rw [Int.tmod_eq_emod_of_nonneg hx]
  exact ⟨Int.emod_nonneg _ (by omega), Int.emod_lt_of_pos _ hn⟩
theorem l1Below_draw (l : List Int) (i h n : Int) (hl : l.length ≤ 140737488355328) (hi : OKC l i) : ∃ x i' h', spec_l1Below.f l i h n = some (x, i', h') ∧ OKC l i' ∧ 0 ≤ x ∧ (0 < n → x < n) ∧ (n ≤ 0 → x = 0) := by
  unfold spec_l1Below.f
  by_cases h1 : n ≤ 0
  · rw [if_pos h1]
    exact ⟨0, i, h, rfl, hi, by omega, by omega, fun _ => rfl⟩
  · rw [if_neg h1]
    obtain ⟨x, i1, g1, e1, o1, b1, c1⟩ := l1Byte_draw l i h hl hi
    by_cases h2 : n ≤ 256
    · rw [if_pos h2, e1]
      simp only [Option.bind_some]
      rw [if_neg (by omega)]
      have := tmod_b x n b1 (by omega)
      exact ⟨_, _, _, rfl, o1, this.1, fun _ => this.2, by omega⟩
    · rw [if_neg h2, e1]
      simp only [Option.bind_some]
      obtain ⟨y, i2, g2, e2, o2, b2, c2⟩ := l1Byte_draw l i1 g1 hl o1
      rw [e2]
      simp only [Option.bind_some]
      obtain ⟨z, i3, g3, e3, o3, b3, c3⟩ := l1Byte_draw l i2 g2 hl o2
      rw [e3]
      simp only [Option.bind_some]
      rw [if_neg (by omega), w64 (n := x * 65536) (by omega), w64 (n := y * 256) (by omega), w64 (n := x * 65536 + y * 256) (by omega), w64 (by omega)]
      have := tmod_b (x * 65536 + y * 256 + z) n (by omega) (by omega)
      exact ⟨_, _, _, rfl, o3, this.1, fun _ => this.2, by omega⟩
theorem l1Once_draw (l : List Int) (i h n : Int) (hl : l.length ≤ 140737488355328) (hi : OKC l i) : ∃ b i' h', spec_l1Once.f l i h n = some (b, i', h') ∧ OKC l i' := by
  obtain ⟨x, i1, g1, e1, o1, _⟩ := l1Below_draw l i h n hl hi
  unfold spec_l1Once.f
  rw [e1]
  exact ⟨_, _, _, rfl, o1⟩
theorem l1Int_draw (l : List Int) (i h : Int) (m : List Int) (hl : l.length ≤ 140737488355328) (hi : OKC l i) (hm : 0 < m.length) : ∃ x i' h', spec_l1Int.f l i h m = some (x, i', h') ∧ OKC l i' ∧ x ∈ m := by
  obtain ⟨x, i1, g1, e1, o1, b1, c1, _⟩ := l1Below_draw l i h (m.length : Int) hl hi
  have c1 := c1 (by omega)
  unfold spec_l1Int.f
  rw [e1]
  simp only [Option.bind_some]
  rw [if_pos b1, if_pos c1]
  refine ⟨_, _, _, rfl, o1, ?_⟩
  obtain ⟨n, rfl⟩ := Int.eq_ofNat_of_zero_le b1
  have hn : n < m.length := by omega
  rw [rd_at (List.getElem?_eq_getElem hn)]
  exact List.getElem_mem hn
theorem l1Bytes_ev (l : List Int) (hl : l.length ≤ 140737488355328) (n : Nat) (hn : n ≤ 1000000) (i h : Int) (hi : OKC l i) : ∃ s i' h', Ev (fun k => spec_l1Bytes.f k l i h n) (s, i', h') ∧ OKC l i' ∧ s.length = n ∧ ∀ x ∈ s, 0 ≤ x ∧ x ≤ 255 := by
  suffices H : ∀ (d j : Nat) (s : List Int) (i h : Int), j ≤ n → n - j = d → s.length = j → (∀ x ∈ s, 0 ≤ x ∧ x ≤ 255) → OKC l i → ∃ s' i' h', Ev (fun k => spec_l1Bytes.l0 k n s j l i h) (s', i', h') ∧ OKC l i' ∧ s'.length = n ∧ ∀ x ∈ s', 0 ≤ x ∧ x ≤ 255 from
    H _ 0 [] i h (Nat.zero_le _) rfl rfl (by simp) hi
  intro d
  induction d with
  | zero =>
    intro j s i h hj hd hs hb hi
    have : j = n := by omega
    subst this
    exact ⟨s, i, h, ev_succ ⟨0, fun k _ => by simp only [spec_l1Bytes.l0, nltc, if_false]⟩, hi, hs, hb⟩
  | succ d ih =>
    intro j s i h hj hd hs hb hi
    have hlt : j < n := by omega
    obtain ⟨x, i1, g1, e1, o1, b1, c1⟩ := l1Byte_draw l i h hl hi
    obtain ⟨s', i', h', ⟨K, hK⟩, o, hs', hb'⟩ := ih (j + 1) (s ++ [x % 256]) i1 g1 (by omega) (by omega) (by simp [hs]) (by
      intro y hy
      rcases List.mem_append.1 hy with hy | hy
      · exact hb y hy
      · rw [List.mem_singleton.1 hy]; omega) o1
    refine ⟨s', i', h', ev_succ ⟨K, fun k hk => ?_⟩, o, hs', hb'⟩
    simp only [spec_l1Bytes.l0, ltc hlt, if_true, e1, Option.bind_some, show s.length < 140737488355328 by omega, w64s hlt (show n ≤ 9223372036854775807 by omega)]
    exact hK k hk

theorem l3Word_draw (l : List Int) (i h : Int) (hl : l.length ≤ 140737488355328) (hi : OKC l i) : ∃ x i' h', spec_l3Word.f l i h = some (x, i', h') ∧ OKC l i' ∧ -1 ≤ x ∧ x ≤ 2147483648 := by
  unfold spec_l3Word.f
  obtain ⟨b1, i1, g1, e1, o1⟩ := l1Once_draw l i h 10 hl hi
  rw [e1]
  simp only [Option.bind_some]
  cases b1 with
  | true =>
    rw [if_pos rfl]
    obtain ⟨x, i2, g2, e2, o2, hx⟩ := l1Int_draw l i1 g1 [(-1), 2147483647, 2147483648] hl o1 (by decide)
    rw [e2]
    refine ⟨x, i2, g2, rfl, o2, ?_⟩
    simp at hx
    omega
  | false =>
    rw [if_neg (by decide)]
    obtain ⟨b2, i2, g2, e2, o2⟩ := l1Once_draw l i1 g1 4 hl o1
    rw [e2]
    simp only [Option.bind_some]
    cases b2 with
    | true =>
      rw [if_pos rfl]
      obtain ⟨x, i3, g3, e3, o3, hx⟩ := l1Int_draw l i2 g2 [0, 1, 2147483646] hl o2 (by decide)
      rw [e3]
      refine ⟨x, i3, g3, rfl, o3, ?_⟩
      simp at hx
      omega
    | false =>
      rw [if_neg (by decide)]
      obtain ⟨x, i3, g3, e3, o3, b3, c3, _⟩ := l1Below_draw l i2 g2 1000000 hl o2
      rw [e3]
      simp only [Option.bind_some]
      obtain ⟨y, i4, g4, e4, o4, b4, c4, _⟩ := l1Below_draw l i3 g3 2000 hl o3
      rw [e4]
      simp only [Option.bind_some]
      have c3 := c3 (by omega)
      have c4 := c4 (by omega)
      have h1 : 0 ≤ x * y := Int.mul_nonneg b3 b4
      have h2 : x * y ≤ 1000000 * 2000 := Int.mul_le_mul (by omega) (by omega) b4 (by omega)
      rw [w64 (by omega)]
      exact ⟨_, _, _, rfl, o4, by omega, by omega⟩
theorem drawEncrypt_ev (l : List Int) (hl : l.length ≤ 140737488355328) : ∃ key s, Ev (fun k => spec_DrawEncrypt.f k l) (key, s) ∧ s.length ≤ 7 ∧ (∀ x ∈ s, 0 ≤ x ∧ x ≤ 255) ∧ -1 ≤ key ∧ key ≤ 2147483648 := by
  obtain ⟨h, e0⟩ := l1New_ev l hl
  obtain ⟨key, i1, g1, e1, o1, b1⟩ := l3Word_draw l 0 h hl ⟨by omega, by omega⟩
  obtain ⟨n, i2, g2, e2, o2, b2, c2, _⟩ := l1Below_draw l i1 g1 8 hl o1
  have c2 := c2 (by omega)
  obtain ⟨n, rfl⟩ := Int.eq_ofNat_of_zero_le b2
  obtain ⟨s, i3, g3, e3, o3, hs, hb⟩ := l1Bytes_ev l hl n (by omega) i2 g2 o2
  refine ⟨key, s, ?_, by omega, hb, b1⟩
  unfold spec_DrawEncrypt.f
  exact Ev.bind e0 (Ev.pure e1 (Ev.pure e2 (Ev.bind e3 (Ev.now _))))

def foldM (a v : Int) : Int := (a * 1000003 + v % 2147483647 + 13) % 2147483647
theorem foldM_b (a v : Int) : 0 ≤ foldM a v ∧ foldM a v < 2147483647 := by unfold foldM; omega
theorem foldl_b (l : List Int) (a : Int) (h : 0 ≤ a ∧ a < 2147483647) : 0 ≤ l.foldl foldM a ∧ l.foldl foldM a < 2147483647 := by
  induction l generalizing a with
  | nil => exact h
  | cons x t ih => exact ih _ (foldM_b a x)
theorem fold_eq (a v : Int) (h : 0 ≤ a ∧ a < 2147483647) : Int.tmod (wrap64 ((wrap64 ((wrap64 (a * 1000003)) + v % 2147483647)) + 13)) 2147483647 = foldM a v := by
  rw [w64 (n := a * 1000003) (by omega), w64 (n := a * 1000003 + v % 2147483647) (by omega), w64 (by omega)]
  exact Int.tmod_eq_emod_of_nonneg (by omega)

def khash (key : Int) (l : List Int) : Int := foldM (l.foldl foldM (foldM 11 key)) key
theorem khash_b (key : Int) (l : List Int) : 0 ≤ khash key l ∧ khash key l < 2147483647 := foldM_b _ _

theorem rd_lt (l : List Int) (i : Nat) (h : i < l.length) : l[i]? = some (rd l (i : Int)) := by
  rw [List.getElem?_eq_getElem h]
  congr 1
  symm
  exact rd_at (List.getElem?_eq_getElem h)
/-- The cipher: each byte moved by what key and place come to (sg: 1, or -1 back). -/
def ciph (sg key : Int) (l : List Int) : List Int := (List.range l.length).map (fun j : Nat => (rd l (j : Int) + sg * (khash key [(j : Int)])) % 256)
theorem ciph_len (sg key : Int) (l : List Int) : (ciph sg key l).length = l.length := by simp [ciph]
theorem ciph_byte (sg key : Int) (l : List Int) : ∀ x ∈ ciph sg key l, 0 ≤ x ∧ x ≤ 255 := by
  intro x hx
  obtain ⟨j, hj, rfl⟩ := List.mem_map.1 hx
  omega
/-- A loop that appends one value for each place. -/
theorem app_loop (n : Nat) (g : Nat → Int) (L : Nat → List Int → Int → Option (List Int))
    (hdone : ∀ k s, s.length = n → L (k + 1) s (n : Int) = some s)
    (hstep : ∀ i s, i < n → s.length = i → ∃ K, ∀ k, K ≤ k → L (k + 1) s (i : Int) = L k (s ++ [g i]) ((i + 1 : Nat) : Int)) :
    Ev (fun k => L k [] 0) ((List.range n).map g) := by
  refine loop_run n L (fun i s => s = (List.range i).map g) _ ?_ ?_ 0 [] (Nat.zero_le _) (by simp)
  · rintro s rfl
    exact ev_succ ⟨0, fun k _ => hdone k _ (by simp)⟩
  · rintro i s hi rfl
    obtain ⟨K, hK⟩ := hstep i ((List.range i).map g) hi (by simp)
    exact ⟨_, by simp [List.range_succ], K, fun k hk => hK k hk⟩

theorem inR (a b c : Int) : impl_InRange.f a b c = some (decide (b ≤ a ∧ a ≤ c)) := by
  unfold impl_InRange.f
  by_cases h : b ≤ a
  · rw [if_pos h]
    simp [h]
  · rw [if_neg h]
    simp [h]

theorem modT (p q : Int) (h : 1 ≤ q) : (if Int.tmod p q < 0 then Int.tmod p q + q else Int.tmod p q) = p % q ∧ -q < Int.tmod p q ∧ Int.tmod p q < q := by
  have h1 := Int.tmod_lt_of_pos p (show 0 < q by omega)
  have h2 : -q < Int.tmod p q := by
    have := Int.tmod_lt_of_pos (-p) (show 0 < q by omega)
    rw [Int.neg_tmod] at this
    omega
  have h3 := Int.emod_nonneg p (show q ≠ 0 by omega)
  have h4 := Int.emod_lt_of_pos p (show 0 < q by omega)
  refine ⟨?_, h2, h1⟩
  have h5 : (Int.tmod p q) % q = p % q := by
    rw [Int.tmod_def, Int.sub_eq_add_neg, ← Int.mul_neg, Int.add_mul_emod_self_left]
  split
  · rw [← h5]
    rw [← Int.add_emod_right, Int.emod_eq_of_lt (by omega) (by omega)]
  · rw [← h5]
    rw [Int.emod_eq_of_lt (by omega) (by omega)]

/-- Mod of the program. -/
theorem modI (p q : Int) : impl_Mod.f p q = some (if 1 ≤ q ∧ q ≤ 1000000000000 then p % q else 0) := by
  unfold impl_Mod.f
  rw [inR]
  by_cases h : 1 ≤ q ∧ q ≤ 1000000000000
  · obtain ⟨h1, h2, h3⟩ := modT p q h.1
    simp only [h, Option.bind_some, decide_true, and_self, if_true]
    rw [if_neg (show ¬ q = 0 by omega), w64 (by omega), ← h1]
    split <;> rfl
  · simp only [h, Option.bind_some, decide_false, if_false, Bool.false_eq_true]

theorem foldI (a v : Int) (h : 0 ≤ a ∧ a < 2147483647) : impl_fold.f a v = some (foldM a v) := by
  have e : (1 : Int) ≤ 2147483647 ∧ (2147483647 : Int) ≤ 1000000000000 := by decide
  simp only [impl_fold.f, modI, e, and_self, if_true, Option.bind_some]
  rw [fold_eq a v h]

theorem implKHash_ev (key : Int) (l : List Int) (hl : l.length ≤ 9223372036854775807) : Ev (fun k => impl_KeyedHash.f k key l) (khash key l) := by
  have H := loop_list0 l (fun k s i => impl_KeyedHash.l0 k key s l (l.length : Int) i) (fun t s => foldM (t.foldl foldM s) key) (fun _ s => 0 ≤ s ∧ s < 2147483647) (by
    intro s hs
    exact ev_succ ⟨0, fun k _ => by simp only [impl_KeyedHash.l0, nltc, if_false, List.foldl_nil, foldI s key hs, Option.bind_some]⟩) (by
    intro i x t s hi hx ht hs ih
    obtain ⟨K, hK⟩ := ih (foldM s x) (foldM_b s x)
    refine ev_succ ⟨K, fun k hk => ?_⟩
    simp only [impl_KeyedHash.l0, ltc hi, nnc, if_true, rd_at hx, foldI s x hs, Option.bind_some, w64s hi hl]
    exact hK k hk) (foldM 11 key) (foldM_b 11 key)
  obtain ⟨K, hK⟩ := H
  refine ⟨K, fun k hk => ?_⟩
  simp only [impl_KeyedHash.f, foldI 11 key (by decide), Option.bind_some]
  exact hK k hk

theorem implEnc_ev (key : Int) (l : List Int) (hl : l.length ≤ 140737488355000) : Ev (fun k => impl_Encrypt.f k key l) (ciph 1 key l) := by
  refine app_loop l.length (fun j : Nat => (rd l (j : Int) + 1 * (khash key [(j : Int)])) % 256) (fun k s i => impl_Encrypt.l0 k key s l (l.length : Int) i) (fun k s hs => by simp only [impl_Encrypt.l0, nltc, if_false]) ?_
  intro i s hi hs
  obtain ⟨K, hK⟩ := implKHash_ev key [(i : Int)] (by simp)
  refine ⟨K, fun k hk => ?_⟩
  have := hK k hk
  simp only at this
  simp only [impl_Encrypt.l0, ltc hi, nnc, if_true, this, Option.bind_some, show s.length < 140737488355328 by omega, w64s hi (show l.length ≤ 9223372036854775807 by omega)]
  rw [show (rd l (i : Int) + khash key [(i : Int)]) % 256 = (rd l (i : Int) + 1 * khash key [(i : Int)]) % 256 by omega]

theorem implDec_ev (key : Int) (l : List Int) (hl : l.length ≤ 140737488355000) : Ev (fun k => impl_Decrypt.f k key l) (ciph (-1) key l) := by
  refine app_loop l.length (fun j : Nat => (rd l (j : Int) + (-1) * (khash key [(j : Int)])) % 256) (fun k s i => impl_Decrypt.l0 k key s l (l.length : Int) i) (fun k s hs => by simp only [impl_Decrypt.l0, nltc, if_false]) ?_
  intro i s hi hs
  obtain ⟨K, hK⟩ := implKHash_ev key [(i : Int)] (by simp)
  refine ⟨K, fun k hk => ?_⟩
  have := hK k hk
  simp only at this
  simp only [impl_Decrypt.l0, ltc hi, nnc, if_true, this, Option.bind_some, show s.length < 140737488355328 by omega, w64s hi (show l.length ≤ 9223372036854775807 by omega)]
  rw [show (rd l (i : Int) - khash key [(i : Int)]) % 256 = (rd l (i : Int) + (-1) * khash key [(i : Int)]) % 256 by omega]

theorem sameBytes_ev (a b : List Int) (h : a.length ≤ 9223372036854775807) : Ev (fun k => laws_sameBytes.f k a b) (decide (a = b)) := by
  by_cases hl : a.length = b.length
  · have H := eq_loop a b (fun k i => laws_sameBytes.l0 k a b i) hl (fun k => by simp only [laws_sameBytes.l0, nltc, if_false]) (fun k i x y hx hy hi hi2 => by
      simp only [laws_sameBytes.l0, ltc hi, ltc hi2, nnc, if_true, rd_at hx, rd_at hy, w64s hi h])
    obtain ⟨K, hK⟩ := H
    refine ⟨K, fun k hk => ?_⟩
    simp only [laws_sameBytes.f, hl, if_true]
    exact hK k hk
  · refine ⟨0, fun k _ => ?_⟩
    simp only [laws_sameBytes.f]
    rw [if_neg (by omega)]
    congr 1
    symm
    exact decide_eq_false (fun e => hl (by rw [e]))
theorem sameBytes_self (a : List Int) (h : a.length ≤ 9223372036854775807) : Ev (fun k => laws_sameBytes.f k a a) true := Ev.is (sameBytes_ev a a h) (by simp)

theorem ciph_back (sg key : Int) (l : List Int) (hs : sg = 1 ∨ sg = -1) (hb : ∀ x ∈ l, 0 ≤ x ∧ x ≤ 255) : ciph (-sg) key (ciph sg key l) = l := by
  apply List.ext_getElem?
  intro j
  by_cases hj : j < l.length
  · have h1 := rd_lt l j hj
    have hx := hb _ (List.mem_of_getElem? h1)
    have h2 : (ciph sg key l)[j]? = some ((rd l (j : Int) + sg * (khash key [(j : Int)])) % 256) := by simp [ciph, hj]
    have h3 : (ciph (-sg) key (ciph sg key l))[j]? = some ((rd (ciph sg key l) (j : Int) + (-sg) * (khash key [(j : Int)])) % 256) := by
      unfold ciph
      simp [hj]
    rw [h3, rd_at h2, h1]
    rcases hs with rfl | rfl
    · congr 1; omega
    · congr 1; omega
  · rw [List.getElem?_eq_none (by rw [ciph_len, ciph_len]; omega), List.getElem?_eq_none (by omega)]
theorem FnCipher : laws_FnCipher.Pure := by
  intro code h1 h2 _
  refine Ev.rounds (g := fun k => laws_FnCipher.f k code) ?_
  unfold laws_FnCipher.f
  refine Ev.pure (a := decide ((code.length : Int) > 1048576)) rfl ?_
  by_cases hb : (code.length : Int) > 1048576
  · exact Ev.yes (by simpa using hb) (Ev.now _)
  refine Ev.no (by simpa using hb) ?_
  obtain ⟨key, s, e0, hs, hsb, _⟩ := drawEncrypt_ev code (by omega)
  have b1 := ciph_back 1 key s (.inl rfl) hsb
  have b2 := ciph_back (-1) key s (.inr rfl) hsb
  have l1 := ciph_len 1 key s
  have l2 := ciph_len (-1) key s
  have e1 := implEnc_ev key s (by omega)
  have e2 := implDec_ev key (ciph 1 key s) (by omega)
  rw [b1] at e2
  have e3 := sameBytes_self s (by omega)
  have e4 := implDec_ev key s (by omega)
  have e5 := implEnc_ev key (ciph (-1) key s) (by omega)
  rw [show ciph 1 key (ciph (-1) key s) = s from b2] at e5
  exact Ev.bind e0 (Ev.bind e1 (Ev.bind e2 (Ev.bind e3 (Ev.yes rfl (Ev.bind e4 (Ev.bind e5 (Ev.bind e3 (Ev.yes rfl (Ev.bind e1 (Ev.is (Ev.now _) (by simp [l1])))))))))))

end Go.Proofs.Ytijmcphmjlbpjad.Pure
