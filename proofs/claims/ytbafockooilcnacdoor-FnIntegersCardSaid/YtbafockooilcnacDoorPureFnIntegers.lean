/- FnIntegers: the pure statement of the law, for every input: what the program's functions and the reference's come to is the same, or what the law says holds. No condition beside the statement's own. -/
import Derived.Test.YtbafockooilcnacDoorQFnIntegersx3
import Derived.Lib.ItoaNum
namespace Go.Proofs.YtbafockooilcnacDoor.Pure
open Go.RowKit Go.Proofs.YtbafockooilcnacDoor.QFnIntegers Go.Proofs.YtbafockooilcnacDoorW.PrintWords Go.Proofs.YtbafockooilcnacDoorW.PrintLast Go.Proofs.YtbafockooilcnacDoorW.PrintMore
set_option linter.unusedVariables false
set_option linter.unusedSimpArgs false


theorem i64b {x : Int} (h : (Lit.int .i64 x).wf = true) : -9223372036854775808 ≤ x ∧ x ≤ 9223372036854775807 := by
  simp [Lit.wf, IntKind.min, IntKind.max, IntKind.signed, IntKind.bits] at h
  omega
theorem u8b {x : Int} (h : (Lit.int .u8 x).wf = true) : 0 ≤ x ∧ x ≤ 255 := by
  simp [Lit.wf, IntKind.min, IntKind.max, IntKind.signed, IntKind.bits] at h
  omega
theorem w64 {n : Int} (h : -9223372036854775808 ≤ n ∧ n ≤ 9223372036854775807) : wrap64 n = n := by unfold wrap64; omega
theorem w64s {i : Nat} {n : Nat} (h : i < n) (hn : n ≤ 9223372036854775807) : wrap64 ((i : Int) + 1) = ((i + 1 : Nat) : Int) := by unfold wrap64; omega
theorem ltc {i n : Nat} (h : i < n) : (i : Int) < (n : Int) := by omega
theorem nnc (i : Nat) : (0 : Int) ≤ (i : Int) := by omega
theorem nltc (n : Nat) : ¬ (n : Int) < (n : Int) := by omega
theorem rd_at {l : List Int} {i : Nat} {x : Int} (h : l[i]? = some x) : rd l (i : Int) = x := by
  unfold rd
  simp [List.getD, h]
/-- More rounds than some number. -/
theorem ev_k {α : Type} {g : Nat → Option α} {r : α} (h : Ev g r) : ∃ K, ∀ k, K ≤ k → g k = some r := h
theorem ev_succ {α : Type} {g : Nat → Option α} {r : α} (h : ∃ K, ∀ k, K ≤ k → g (k + 1) = some r) : Ev g r := by
  obtain ⟨K, h⟩ := h
  refine ⟨K + 1, fun k hk => ?_⟩
  obtain ⟨m, rfl⟩ : ∃ m, k = m + 1 := ⟨k - 1, by omega⟩
  exact h m (by omega)
/-- A loop over a list, from the front: what it comes to is told of the list's tails. -/
theorem loop_list {α σ ρ : Type} (l : List α) (L : Nat → σ → Int → Option ρ) (f : List α → σ → ρ) (I : Nat → σ → Prop)
    (hnil : ∀ s, I l.length s → Ev (fun k => L k s (l.length : Int)) (f [] s))
    (hcons : ∀ (i : Nat) (x : α) (t : List α) (s : σ), i < l.length → l[i]? = some x → l.drop (i + 1) = t → I i s →
      (∀ s', I (i + 1) s' → Ev (fun k => L k s' ((i + 1 : Nat) : Int)) (f t s')) → Ev (fun k => L k s (i : Int)) (f (x :: t) s)) :
    ∀ (i : Nat) (s : σ), i ≤ l.length → I i s → Ev (fun k => L k s (i : Int)) (f (l.drop i) s) := by
  intro i s hi hI
  generalize hd : l.length - i = d
  induction d generalizing i s with
  | zero =>
    have : i = l.length := by omega
    subst this
    rw [List.drop_length]
    exact hnil s hI
  | succ d ih =>
    have hlt : i < l.length := by omega
    rw [List.drop_eq_getElem_cons hlt]
    exact hcons i l[i] _ s hlt (List.getElem?_eq_getElem hlt) rfl hI (fun s' hI' => ih (i + 1) s' (by omega) hI' (by omega))
theorem loop_list0 {α σ ρ : Type} (l : List α) (L : Nat → σ → Int → Option ρ) (f : List α → σ → ρ) (I : Nat → σ → Prop)
    (hnil : ∀ s, I l.length s → Ev (fun k => L k s (l.length : Int)) (f [] s))
    (hcons : ∀ (i : Nat) (x : α) (t : List α) (s : σ), i < l.length → l[i]? = some x → l.drop (i + 1) = t → I i s →
      (∀ s', I (i + 1) s' → Ev (fun k => L k s' ((i + 1 : Nat) : Int)) (f t s')) → Ev (fun k => L k s (i : Int)) (f (x :: t) s))
    (s : σ) (hI : I 0 s) : Ev (fun k => L k s 0) (f l s) := by
  have := loop_list l L f I hnil hcons 0 s (Nat.zero_le _) hI
  simpa using this
theorem Ev.yes {α : Type} {c : Prop} [Decidable c] {f g : Nat → Option α} {r : α} (h : c) (e : Ev f r) : Ev (fun n => if c then f n else g n) r := by
  simp only [if_pos h]
  exact e
theorem Ev.no {α : Type} {c : Prop} [Decidable c] {f g : Nat → Option α} {r : α} (h : ¬ c) (e : Ev g r) : Ev (fun n => if c then f n else g n) r := by
  simp only [if_neg h]
  exact e
theorem Ev.pure {α β : Type} {x : Option α} {f : Nat → α → Option β} {a : α} {r : β} (h : x = some a) (k : Ev (fun n => f n a) r) : Ev (fun n => x.bind (f n)) r := by
  subst h
  exact k
theorem Ev.is {α : Type} {g : Nat → Option α} {r r' : α} (h : Ev g r) (e : r = r') : Ev g r' := e ▸ h

/-- A loop over the places of a row, with what holds at each: what it comes to. -/
theorem loop_run {σ ρ : Type} (n : Nat) (L : Nat → σ → Int → Option ρ) (I : Nat → σ → Prop) (r : ρ)
    (hdone : ∀ s, I n s → Ev (fun k => L k s (n : Int)) r)
    (hstep : ∀ i s, i < n → I i s → ∃ s', I (i + 1) s' ∧ ∃ K, ∀ k, K ≤ k → L (k + 1) s (i : Int) = L k s' ((i + 1 : Nat) : Int)) :
    ∀ (i : Nat) (s : σ), i ≤ n → I i s → Ev (fun k => L k s (i : Int)) r := by
  intro i s hi hI
  generalize hd : n - i = d
  induction d generalizing i s with
  | zero =>
    have : i = n := by omega
    subst this
    exact hdone s hI
  | succ d ih =>
    obtain ⟨s', hI', K, hK⟩ := hstep i s (by omega) hI
    obtain ⟨K', hK'⟩ := ih (i + 1) s' (by omega) hI' (by omega)
    refine ev_succ ⟨K + K', fun k hk => ?_⟩
    show L (k + 1) s (i : Int) = some r
    rw [hK k (by omega)]
    exact hK' k (by omega)
/-- Copying element by element. -/
theorem copy_loop {α β : Type} (l : List α) (g : α → β) (L : Nat → List β → Int → Option (List β))
    (hdone : ∀ k s, L (k + 1) s (l.length : Int) = some s)
    (hstep : ∀ k i x s, l[i]? = some x → i < l.length → s.length = l.length → L (k + 1) s (i : Int) = L k (s.set i (g x)) ((i + 1 : Nat) : Int))
    (s : List β) (hs : s.length = l.length) : Ev (fun k => L k s 0) (l.map g) := by
  refine loop_run l.length L (fun i s => s.length = l.length ∧ ∀ j, j < i → s[j]? = (l.map g)[j]?) _ ?_ ?_ 0 s (Nat.zero_le _) ⟨hs, fun j hj => by omega⟩
  · rintro s ⟨h1, h2⟩
    have : s = l.map g := by
      apply List.ext_getElem?
      intro j
      by_cases hj : j < l.length
      · exact h2 j hj
      · rw [List.getElem?_eq_none (by omega), List.getElem?_eq_none (by simp; omega)]
    subst this
    exact ev_succ ⟨0, fun k _ => hdone k _⟩
  · rintro i s hi ⟨h1, h2⟩
    have hx := List.getElem?_eq_getElem hi
    refine ⟨s.set i (g l[i]), ⟨by simp [h1], fun j hj => ?_⟩, 0, fun k _ => hstep k i _ s hx hi h1⟩
    by_cases hji : j = i
    · subst hji
      rw [List.getElem?_set_self (by omega)]
      simp [hi]
    · rw [List.getElem?_set_ne (by omega)]
      exact h2 j (by omega)
/-- Two rows held against each other, element by element. -/
theorem eq_loop {α : Type} [DecidableEq α] (a b : List α) (L : Nat → Int → Option Bool) (hlen : a.length = b.length)
    (hdone : ∀ k, L (k + 1) (a.length : Int) = some true)
    (hstep : ∀ k i x y, a[i]? = some x → b[i]? = some y → i < a.length → i < b.length → L (k + 1) (i : Int) = if x = y then L k ((i + 1 : Nat) : Int) else some false) :
    Ev (fun k => L k 0) (decide (a = b)) := by
  suffices H : ∀ d i, i ≤ a.length → a.length - i = d → Ev (fun k => L k (i : Int)) (decide (a.drop i = b.drop i)) by
    simpa using H _ 0 (Nat.zero_le _) rfl
  intro d
  induction d with
  | zero =>
    intro i hi hd
    have : i = a.length := by omega
    subst this
    refine ev_succ ⟨0, fun k _ => ?_⟩
    rw [List.drop_length, hlen, List.drop_length]
    rw [← hlen, hdone]
    simp
  | succ d ih =>
    intro i hi hd
    have h1 : i < a.length := by omega
    have h2 : i < b.length := by omega
    obtain ⟨K, hK⟩ := ih (i + 1) (by omega) (by omega)
    replace hK : ∀ k, K ≤ k → L k ((i + 1 : Nat) : Int) = some (decide (a.drop (i + 1) = b.drop (i + 1))) := hK
    refine ev_succ ⟨K, fun k hk => ?_⟩
    show L (k + 1) (i : Int) = _
    rw [hstep k i _ _ (List.getElem?_eq_getElem h1) (List.getElem?_eq_getElem h2) h1 h2, List.drop_eq_getElem_cons h1, List.drop_eq_getElem_cons h2]
    by_cases h : a[i] = b[i]
    · rw [if_pos h, hK k hk, h]
      simp only [List.cons.injEq, true_and]
    · rw [if_neg h]
      congr 1
      symm
      exact decide_eq_false (fun e => h (List.cons.inj e).1)
/-- Marks from c on, w a place. -/
def marks {β : Type} (m : Int → β) (w : Int) (c : Int) (n : Nat) : List β := (List.range n).map (fun i : Nat => m (c + w * (i : Int)))
theorem marks_len {β : Type} (m : Int → β) (w c : Int) (n : Nat) : (marks m w c n).length = n := by simp [marks]
theorem marks_at {β : Type} (m : Int → β) (w c : Int) (n i : Nat) (h : i < n) : (marks m w c n)[i]? = some (m (c + w * (i : Int))) := by simp [marks, h]
/-- Marking a row in place. -/
theorem mark_loop {β : Type} (m : Int → β) (w : Int) (n : Nat) (c0 : Int) (L : Nat → List β → Int → Int → Option (Int × List β))
    (hdone : ∀ k s c, s.length = n → L (k + 1) s c (n : Int) = some (c, s))
    (hstep : ∀ k i s, i < n → s.length = n → L (k + 1) s (c0 + w * (i : Int)) (i : Int) = L k (s.set i (m (c0 + w * (i : Int)))) (c0 + w * ((i + 1 : Nat) : Int)) ((i + 1 : Nat) : Int))
    (s : List β) (hs : s.length = n) : Ev (fun k => L k s c0 0) (c0 + w * (n : Int), marks m w c0 n) := by
  have := loop_run n (fun k (p : List β × Int) i => L k p.1 p.2 i) (fun i p => p.2 = c0 + w * (i : Int) ∧ p.1.length = n ∧ ∀ j, j < i → p.1[j]? = (marks m w c0 n)[j]?) (c0 + w * (n : Int), marks m w c0 n) ?_ ?_ 0 (s, c0) (Nat.zero_le _) ⟨by simp, hs, fun j hj => by omega⟩
  · exact this
  · rintro ⟨s, c⟩ ⟨h0, h1, h2⟩
    simp only at h0 h1 h2
    have : s = marks m w c0 n := by
      apply List.ext_getElem?
      intro j
      by_cases hj : j < n
      · exact h2 j hj
      · rw [List.getElem?_eq_none (by omega), List.getElem?_eq_none (by rw [marks_len]; omega)]
    subst this
    refine ev_succ ⟨0, fun k _ => ?_⟩
    show L (k + 1) _ c _ = _
    rw [hdone k _ c h1, h0]
  · rintro i ⟨s, c⟩ hi ⟨h0, h1, h2⟩
    simp only at h0 h1 h2
    refine ⟨(s.set i (m (c0 + w * (i : Int))), c0 + w * ((i + 1 : Nat) : Int)), ⟨rfl, by simp [h1], fun j hj => ?_⟩, 0, fun k _ => ?_⟩
    · by_cases hji : j = i
      · subst hji
        simp only
        rw [List.getElem?_set_self (by omega), marks_at _ _ _ _ _ hi]
      · simp only
        rw [List.getElem?_set_ne (by omega)]
        exact h2 j (by omega)
    · simp only [h0]
      exact hstep k i s hi h1
/-- A row's marks told again. -/
theorem held_loop (w : Int) (n : Nat) (c0 : Int) (L : Nat → Int → Int → Option Int)
    (hdone : ∀ k c, L (k + 1) c (n : Int) = some c)
    (hstep : ∀ k i, i < n → L (k + 1) (c0 + w * (i : Int)) (i : Int) = L k (c0 + w * ((i + 1 : Nat) : Int)) ((i + 1 : Nat) : Int)) :
    Ev (fun k => L k c0 0) (c0 + w * (n : Int)) := by
  have := loop_run n L (fun i c => c = c0 + w * (i : Int)) (c0 + w * (n : Int)) ?_ ?_ 0 c0 (Nat.zero_le _) (by simp)
  · exact this
  · rintro c h0
    refine ev_succ ⟨0, fun k _ => ?_⟩
    show L (k + 1) c _ = _
    rw [hdone k c, h0]
  · rintro i c hi h0
    subst h0
    exact ⟨_, rfl, 0, fun k _ => hstep k i hi⟩
/-- As 'loop_run', where a round may take several. -/
theorem loop_ev {σ ρ : Type} (n : Nat) (L : Nat → σ → Int → Option ρ) (I : Nat → σ → Prop) (r : ρ)
    (hdone : ∀ s, I n s → Ev (fun k => L k s (n : Int)) r)
    (hstep : ∀ i s, i < n → I i s → ∃ s', I (i + 1) s' ∧ (Ev (fun k => L k s' ((i + 1 : Nat) : Int)) r → Ev (fun k => L k s (i : Int)) r)) :
    ∀ (i : Nat) (s : σ), i ≤ n → I i s → Ev (fun k => L k s (i : Int)) r := by
  intro i s hi hI
  generalize hd : n - i = d
  induction d generalizing i s with
  | zero =>
    have : i = n := by omega
    subst this
    exact hdone s hI
  | succ d ih =>
    obtain ⟨s', hI', hs⟩ := hstep i s (by omega) hI
    exact hs (ih (i + 1) s' (by omega) hI' (by omega))

theorem and255 (x : Int) : 0 ≤ Go.bits .and .i64 x 255 ∧ Go.bits .and .i64 x 255 ≤ 255 := by
  simp only [Go.bits, BitVec.toNat_and]
  have h : (BitVec.ofInt IntKind.i64.bits x).toNat &&& (BitVec.ofInt IntKind.i64.bits 255).toNat ≤ 255 := by
    have e : (BitVec.ofInt IntKind.i64.bits 255).toNat = 255 := by decide
    rw [e]
    exact Nat.and_le_right
  generalize (BitVec.ofInt IntKind.i64.bits x).toNat &&& (BitVec.ofInt IntKind.i64.bits 255).toNat = n at h
  rw [IntKind.wrap_i64]
  omega
/-- A cursor's place is within its bytes. -/
def OKC (l : List Int) (i : Int) : Prop := 0 ≤ i ∧ i ≤ l.length
theorem l1New_ev (l : List Int) (hl : l.length ≤ 140737488355328) : ∃ h, Ev (fun k => spec_l1New.f k l) (l, 0, h) := by
  suffices H : ∀ (d i : Nat) (x : Int), i ≤ l.length → l.length - i = d → ∃ h, Ev (fun k => spec_l1New.l0 k l x i) (l, 0, h) from H _ 0 _ (Nat.zero_le _) rfl
  intro d
  induction d with
  | zero =>
    intro i x hi hd
    have : i = l.length := by omega
    subst this
    exact ⟨x, ev_succ ⟨0, fun k _ => by simp only [spec_l1New.l0, nltc, if_false]⟩⟩
  | succ d ih =>
    intro i x hi hd
    have hlt : i < l.length := by omega
    by_cases h4 : (i : Int) < 4000
    · obtain ⟨h, K, hK⟩ := ih (i + 1) (Go.bits .and .i64 (wrap64 ((wrap64 ((wrap64 (x * 137)) + (wrap64 (rd l (i : Int))))) + 11)) 1073741823) (by omega) (by omega)
      refine ⟨h, ev_succ ⟨K, fun k hk => ?_⟩⟩
      simp only [spec_l1New.l0, ltc hlt, h4, nnc, if_true, w64s hlt (show l.length ≤ 9223372036854775807 by omega)]
      exact hK k hk
    · exact ⟨x, ev_succ ⟨0, fun k _ => by simp only [spec_l1New.l0, ltc hlt, h4, if_true, if_false]⟩⟩
theorem l1Byte_draw (l : List Int) (i h : Int) (hl : l.length ≤ 140737488355328) (hi : OKC l i) : ∃ x i' h', spec_l1Byte.f l i h = some (x, i', h') ∧ OKC l i' ∧ 0 ≤ x ∧ x ≤ 255 := by
  unfold OKC at hi
  unfold spec_l1Byte.f
  by_cases h1 : i < (l.length : Int)
  · rw [if_pos h1, if_pos hi.1]
    refine ⟨_, _, _, rfl, ?_, and255 _⟩
    rw [w64 (by omega)]
    unfold OKC
    omega
  · rw [if_neg h1]
    exact ⟨_, _, _, rfl, hi, and255 _⟩
theorem tmod_b (x n : Int) (hx : 0 ≤ x) (hn : 0 < n) : 0 ≤ Int.tmod x n ∧ Int.tmod x n < n := by
  rw [Int.tmod_eq_emod_of_nonneg hx]
  exact ⟨Int.emod_nonneg _ (by omega), Int.emod_lt_of_pos _ hn⟩
theorem l1Below_draw (l : List Int) (i h n : Int) (hl : l.length ≤ 140737488355328) (hi : OKC l i) : ∃ x i' h', spec_l1Below.f l i h n = some (x, i', h') ∧ OKC l i' ∧ 0 ≤ x ∧ (0 < n → x < n) ∧ (n ≤ 0 → x = 0) := by
  unfold spec_l1Below.f
  by_cases h1 : n ≤ 0
  · rw [if_pos h1]
    exact ⟨0, i, h, rfl, hi, by omega, by omega, fun _ => rfl⟩
  · rw [if_neg h1]
    obtain ⟨x, i1, g1, e1, o1, b1, c1⟩ := l1Byte_draw l i h hl hi
    by_cases h2 : n ≤ 256
    · rw [if_pos h2, e1]
      simp only [Option.bind_some]
      rw [if_neg (by omega)]
      have := tmod_b x n b1 (by omega)
      exact ⟨_, _, _, rfl, o1, this.1, fun _ => this.2, by omega⟩
    · rw [if_neg h2, e1]
      simp only [Option.bind_some]
      obtain ⟨y, i2, g2, e2, o2, b2, c2⟩ := l1Byte_draw l i1 g1 hl o1
      rw [e2]
      simp only [Option.bind_some]
      obtain ⟨z, i3, g3, e3, o3, b3, c3⟩ := l1Byte_draw l i2 g2 hl o2
      rw [e3]
      simp only [Option.bind_some]
      rw [if_neg (by omega), w64 (n := x * 65536) (by omega), w64 (n := y * 256) (by omega), w64 (n := x * 65536 + y * 256) (by omega), w64 (by omega)]
      have := tmod_b (x * 65536 + y * 256 + z) n (by omega) (by omega)
      exact ⟨_, _, _, rfl, o3, this.1, fun _ => this.2, by omega⟩
theorem l1Once_draw (l : List Int) (i h n : Int) (hl : l.length ≤ 140737488355328) (hi : OKC l i) : ∃ b i' h', spec_l1Once.f l i h n = some (b, i', h') ∧ OKC l i' := by
  obtain ⟨x, i1, g1, e1, o1, _⟩ := l1Below_draw l i h n hl hi
  unfold spec_l1Once.f
  rw [e1]
  exact ⟨_, _, _, rfl, o1⟩
theorem l1Int_draw (l : List Int) (i h : Int) (m : List Int) (hl : l.length ≤ 140737488355328) (hi : OKC l i) (hm : 0 < m.length) : ∃ x i' h', spec_l1Int.f l i h m = some (x, i', h') ∧ OKC l i' ∧ x ∈ m := by
  obtain ⟨x, i1, g1, e1, o1, b1, c1, _⟩ := l1Below_draw l i h (m.length : Int) hl hi
  have c1 := c1 (by omega)
  unfold spec_l1Int.f
  rw [e1]
  simp only [Option.bind_some]
  rw [if_pos b1, if_pos c1]
  refine ⟨_, _, _, rfl, o1, ?_⟩
  obtain ⟨n, rfl⟩ := Int.eq_ofNat_of_zero_le b1
  have hn : n < m.length := by omega
  rw [rd_at (List.getElem?_eq_getElem hn)]
  exact List.getElem_mem hn
theorem l1Num_draw (l : List Int) (i h : Int) (hl : l.length ≤ 140737488355328) (hi : OKC l i) : ∃ x i' h', spec_l1Num.f l i h = some (x, i', h') ∧ OKC l i' ∧ 0 ≤ x ∧ x ≤ 1000000000000 := by
  unfold spec_l1Num.f
  obtain ⟨c, i1, g1, e1, o1, b1, c1, _⟩ := l1Below_draw l i h 4 hl hi
  rw [e1]
  simp only [Option.bind_some]
  by_cases h0 : c = 0
  · rw [if_pos h0]
    obtain ⟨x, i2, g2, e2, o2, b2, c2, _⟩ := l1Below_draw l i1 g1 2000 hl o1
    rw [e2]
    exact ⟨x, i2, g2, rfl, o2, b2, by have := c2 (by omega); omega⟩
  rw [if_neg h0]
  by_cases h1 : c = 1
  · rw [if_pos h1]
    obtain ⟨x, i2, g2, e2, o2, hx⟩ := l1Int_draw l i1 g1 [0, 1, 127, 128, 2147483646, 2147483647, 1000000000000] hl o1 (by decide)
    rw [e2]
    refine ⟨x, i2, g2, rfl, o2, ?_⟩
    simp at hx
    omega
  rw [if_neg h1]
  by_cases h2 : c = 2
  · rw [if_pos h2]
    obtain ⟨x, i2, g2, e2, o2, b2, c2, _⟩ := l1Below_draw l i1 g1 1000000 hl o1
    rw [e2]
    simp only [Option.bind_some]
    obtain ⟨y, i3, g3, e3, o3, b3, c3, _⟩ := l1Below_draw l i2 g2 1000000 hl o2
    rw [e3]
    simp only [Option.bind_some]
    have c2 := c2 (by omega)
    have c3 := c3 (by omega)
    have q1 : 0 ≤ x * y := Int.mul_nonneg b2 b3
    have q2 : x * y ≤ 1000000 * 1000000 := Int.mul_le_mul (by omega) (by omega) b3 (by omega)
    rw [w64 (by omega)]
    exact ⟨_, _, _, rfl, o3, q1, by omega⟩
  rw [if_neg h2]
  obtain ⟨x, i2, g2, e2, o2, b2, c2, _⟩ := l1Below_draw l i1 g1 20 hl o1
  rw [e2]
  exact ⟨x, i2, g2, rfl, o2, b2, by have := c2 (by omega); omega⟩
theorem l1Odd_draw (l : List Int) (i h : Int) (hl : l.length ≤ 140737488355328) (hi : OKC l i) : ∃ x i' h', spec_l1Odd.f l i h = some (x, i', h') ∧ OKC l i' ∧ -9223372036854775808 ≤ x ∧ x ≤ 9223372036854775807 := by
  unfold spec_l1Odd.f
  obtain ⟨x, i2, g2, e2, o2, hx⟩ := l1Int_draw l i h [(-1), 0, 1, 2, 255, 256, 65535, 2147483647, 2147483648, 4294967295, 4294967296, (-2147483648), 9223372036854775807, (-9223372036854775808)] hl hi (by decide)
  rw [e2]
  refine ⟨x, i2, g2, rfl, o2, ?_⟩
  simp at hx
  omega
theorem l1Raw_draw (l : List Int) (i h : Int) (hl : l.length ≤ 140737488355328) (hi : OKC l i) : ∃ x i' h', spec_l1Raw.f l i h = some (x, i', h') ∧ OKC l i' ∧ -9223372036854775808 ≤ x ∧ x ≤ 9223372036854775807 := by
  unfold spec_l1Raw.f
  obtain ⟨b, i1, g1, e1, o1⟩ := l1Once_draw l i h 2 hl hi
  rw [e1]
  simp only [Option.bind_some]
  cases b with
  | true =>
    rw [if_pos rfl]
    obtain ⟨x, i2, g2, e2, o2, hx⟩ := l1Odd_draw l i1 g1 hl o1
    rw [e2]
    exact ⟨x, i2, g2, rfl, o2, hx⟩
  | false =>
    rw [if_neg (by decide)]
    obtain ⟨x, i2, g2, e2, o2, hx⟩ := l1Int_draw l i1 g1 [(-1), 1000000000000, 1000000000001] hl o1 (by decide)
    rw [e2]
    refine ⟨x, i2, g2, rfl, o2, ?_⟩
    simp at hx
    omega
theorem l1One_draw (l : List Int) (i h : Int) (hl : l.length ≤ 140737488355328) (hi : OKC l i) : ∃ x i' h', spec_l1One.f l i h = some (x, i', h') ∧ OKC l i' ∧ -9223372036854775808 ≤ x ∧ x ≤ 9223372036854775807 := by
  unfold spec_l1One.f
  obtain ⟨b, i1, g1, e1, o1⟩ := l1Once_draw l i h 6 hl hi
  rw [e1]
  simp only [Option.bind_some]
  cases b with
  | true =>
    rw [if_pos rfl]
    obtain ⟨x, i2, g2, e2, o2, hx⟩ := l1Raw_draw l i1 g1 hl o1
    rw [e2]
    exact ⟨x, i2, g2, rfl, o2, hx⟩
  | false =>
    rw [if_neg (by decide)]
    obtain ⟨x, i2, g2, e2, o2, hx⟩ := l1Num_draw l i1 g1 hl o1
    rw [e2]
    exact ⟨x, i2, g2, rfl, o2, by omega, by omega⟩
theorem bt_at {s : ByteArray} {i : Nat} {x : UInt8} (h : s.data.toList[i]? = some x) : bt s (i : Int) = (x.toNat : Int) := by
  have hi : i < s.size := by
    have := (List.getElem?_eq_some_iff.1 h).1
    rw [Array.length_toList] at this
    exact this
  unfold bt
  rw [Int.toNat_natCast, dif_pos hi]
  have h2 : s.data[i]? = some x := by rw [← h, Array.getElem?_toList]
  have h3 : s[i] = s.data[i]'hi := rfl
  rw [h3, (Array.getElem?_eq_some_iff.1 h2).2]
theorem str_size (l : List UInt8) : (⟨l.toArray⟩ : ByteArray).size = l.length := rfl
theorem str_append (a b : List UInt8) : (⟨a.toArray⟩ : ByteArray) ++ ⟨b.toArray⟩ = ⟨(a ++ b).toArray⟩ := by
  apply ByteArray.ext
  apply Array.toList_inj.1
  rw [ByteArray.toList_data_append]
theorem str_loop (s : ByteArray) (d : Nat) : ∀ (i : Nat) (r : List UInt8), i ≤ s.size → s.size - i = d → ByteArray.toList.loop s i r = r.reverse ++ s.data.toList.drop i := by
  induction d with
  | zero =>
    intro i r hi hd
    have : i = s.data.toList.length := by rw [Array.length_toList]; show i = s.size; omega
    unfold ByteArray.toList.loop
    rw [if_neg (by omega), this, List.drop_length, List.append_nil]
  | succ d ih =>
    intro i r hi hd
    unfold ByteArray.toList.loop
    have hlt : i < s.data.toList.length := by rw [Array.length_toList]; show i < s.size; omega
    rw [if_pos (by omega), ih (i + 1) _ (by omega) (by omega), List.drop_eq_getElem_cons hlt]
    have hg : s.get! i = s.data.toList[i] := by
      show s.data[i]! = _
      rw [getElem!_pos s.data i (by rw [Array.length_toList] at hlt; exact hlt)]
      simp
    rw [hg]
    simp
theorem str_toList (s : ByteArray) : s.toList = s.data.toList := by
  unfold ByteArray.toList
  rw [str_loop s s.size 0 [] (Nat.zero_le _) rfl]
  simp
theorem str_mk (l : List UInt8) : (⟨l.toArray⟩ : ByteArray).toList = l := by rw [str_toList]
theorem str_eta (s : ByteArray) : (⟨s.data.toList.toArray⟩ : ByteArray) = s := rfl

def isDig (c : UInt8) : Bool := decide (48 ≤ c.toNat ∧ c.toNat ≤ 57)
def valD (n : Int) (l : List UInt8) : Int := l.foldl (fun a c => 10 * a + ((c.toNat : Int) - 48)) n
def parsed (s : ByteArray) : Int × Bool :=
  if (1 ≤ s.size ∧ s.size ≤ 13) ∧ ¬ (1 < s.size ∧ s.data.toList.head? = some 48) ∧ s.data.toList.all isDig = true ∧ valD 0 s.data.toList ≤ 1000000000000 then (valD 0 s.data.toList, true) else (0, false)
def NB (i : Nat) (n : Int) : Prop := ∃ m : Nat, n = (m : Int) ∧ m < 10 ^ i
theorem NB.b {i : Nat} {n : Int} (h : NB i n) (hi : i ≤ 13) : 0 ≤ n ∧ n < 10000000000000 := by
  obtain ⟨m, rfl, hm⟩ := h
  have h1 : (10 : Nat) ^ i ≤ 10 ^ 13 := Nat.pow_le_pow_right (by decide) hi
  have h2 : (10 : Nat) ^ 13 = 10000000000000 := by decide
  omega
theorem NB.step {i : Nat} {n : Int} (h : NB i n) (c : UInt8) (hc : isDig c = true) : NB (i + 1) (10 * n + ((c.toNat : Int) - 48)) := by
  obtain ⟨m, rfl, hm⟩ := h
  unfold isDig at hc
  have hc := of_decide_eq_true hc
  refine ⟨10 * m + (c.toNat - 48), by omega, ?_⟩
  rw [Nat.pow_succ]
  omega
def loopD (t : List UInt8) (n : Int) : Int × Bool := if t.all isDig = true then (if valD n t > 1000000000000 then (0, false) else (valD n t, true)) else (0, false)

theorem strOf_one (n : Int) : strOfNums [n] = (⟨[UInt8.ofNat n.toNat].toArray⟩ : ByteArray) := rfl
def preD (m : Nat) (acc : List UInt8) : List UInt8 := if m = 0 then acc else Lib.decDigits m ++ acc
theorem preD_step (m : Nat) (h : m ≠ 0) (acc : List UInt8) : preD (m / 10) (UInt8.ofNat (48 + m % 10) :: acc) = preD m acc := by
  unfold preD
  rw [if_neg h]
  by_cases h1 : m < 10
  · rw [if_pos (by omega), Lib.decDigits, dif_pos h1, show m % 10 = m by omega]
    rfl
  · rw [if_neg (by omega)]
    conv => rhs; rw [Lib.decDigits]
    rw [dif_neg h1]
    simp
def signD (n : Int) (l : List UInt8) : List UInt8 := if n < 0 then 45 :: l else l
theorem specFmt_l (x0 : Int) (d : Nat) : ∀ (x : Int) (acc : List UInt8), x.natAbs < 10 ^ d → d ≤ 30 → acc.length + d ≤ 60 → -9223372036854775808 ≤ x → x ≤ 9223372036854775807 → Ev (fun k => spec_FormatInt.l0 k x0 ⟨acc.toArray⟩ x) ⟨(signD x0 (preD x.natAbs acc)).toArray⟩ := by
  have fin : ∀ acc : List UInt8, acc.length ≤ 60 → Ev (fun k => spec_FormatInt.l0 k x0 ⟨acc.toArray⟩ 0) ⟨(signD x0 (preD 0 acc)).toArray⟩ := by
    intro acc ha
    refine Ev.step (fun k => by rw [spec_FormatInt.l0]) ?_
    refine Ev.yes rfl ?_
    unfold signD preD
    by_cases hn : x0 < 0
    · refine Ev.yes hn (Ev.yes (by rw [str_size]; omega) (Ev.is (Ev.now _) ?_))
      rw [if_pos hn, if_pos rfl]
      exact str_append [45] acc
    · exact Ev.no hn (Ev.is (Ev.now _) (by rw [if_neg hn, if_pos rfl]))
  induction d with
  | zero =>
    intro x acc hx _ ha _ _
    have : x = 0 := by simp at hx; omega
    subst this
    exact fin acc (by omega)
  | succ d ih =>
    intro x acc hx hd ha hlo hhi
    by_cases h0 : x = 0
    · subst h0
      exact fin acc (by omega)
    · have hm : x.natAbs / 10 < 10 ^ d := by
        rw [Nat.pow_succ] at hx
        omega
      have ht : Int.tdiv x 10 = (if x < 0 then -((x.natAbs / 10 : Nat) : Int) else ((x.natAbs / 10 : Nat) : Int)) := by
        split
        · obtain ⟨y, rfl⟩ : ∃ y, x = -y := ⟨-x, by omega⟩
          rw [Int.neg_tdiv, Int.tdiv_eq_ediv_of_nonneg (by omega)]
          omega
        · rw [Int.tdiv_eq_ediv_of_nonneg (by omega)]
          omega
      have hr : Int.tmod x 10 = (if x < 0 then -((x.natAbs % 10 : Nat) : Int) else ((x.natAbs % 10 : Nat) : Int)) := by
        split
        · obtain ⟨y, rfl⟩ : ∃ y, x = -y := ⟨-x, by omega⟩
          rw [Int.neg_tmod, Int.tmod_eq_emod_of_nonneg (by omega)]
          omega
        · rw [Int.tmod_eq_emod_of_nonneg (by omega)]
          omega
      have hna : (Int.tdiv x 10).natAbs = x.natAbs / 10 := by rw [ht]; split <;> omega
      have hw : wrap64 (Int.tdiv x 10) = Int.tdiv x 10 := w64 (by rw [ht]; split <;> omega)
      have key := ih (Int.tdiv x 10) (UInt8.ofNat (48 + x.natAbs % 10) :: acc) (by rw [hna]; exact hm) (by omega) (by simp; omega) (by rw [ht]; split <;> omega) (by rw [ht]; split <;> omega)
      rw [hna, preD_step _ (by omega)] at key
      refine Ev.step (fun k => by rw [spec_FormatInt.l0]) ?_
      refine Ev.no h0 ?_
      rw [hw]
      have arm : ∀ (n : Int), n = 48 + ((x.natAbs % 10 : Nat) : Int) → Ev (fun k => ((some ([n % 256] : List Int) : Option (List Int)).bind fun y => (if (strOfNums y).size + (⟨acc.toArray⟩ : ByteArray).size ≤ 9223372036854775807 then (spec_FormatInt.l0 k x0 ((strOfNums y) ++ ⟨acc.toArray⟩) (Int.tdiv x 10)) else none))) ⟨(signD x0 (preD x.natAbs acc)).toArray⟩ := by
        rintro n rfl
        refine Ev.pure rfl (Ev.yes (by rw [strOf_one, str_size, str_size]; simp; omega) ?_)
        rw [strOf_one, str_append, show ((48 + ((x.natAbs % 10 : Nat) : Int)) % 256).toNat = 48 + x.natAbs % 10 by omega]
        exact key
      by_cases hneg : Int.tmod x 10 < 0
      · refine Ev.yes hneg (arm _ ?_)
        rw [hr] at hneg ⊢
        split at hneg
        · rename_i hlt
          rw [if_pos hlt, w64 (n := - -((x.natAbs % 10 : Nat) : Int)) (by omega), w64 (by omega)]
          omega
        · omega
      · refine Ev.no hneg (arm _ ?_)
        rw [hr] at hneg ⊢
        split at hneg
        · rename_i hlt
          rw [if_pos hlt, w64 (by omega)]
          omega
        · rename_i hlt
          rw [if_neg hlt, w64 (by omega)]
theorem specFmt_ev (n : Int) (h : -9223372036854775808 ≤ n ∧ n ≤ 9223372036854775807) : Ev (fun k => spec_FormatInt.f k n) ⟨(Lib.itoa n).toArray⟩ := by
  unfold spec_FormatInt.f
  by_cases h0 : n = 0
  · subst h0
    refine Ev.yes rfl (Ev.is (Ev.now _) ?_)
    unfold Lib.itoa
    rw [if_neg (by decide), Lib.decDigits, dif_pos (by decide)]
    rfl
  · refine Ev.no h0 (Ev.is (specFmt_l n 20 n [] ?_ (by omega) (by simp) h.1 h.2) ?_)
    · have : (10 : Nat) ^ 20 = 100000000000000000000 := by decide
      omega
    · unfold signD preD Lib.itoa
      rw [if_neg (show ¬ n.natAbs = 0 by omega), List.append_nil]
      by_cases hn : n < 0
      · rw [if_pos hn, if_pos hn]
      · rw [if_neg hn, if_neg hn, show n.natAbs = n.toNat by omega]

theorem digit_val (c : UInt8) (h : isDig c = true) : ∃ m : Nat, m < 10 ∧ (c.toNat : Int) - 48 = m ∧ UInt8.ofNat (48 + m) = c := by
  unfold isDig at h
  have h := of_decide_eq_true h
  refine ⟨c.toNat - 48, by omega, by omega, ?_⟩
  apply UInt8.toNat_inj.1
  rw [UInt8.toNat_ofNat']
  omega
/-- The numeral of a run of digits is the run itself, where no nought stands ahead. -/
theorem digits_back : ∀ (n : Nat) (l : List UInt8), l.length = n → l ≠ [] → l.all isDig = true → (l.length = 1 ∨ l.head? ≠ some 48) → ∃ v : Nat, valD 0 l = (v : Int) ∧ Lib.decDigits v = l := by
  intro n
  induction n with
  | zero => intro l hl hne; exact absurd (List.length_eq_zero_iff.1 hl) hne
  | succ n ih =>
    intro l hl hne hd hh
    obtain ⟨t, c, rfl⟩ : ∃ t c, l = t ++ [c] := ⟨l.dropLast, l.getLast hne, (List.dropLast_concat_getLast hne).symm⟩
    rw [List.all_append, Bool.and_eq_true] at hd
    have hc : isDig c = true := by simpa using hd.2
    obtain ⟨m, hm, hv, hb⟩ := digit_val c hc
    by_cases ht : t = []
    · subst ht
      refine ⟨m, by simp [valD, hv], ?_⟩
      rw [Lib.decDigits, dif_pos hm, hb]
      rfl
    · have hhead : t.head? ≠ some 48 := by
        rcases hh with h | h
        · have : t.length ≠ 0 := fun e => ht (List.length_eq_zero_iff.1 e)
          simp only [List.length_append, List.length_cons, List.length_nil] at h
          omega
        · cases t with
          | nil => exact absurd rfl ht
          | cons x t => simpa using h
      obtain ⟨v, h1, h2⟩ := ih t (by rw [List.length_append] at hl; simpa using hl) ht hd.1 (.inr hhead)
      have hv0 : v ≠ 0 := by
        rintro rfl
        rw [Lib.decDigits, dif_pos (by decide)] at h2
        rw [← h2] at hhead
        exact hhead rfl
      refine ⟨10 * v + m, ?_, ?_⟩
      · simp only [valD, List.foldl_append, List.foldl_cons, List.foldl_nil] at h1 ⊢
        rw [h1, hv]
        omega
      · rw [Lib.decDigits, dif_neg (by omega), show (10 * v + m) / 10 = v by omega, show (10 * v + m) % 10 = m by omega, h2, hb]
theorem decDigits_ne (n : Nat) : Lib.decDigits n ≠ [] := by
  rw [Lib.decDigits]
  split
  · simp
  · simp
theorem decDigits_head (n : Nat) (h : 1 ≤ n) : (Lib.decDigits n).head? ≠ some 48 := by
  induction n using Nat.strongRecOn with
  | _ n ih =>
    rw [Lib.decDigits]
    split
    · rename_i h1
      intro e
      simp only [List.head?_cons, Option.some.injEq] at e
      have := congrArg UInt8.toNat e
      rw [UInt8.toNat_ofNat'] at this
      have e48 : (48 : UInt8).toNat = 48 := rfl
      omega
    · rename_i h1
      have := ih (n / 10) (by omega) (by omega)
      cases hc : Lib.decDigits (n / 10) with
      | nil => exact absurd hc (decDigits_ne _)
      | cons x t => rw [hc] at this; simpa using this
theorem valD_nn (l : List UInt8) (h : l.all isDig = true) : ∀ n : Int, 0 ≤ n → 0 ≤ valD n l := by
  induction l with
  | nil => intro n hn; exact hn
  | cons c t ih =>
    intro n hn
    simp only [List.all_cons, Bool.and_eq_true] at h
    obtain ⟨m, hm, hv, _⟩ := digit_val c h.1
    exact ih h.2 (10 * n + ((c.toNat : Int) - 48)) (by omega)
/-- Whether the numeral comes back: no nought ahead of other digits. -/
theorem itoa_val (l : List UInt8) (hne : l ≠ []) (h : l.all isDig = true) : Lib.itoa (valD 0 l) = l ↔ ¬ (1 < l.length ∧ l.head? = some 48) := by
  have hnn := valD_nn l h 0 (Int.le_refl _)
  have e : Lib.itoa (valD 0 l) = Lib.decDigits (valD 0 l).toNat := by unfold Lib.itoa; rw [if_neg (by omega)]
  rw [e]
  constructor
  · rintro h1 ⟨h2, h3⟩
    by_cases h0 : (valD 0 l).toNat = 0
    · rw [h0, Lib.decDigits, dif_pos (by decide)] at h1
      rw [← h1] at h2
      simp at h2
    · have := decDigits_head _ (show 1 ≤ (valD 0 l).toNat by omega)
      rw [h1] at this
      exact this h3
  · intro h1
    obtain ⟨v, h2, h3⟩ := digits_back l.length l rfl hne h (by
      by_cases a : l.length = 1
      · exact .inl a
      · refine .inr (fun e => h1 ⟨?_, e⟩)
        have : l.length ≠ 0 := fun e => hne (List.length_eq_zero_iff.1 e)
        omega)
    rw [h2, Int.toNat_natCast]
    exact h3
theorem digit_of (m : Nat) (h : m < 10) : isDig (UInt8.ofNat (48 + m)) = true ∧ ((UInt8.ofNat (48 + m)).toNat : Int) - 48 = m := by
  have e : (UInt8.ofNat (48 + m)).toNat = 48 + m := by
    rw [UInt8.toNat_ofNat']
    omega
  unfold isDig
  rw [e]
  exact ⟨decide_eq_true (by omega), by omega⟩
theorem valD_snoc (l : List UInt8) (c : UInt8) : ∀ n, valD n (l ++ [c]) = 10 * valD n l + ((c.toNat : Int) - 48) := by
  intro n
  simp only [valD, List.foldl_append, List.foldl_cons, List.foldl_nil]
theorem decDigits_dig (n : Nat) : (Lib.decDigits n).all isDig = true ∧ valD 0 (Lib.decDigits n) = n := by
  induction n using Nat.strongRecOn with
  | _ n ih =>
    rw [Lib.decDigits]
    split
    · rename_i h
      have := digit_of n h
      refine ⟨by simp only [List.all_cons, List.all_nil, this.1, Bool.and_self], ?_⟩
      simp only [valD, List.foldl_cons, List.foldl_nil]
      omega
    · rename_i h
      have h1 := ih (n / 10) (by omega)
      have h2 := digit_of (n % 10) (by omega)
      refine ⟨by rw [List.all_append, h1.1]; simp only [List.all_cons, List.all_nil, h2.1, Bool.and_self], ?_⟩
      rw [valD_snoc, h1.2, h2.2]
      omega
theorem decDigits_len (k : Nat) : ∀ n, n < 10 ^ (k + 1) → (Lib.decDigits n).length ≤ k + 1 := by
  induction k with
  | zero =>
    intro n h
    rw [Lib.decDigits, dif_pos (by simpa using h)]
    simp
  | succ k ih =>
    intro n h
    rw [Lib.decDigits]
    split
    · simp
    · have := ih (n / 10) (by rw [Nat.pow_succ] at h; omega)
      rw [List.length_append]
      simp only [List.length_cons, List.length_nil]
      omega
theorem itoa_pos (m : Int) (h : 0 ≤ m) : Lib.itoa m = Lib.decDigits m.toNat := by unfold Lib.itoa; rw [if_neg (by omega)]
theorem itoa_ne (m : Int) : Lib.itoa m ≠ [] := by
  unfold Lib.itoa
  split
  · simp
  · exact decDigits_ne _
theorem itoa_len (m : Int) (h : -9223372036854775808 ≤ m ∧ m ≤ 9223372036854775807) : 1 ≤ (Lib.itoa m).length ∧ (Lib.itoa m).length ≤ 20 := by
  have h0 : (Lib.itoa m).length ≠ 0 := fun e => itoa_ne m (List.length_eq_zero_iff.1 e)
  refine ⟨by omega, ?_⟩
  have hp : (10 : Nat) ^ (18 + 1) = 10000000000000000000 := by decide
  unfold Lib.itoa
  split
  · have := decDigits_len 18 m.natAbs (by rw [hp]; omega)
    rw [List.length_cons]
    omega
  · have := decDigits_len 18 m.toNat (by rw [hp]; omega)
    omega
/-- A number's numeral, parsed. -/
theorem parsed_itoa (m : Int) : parsed ⟨(Lib.itoa m).toArray⟩ = if 0 ≤ m ∧ m ≤ 1000000000000 then (m, true) else (0, false) := by
  have hsz : (⟨(Lib.itoa m).toArray⟩ : ByteArray).size = (Lib.itoa m).length := rfl
  have hl : (⟨(Lib.itoa m).toArray⟩ : ByteArray).data.toList = Lib.itoa m := rfl
  unfold parsed
  rw [hsz, hl]
  by_cases h0 : 0 ≤ m
  · have e := itoa_pos m h0
    have hd := decDigits_dig m.toNat
    have hne := decDigits_ne m.toNat
    rw [e]
    have hv : valD 0 (Lib.decDigits m.toNat) = m := by rw [hd.2]; omega
    by_cases h1 : m ≤ 1000000000000
    · rw [if_pos (⟨h0, h1⟩ : 0 ≤ m ∧ m ≤ 1000000000000)]
      have hlen := decDigits_len 12 m.toNat (by
        have : (10 : Nat) ^ (12 + 1) = 10000000000000 := by decide
        rw [this]
        omega)
      have h2 : (Lib.decDigits m.toNat).length ≠ 0 := fun e => hne (List.length_eq_zero_iff.1 e)
      have key := (itoa_val _ hne hd.1).1 (by rw [hv]; exact e)
      rw [if_pos ⟨by omega, key, hd.1, by rw [hv]; exact h1⟩, hv]
    · rw [if_neg (fun h => h1 (by have := h.2.2.2; rw [hv] at this; exact this)), if_neg (fun h => h1 h.2)]
  · rw [if_neg (c := 0 ≤ m ∧ m ≤ 1000000000000) (fun h => h0 h.1)]
    have e : Lib.itoa m = 45 :: Lib.decDigits m.natAbs := by unfold Lib.itoa; rw [if_pos (by omega)]
    rw [if_neg]
    rintro ⟨_, _, h, _⟩
    rw [e, List.all_cons] at h
    have : isDig 45 = false := by decide
    rw [this] at h
    cases h
/-- What is parsed is a numeral. -/
theorem parsed_back (s : ByteArray) (h : (parsed s).2 = true) : (⟨(Lib.itoa (parsed s).1).toArray⟩ : ByteArray) = s ∧ 0 ≤ (parsed s).1 ∧ (parsed s).1 ≤ 1000000000000 := by
  have hl : s.data.toList.length = s.size := by rw [Array.length_toList]; rfl
  unfold parsed at h ⊢
  split at h
  · rename_i g
    rw [if_pos g]
    obtain ⟨h1, h2, h3, h4⟩ := g
    have hne : s.data.toList ≠ [] := fun e => by rw [e] at hl; simp at hl; omega
    have key := (itoa_val _ hne h3).2 (by rw [hl]; exact h2)
    refine ⟨?_, valD_nn _ h3 0 (Int.le_refl _), h4⟩
    simp only
    rw [key]
  · cases h

theorem implParse_l (s : ByteArray) (hs : s.size ≤ 13) : Ev (fun k => impl_ParseInt.l0 k s 0 (s.size : Int) 0) (loopD s.data.toList 0) := by
  have hl : s.data.toList.length = s.size := by rw [Array.length_toList]; rfl
  have := loop_list0 s.data.toList (fun k n i => impl_ParseInt.l0 k s n (s.size : Int) i) (fun t n => loopD t n) (fun i n => NB i n) ?_ ?_ 0 ⟨0, rfl, by decide⟩
  · exact this
  · intro n hn
    refine Ev.step (fun k => by rw [impl_ParseInt.l0]) ?_
    rw [hl]
    refine Ev.no (nltc _) ?_
    by_cases a : n > 1000000000000
    · exact Ev.yes a (Ev.is (Ev.now _) (by simp [loopD, valD, a]))
    · exact Ev.no a (Ev.is (Ev.now _) (by simp [loopD, valD, a]))
  · intro i x t n hi hx ht hn ih
    have hi' : i < s.size := by omega
    have hb := bt_at hx
    have hnb := hn.b (by omega)
    refine Ev.step (fun k => by rw [impl_ParseInt.l0]) ?_
    refine Ev.yes (ltc hi') (Ev.yes (nnc _) (Ev.yes (ltc hi') ?_))
    rw [hb]
    by_cases h1 : (x.toNat : Int) < 48
    · refine Ev.yes h1 (Ev.is (Ev.now _) ?_)
      have : isDig x = false := decide_eq_false (by omega)
      simp [loopD, this]
    · refine Ev.no h1 ?_
      by_cases h2 : (x.toNat : Int) > 57
      · refine Ev.yes h2 (Ev.is (Ev.now _) ?_)
        have : isDig x = false := decide_eq_false (by omega)
        simp [loopD, this]
      · have hd : isDig x = true := decide_eq_true (by omega)
        refine Ev.no h2 ?_
        rw [w64 (n := 10 * n) (by omega), show ((x.toNat : Int) - 48) % 256 = (x.toNat : Int) - 48 by omega, w64 (n := 10 * n + ((x.toNat : Int) - 48)) (by omega), w64s hi' (by omega)]
        refine Ev.is (ih _ (hn.step x hd)) ?_
        simp only [loopD, List.all_cons, hd, Bool.true_and, show valD n (x :: t) = valD (10 * n + ((x.toNat : Int) - 48)) t from rfl]
theorem implParse_ev (s : ByteArray) (hs : s.size ≤ 140737488351232) : Ev (fun k => impl_ParseInt.f k s) (parsed s) := by
  have hl : s.data.toList.length = s.size := by rw [Array.length_toList]; rfl
  have jt : Ev (fun k => impl_ParseInt.j0 k s true) (0, false) := by
    refine Ev.step (fun k => by rw [impl_ParseInt.j0]) ?_
    exact Ev.yes rfl (Ev.now _)
  have jf : s.size ≤ 13 → Ev (fun k => impl_ParseInt.j0 k s false) (loopD s.data.toList 0) := by
    intro h
    refine Ev.step (fun k => by rw [impl_ParseInt.j0]) ?_
    exact Ev.no (by simp) (implParse_l s h)
  have hp : s.size ≤ 13 → 1 ≤ s.size → ¬ (1 < s.size ∧ s.data.toList.head? = some 48) → loopD s.data.toList 0 = parsed s := by
    intro h1 h2 h3
    unfold loopD parsed
    by_cases a : s.data.toList.all isDig = true
    · rw [if_pos a]
      by_cases b : valD 0 s.data.toList > 1000000000000
      · rw [if_pos b, if_neg (fun h => by have := h.2.2.2; omega)]
      · rw [if_neg b, if_pos ⟨⟨h2, h1⟩, h3, a, by omega⟩]
    · rw [if_neg a, if_neg (fun h => a h.2.2.1)]
  unfold impl_ParseInt.f
  by_cases h0 : (s.size : Int) = 0
  · refine Ev.yes h0 (Ev.is jt ?_)
    unfold parsed
    rw [if_neg (fun h => by have := h.1.1; omega)]
  · refine Ev.no h0 ?_
    by_cases h1 : (s.size : Int) > 13
    · refine Ev.yes h1 (Ev.is jt ?_)
      unfold parsed
      rw [if_neg (fun h => by have := h.1.2; omega)]
    · refine Ev.no h1 ?_
      by_cases h2 : (s.size : Int) > 1
      · refine Ev.yes h2 (Ev.yes (by omega) ?_)
        have hg : s.data.toList[0]? = some (s.data.toList[0]'(by omega)) := List.getElem?_eq_getElem (by omega)
        have hb := bt_at hg
        rw [show ((0 : Nat) : Int) = 0 from rfl] at hb
        rw [hb]
        by_cases h3 : ((s.data.toList[0]'(by omega)).toNat : Int) = 48
        · rw [h3]
          refine Ev.is jt ?_
          unfold parsed
          have e48 : s.data.toList[0]'(by omega) = 48 := by
            apply UInt8.toNat_inj.1
            show _ = 48
            omega
          have hh : s.data.toList.head? = some 48 := by rw [List.head?_eq_getElem?, hg, e48]
          rw [if_neg (fun h => h.2.1 ⟨by omega, hh⟩)]
        · rw [show (((s.data.toList[0]'(by omega)).toNat : Int) == 48) = false from by simpa using h3]
          refine Ev.is (jf (by omega)) (hp (by omega) (by omega) ?_)
          rintro ⟨_, h⟩
          rw [List.head?_eq_getElem?, hg] at h
          simp only [Option.some.injEq] at h
          rw [h] at h3
          exact h3 rfl
      · exact Ev.no h2 (Ev.is (jf (by omega)) (hp (by omega) (by omega) (fun h => by omega)))

theorem implFmt_ok (n : Int) (h : -9223372036854775808 ≤ n ∧ n ≤ 9223372036854775807) : impl_FormatInt.f n = some ⟨(Lib.itoa n).toArray⟩ := by
  unfold impl_FormatInt.f strconv_Itoa_24.f
  rw [if_pos h]
  rfl

theorem inR (a b c : Int) : impl_InRange.f a b c = some (decide (b ≤ a ∧ a ≤ c)) := by
  unfold impl_InRange.f
  by_cases h : b ≤ a
  · rw [if_pos h]
    simp [h]
  · rw [if_neg h]
    simp [h]

theorem modT (p q : Int) (h : 1 ≤ q) : (if Int.tmod p q < 0 then Int.tmod p q + q else Int.tmod p q) = p % q ∧ -q < Int.tmod p q ∧ Int.tmod p q < q := by
  have h1 := Int.tmod_lt_of_pos p (show 0 < q by omega)
  have h2 : -q < Int.tmod p q := by
    have := Int.tmod_lt_of_pos (-p) (show 0 < q by omega)
    rw [Int.neg_tmod] at this
    omega
  have h3 := Int.emod_nonneg p (show q ≠ 0 by omega)
  have h4 := Int.emod_lt_of_pos p (show 0 < q by omega)
  refine ⟨?_, h2, h1⟩
  have h5 : (Int.tmod p q) % q = p % q := by
    rw [Int.tmod_def, Int.sub_eq_add_neg, ← Int.mul_neg, Int.add_mul_emod_self_left]
  split
  · rw [← h5]
    rw [← Int.add_emod_right, Int.emod_eq_of_lt (by omega) (by omega)]
  · rw [← h5]
    rw [Int.emod_eq_of_lt (by omega) (by omega)]

/-- Mod of the program. -/
theorem modI (p q : Int) : impl_Mod.f p q = some (if 1 ≤ q ∧ q ≤ 1000000000000 then p % q else 0) := by
  unfold impl_Mod.f
  rw [inR]
  by_cases h : 1 ≤ q ∧ q ≤ 1000000000000
  · obtain ⟨h1, h2, h3⟩ := modT p q h.1
    simp only [h, Option.bind_some, decide_true, and_self, if_true]
    rw [if_neg (show ¬ q = 0 by omega), w64 (by omega), ← h1]
    split <;> rfl
  · simp only [h, Option.bind_some, decide_false, if_false, Bool.false_eq_true]

theorem l1Str_draw (l : List Int) (i h : Int) (m : List ByteArray) (hl : l.length ≤ 140737488355328) (hi : OKC l i) (hm : 0 < m.length) : ∃ x i' h', spec_l1Str.f l i h m = some (x, i', h') ∧ OKC l i' ∧ x ∈ m := by
  obtain ⟨x, i1, g1, e1, o1, b1, c1, _⟩ := l1Below_draw l i h (m.length : Int) hl hi
  have c1 := c1 (by omega)
  unfold spec_l1Str.f
  rw [e1]
  simp only [Option.bind_some]
  rw [if_pos b1, if_pos c1]
  refine ⟨_, _, _, rfl, o1, ?_⟩
  obtain ⟨n, rfl⟩ := Int.eq_ofNat_of_zero_le b1
  have hn : n < m.length := by omega
  unfold rdOf
  rw [Int.toNat_natCast, List.getD_eq_getElem?_getD, List.getElem?_eq_getElem hn]
  exact List.getElem_mem hn
theorem drawParse_ev (l : List Int) (hl : l.length ≤ 140737488355328) : ∃ s, Ev (fun k => spec_DrawParseInt.f k l) s ∧ s.size ≤ 20 := by
  obtain ⟨h, e0⟩ := l1New_ev l hl
  obtain ⟨b, i1, g1, e1, o1⟩ := l1Once_draw l 0 h 2 hl ⟨by omega, by omega⟩
  cases b with
  | true =>
    obtain ⟨x, i2, g2, e2, o2, hx⟩ := l1Str_draw l i1 g1 [(⟨#[]⟩ : ByteArray), (⟨#[48]⟩ : ByteArray), (⟨#[48, 48]⟩ : ByteArray), (⟨#[45, 49]⟩ : ByteArray), (⟨#[48, 49]⟩ : ByteArray), (⟨#[55]⟩ : ByteArray), (⟨#[49, 48, 48, 48, 48, 48, 48, 48, 48, 48, 48, 48, 48]⟩ : ByteArray), (⟨#[49, 48, 48, 48, 48, 48, 48, 48, 48, 48, 48, 48, 49]⟩ : ByteArray), (⟨#[57, 57, 57, 57, 57, 57, 57, 57, 57, 57, 57, 57, 57, 57]⟩ : ByteArray), (⟨#[49, 120]⟩ : ByteArray), (⟨#[32, 49]⟩ : ByteArray)] hl o1 (by decide)
    refine ⟨x, ?_, ?_⟩
    · unfold spec_DrawParseInt.f
      exact Ev.bind e0 (Ev.pure e1 (Ev.yes rfl (Ev.pure e2 (Ev.now _))))
    · simp only [List.mem_cons, List.not_mem_nil, or_false] at hx
      rcases hx with rfl | rfl | rfl | rfl | rfl | rfl | rfl | rfl | rfl | rfl | rfl <;> decide
  | false =>
    obtain ⟨x, i2, g2, e2, o2, hx1, hx2⟩ := l1Num_draw l i1 g1 hl o1
    have hb : -9223372036854775808 ≤ x ∧ x ≤ 9223372036854775807 := by omega
    refine ⟨⟨(Lib.itoa x).toArray⟩, ?_, by have := itoa_len x hb; rw [str_size]; omega⟩
    unfold spec_DrawParseInt.f
    exact Ev.bind e0 (Ev.pure e1 (Ev.no (by simp) (Ev.pure e2 (Ev.bind (specFmt_ev x hb) (Ev.now _)))))
theorem drawFmt_ev (l : List Int) (hl : l.length ≤ 140737488355328) : ∃ m, Ev (fun k => spec_DrawFormatInt.f k l) m ∧ -9223372036854775808 ≤ m ∧ m ≤ 9223372036854775807 := by
  obtain ⟨h, e0⟩ := l1New_ev l hl
  obtain ⟨m, i1, g1, e1, o1, hm⟩ := l1One_draw l 0 h hl ⟨by omega, by omega⟩
  refine ⟨m, ?_, hm⟩
  unfold spec_DrawFormatInt.f
  exact Ev.bind e0 (Ev.pure e1 (Ev.now _))
theorem drawCeil_ev (l : List Int) (hl : l.length ≤ 140737488355328) : ∃ a b, Ev (fun k => spec_DrawCeilDiv.f k l) (a, b) ∧ (-9223372036854775808 ≤ a ∧ a ≤ 9223372036854775807) ∧ -9223372036854775808 ≤ b ∧ b ≤ 9223372036854775807 := by
  obtain ⟨h, e0⟩ := l1New_ev l hl
  obtain ⟨a, i1, g1, e1, o1, ha⟩ := l1One_draw l 0 h hl ⟨by omega, by omega⟩
  obtain ⟨b, i2, g2, e2, o2, hb⟩ := l1One_draw l i1 g1 hl o1
  refine ⟨a, b, ?_, ha, hb⟩
  unfold spec_DrawCeilDiv.f
  exact Ev.bind e0 (Ev.pure e1 (Ev.pure e2 (Ev.now _)))
def ceilI (a b : Int) : Int := if (0 ≤ a ∧ a ≤ 1000000000000) ∧ 1 ≤ b ∧ b ≤ 1000000000000 then (a + b - 1) / b else 0
theorem div_b (x b : Int) (hx : 0 ≤ x) (hb : 1 ≤ b) : 0 ≤ x / b ∧ x / b ≤ x ∧ x / b * b ≤ x ∧ x < x / b * b + b := by
  have h1 := Int.ediv_nonneg hx (show 0 ≤ b by omega)
  have h2 := Int.emod_nonneg x (show b ≠ 0 by omega)
  have h3 := Int.emod_lt_of_pos x (show 0 < b by omega)
  have h4 := Int.emod_add_mul_ediv x b
  rw [Int.mul_comm] at h4
  refine ⟨h1, ?_, by omega, by omega⟩
  have : x / b ≤ x / b * b := by
    have := Int.mul_le_mul_of_nonneg_left hb h1
    omega
  omega
theorem ceilI_ok (a b : Int) : impl_CeilDiv.f a b = some (ceilI a b) := by
  unfold impl_CeilDiv.f ceilI
  simp only [inR, Option.bind_some]
  by_cases h1 : 0 ≤ a ∧ a ≤ 1000000000000
  · by_cases h2 : 1 ≤ b ∧ b ≤ 1000000000000
    · have := div_b (a + b - 1) b (by omega) h2.1
      simp only [h1, h2, decide_true, if_true, and_self]
      rw [if_neg (by omega), w64 (n := a + b) (by omega), w64 (n := a + b - 1) (by omega), Int.tdiv_eq_ediv_of_nonneg (by omega), w64 (by omega)]
    · simp only [h1, h2, decide_true, decide_false, if_true, Bool.false_eq_true, if_false, and_false, and_true]
  · simp only [h1, decide_false, Bool.false_eq_true, if_false, false_and]
theorem FnIntegers : laws_FnIntegers.Pure := by
  intro code h1 h2 _
  refine Ev.rounds (g := fun k => laws_FnIntegers.f k code) ?_
  unfold laws_FnIntegers.f
  refine Ev.pure (a := decide ((code.length : Int) > 1048576)) rfl ?_
  by_cases hb : (code.length : Int) > 1048576
  · exact Ev.yes (by simpa using hb) (Ev.now _)
  refine Ev.no (by simpa using hb) ?_
  obtain ⟨s, es, hs⟩ := drawParse_ev code (by omega)
  obtain ⟨m, em, hm⟩ := drawFmt_ev code (by omega)
  obtain ⟨a, b, ec, ha, hbb⟩ := drawCeil_ev code (by omega)
  have ep := implParse_ev s (by omega)
  have hback := parsed_back s
  have hlen := itoa_len m hm
  have eq := implParse_ev ⟨(Lib.itoa m).toArray⟩ (by rw [str_size]; omega)
  rw [parsed_itoa m] at eq
  -- the last part
  have ej2 : 1 ≤ b → b ≤ 1000000000000 → Ev (fun k => laws_FnIntegers.j2 k a b (ceilI a b) false) true := by
    intro b1 b2
    refine Ev.step (fun k => by rw [laws_FnIntegers.j2]) (Ev.no (by simp) ?_)
    unfold ceilI
    by_cases a1 : a < 0
    · exact Ev.yes a1 (Ev.is (Ev.now _) (by rw [if_neg (by omega)]; rfl))
    refine Ev.no a1 ?_
    by_cases a2 : a > 1000000000000
    · exact Ev.yes a2 (Ev.is (Ev.now _) (by rw [if_neg (by omega)]; rfl))
    refine Ev.no a2 ?_
    rw [if_pos (show (0 ≤ a ∧ a ≤ 1000000000000) ∧ 1 ≤ b ∧ b ≤ 1000000000000 from ⟨⟨by omega, by omega⟩, b1, b2⟩)]
    have := div_b (a + b - 1) b (by omega) b1
    generalize (a + b - 1) / b * b = y at this
    rw [w64 (n := y) (by omega), w64 (n := y - a) (by omega)]
    exact Ev.yes (by omega) (Ev.is (Ev.now _) (decide_eq_true (by omega)))
  have ej0 : Ev (fun k => laws_FnIntegers.j0 k a b (ceilI a b) (if 1 ≤ b ∧ b ≤ 1000000000000 then a % b else 0) false) true := by
    refine Ev.step (fun k => by rw [laws_FnIntegers.j0]) (Ev.no (by simp) ?_)
    have jt : ¬ (1 ≤ b ∧ b ≤ 1000000000000) → Ev (fun k => laws_FnIntegers.j1 k a b (ceilI a b) (if 1 ≤ b ∧ b ≤ 1000000000000 then a % b else 0) true) true := by
      intro hn
      refine Ev.step (fun k => by rw [laws_FnIntegers.j1]) (Ev.yes rfl (Ev.yes ?_ (Ev.is (Ev.now _) ?_)))
      · unfold ceilI
        rw [if_neg (fun h => hn h.2)]
      · rw [if_neg hn]
        rfl
    by_cases b1 : b < 1
    · exact Ev.yes b1 (jt (by omega))
    refine Ev.no b1 ?_
    by_cases b2 : b > 1000000000000
    · rw [decide_eq_true b2]
      exact jt (by omega)
    · rw [decide_eq_false b2]
      have hb1 : 1 ≤ b ∧ b ≤ 1000000000000 := by omega
      rw [if_pos hb1]
      obtain ⟨t1, t2, t3⟩ := modT a b hb1.1
      have e1 := Int.emod_nonneg a (show b ≠ 0 by omega)
      have e2 := Int.emod_lt_of_pos a (show 0 < b by omega)
      refine Ev.step (fun k => by rw [laws_FnIntegers.j1]) (Ev.no (by simp) (Ev.no (by omega) (Ev.no (by omega) (Ev.no (by omega) ?_))))
      have hz : Int.tmod (wrap64 (Int.tmod a b - a % b)) b = 0 := by
        rw [w64 (by omega), ← t1]
        split
        · rw [show Int.tmod a b - (Int.tmod a b + b) = -b by omega, Int.neg_tmod, Int.tmod_self]
          rfl
        · rw [Int.sub_self, Int.zero_tmod]
      rw [hz]
      exact ej2 hb1.1 hb1.2
  have rest : Ev (fun k => (if m ≥ 0 then (if (((if 0 ≤ m ∧ m ≤ 1000000000000 then (m, true) else (0, false)) : Int × Bool).2 != (decide (m ≤ 1000000000000))) = true then (laws_FnIntegers.j0 k a b (ceilI a b) (if 1 ≤ b ∧ b ≤ 1000000000000 then a % b else 0) true) else (if ((if 0 ≤ m ∧ m ≤ 1000000000000 then (m, true) else (0, false)) : Int × Bool).2 = true then (laws_FnIntegers.j0 k a b (ceilI a b) (if 1 ≤ b ∧ b ≤ 1000000000000 then a % b else 0) (((if 0 ≤ m ∧ m ≤ 1000000000000 then (m, true) else (0, false)) : Int × Bool).1 != m)) else (laws_FnIntegers.j0 k a b (ceilI a b) (if 1 ≤ b ∧ b ≤ 1000000000000 then a % b else 0) false))) else (if (((if 0 ≤ m ∧ m ≤ 1000000000000 then (m, true) else (0, false)) : Int × Bool).2 != false) = true then (laws_FnIntegers.j0 k a b (ceilI a b) (if 1 ≤ b ∧ b ≤ 1000000000000 then a % b else 0) true) else (if ((if 0 ≤ m ∧ m ≤ 1000000000000 then (m, true) else (0, false)) : Int × Bool).2 = true then (laws_FnIntegers.j0 k a b (ceilI a b) (if 1 ≤ b ∧ b ≤ 1000000000000 then a % b else 0) (((if 0 ≤ m ∧ m ≤ 1000000000000 then (m, true) else (0, false)) : Int × Bool).1 != m)) else (laws_FnIntegers.j0 k a b (ceilI a b) (if 1 ≤ b ∧ b ≤ 1000000000000 then a % b else 0) false))))) true := by
    by_cases m0 : m ≥ 0
    · refine Ev.yes m0 ?_
      by_cases m1 : m ≤ 1000000000000
      · have hc : 0 ≤ m ∧ m ≤ 1000000000000 := ⟨m0, m1⟩
        simp only [if_pos hc, decide_eq_true m1, bne_self_eq_false, Bool.false_eq_true, if_false, if_true]
        exact ej0
      · have hc : ¬ (0 ≤ m ∧ m ≤ 1000000000000) := by omega
        simp only [if_neg hc, decide_eq_false m1, bne_self_eq_false, Bool.false_eq_true, if_false]
        exact ej0
    · have hc : ¬ (0 ≤ m ∧ m ≤ 1000000000000) := by omega
      refine Ev.no m0 ?_
      simp only [if_neg hc, bne_self_eq_false, Bool.false_eq_true, if_false]
      exact ej0
  refine Ev.bind es (Ev.bind ep (Ev.bind em (Ev.pure (implFmt_ok m hm) (Ev.bind eq (Ev.bind ec (Ev.pure (ceilI_ok a b) (Ev.pure (modI a b) ?_)))))))
  cases hp : (parsed s).2 with
  | true =>
    obtain ⟨k1, k2, k3⟩ := hback hp
    refine Ev.yes rfl (Ev.pure (implFmt_ok (parsed s).1 (by omega)) (Ev.yes (by rw [k1]) ?_))
    exact rest
  | false => exact Ev.no (by simp) rest

end Go.Proofs.YtbafockooilcnacDoor.Pure
