/- FnExactDecodeInts: the pure statement of the law, for every input: what the program's functions and the reference's come to is the same, or what the law says holds. No condition beside the statement's own. -/
import Derived.Test.YtbafockooilcnaaPFnExactDecodeIntsx4
namespace Go.Proofs.Ytbafockooilcnaa.Pure
open Go.RowKit Go.Proofs.Ytbafockooilcnaa.PFnExactDecodeInts Go.Proofs.YtbafockooilcnaaW.PrintWords Go.Proofs.YtbafockooilcnaaW.PrintLast Go.Proofs.YtbafockooilcnaaW.PrintMore
set_option linter.unusedVariables false
set_option linter.unusedSimpArgs false


theorem i64b {x : Int} (h : (Lit.int .i64 x).wf = true) : -9223372036854775808 ≤ x ∧ x ≤ 9223372036854775807 := by
  simp [Lit.wf, IntKind.min, IntKind.max, IntKind.signed, IntKind.bits] at h
  omega
theorem u8b {x : Int} (h : (Lit.int .u8 x).wf = true) : 0 ≤ x ∧ x ≤ 255 := by
  simp [Lit.wf, IntKind.min, IntKind.max, IntKind.signed, IntKind.bits] at h
  omega
theorem w64 {n : Int} (h : -9223372036854775808 ≤ n ∧ n ≤ 9223372036854775807) : wrap64 n = n := by unfold wrap64; omega
theorem w64s {i : Nat} {n : Nat} (h : i < n) (hn : n ≤ 9223372036854775807) : wrap64 ((i : Int) + 1) = ((i + 1 : Nat) : Int) := by unfold wrap64; omega
theorem ltc {i n : Nat} (h : i < n) : (i : Int) < (n : Int) := by omega
theorem nnc (i : Nat) : (0 : Int) ≤ (i : Int) := by omega
theorem nltc (n : Nat) : ¬ (n : Int) < (n : Int) := by omega
theorem rd_at {l : List Int} {i : Nat} {x : Int} (h : l[i]? = some x) : rd l (i : Int) = x := by
  unfold rd
  simp [List.getD, h]
/-- More rounds than some number. -/
theorem ev_k {α : Type} {g : Nat → Option α} {r : α} (h : Ev g r) : ∃ K, ∀ k, K ≤ k → g k = some r := h
theorem ev_succ {α : Type} {g : Nat → Option α} {r : α} (h : ∃ K, ∀ k, K ≤ k → g (k + 1) = some r) : Ev g r := by
  obtain ⟨K, h⟩ := h
  refine ⟨K + 1, fun k hk => ?_⟩
  obtain ⟨m, rfl⟩ : ∃ m, k = m + 1 := ⟨k - 1, by omega⟩
  exact h m (by omega)
/-- A loop over a list, from the front: what it comes to is told of the list's tails. -/
theorem loop_list {α σ ρ : Type} (l : List α) (L : Nat → σ → Int → Option ρ) (f : List α → σ → ρ) (I : Nat → σ → Prop)
    (hnil : ∀ s, I l.length s → Ev (fun k => L k s (l.length : Int)) (f [] s))
    (hcons : ∀ (i : Nat) (x : α) (t : List α) (s : σ), i < l.length → l[i]? = some x → l.drop (i + 1) = t → I i s →
      (∀ s', I (i + 1) s' → Ev (fun k => L k s' ((i + 1 : Nat) : Int)) (f t s')) → Ev (fun k => L k s (i : Int)) (f (x :: t) s)) :
    ∀ (i : Nat) (s : σ), i ≤ l.length → I i s → Ev (fun k => L k s (i : Int)) (f (l.drop i) s) := by
  intro i s hi hI
  generalize hd : l.length - i = d
  induction d generalizing i s with
  | zero =>
    have : i = l.length := by omega
    subst this
    rw [List.drop_length]
    exact hnil s hI
  | succ d ih =>
    have hlt : i < l.length := by omega
    rw [List.drop_eq_getElem_cons hlt]
    exact hcons i l[i] _ s hlt (List.getElem?_eq_getElem hlt) rfl hI (fun s' hI' => ih (i + 1) s' (by omega) hI' (by omega))
theorem loop_list0 {α σ ρ : Type} (l : List α) (L : Nat → σ → Int → Option ρ) (f : List α → σ → ρ) (I : Nat → σ → Prop)
    (hnil : ∀ s, I l.length s → Ev (fun k => L k s (l.length : Int)) (f [] s))
    (hcons : ∀ (i : Nat) (x : α) (t : List α) (s : σ), i < l.length → l[i]? = some x → l.drop (i + 1) = t → I i s →
      (∀ s', I (i + 1) s' → Ev (fun k => L k s' ((i + 1 : Nat) : Int)) (f t s')) → Ev (fun k => L k s (i : Int)) (f (x :: t) s))
    (s : σ) (hI : I 0 s) : Ev (fun k => L k s 0) (f l s) := by
  have := loop_list l L f I hnil hcons 0 s (Nat.zero_le _) hI
  simpa using this
theorem Ev.yes {α : Type} {c : Prop} [Decidable c] {f g : Nat → Option α} {r : α} (h : c) (e : Ev f r) : Ev (fun n => if c then f n else g n) r := by
  simp only [if_pos h]
  exact e
theorem Ev.no {α : Type} {c : Prop} [Decidable c] {f g : Nat → Option α} {r : α} (h : ¬ c) (e : Ev g r) : Ev (fun n => if c then f n else g n) r := by
  simp only [if_neg h]
  exact e
theorem Ev.pure {α β : Type} {x : Option α} {f : Nat → α → Option β} {a : α} {r : β} (h : x = some a) (k : Ev (fun n => f n a) r) : Ev (fun n => x.bind (f n)) r := by
  subst h
  exact k
theorem Ev.is {α : Type} {g : Nat → Option α} {r r' : α} (h : Ev g r) (e : r = r') : Ev g r' := e ▸ h

/-- A loop over the places of a row, with what holds at each: what it comes to. -/
theorem loop_run {σ ρ : Type} (n : Nat) (L : Nat → σ → Int → Option ρ) (I : Nat → σ → Prop) (r : ρ)
    (hdone : ∀ s, I n s → Ev (fun k => L k s (n : Int)) r)
    (hstep : ∀ i s, i < n → I i s → ∃ s', I (i + 1) s' ∧ ∃ K, ∀ k, K ≤ k → L (k + 1) s (i : Int) = L k s' ((i + 1 : Nat) : Int)) :
    ∀ (i : Nat) (s : σ), i ≤ n → I i s → Ev (fun k => L k s (i : Int)) r := by
  intro i s hi hI
  generalize hd : n - i = d
  induction d generalizing i s with
  | zero =>
    have : i = n := by omega
    subst this
    exact hdone s hI
  | succ d ih =>
    obtain ⟨s', hI', K, hK⟩ := hstep i s (by omega) hI
    obtain ⟨K', hK'⟩ := ih (i + 1) s' (by omega) hI' (by omega)
    refine ev_succ ⟨K + K', fun k hk => ?_⟩
    show L (k + 1) s (i : Int) = some r
    rw [hK k (by omega)]
    exact hK' k (by omega)
/-- Copying element by element. -/
theorem copy_loop {α β : Type} (l : List α) (g : α → β) (L : Nat → List β → Int → Option (List β))
    (hdone : ∀ k s, L (k + 1) s (l.length : Int) = some s)
    (hstep : ∀ k i x s, l[i]? = some x → i < l.length → s.length = l.length → L (k + 1) s (i : Int) = L k (s.set i (g x)) ((i + 1 : Nat) : Int))
    (s : List β) (hs : s.length = l.length) : Ev (fun k => L k s 0) (l.map g) := by
  refine loop_run l.length L (fun i s => s.length = l.length ∧ ∀ j, j < i → s[j]? = (l.map g)[j]?) _ ?_ ?_ 0 s (Nat.zero_le _) ⟨hs, fun j hj => by omega⟩
  · rintro s ⟨h1, h2⟩
    have : s = l.map g := by
      apply List.ext_getElem?
      intro j
      by_cases hj : j < l.length
      · exact h2 j hj
      · rw [List.getElem?_eq_none (by omega), List.getElem?_eq_none (by simp; omega)]
    subst this
    exact ev_succ ⟨0, fun k _ => hdone k _⟩
  · rintro i s hi ⟨h1, h2⟩
    have hx := List.getElem?_eq_getElem hi
    refine ⟨s.set i (g l[i]), ⟨by simp [h1], fun j hj => ?_⟩, 0, fun k _ => hstep k i _ s hx hi h1⟩
    by_cases hji : j = i
    · subst hji
      rw [List.getElem?_set_self (by omega)]
      simp [hi]
    · rw [List.getElem?_set_ne (by omega)]
      exact h2 j (by omega)
/-- Two rows held against each other, element by element. -/
theorem eq_loop {α : Type} [DecidableEq α] (a b : List α) (L : Nat → Int → Option Bool) (hlen : a.length = b.length)
    (hdone : ∀ k, L (k + 1) (a.length : Int) = some true)
    (hstep : ∀ k i x y, a[i]? = some x → b[i]? = some y → i < a.length → i < b.length → L (k + 1) (i : Int) = if x = y then L k ((i + 1 : Nat) : Int) else some false) :
    Ev (fun k => L k 0) (decide (a = b)) := by
  suffices H : ∀ d i, i ≤ a.length → a.length - i = d → Ev (fun k => L k (i : Int)) (decide (a.drop i = b.drop i)) by
    simpa using H _ 0 (Nat.zero_le _) rfl
  intro d
  induction d with
  | zero =>
    intro i hi hd
    have : i = a.length := by omega
    subst this
    refine ev_succ ⟨0, fun k _ => ?_⟩
    rw [List.drop_length, hlen, List.drop_length]
    rw [← hlen, hdone]
    simp
  | succ d ih =>
    intro i hi hd
    have h1 : i < a.length := by omega
    have h2 : i < b.length := by omega
    obtain ⟨K, hK⟩ := ih (i + 1) (by omega) (by omega)
    replace hK : ∀ k, K ≤ k → L k ((i + 1 : Nat) : Int) = some (decide (a.drop (i + 1) = b.drop (i + 1))) := hK
    refine ev_succ ⟨K, fun k hk => ?_⟩
    show L (k + 1) (i : Int) = _
    rw [hstep k i _ _ (List.getElem?_eq_getElem h1) (List.getElem?_eq_getElem h2) h1 h2, List.drop_eq_getElem_cons h1, List.drop_eq_getElem_cons h2]
    by_cases h : a[i] = b[i]
    · rw [if_pos h, hK k hk, h]
      simp only [List.cons.injEq, true_and]
    · rw [if_neg h]
      congr 1
      symm
      exact decide_eq_false (fun e => h (List.cons.inj e).1)
/-- Marks from c on, w a place. -/
def marks {β : Type} (m : Int → β) (w : Int) (c : Int) (n : Nat) : List β := (List.range n).map (fun i : Nat => m (c + w * (i : Int)))
theorem marks_len {β : Type} (m : Int → β) (w c : Int) (n : Nat) : (marks m w c n).length = n := by simp [marks]
theorem marks_at {β : Type} (m : Int → β) (w c : Int) (n i : Nat) (h : i < n) : (marks m w c n)[i]? = some (m (c + w * (i : Int))) := by simp [marks, h]
/-- Marking a row in place. -/
theorem mark_loop {β : Type} (m : Int → β) (w : Int) (n : Nat) (c0 : Int) (L : Nat → List β → Int → Int → Option (Int × List β))
    (hdone : ∀ k s c, s.length = n → L (k + 1) s c (n : Int) = some (c, s))
    (hstep : ∀ k i s, i < n → s.length = n → L (k + 1) s (c0 + w * (i : Int)) (i : Int) = L k (s.set i (m (c0 + w * (i : Int)))) (c0 + w * ((i + 1 : Nat) : Int)) ((i + 1 : Nat) : Int))
    (s : List β) (hs : s.length = n) : Ev (fun k => L k s c0 0) (c0 + w * (n : Int), marks m w c0 n) := by
  have := loop_run n (fun k (p : List β × Int) i => L k p.1 p.2 i) (fun i p => p.2 = c0 + w * (i : Int) ∧ p.1.length = n ∧ ∀ j, j < i → p.1[j]? = (marks m w c0 n)[j]?) (c0 + w * (n : Int), marks m w c0 n) ?_ ?_ 0 (s, c0) (Nat.zero_le _) ⟨by simp, hs, fun j hj => by omega⟩
  · exact this
  · rintro ⟨s, c⟩ ⟨h0, h1, h2⟩
    simp only at h0 h1 h2
    have : s = marks m w c0 n := by
      apply List.ext_getElem?
      intro j
      by_cases hj : j < n
      · exact h2 j hj
      · rw [List.getElem?_eq_none (by omega), List.getElem?_eq_none (by rw [marks_len]; omega)]
    subst this
    refine ev_succ ⟨0, fun k _ => ?_⟩
    show L (k + 1) _ c _ = _
    rw [hdone k _ c h1, h0]
  · rintro i ⟨s, c⟩ hi ⟨h0, h1, h2⟩
    simp only at h0 h1 h2
    refine ⟨(s.set i (m (c0 + w * (i : Int))), c0 + w * ((i + 1 : Nat) : Int)), ⟨rfl, by simp [h1], fun j hj => ?_⟩, 0, fun k _ => ?_⟩
    · by_cases hji : j = i
      · subst hji
        simp only
        rw [List.getElem?_set_self (by omega), marks_at _ _ _ _ _ hi]
      · simp only
        rw [List.getElem?_set_ne (by omega)]
        exact h2 j (by omega)
    · simp only [h0]
      exact hstep k i s hi h1
/-- A row's marks told again. -/
theorem held_loop (w : Int) (n : Nat) (c0 : Int) (L : Nat → Int → Int → Option Int)
    (hdone : ∀ k c, L (k + 1) c (n : Int) = some c)
    (hstep : ∀ k i, i < n → L (k + 1) (c0 + w * (i : Int)) (i : Int) = L k (c0 + w * ((i + 1 : Nat) : Int)) ((i + 1 : Nat) : Int)) :
    Ev (fun k => L k c0 0) (c0 + w * (n : Int)) := by
  have := loop_run n L (fun i c => c = c0 + w * (i : Int)) (c0 + w * (n : Int)) ?_ ?_ 0 c0 (Nat.zero_le _) (by simp)
  · exact this
  · rintro c h0
    refine ev_succ ⟨0, fun k _ => ?_⟩
    show L (k + 1) c _ = _
    rw [hdone k c, h0]
  · rintro i c hi h0
    subst h0
    exact ⟨_, rfl, 0, fun k _ => hstep k i hi⟩

theorem toByteS_ev (l : List Int) (h : l.length ≤ 140737488355328) : Ev (fun k => laws_toByteS.f k l) l := by
  have H := copy_loop l id (fun k s i => laws_toByteS.l0 k l s i) (fun k s => by simp only [laws_toByteS.l0, nltc, if_false]) (fun k i x s hx hi hs => by
    simp only [laws_toByteS.l0, ltc hi, nnc, hs, if_true, rd_at hx, w64s hi (show l.length ≤ 9223372036854775807 by omega), Int.toNat_natCast, id]) (List.replicate l.length 0) (by simp)
  obtain ⟨K, hK⟩ := H
  refine ⟨K, fun k hk => ?_⟩
  have := hK k hk
  simp only [List.map_id] at this
  simp only [laws_toByteS.f, nnc, if_true, Int.toNat_natCast, show l.length ≤ 281474976710656 from by omega]
  exact this

theorem eqByteS_ev (a b : List Int) (h : a.length ≤ 9223372036854775807) : Ev (fun k => laws_eqByteS.f k a b) (decide (a = b)) := by
  by_cases hl : a.length = b.length
  · have H := eq_loop a b (fun k i => laws_eqByteS.l0 k a b i) hl (fun k => by simp only [laws_eqByteS.l0, nltc, if_false]) (fun k i x y hx hy hi hi2 => by
      simp only [laws_eqByteS.l0, ltc hi, ltc hi2, nnc, if_true, rd_at hx, rd_at hy, w64s hi h])
    obtain ⟨K, hK⟩ := H
    refine ⟨K, fun k hk => ?_⟩
    simp only [laws_eqByteS.f, hl, if_true]
    exact hK k hk
  · refine ⟨0, fun k _ => ?_⟩
    simp only [laws_eqByteS.f]
    rw [if_neg (by omega)]
    congr 1
    symm
    exact decide_eq_false (fun e => hl (by rw [e]))
theorem eqByteS_self (a : List Int) (h : a.length ≤ 9223372036854775807) : Ev (fun k => laws_eqByteS.f k a a) true := Ev.is (eqByteS_ev a a h) (by simp)

def mByte (c : Int) : Int := c % 256
theorem markByteS_ev (l : List Int) (c : Int) (h : 0 ≤ c ∧ c + l.length ≤ 9223372036854775807) : Ev (fun k => laws_markByteS.f k l c) (c + l.length, marks mByte 1 c l.length) := by
  have H := mark_loop mByte 1 l.length c (fun k s c i => laws_markByteS.l0 k s c i) (fun k s c hs => by simp only [laws_markByteS.l0, hs, nltc, if_false]) (fun k i s hi hs => by
    simp only [laws_markByteS.l0, hs, ltc hi, nnc, if_true, w64s hi (show l.length ≤ 9223372036854775807 by omega), Int.toNat_natCast]
    rw [w64 (by omega), show c + 1 * (i : Int) + 1 = c + 1 * ((i + 1 : Nat) : Int) by omega]
    rfl) l rfl
  simpa [laws_markByteS.f] using H
theorem eqIntS_ev (a b : List Int) (h : a.length ≤ 9223372036854775807) : Ev (fun k => laws_eqIntS.f k a b) (decide (a = b)) := by
  by_cases hl : a.length = b.length
  · have H := eq_loop a b (fun k i => laws_eqIntS.l0 k a b i) hl (fun k => by simp only [laws_eqIntS.l0, nltc, if_false]) (fun k i x y hx hy hi hi2 => by
      simp only [laws_eqIntS.l0, ltc hi, ltc hi2, nnc, if_true, rd_at hx, rd_at hy, w64s hi h])
    obtain ⟨K, hK⟩ := H
    refine ⟨K, fun k hk => ?_⟩
    simp only [laws_eqIntS.f, hl, if_true]
    exact hK k hk
  · refine ⟨0, fun k _ => ?_⟩
    simp only [laws_eqIntS.f]
    rw [if_neg (by omega)]
    congr 1
    symm
    exact decide_eq_false (fun e => hl (by rw [e]))
theorem eqIntS_self (a : List Int) (h : a.length ≤ 9223372036854775807) : Ev (fun k => laws_eqIntS.f k a a) true := Ev.is (eqIntS_ev a a h) (by simp)

def mInt (c : Int) : Int := c
theorem markIntS_ev (l : List Int) (c : Int) (h : 0 ≤ c ∧ c + l.length ≤ 9223372036854775807) : Ev (fun k => laws_markIntS.f k l c) (c + l.length, marks mInt 1 c l.length) := by
  have H := mark_loop mInt 1 l.length c (fun k s c i => laws_markIntS.l0 k s c i) (fun k s c hs => by simp only [laws_markIntS.l0, hs, nltc, if_false]) (fun k i s hi hs => by
    simp only [laws_markIntS.l0, hs, ltc hi, nnc, if_true, w64s hi (show l.length ≤ 9223372036854775807 by omega), Int.toNat_natCast]
    rw [w64 (by omega), show c + 1 * (i : Int) + 1 = c + 1 * ((i + 1 : Nat) : Int) by omega]
    rfl) l rfl
  simpa [laws_markIntS.f] using H
theorem heldIntS_ev (c : Int) (n : Nat) (h : 0 ≤ c ∧ c + n ≤ 9223372036854775807) : Ev (fun k => laws_heldIntS.f k (marks mInt 1 c n) c) (c + n) := by
  have H := held_loop 1 n c (fun k c' i => laws_heldIntS.l0 k (marks mInt 1 c n) c' i) (fun k c' => by simp only [laws_heldIntS.l0, marks_len, nltc, if_false]) (fun k i hi => by
    simp only [laws_heldIntS.l0, marks_len, ltc hi, nnc, if_true, rd_at (marks_at mInt 1 c n i hi), mInt, w64s hi (show n ≤ 9223372036854775807 by omega)]
    rw [w64 (by omega), show c + 1 * (i : Int) + 1 = c + 1 * ((i + 1 : Nat) : Int) by omega])
  simpa [laws_heldIntS.f] using H

theorem wraps_i64 (n : Int) (h0 : 0 ≤ n) (h1 : n < 2 ^ 63) : IntKind.i64.wrap n = n := by rw [IntKind.wrap_i64]; omega
theorem and127 (x : Int) (h0 : 0 ≤ x) (h1 : x < 9223372036854775808) : Go.bits .and .i64 x 127 = x % 128 := bits_mask .i64 63 (by decide) wraps_i64 7 (by decide) x h0 h1
theorem and127b (x : Int) (h0 : 0 ≤ x) (h1 : x < 256) : Go.bits .and .u8 x 127 = x % 128 := bits_mask .u8 8 (by decide) wraps_u8 7 (by decide) x h0 h1
theorem bits_or_comm (k : IntKind) (x y : Int) : Go.bits .or k x y = Go.bits .or k y x := by simp only [Go.bits, BitVec.or_comm]
theorem or128 (x : Int) (h0 : 0 ≤ x) (h1 : x < 128) : Go.bits .or .i64 x 128 = x + 128 := by
  rw [bits_or_comm, Int.add_comm]
  exact bits_join .i64 63 (by decide) wraps_i64 7 128 x (by decide) (by decide) (by decide) h0 h1 (by omega)
theorem or128b (x : Int) (h0 : 0 ≤ x) (h1 : x < 128) : Go.bits .or .u8 x 128 = x + 128 := by
  rw [bits_or_comm, Int.add_comm]
  exact bits_join .u8 8 (by decide) wraps_u8 7 128 x (by decide) (by decide) (by decide) h0 h1 (by omega)
/-- A varint's bytes, d more than one at the most. -/
def uvd : Nat → Int → List Int
  | 0, n => [n]
  | d + 1, n => if n > 127 then (n % 128 + 128) :: uvd d (n / 128) else [n]
def uvar (n : Int) : List Int := if 0 ≤ n ∧ n ≤ 1000000000000 then uvd 5 n else []
theorem uvd_len (d : Nat) (n : Int) : (uvd d n).length ≤ d + 1 ∧ 1 ≤ (uvd d n).length := by
  induction d generalizing n with
  | zero => simp [uvd]
  | succ d ih =>
    have := ih (n / 128)
    unfold uvd
    split
    · simp only [List.length_cons]; omega
    · simp
theorem uvar_len (n : Int) : (uvar n).length ≤ 6 := by
  unfold uvar
  split
  · exact (uvd_len 5 n).1
  · simp
theorem uvd_byte (d : Nat) (n : Int) (h : 0 ≤ n ∧ n < 128 ^ (d + 1)) : ∀ x ∈ uvd d n, 0 ≤ x ∧ x ≤ 255 := by
  induction d generalizing n with
  | zero => intro x hx; simp [uvd] at hx; omega
  | succ d ih =>
    intro x hx
    unfold uvd at hx
    split at hx
    · rcases List.mem_cons.1 hx with rfl | hx
      · omega
      · refine ih (n / 128) ⟨by omega, ?_⟩ x hx
        exact Int.ediv_lt_of_lt_mul (by decide) (by rw [Int.pow_succ] at h; exact h.2)
    · simp at hx; omega
theorem uvar_byte (n : Int) : ∀ x ∈ uvar n, 0 ≤ x ∧ x ≤ 255 := by
  unfold uvar
  split
  · exact uvd_byte 5 n ⟨by omega, by omega⟩
  · simp

theorem shl7 (k : Nat) (hk : k ≤ 5) (y : Int) (hy : 0 ≤ y ∧ y < 128) : shl .i64 y (wrap64 (7 * (k : Int))) = y * 128 ^ k := by
  have : k = 0 ∨ k = 1 ∨ k = 2 ∨ k = 3 ∨ k = 4 ∨ k = 5 := by omega
  rcases this with rfl | rfl | rfl | rfl | rfl | rfl
  · have e : wrap64 (7 * ((0 : Nat) : Int)) = 0 := by rw [w64 (by omega)]; rfl
    rw [e]; unfold shl; rw [IntKind.wrap_i64]; simp [IntKind.bits]; omega
  · have e : wrap64 (7 * ((1 : Nat) : Int)) = 7 := by rw [w64 (by omega)]; rfl
    rw [e]; unfold shl; rw [IntKind.wrap_i64]; simp [IntKind.bits]; omega
  · have e : wrap64 (7 * ((2 : Nat) : Int)) = 14 := by rw [w64 (by omega)]; rfl
    rw [e]; unfold shl; rw [IntKind.wrap_i64]; simp [IntKind.bits]; omega
  · have e : wrap64 (7 * ((3 : Nat) : Int)) = 21 := by rw [w64 (by omega)]; rfl
    rw [e]; unfold shl; rw [IntKind.wrap_i64]; simp [IntKind.bits]; omega
  · have e : wrap64 (7 * ((4 : Nat) : Int)) = 28 := by rw [w64 (by omega)]; rfl
    rw [e]; unfold shl; rw [IntKind.wrap_i64]; simp [IntKind.bits]; omega
  · have e : wrap64 (7 * ((5 : Nat) : Int)) = 35 := by rw [w64 (by omega)]; rfl
    rw [e]; unfold shl; rw [IntKind.wrap_i64]; simp [IntKind.bits]; omega
/-- What was read in k rounds is below 128 to the k. -/
def BD (k : Nat) (n : Int) : Prop := 0 ≤ n ∧ n < 128 ^ k
theorem or7 (k : Nat) (hk : k ≤ 5) (n y : Int) (hn : BD k n) (hy : 0 ≤ y ∧ y < 128) : Go.bits .or .i64 n (y * 128 ^ k) = n + y * 128 ^ k := by
  unfold BD at hn
  rw [bits_or_comm, Int.add_comm]
  have : k = 0 ∨ k = 1 ∨ k = 2 ∨ k = 3 ∨ k = 4 ∨ k = 5 := by omega
  rcases this with rfl | rfl | rfl | rfl | rfl | rfl
  · exact bits_join .i64 63 (by decide) wraps_i64 0 _ _ (by omega) (by omega) (by omega) hn.1 (by omega) (by omega)
  · exact bits_join .i64 63 (by decide) wraps_i64 7 _ _ (by omega) (by omega) (by omega) hn.1 (by omega) (by omega)
  · exact bits_join .i64 63 (by decide) wraps_i64 14 _ _ (by omega) (by omega) (by omega) hn.1 (by omega) (by omega)
  · exact bits_join .i64 63 (by decide) wraps_i64 21 _ _ (by omega) (by omega) (by omega) hn.1 (by omega) (by omega)
  · exact bits_join .i64 63 (by decide) wraps_i64 28 _ _ (by omega) (by omega) (by omega) hn.1 (by omega) (by omega)
  · exact bits_join .i64 63 (by decide) wraps_i64 35 _ _ (by omega) (by omega) (by omega) hn.1 (by omega) (by omega)
theorem pow_step (k : Nat) (n y : Int) (hn : BD k n) (hy : 0 ≤ y ∧ y < 128) : BD (k + 1) (n + y * 128 ^ k) := by
  unfold BD at hn ⊢
  have hp : (0 : Int) < 128 ^ k := Int.pow_pos (by decide)
  have h1 : 0 ≤ y * 128 ^ k := Int.mul_nonneg hy.1 (by omega)
  have h2 : y * 128 ^ k ≤ 127 * 128 ^ k := Int.mul_le_mul_of_nonneg_right (by omega) (by omega)
  have h3 : (128 : Int) ^ (k + 1) = 128 ^ k * 128 := Int.pow_succ _ _
  omega
/-- A varint read off the front of a row: round k, n so far; its value, and how many bytes it took in all. -/
def rdv : List Int → Nat → Int → Option (Int × Nat)
  | [], _, _ => none
  | x :: t, k, n => if 6 ≤ k then none else if x < 128 then (if (0 < k ∧ x = 0) ∨ n + x * 128 ^ k > 1000000000000 then none else some (n + x * 128 ^ k, k + 1)) else rdv t (k + 1) (n + (x % 128) * 128 ^ k)
def rdFin (a : Int) : Option (Int × Nat) → Int × Int × Bool
  | none => (0, 0, false)
  | some (v, m) => (v, a + m, true)
def readU (b : List Int) (a : Int) : Int × Int × Bool := if a < 0 then (0, 0, false) else rdFin a (rdv (b.drop a.toNat) 0 0)

theorem rdv_b (l : List Int) (hb : ∀ x ∈ l, 0 ≤ x ∧ x ≤ 255) : ∀ (k : Nat) (n v : Int) (m : Nat), 0 ≤ n → rdv l k n = some (v, m) → 0 ≤ v ∧ v ≤ 1000000000000 ∧ k < m ∧ m ≤ k + l.length := by
  induction l with
  | nil => intro k n v m _ h; simp [rdv] at h
  | cons x t ih =>
    intro k n v m hn h
    have hx := hb x List.mem_cons_self
    have hp : (0 : Int) < 128 ^ k := Int.pow_pos (by decide)
    unfold rdv at h
    split at h
    · cases h
    · split at h
      · split at h
        · cases h
        · rename_i h1 h2 h3
          simp only [Option.some.injEq, Prod.mk.injEq] at h
          obtain ⟨rfl, rfl⟩ := h
          have h5 : 0 ≤ x * 128 ^ k := Int.mul_nonneg hx.1 (by omega)
          simp only [List.length_cons]
          omega
      · have h5 : 0 ≤ x % 128 * 128 ^ k := Int.mul_nonneg (by omega) (by omega)
        have := ih (fun y hy => hb y (List.mem_cons_of_mem _ hy)) (k + 1) _ v m (by omega) h
        simp only [List.length_cons]
        omega
theorem readU_cases (b : List Int) (a : Int) (hb : ∀ x ∈ b, 0 ≤ x ∧ x ≤ 255) : readU b a = (0, 0, false) ∨
    ∃ v e : Int, readU b a = (v, e, true) ∧ 0 ≤ v ∧ v ≤ 1000000000000 ∧ 0 ≤ a ∧ a < e ∧ e ≤ b.length ∧ rdv (b.drop a.toNat) 0 0 = some (v, (e - a).toNat) := by
  unfold readU
  split
  · exact .inl rfl
  · rename_i ha
    cases h : rdv (b.drop a.toNat) 0 0 with
    | none => exact .inl rfl
    | some p =>
      obtain ⟨v, m⟩ := p
      have := rdv_b (b.drop a.toNat) (fun x hx => hb x (List.mem_of_mem_drop hx)) 0 0 v m (by omega) h
      rw [List.length_drop] at this
      refine .inr ⟨v, a + m, rfl, by omega, by omega, by omega, by omega, by omega, ?_⟩
      rw [show (a + (m : Int) - a).toNat = m by omega]
def readB (b : List Int) (a most : Int) : List Int × Int × Bool :=
  if (readU b a).2.2 = true ∧ (readU b a).1 ≤ most ∧ (readU b a).1 ≤ (b.length : Int) - (readU b a).2.1 then ((b.take ((readU b a).2.1 + (readU b a).1).toNat).drop (readU b a).2.1.toNat, (readU b a).2.1 + (readU b a).1, true) else ([], 0, false)
theorem readB_len (b : List Int) (a most : Int) : (readB b a most).1.length ≤ b.length := by
  unfold readB
  split
  · simp only [List.length_drop, List.length_take]; omega
  · simp

/-- c numbers read off the front, one after another. -/
def decL (b : List Int) : Nat → Int → List Int → List Int × Int × Bool
  | 0, a, s => (s, a, true)
  | c + 1, a, s => if (readU b a).2.2 = true then decL b c (readU b a).2.1 (s ++ [(readU b a).1]) else ([], 0, false)
def decI (b : List Int) (a c : Int) : List Int × Int × Bool := if (0 ≤ c ∧ c ≤ 100) ∧ (0 ≤ a ∧ a ≤ b.length) then decL b c.toNat a [] else ([], 0, false)
theorem decL_len (b : List Int) : ∀ (c : Nat) (a : Int) (s : List Int), (decL b c a s).1.length ≤ s.length + c := by
  intro c
  induction c with
  | zero => intro a s; simp [decL]
  | succ c ih =>
    intro a s
    unfold decL
    split
    · have := ih (readU b a).2.1 (s ++ [(readU b a).1])
      simp only [List.length_append, List.length_cons, List.length_nil] at this
      omega
    · simp
theorem decI_len (b : List Int) (a c : Int) : (decI b a c).1.length ≤ 100 := by
  unfold decI
  split
  · have := decL_len b c.toNat a []
    simp only [List.length_nil] at this
    omega
  · simp

theorem implRead_l (b : List Int) (hb : ∀ x ∈ b, 0 ≤ x ∧ x ≤ 255) (hl : b.length ≤ 140737488355328) (a : Nat) (ha : a ≤ 140737488355328) (d : Nat) :
    ∀ (k : Nat) (n : Int), k + d = 6 → BD k n → Ev (fun j => impl_ReadUvarint.l0 j b a n k) (rdFin a (rdv (b.drop (a + k)) k n)) := by
  induction d with
  | zero =>
    intro k n hk hn
    refine ev_succ ⟨0, fun j _ => ?_⟩
    have : rdv (b.drop (a + k)) k n = none := by
      cases b.drop (a + k) with
      | nil => rfl
      | cons x t => simp only [rdv, show 6 ≤ k by omega, if_true]
    rw [this]
    simp only [impl_ReadUvarint.l0, show ¬ (k : Int) < 6 by omega, if_false, rdFin]
  | succ d ih =>
    intro k n hk hn
    have hw : wrap64 ((a : Int) + (k : Int)) = ((a + k : Nat) : Int) := by rw [w64 (by omega)]; omega
    have h7 : wrap64 (7 * (k : Int)) = 7 * (k : Int) := w64 (by omega)
    by_cases hlt : a + k < b.length
    · have hx := List.getElem?_eq_getElem hlt
      have hbx := hb _ (List.mem_of_getElem? hx)
      rw [List.drop_eq_getElem_cons hlt]
      generalize b[a + k] = x at hx hbx
      have f1 : (k : Int) < 6 := by omega
      have f2 : (0 : Int) ≤ 7 * (k : Int) := by omega
      have f3 : ¬ 6 ≤ k := by omega
      have f4 : ¬ ((a + k : Nat) : Int) ≥ (b.length : Int) := by omega
      have f5 : wrap64 ((k : Int) + 1) = ((k + 1 : Nat) : Int) := by rw [w64 (by omega)]; omega
      have hw2 : wrap64 (((a + k : Nat) : Int) + 1) = (a : Int) + ((k + 1 : Nat) : Int) := by rw [w64 (by omega)]; omega
      have hr := rd_at hx
      have hm : 0 ≤ x % 128 ∧ x % 128 < 128 := by omega
      have hor := or7 k (by omega) n (x % 128) hn hm
      have hshl := shl7 k (by omega) (x % 128) hm
      have hand := and127b x (by omega) (by omega)
      have hwa : wrap64 (x % 128) = x % 128 := w64 (by omega)
      by_cases h128 : x < 128
      · have hxx : x % 128 = x := by omega
        rw [hxx] at hor hshl hand hwa
        refine ev_succ ⟨0, fun j _ => ?_⟩
        simp only [impl_ReadUvarint.l0, f1, if_true, hw, f4, if_false, nnc, ltc hlt, h7, f2, hr, h128, hand, hwa]
        rw [← h7, hshl, hor]
        simp only [rdv, f3, if_false, h128, if_true]
        by_cases hk0 : 0 < k
        · simp only [show (k : Int) > 0 by omega, if_true, hk0, true_and]
          by_cases hx0 : x = 0
          · simp only [hx0, if_true, true_or, rdFin]
          · simp only [hx0, if_false, false_or]
            split
            · rfl
            · simp only [rdFin, hw2]
        · simp only [show ¬ (k : Int) > 0 by omega, if_false, hk0, false_and, false_or]
          split
          · rfl
          · simp only [rdFin, hw2]
      · obtain ⟨K, hK⟩ := ih (k + 1) (n + x % 128 * 128 ^ k) (by omega) (pow_step k n (x % 128) hn hm)
        refine ev_succ ⟨K, fun j hj => ?_⟩
        have hj := hK j hj
        simp only at hj
        simp only [impl_ReadUvarint.l0, f1, if_true, hw, f4, if_false, nnc, ltc hlt, h7, f2, hr, h128, hand, hwa]
        rw [← h7, hshl, hor, f5, hj]
        simp only [rdv, f3, if_false, h128]
        rfl
    · refine ev_succ ⟨0, fun j _ => ?_⟩
      rw [List.drop_eq_nil_of_le (by omega)]
      simp only [impl_ReadUvarint.l0, show (k : Int) < 6 by omega, if_true, hw, show ((a + k : Nat) : Int) ≥ (b.length : Int) by omega, rdv, rdFin]
theorem implRead_ev (b : List Int) (a : Int) (hb : ∀ x ∈ b, 0 ≤ x ∧ x ≤ 255) (hl : b.length ≤ 140737488355328) : Ev (fun k => impl_ReadUvarint.f k b a) (readU b a) := by
  unfold readU
  by_cases h : a < 0
  · refine ev_succ ⟨0, fun j _ => ?_⟩
    simp only [impl_ReadUvarint.f, h, if_true, impl_ReadUvarint.j0]
  · rw [if_neg h]
    by_cases h2 : a ≥ (b.length : Int)
    · refine ev_succ ⟨0, fun j _ => ?_⟩
      rw [List.drop_eq_nil_of_le (by omega)]
      simp only [impl_ReadUvarint.f, h, h2, decide_true, if_false, if_true, impl_ReadUvarint.j0, rdv, rdFin]
    · obtain ⟨n, rfl⟩ := Int.eq_ofNat_of_zero_le (show 0 ≤ a by omega)
      obtain ⟨K, hK⟩ := implRead_l b hb hl n (by omega) 6 0 0 (by omega) ⟨by decide, by decide⟩
      refine ev_succ ⟨K, fun j hj => ?_⟩
      simp only [impl_ReadUvarint.f, h, h2, decide_false, if_false, impl_ReadUvarint.j0, Bool.false_eq_true]
      simpa using hK j hj

theorem inR (a b c : Int) : impl_InRange.f a b c = some (decide (b ≤ a ∧ a ≤ c)) := by
  unfold impl_InRange.f
  by_cases h : b ≤ a
  · rw [if_pos h]
    simp [h]
  · rw [if_neg h]
    simp [h]

theorem implDecL_ev (b : List Int) (hb : ∀ x ∈ b, 0 ≤ x ∧ x ≤ 255) (hl : b.length ≤ 140737488355000) (n : Nat) (hn : n ≤ 100) (d : Nat) : ∀ (i : Nat) (a : Int) (s : List Int), i + d = n → s.length = i → Ev (fun k => impl_DecodeInts.l0 k b a s n i) (decL b d a s) := by
  induction d with
  | zero =>
    intro i a s hi hs
    have : i = n := by omega
    subst this
    exact ev_succ ⟨0, fun k _ => by simp only [impl_DecodeInts.l0, nltc, if_false, decL]⟩
  | succ d ih =>
    intro i a s hi hs
    have hlt : i < n := by omega
    have e := implRead_ev b a hb (by omega)
    refine Ev.step (fun k => by rw [impl_DecodeInts.l0]) ?_
    refine Ev.yes (ltc hlt) (Ev.bind e ?_)
    unfold decL
    by_cases h : (readU b a).2.2 = true
    · rw [if_pos h]
      rw [w64s hlt (by omega)]
      exact Ev.yes h (Ev.yes (by omega) (ih (i + 1) _ _ (by omega) (by simp [hs])))
    · rw [if_neg h]
      exact Ev.no h (Ev.now _)
theorem implDecI_ev (b : List Int) (a c : Int) (hb : ∀ x ∈ b, 0 ≤ x ∧ x ≤ 255) (hl : b.length ≤ 140737488355000) : Ev (fun k => impl_DecodeInts.f k b a c) (decI b a c) := by
  unfold decI impl_DecodeInts.f
  refine Ev.pure (inR _ _ _) ?_
  by_cases h1 : 0 ≤ c ∧ c ≤ 100
  · refine Ev.yes (by simpa using h1) (Ev.pure (inR _ _ _) ?_)
    refine Ev.step (fun k => by rw [impl_DecodeInts.j0]) ?_
    by_cases h2 : 0 ≤ a ∧ a ≤ b.length
    · rw [if_pos ⟨h1, h2⟩]
      obtain ⟨n, rfl⟩ := Int.eq_ofNat_of_zero_le h1.1
      exact Ev.no (by simp [h2]) (implDecL_ev b hb hl n (by omega) n 0 a [] (by omega) rfl)
    · rw [if_neg (fun h => h2 h.2)]
      exact Ev.yes (by simp only [h2, decide_false, Bool.not_false]) (Ev.now _)
  · rw [if_neg (fun h => h1 h.1)]
    refine Ev.no (by simp only [h1, decide_false, Bool.false_eq_true, not_false_iff]) ?_
    refine Ev.step (fun k => by rw [impl_DecodeInts.j0]) ?_
    exact Ev.yes rfl (Ev.now _)

theorem specRead_l (b : List Int) (hb : ∀ x ∈ b, 0 ≤ x ∧ x ≤ 255) (hl : b.length ≤ 140737488355328) (a : Int) (ha : a ≤ 9223372036854775807) (d : Nat) :
    ∀ (k : Nat) (n : Int), k + d = 6 → BD k n → Ev (fun j => spec_ReadUvarint.l0 j b a n k) (if a < 0 then (0, 0, false) else rdFin a (rdv (b.drop (a.toNat + k)) k n)) := by
  induction d with
  | zero =>
    intro k n hk hn
    refine ev_succ ⟨0, fun j _ => ?_⟩
    have : rdv (b.drop (a.toNat + k)) k n = none := by
      cases b.drop (a.toNat + k) with
      | nil => rfl
      | cons x t => simp only [rdv, show 6 ≤ k by omega, if_true]
    rw [this]
    simp only [spec_ReadUvarint.l0, show ¬ (k : Int) < 6 by omega, if_false, rdFin, ite_self]
  | succ d ih =>
    intro k n hk hn
    by_cases hneg : a < 0
    · rw [if_pos hneg]
      refine ev_succ ⟨1, fun j hj => ?_⟩
      obtain ⟨j, rfl⟩ : ∃ m, j = m + 1 := ⟨j - 1, by omega⟩
      simp only [spec_ReadUvarint.l0, show (k : Int) < 6 by omega, if_true, hneg, spec_ReadUvarint.j1]
    rw [if_neg hneg]
    have hws : wrap64 ((b.length : Int) - (k : Int)) = (b.length : Int) - (k : Int) := w64 (by omega)
    by_cases hlt : a.toNat + k < b.length
    · have hw : wrap64 (a + (k : Int)) = ((a.toNat + k : Nat) : Int) := by rw [w64 (by omega)]; omega
      have h7 : wrap64 (7 * (k : Int)) = 7 * (k : Int) := w64 (by omega)
      have hx := List.getElem?_eq_getElem hlt
      have hbx := hb _ (List.mem_of_getElem? hx)
      rw [List.drop_eq_getElem_cons hlt]
      generalize b[a.toNat + k] = x at hx hbx
      have f1 : (k : Int) < 6 := by omega
      have f2 : (0 : Int) ≤ 7 * (k : Int) := by omega
      have f3 : ¬ 6 ≤ k := by omega
      have f4 : ¬ a ≥ (b.length : Int) - (k : Int) := by omega
      have f5 : wrap64 ((k : Int) + 1) = ((k + 1 : Nat) : Int) := by rw [w64 (by omega)]; omega
      have hw2 : wrap64 (((a.toNat + k : Nat) : Int) + 1) = a + ((k + 1 : Nat) : Int) := by rw [w64 (by omega)]; omega
      have hr := rd_at hx
      have hm : 0 ≤ x % 128 ∧ x % 128 < 128 := by omega
      have hor := or7 k (by omega) n (x % 128) hn hm
      have hshl := shl7 k (by omega) (x % 128) hm
      have hand := and127 x (by omega) (by omega)
      have hwx : wrap64 x = x := w64 (by omega)
      by_cases h128 : x < 128
      · have hxx : x % 128 = x := by omega
        rw [hxx] at hor hshl hand
        refine ev_succ ⟨1, fun j hj => ?_⟩
        obtain ⟨j, rfl⟩ : ∃ m, j = m + 1 := ⟨j - 1, by omega⟩
        simp only [spec_ReadUvarint.l0, spec_ReadUvarint.j1, f1, if_true, hneg, hws, f4, decide_false, Bool.false_eq_true, hw, if_false, nnc, ltc hlt, h7, f2, hr, hwx, h128, hand]
        rw [← h7, hshl, hor]
        simp only [rdv, f3, if_false, h128, if_true]
        by_cases hk0 : 0 < k
        · simp only [show (k : Int) > 0 by omega, if_true, hk0, true_and]
          by_cases hx0 : x = 0
          · simp only [hx0, if_true, true_or, rdFin]
          · simp only [hx0, if_false, false_or]
            split
            · rfl
            · simp only [rdFin, hw2]
        · simp only [show ¬ (k : Int) > 0 by omega, if_false, hk0, false_and, false_or, ite_self]
          split
          · rfl
          · simp only [rdFin, hw2]
      · obtain ⟨K, hK⟩ := ih (k + 1) (n + x % 128 * 128 ^ k) (by omega) (pow_step k n (x % 128) hn hm)
        refine ev_succ ⟨K + 1, fun j hj => ?_⟩
        obtain ⟨j, rfl⟩ : ∃ m, j = m + 1 := ⟨j - 1, by omega⟩
        have hj := hK j (by omega)
        simp only [hneg, if_false] at hj
        simp only [spec_ReadUvarint.l0, spec_ReadUvarint.j1, f1, if_true, hneg, hws, f4, decide_false, Bool.false_eq_true, hw, if_false, nnc, ltc hlt, h7, f2, hr, hwx, h128, hand]
        rw [← h7, hshl, hor, f5, hj]
        simp only [rdv, f3, if_false, h128]
        rfl
    · refine ev_succ ⟨1, fun j hj => ?_⟩
      obtain ⟨j, rfl⟩ : ∃ m, j = m + 1 := ⟨j - 1, by omega⟩
      rw [List.drop_eq_nil_of_le (by omega)]
      simp only [spec_ReadUvarint.l0, spec_ReadUvarint.j1, show (k : Int) < 6 by omega, if_true, hneg, if_false, hws, show a ≥ (b.length : Int) - (k : Int) by omega, decide_true, rdv, rdFin]
theorem specRead_ev (b : List Int) (a : Int) (hb : ∀ x ∈ b, 0 ≤ x ∧ x ≤ 255) (hl : b.length ≤ 140737488355328) (ha : a ≤ 9223372036854775807) : Ev (fun k => spec_ReadUvarint.f k b a) (readU b a) := by
  have := specRead_l b hb hl a ha 6 0 0 (by omega) ⟨by decide, by decide⟩
  simpa [spec_ReadUvarint.f, readU] using this

theorem l1In (a b c : Int) : spec_l1In.f a b c = some (decide (b ≤ a ∧ a ≤ c)) := by
  unfold spec_l1In.f
  simp only [ge_iff_le]
  by_cases h : b ≤ a
  · rw [if_pos h]
    simp [h]
  · rw [if_neg h]
    simp [h]

theorem readU_le (b : List Int) (a : Int) (hb : ∀ x ∈ b, 0 ≤ x ∧ x ≤ 255) (hl : b.length ≤ 140737488355000) : (readU b a).2.1 ≤ 9223372036854775807 := by
  rcases readU_cases b a hb with h | ⟨v, e, h, _, _, _, _, h5, _⟩
  · rw [h]; decide
  · rw [h]; simp only; omega
theorem specDecL_ev (b : List Int) (hb : ∀ x ∈ b, 0 ≤ x ∧ x ≤ 255) (hl : b.length ≤ 140737488355000) (n : Nat) (hn : n ≤ 100) (d : Nat) : ∀ (i : Nat) (a : Int) (s : List Int), i + d = n → s.length = i → a ≤ 9223372036854775807 → Ev (fun k => spec_DecodeInts.l0 k b a n s i) (decL b d a s) := by
  induction d with
  | zero =>
    intro i a s hi hs ha
    have : i = n := by omega
    subst this
    exact ev_succ ⟨0, fun k _ => by simp only [spec_DecodeInts.l0, nltc, if_false, decL]⟩
  | succ d ih =>
    intro i a s hi hs ha
    have hlt : i < n := by omega
    have e := specRead_ev b a hb (by omega) ha
    refine Ev.step (fun k => by rw [spec_DecodeInts.l0]) ?_
    refine Ev.yes (ltc hlt) (Ev.bind e ?_)
    unfold decL
    by_cases h : (readU b a).2.2 = true
    · rw [if_pos h]
      rw [w64s hlt (by omega)]
      exact Ev.yes h (Ev.yes (by omega) (ih (i + 1) _ _ (by omega) (by simp [hs]) (readU_le b a hb hl)))
    · rw [if_neg h]
      exact Ev.no h (Ev.now _)
theorem specDecI_ev (b : List Int) (a c : Int) (hb : ∀ x ∈ b, 0 ≤ x ∧ x ≤ 255) (hl : b.length ≤ 140737488355000) : Ev (fun k => spec_DecodeInts.f k b a c) (decI b a c) := by
  unfold decI spec_DecodeInts.f
  refine Ev.pure (a := []) rfl (Ev.pure (l1In _ _ _) ?_)
  by_cases h1 : 0 ≤ c ∧ c ≤ 100
  · refine Ev.yes (by simpa using h1) (Ev.pure (l1In _ _ _) ?_)
    refine Ev.step (fun k => by rw [spec_DecodeInts.j0]) ?_
    by_cases h2 : 0 ≤ a ∧ a ≤ b.length
    · rw [if_pos ⟨h1, h2⟩]
      obtain ⟨n, rfl⟩ := Int.eq_ofNat_of_zero_le h1.1
      exact Ev.no (by simp [h2]) (specDecL_ev b hb hl n (by omega) n 0 a [] (by omega) rfl (by omega))
    · rw [if_neg (fun h => h2 h.2)]
      exact Ev.yes (by simp only [h2, decide_false, Bool.not_false]) (Ev.now _)
  · rw [if_neg (fun h => h1 h.1)]
    refine Ev.no (by simp only [h1, decide_false, Bool.false_eq_true, not_false_iff]) ?_
    refine Ev.step (fun k => by rw [spec_DecodeInts.j0]) ?_
    exact Ev.yes rfl (Ev.now _)

theorem FnExactDecodeInts : laws_FnExactDecodeInts.Pure := by
  intro a n m ha _ hb hn hm
  by_cases h1 : (a.length : Int) > 1048576
  · exact ⟨0, by simp only [laws_FnExactDecodeInts.f, h1, if_true]⟩
  have hb' : ∀ x ∈ a, 0 ≤ x ∧ x ≤ 255 := fun x hx => u8b (hb x hx)
  have e1 := toByteS_ev a (by omega)
  have e3 := specDecI_ev a n m hb' (by omega)
  have e4 := implDecI_ev a n m hb' (by omega)
  have hl := decI_len a n m
  generalize decI a n m = r at e3 e4 hl
  obtain ⟨r, r2, r3⟩ := r
  simp only at hl
  have e5 := eqByteS_self a (by omega)
  have e6 := eqIntS_self r (by omega)
  have e7 := markByteS_ev a 1 (by omega)
  have e8 := markIntS_ev r 1 (by omega)
  have e9 := heldIntS_ev 1 r.length (by omega)
  have hne : (r3 != r3) = false := by simp
  have ej2 : Ev (fun k => laws_FnExactDecodeInts.j2 k (marks mInt 1 1 r.length) (1 + r.length) (r3 != r3)) true := by
    refine Ev.step (fun k => by rw [laws_FnExactDecodeInts.j2]) ?_
    exact Ev.no (by simp) (Ev.bind e9 (Ev.no (by omega) (Ev.yes rfl (Ev.now true))))
  have ej1 : Ev (fun k => laws_FnExactDecodeInts.j1 k a n m r r2 r3 r (r3 != r3)) true := by
    refine Ev.step (fun k => by rw [laws_FnExactDecodeInts.j1]) ?_
    exact Ev.no (by simp) (Ev.bind e8 (Ev.bind e9 (Ev.no (by omega) (Ev.yes rfl (Ev.bind e1 (Ev.bind e4 (Ev.bind e6 (Ev.yes rfl (Ev.yes rfl ej2)))))))))
  have ej : Ev (fun k => laws_FnExactDecodeInts.j0 k a n m r r2 r3 a r r2 r3 (r3 != r3)) true := by
    refine Ev.step (fun k => by rw [laws_FnExactDecodeInts.j0]) ?_
    exact Ev.no (by simp) (Ev.bind e1 (Ev.bind e5 (Ev.yes rfl (Ev.bind e7 (Ev.no (by simp only; omega) (Ev.bind e6 (Ev.yes rfl (Ev.yes rfl ej1))))))))
  refine Ev.rounds (g := fun k => laws_FnExactDecodeInts.f k a n m) ?_
  unfold laws_FnExactDecodeInts.f
  exact Ev.no h1 (Ev.bind e1 (Ev.bind e3 (Ev.bind e1 (Ev.bind e4 (Ev.bind e6 (Ev.yes rfl (Ev.yes rfl ej)))))))

end Go.Proofs.Ytbafockooilcnaa.Pure
