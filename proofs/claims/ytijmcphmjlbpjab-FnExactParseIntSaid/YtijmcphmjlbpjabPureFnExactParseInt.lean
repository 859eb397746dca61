/- FnExactParseInt: the pure statement of the law, for every input: what the program's functions and the reference's come to is the same, or what the law says holds. No condition beside the statement's own. -/
import Derived.Test.YtijmcphmjlbpjabPFnExactParseIntx1
import Derived.Lib.ItoaNum
namespace Go.Proofs.Ytijmcphmjlbpjab.Pure
open Go.RowKit Go.Proofs.Ytijmcphmjlbpjab.PFnExactParseInt Go.Proofs.YtijmcphmjlbpjabW.PrintWords Go.Proofs.YtijmcphmjlbpjabW.PrintLast Go.Proofs.YtijmcphmjlbpjabW.PrintMore
set_option linter.unusedVariables false
set_option linter.unusedSimpArgs false


theorem i64b {x : Int} (h : (Lit.int .i64 x).wf = true) : -9223372036854775808 ≤ x ∧ x ≤ 9223372036854775807 := by
  simp [Lit.wf, IntKind.min, IntKind.max, IntKind.signed, IntKind.bits] at h
  omega
theorem u8b {x : Int} (h : (Lit.int .u8 x).wf = true) : 0 ≤ x ∧ x ≤ 255 := by
  simp [Lit.wf, IntKind.min, IntKind.max, IntKind.signed, IntKind.bits] at h
  omega
theorem w64 {n : Int} (h : -9223372036854775808 ≤ n ∧ n ≤ 9223372036854775807) : wrap64 n = n := by unfold wrap64; omega
theorem w64s {i : Nat} {n : Nat} (h : i < n) (hn : n ≤ 9223372036854775807) : wrap64 ((i : Int) + 1) = ((i + 1 : Nat) : Int) := by unfold wrap64; omega
theorem ltc {i n : Nat} (h : i < n) : (i : Int) < (n : Int) := by omega
theorem nnc (i : Nat) : (0 : Int) ≤ (i : Int) := by omega
theorem nltc (n : Nat) : ¬ (n : Int) < (n : Int) := by omega
theorem rd_at {l : List Int} {i : Nat} {x : Int} (h : l[i]? = some x) : rd l (i : Int) = x := by
  unfold rd
  simp [List.getD, h]
/-- More rounds than some number. -/
theorem ev_k {α : Type} {g : Nat → Option α} {r : α} (h : Ev g r) : ∃ K, ∀ k, K ≤ k → g k = some r := h
theorem ev_succ {α : Type} {g : Nat → Option α} {r : α} (h : ∃ K, ∀ k, K ≤ k → g (k + 1) = some r) : Ev g r := by
  obtain ⟨K, h⟩ := h
  refine ⟨K + 1, fun k hk => ?_⟩
  obtain ⟨m, rfl⟩ : ∃ m, k = m + 1 := ⟨k - 1, by omega⟩
  exact h m (by omega)
/-- A loop over a list, from the front: what it comes to is told of the list's tails. -/
theorem loop_list {α σ ρ : Type} (l : List α) (L : Nat → σ → Int → Option ρ) (f : List α → σ → ρ) (I : Nat → σ → Prop)
    (hnil : ∀ s, I l.length s → Ev (fun k => L k s (l.length : Int)) (f [] s))
    (hcons : ∀ (i : Nat) (x : α) (t : List α) (s : σ), i < l.length → l[i]? = some x → l.drop (i + 1) = t → I i s →
      (∀ s', I (i + 1) s' → Ev (fun k => L k s' ((i + 1 : Nat) : Int)) (f t s')) → Ev (fun k => L k s (i : Int)) (f (x :: t) s)) :
    ∀ (i : Nat) (s : σ), i ≤ l.length → I i s → Ev (fun k => L k s (i : Int)) (f (l.drop i) s) := by
  intro i s hi hI
  generalize hd : l.length - i = d
  induction d generalizing i s with
  | zero =>
    have : i = l.length := by omega
    subst this
    rw [List.drop_length]
    exact hnil s hI
  | succ d ih =>
    have hlt : i < l.length := by omega
    rw [List.drop_eq_getElem_cons hlt]
    exact hcons i l[i] _ s hlt (List.getElem?_eq_getElem hlt) rfl hI (fun s' hI' => ih (i + 1) s' (by omega) hI' (by omega))
theorem loop_list0 {α σ ρ : Type} (l : List α) (L : Nat → σ → Int → Option ρ) (f : List α → σ → ρ) (I : Nat → σ → Prop)
    (hnil : ∀ s, I l.length s → Ev (fun k => L k s (l.length : Int)) (f [] s))
    (hcons : ∀ (i : Nat) (x : α) (t : List α) (s : σ), i < l.length → l[i]? = some x → l.drop (i + 1) = t → I i s →
      (∀ s', I (i + 1) s' → Ev (fun k => L k s' ((i + 1 : Nat) : Int)) (f t s')) → Ev (fun k => L k s (i : Int)) (f (x :: t) s))
    (s : σ) (hI : I 0 s) : Ev (fun k => L k s 0) (f l s) := by
  have := loop_list l L f I hnil hcons 0 s (Nat.zero_le _) hI
  simpa using this
theorem Ev.yes {α : Type} {c : Prop} [Decidable c] {f g : Nat → Option α} {r : α} (h : c) (e : Ev f r) : Ev (fun n => if c then f n else g n) r := by
  simp only [if_pos h]
  exact e
theorem Ev.no {α : Type} {c : Prop} [Decidable c] {f g : Nat → Option α} {r : α} (h : ¬ c) (e : Ev g r) : Ev (fun n => if c then f n else g n) r := by
  simp only [if_neg h]
  exact e
theorem Ev.pure {α β : Type} {x : Option α} {f : Nat → α → Option β} {a : α} {r : β} (h : x = some a) (k : Ev (fun n => f n a) r) : Ev (fun n => x.bind (f n)) r := by
  subst h
  exact k
theorem Ev.is {α : Type} {g : Nat → Option α} {r r' : α} (h : Ev g r) (e : r = r') : Ev g r' := e ▸ h

/-- A loop over the places of a row, with what holds at each: what it comes to. -/
theorem loop_run {σ ρ : Type} (n : Nat) (L : Nat → σ → Int → Option ρ) (I : Nat → σ → Prop) (r : ρ)
    (hdone : ∀ s, I n s → Ev (fun k => L k s (n : Int)) r)
    (hstep : ∀ i s, i < n → I i s → ∃ s', I (i + 1) s' ∧ ∃ K, ∀ k, K ≤ k → L (k + 1) s (i : Int) = L k s' ((i + 1 : Nat) : Int)) :
    ∀ (i : Nat) (s : σ), i ≤ n → I i s → Ev (fun k => L k s (i : Int)) r := by
  intro i s hi hI
  generalize hd : n - i = d
  induction d generalizing i s with
  | zero =>
    have : i = n := by omega
    subst this
    exact hdone s hI
  | succ d ih =>
    obtain ⟨s', hI', K, hK⟩ := hstep i s (by omega) hI
    obtain ⟨K', hK'⟩ := ih (i + 1) s' (by omega) hI' (by omega)
    refine ev_succ ⟨K + K', fun k hk => ?_⟩
    show L (k + 1) s (i : Int) = some r
    rw [hK k (by omega)]
    exact hK' k (by omega)
/-- Copying element by element. -/
theorem copy_loop {α β : Type} (l : List α) (g : α → β) (L : Nat → List β → Int → Option (List β))
    (hdone : ∀ k s, L (k + 1) s (l.length : Int) = some s)
    (hstep : ∀ k i x s, l[i]? = some x → i < l.length → s.length = l.length → L (k + 1) s (i : Int) = L k (s.set i (g x)) ((i + 1 : Nat) : Int))
    (s : List β) (hs : s.length = l.length) : Ev (fun k => L k s 0) (l.map g) := by
  refine loop_run l.length L (fun i s => s.length = l.length ∧ ∀ j, j < i → s[j]? = (l.map g)[j]?) _ ?_ ?_ 0 s (Nat.zero_le _) ⟨hs, fun j hj => by omega⟩
  · rintro s ⟨h1, h2⟩
    have : s = l.map g := by
      apply List.ext_getElem?
      intro j
      by_cases hj : j < l.length
      · exact h2 j hj
      · rw [List.getElem?_eq_none (by omega), List.getElem?_eq_none (by simp; omega)]
    subst this
    exact ev_succ ⟨0, fun k _ => hdone k _⟩
  · rintro i s hi ⟨h1, h2⟩
    have hx := List.getElem?_eq_getElem hi
    refine ⟨s.set i (g l[i]), ⟨by simp [h1], fun j hj => ?_⟩, 0, fun k _ => hstep k i _ s hx hi h1⟩
    by_cases hji : j = i
    · subst hji
      rw [List.getElem?_set_self (by omega)]
      simp [hi]
    · rw [List.getElem?_set_ne (by omega)]
      exact h2 j (by omega)
/-- Two rows held against each other, element by element. -/
theorem eq_loop {α : Type} [DecidableEq α] (a b : List α) (L : Nat → Int → Option Bool) (hlen : a.length = b.length)
    (hdone : ∀ k, L (k + 1) (a.length : Int) = some true)
    (hstep : ∀ k i x y, a[i]? = some x → b[i]? = some y → i < a.length → i < b.length → L (k + 1) (i : Int) = if x = y then L k ((i + 1 : Nat) : Int) else some false) :
    Ev (fun k => L k 0) (decide (a = b)) := by
  suffices H : ∀ d i, i ≤ a.length → a.length - i = d → Ev (fun k => L k (i : Int)) (decide (a.drop i = b.drop i)) by
    simpa using H _ 0 (Nat.zero_le _) rfl
  intro d
  induction d with
  | zero =>
    intro i hi hd
    have : i = a.length := by omega
    subst this
    refine ev_succ ⟨0, fun k _ => ?_⟩
    rw [List.drop_length, hlen, List.drop_length]
    rw [← hlen, hdone]
    simp
  | succ d ih =>
    intro i hi hd
    have h1 : i < a.length := by omega
    have h2 : i < b.length := by omega
    obtain ⟨K, hK⟩ := ih (i + 1) (by omega) (by omega)
    replace hK : ∀ k, K ≤ k → L k ((i + 1 : Nat) : Int) = some (decide (a.drop (i + 1) = b.drop (i + 1))) := hK
    refine ev_succ ⟨K, fun k hk => ?_⟩
    show L (k + 1) (i : Int) = _
    rw [hstep k i _ _ (List.getElem?_eq_getElem h1) (List.getElem?_eq_getElem h2) h1 h2, List.drop_eq_getElem_cons h1, List.drop_eq_getElem_cons h2]
    by_cases h : a[i] = b[i]
    · rw [if_pos h, hK k hk, h]
      simp only [List.cons.injEq, true_and]
    · rw [if_neg h]
      congr 1
      symm
      exact decide_eq_false (fun e => h (List.cons.inj e).1)
/-- Marks from c on, w a place. -/
def marks {β : Type} (m : Int → β) (w : Int) (c : Int) (n : Nat) : List β := (List.range n).map (fun i : Nat => m (c + w * (i : Int)))
theorem marks_len {β : Type} (m : Int → β) (w c : Int) (n : Nat) : (marks m w c n).length = n := by simp [marks]
theorem marks_at {β : Type} (m : Int → β) (w c : Int) (n i : Nat) (h : i < n) : (marks m w c n)[i]? = some (m (c + w * (i : Int))) := by simp [marks, h]
/-- Marking a row in place. -/
theorem mark_loop {β : Type} (m : Int → β) (w : Int) (n : Nat) (c0 : Int) (L : Nat → List β → Int → Int → Option (Int × List β))
    (hdone : ∀ k s c, s.length = n → L (k + 1) s c (n : Int) = some (c, s))
    (hstep : ∀ k i s, i < n → s.length = n → L (k + 1) s (c0 + w * (i : Int)) (i : Int) = L k (s.set i (m (c0 + w * (i : Int)))) (c0 + w * ((i + 1 : Nat) : Int)) ((i + 1 : Nat) : Int))
    (s : List β) (hs : s.length = n) : Ev (fun k => L k s c0 0) (c0 + w * (n : Int), marks m w c0 n) := by
  have := loop_run n (fun k (p : List β × Int) i => L k p.1 p.2 i) (fun i p => p.2 = c0 + w * (i : Int) ∧ p.1.length = n ∧ ∀ j, j < i → p.1[j]? = (marks m w c0 n)[j]?) (c0 + w * (n : Int), marks m w c0 n) ?_ ?_ 0 (s, c0) (Nat.zero_le _) ⟨by simp, hs, fun j hj => by omega⟩
  · exact this
  · rintro ⟨s, c⟩ ⟨h0, h1, h2⟩
    simp only at h0 h1 h2
    have : s = marks m w c0 n := by
      apply List.ext_getElem?
      intro j
      by_cases hj : j < n
      · exact h2 j hj
      · rw [List.getElem?_eq_none (by omega), List.getElem?_eq_none (by rw [marks_len]; omega)]
    subst this
    refine ev_succ ⟨0, fun k _ => ?_⟩
    show L (k + 1) _ c _ = _
    rw [hdone k _ c h1, h0]
  · rintro i ⟨s, c⟩ hi ⟨h0, h1, h2⟩
    simp only at h0 h1 h2
    refine ⟨(s.set i (m (c0 + w * (i : Int))), c0 + w * ((i + 1 : Nat) : Int)), ⟨rfl, by simp [h1], fun j hj => ?_⟩, 0, fun k _ => ?_⟩
    · by_cases hji : j = i
      · subst hji
        simp only
        rw [List.getElem?_set_self (by omega), marks_at _ _ _ _ _ hi]
      · simp only
        rw [List.getElem?_set_ne (by omega)]
        exact h2 j (by omega)
    · simp only [h0]
      exact hstep k i s hi h1
/-- A row's marks told again. -/
theorem held_loop (w : Int) (n : Nat) (c0 : Int) (L : Nat → Int → Int → Option Int)
    (hdone : ∀ k c, L (k + 1) c (n : Int) = some c)
    (hstep : ∀ k i, i < n → L (k + 1) (c0 + w * (i : Int)) (i : Int) = L k (c0 + w * ((i + 1 : Nat) : Int)) ((i + 1 : Nat) : Int)) :
    Ev (fun k => L k c0 0) (c0 + w * (n : Int)) := by
  have := loop_run n L (fun i c => c = c0 + w * (i : Int)) (c0 + w * (n : Int)) ?_ ?_ 0 c0 (Nat.zero_le _) (by simp)
  · exact this
  · rintro c h0
    refine ev_succ ⟨0, fun k _ => ?_⟩
    show L (k + 1) c _ = _
    rw [hdone k c, h0]
  · rintro i c hi h0
    subst h0
    exact ⟨_, rfl, 0, fun k _ => hstep k i hi⟩

theorem bt_at {s : ByteArray} {i : Nat} {x : UInt8} (h : s.data.toList[i]? = some x) : bt s (i : Int) = (x.toNat : Int) := by
  have hi : i < s.size := by
    have := (List.getElem?_eq_some_iff.1 h).1
    rw [Array.length_toList] at this
    exact this
  unfold bt
  rw [Int.toNat_natCast, dif_pos hi]
  have h2 : s.data[i]? = some x := by rw [← h, Array.getElem?_toList]
  have h3 : s[i] = s.data[i]'hi := rfl
  rw [h3, (Array.getElem?_eq_some_iff.1 h2).2]
theorem str_size (l : List UInt8) : (⟨l.toArray⟩ : ByteArray).size = l.length := rfl
theorem str_append (a b : List UInt8) : (⟨a.toArray⟩ : ByteArray) ++ ⟨b.toArray⟩ = ⟨(a ++ b).toArray⟩ := by
  apply ByteArray.ext
  apply Array.toList_inj.1
  rw [ByteArray.toList_data_append]
theorem str_loop (s : ByteArray) (d : Nat) : ∀ (i : Nat) (r : List UInt8), i ≤ s.size → s.size - i = d → ByteArray.toList.loop s i r = r.reverse ++ s.data.toList.drop i := by
  induction d with
  | zero =>
    intro i r hi hd
    have : i = s.data.toList.length := by rw [Array.length_toList]; show i = s.size; omega
    unfold ByteArray.toList.loop
    rw [if_neg (by omega), this, List.drop_length, List.append_nil]
  | succ d ih =>
    intro i r hi hd
    unfold ByteArray.toList.loop
    have hlt : i < s.data.toList.length := by rw [Array.length_toList]; show i < s.size; omega
    rw [if_pos (by omega), ih (i + 1) _ (by omega) (by omega), List.drop_eq_getElem_cons hlt]
    have hg : s.get! i = s.data.toList[i] := by
      show s.data[i]! = _
      rw [getElem!_pos s.data i (by rw [Array.length_toList] at hlt; exact hlt)]
      simp
    rw [hg]
    simp
theorem str_toList (s : ByteArray) : s.toList = s.data.toList := by
  unfold ByteArray.toList
  rw [str_loop s s.size 0 [] (Nat.zero_le _) rfl]
  simp
theorem str_mk (l : List UInt8) : (⟨l.toArray⟩ : ByteArray).toList = l := by rw [str_toList]
theorem str_eta (s : ByteArray) : (⟨s.data.toList.toArray⟩ : ByteArray) = s := rfl

def isDig (c : UInt8) : Bool := decide (48 ≤ c.toNat ∧ c.toNat ≤ 57)
def valD (n : Int) (l : List UInt8) : Int := l.foldl (fun a c => 10 * a + ((c.toNat : Int) - 48)) n
def parsed (s : ByteArray) : Int × Bool :=
  if (1 ≤ s.size ∧ s.size ≤ 13) ∧ ¬ (1 < s.size ∧ s.data.toList.head? = some 48) ∧ s.data.toList.all isDig = true ∧ valD 0 s.data.toList ≤ 1000000000000 then (valD 0 s.data.toList, true) else (0, false)
def NB (i : Nat) (n : Int) : Prop := ∃ m : Nat, n = (m : Int) ∧ m < 10 ^ i
theorem NB.b {i : Nat} {n : Int} (h : NB i n) (hi : i ≤ 13) : 0 ≤ n ∧ n < 10000000000000 := by
  obtain ⟨m, rfl, hm⟩ := h
  have h1 : (10 : Nat) ^ i ≤ 10 ^ 13 := Nat.pow_le_pow_right (by decide) hi
  have h2 : (10 : Nat) ^ 13 = 10000000000000 := by decide
  omega
theorem NB.step {i : Nat} {n : Int} (h : NB i n) (c : UInt8) (hc : isDig c = true) : NB (i + 1) (10 * n + ((c.toNat : Int) - 48)) := by
  obtain ⟨m, rfl, hm⟩ := h
  unfold isDig at hc
  have hc := of_decide_eq_true hc
  refine ⟨10 * m + (c.toNat - 48), by omega, ?_⟩
  rw [Nat.pow_succ]
  omega
def loopD (t : List UInt8) (n : Int) : Int × Bool := if t.all isDig = true then (if valD n t > 1000000000000 then (0, false) else (valD n t, true)) else (0, false)

theorem strOf_one (n : Int) : strOfNums [n] = (⟨[UInt8.ofNat n.toNat].toArray⟩ : ByteArray) := rfl
def preD (m : Nat) (acc : List UInt8) : List UInt8 := if m = 0 then acc else Lib.decDigits m ++ acc
theorem preD_step (m : Nat) (h : m ≠ 0) (acc : List UInt8) : preD (m / 10) (UInt8.ofNat (48 + m % 10) :: acc) = preD m acc := by
  unfold preD
  rw [if_neg h]
  by_cases h1 : m < 10
  · rw [if_pos (by omega), Lib.decDigits, dif_pos h1, show m % 10 = m by omega]
    rfl
  · rw [if_neg (by omega)]
    conv => rhs; rw [Lib.decDigits]
    rw [dif_neg h1]
    simp
def signD (n : Int) (l : List UInt8) : List UInt8 := if n < 0 then 45 :: l else l
theorem specFmt_l (x0 : Int) (d : Nat) : ∀ (x : Int) (acc : List UInt8), x.natAbs < 10 ^ d → d ≤ 30 → acc.length + d ≤ 60 → -9223372036854775808 ≤ x → x ≤ 9223372036854775807 → Ev (fun k => spec_FormatInt.l0 k x0 ⟨acc.toArray⟩ x) ⟨(signD x0 (preD x.natAbs acc)).toArray⟩ := by
  have fin : ∀ acc : List UInt8, acc.length ≤ 60 → Ev (fun k => spec_FormatInt.l0 k x0 ⟨acc.toArray⟩ 0) ⟨(signD x0 (preD 0 acc)).toArray⟩ := by
    intro acc ha
    refine Ev.step (fun k => by rw [spec_FormatInt.l0]) ?_
    refine Ev.yes rfl ?_
    unfold signD preD
    by_cases hn : x0 < 0
    · refine Ev.yes hn (Ev.yes (by rw [str_size]; omega) (Ev.is (Ev.now _) ?_))
      rw [if_pos hn, if_pos rfl]
      exact str_append [45] acc
    · exact Ev.no hn (Ev.is (Ev.now _) (by rw [if_neg hn, if_pos rfl]))
  induction d with
  | zero =>
    intro x acc hx _ ha _ _
    have : x = 0 := by simp at hx; omega
    subst this
    exact fin acc (by omega)
  | succ d ih =>
    intro x acc hx hd ha hlo hhi
    by_cases h0 : x = 0
    · subst h0
      exact fin acc (by omega)
    · have hm : x.natAbs / 10 < 10 ^ d := by
        rw [Nat.pow_succ] at hx
        omega
      have ht : Int.tdiv x 10 = (if x < 0 then -((x.natAbs / 10 : Nat) : Int) else ((x.natAbs / 10 : Nat) : Int)) := by
        split
        · obtain ⟨y, rfl⟩ : ∃ y, x = -y := ⟨-x, by omega⟩
          rw [Int.neg_tdiv, Int.tdiv_eq_ediv_of_nonneg (by omega)]
          omega
        · rw [Int.tdiv_eq_ediv_of_nonneg (by omega)]
          omega
      have hr : Int.tmod x 10 = (if x < 0 then -((x.natAbs % 10 : Nat) : Int) else ((x.natAbs % 10 : Nat) : Int)) := by
        split
        · obtain ⟨y, rfl⟩ : ∃ y, x = -y := ⟨-x, by omega⟩
          rw [Int.neg_tmod, Int.tmod_eq_emod_of_nonneg (by omega)]
          omega
        · rw [Int.tmod_eq_emod_of_nonneg (by omega)]
          omega
      have hna : (Int.tdiv x 10).natAbs = x.natAbs / 10 := by rw [ht]; split <;> omega
      have hw : wrap64 (Int.tdiv x 10) = Int.tdiv x 10 := w64 (by rw [ht]; split <;> omega)
      have key := ih (Int.tdiv x 10) (UInt8.ofNat (48 + x.natAbs % 10) :: acc) (by rw [hna]; exact hm) (by omega) (by simp; omega) (by rw [ht]; split <;> omega) (by rw [ht]; split <;> omega)
      rw [hna, preD_step _ (by omega)] at key
      refine Ev.step (fun k => by rw [spec_FormatInt.l0]) ?_
      refine Ev.no h0 ?_
      rw [hw]
      have arm : ∀ (n : Int), n = 48 + ((x.natAbs % 10 : Nat) : Int) → Ev (fun k => ((some ([n % 256] : List Int) : Option (List Int)).bind fun y => (if (strOfNums y).size + (⟨acc.toArray⟩ : ByteArray).size ≤ 9223372036854775807 then (spec_FormatInt.l0 k x0 ((strOfNums y) ++ ⟨acc.toArray⟩) (Int.tdiv x 10)) else none))) ⟨(signD x0 (preD x.natAbs acc)).toArray⟩ := by
        rintro n rfl
        refine Ev.pure rfl (Ev.yes (by rw [strOf_one, str_size, str_size]; simp; omega) ?_)
        rw [strOf_one, str_append, show ((48 + ((x.natAbs % 10 : Nat) : Int)) % 256).toNat = 48 + x.natAbs % 10 by omega]
        exact key
      by_cases hneg : Int.tmod x 10 < 0
      · refine Ev.yes hneg (arm _ ?_)
        rw [hr] at hneg ⊢
        split at hneg
        · rename_i hlt
          rw [if_pos hlt, w64 (n := - -((x.natAbs % 10 : Nat) : Int)) (by omega), w64 (by omega)]
          omega
        · omega
      · refine Ev.no hneg (arm _ ?_)
        rw [hr] at hneg ⊢
        split at hneg
        · rename_i hlt
          rw [if_pos hlt, w64 (by omega)]
          omega
        · rename_i hlt
          rw [if_neg hlt, w64 (by omega)]
theorem specFmt_ev (n : Int) (h : -9223372036854775808 ≤ n ∧ n ≤ 9223372036854775807) : Ev (fun k => spec_FormatInt.f k n) ⟨(Lib.itoa n).toArray⟩ := by
  unfold spec_FormatInt.f
  by_cases h0 : n = 0
  · subst h0
    refine Ev.yes rfl (Ev.is (Ev.now _) ?_)
    unfold Lib.itoa
    rw [if_neg (by decide), Lib.decDigits, dif_pos (by decide)]
    rfl
  · refine Ev.no h0 (Ev.is (specFmt_l n 20 n [] ?_ (by omega) (by simp) h.1 h.2) ?_)
    · have : (10 : Nat) ^ 20 = 100000000000000000000 := by decide
      omega
    · unfold signD preD Lib.itoa
      rw [if_neg (show ¬ n.natAbs = 0 by omega), List.append_nil]
      by_cases hn : n < 0
      · rw [if_pos hn, if_pos hn]
      · rw [if_neg hn, if_neg hn, show n.natAbs = n.toNat by omega]

theorem l1In (a b c : Int) : spec_l1In.f a b c = some (decide (b ≤ a ∧ a ≤ c)) := by
  unfold spec_l1In.f
  simp only [ge_iff_le]
  by_cases h : b ≤ a
  · rw [if_pos h]
    simp [h]
  · rw [if_neg h]
    simp [h]

theorem digit_val (c : UInt8) (h : isDig c = true) : ∃ m : Nat, m < 10 ∧ (c.toNat : Int) - 48 = m ∧ UInt8.ofNat (48 + m) = c := by
  unfold isDig at h
  have h := of_decide_eq_true h
  refine ⟨c.toNat - 48, by omega, by omega, ?_⟩
  apply UInt8.toNat_inj.1
  rw [UInt8.toNat_ofNat']
  omega
/-- The numeral of a run of digits is the run itself, where no nought stands ahead. -/
theorem digits_back : ∀ (n : Nat) (l : List UInt8), l.length = n → l ≠ [] → l.all isDig = true → (l.length = 1 ∨ l.head? ≠ some 48) → ∃ v : Nat, valD 0 l = (v : Int) ∧ Lib.decDigits v = l := by
  intro n
  induction n with
  | zero => intro l hl hne; exact absurd (List.length_eq_zero_iff.1 hl) hne
  | succ n ih =>
    intro l hl hne hd hh
    obtain ⟨t, c, rfl⟩ : ∃ t c, l = t ++ [c] := ⟨l.dropLast, l.getLast hne, (List.dropLast_concat_getLast hne).symm⟩
    rw [List.all_append, Bool.and_eq_true] at hd
    have hc : isDig c = true := by simpa using hd.2
    obtain ⟨m, hm, hv, hb⟩ := digit_val c hc
    by_cases ht : t = []
    · subst ht
      refine ⟨m, by simp [valD, hv], ?_⟩
      rw [Lib.decDigits, dif_pos hm, hb]
      rfl
    · have hhead : t.head? ≠ some 48 := by
        rcases hh with h | h
        · have : t.length ≠ 0 := fun e => ht (List.length_eq_zero_iff.1 e)
          simp only [List.length_append, List.length_cons, List.length_nil] at h
          omega
        · cases t with
          | nil => exact absurd rfl ht
          | cons x t => simpa using h
      obtain ⟨v, h1, h2⟩ := ih t (by rw [List.length_append] at hl; simpa using hl) ht hd.1 (.inr hhead)
      have hv0 : v ≠ 0 := by
        rintro rfl
        rw [Lib.decDigits, dif_pos (by decide)] at h2
        rw [← h2] at hhead
        exact hhead rfl
      refine ⟨10 * v + m, ?_, ?_⟩
      · simp only [valD, List.foldl_append, List.foldl_cons, List.foldl_nil] at h1 ⊢
        rw [h1, hv]
        omega
      · rw [Lib.decDigits, dif_neg (by omega), show (10 * v + m) / 10 = v by omega, show (10 * v + m) % 10 = m by omega, h2, hb]
theorem decDigits_ne (n : Nat) : Lib.decDigits n ≠ [] := by
  rw [Lib.decDigits]
  split
  · simp
  · simp
theorem decDigits_head (n : Nat) (h : 1 ≤ n) : (Lib.decDigits n).head? ≠ some 48 := by
  induction n using Nat.strongRecOn with
  | _ n ih =>
    rw [Lib.decDigits]
    split
    · rename_i h1
      intro e
      simp only [List.head?_cons, Option.some.injEq] at e
      have := congrArg UInt8.toNat e
      rw [UInt8.toNat_ofNat'] at this
      have e48 : (48 : UInt8).toNat = 48 := rfl
      omega
    · rename_i h1
      have := ih (n / 10) (by omega) (by omega)
      cases hc : Lib.decDigits (n / 10) with
      | nil => exact absurd hc (decDigits_ne _)
      | cons x t => rw [hc] at this; simpa using this
theorem valD_nn (l : List UInt8) (h : l.all isDig = true) : ∀ n : Int, 0 ≤ n → 0 ≤ valD n l := by
  induction l with
  | nil => intro n hn; exact hn
  | cons c t ih =>
    intro n hn
    simp only [List.all_cons, Bool.and_eq_true] at h
    obtain ⟨m, hm, hv, _⟩ := digit_val c h.1
    exact ih h.2 (10 * n + ((c.toNat : Int) - 48)) (by omega)
/-- Whether the numeral comes back: no nought ahead of other digits. -/
theorem itoa_val (l : List UInt8) (hne : l ≠ []) (h : l.all isDig = true) : Lib.itoa (valD 0 l) = l ↔ ¬ (1 < l.length ∧ l.head? = some 48) := by
  have hnn := valD_nn l h 0 (Int.le_refl _)
  have e : Lib.itoa (valD 0 l) = Lib.decDigits (valD 0 l).toNat := by unfold Lib.itoa; rw [if_neg (by omega)]
  rw [e]
  constructor
  · rintro h1 ⟨h2, h3⟩
    by_cases h0 : (valD 0 l).toNat = 0
    · rw [h0, Lib.decDigits, dif_pos (by decide)] at h1
      rw [← h1] at h2
      simp at h2
    · have := decDigits_head _ (show 1 ≤ (valD 0 l).toNat by omega)
      rw [h1] at this
      exact this h3
  · intro h1
    obtain ⟨v, h2, h3⟩ := digits_back l.length l rfl hne h (by
      by_cases a : l.length = 1
      · exact .inl a
      · refine .inr (fun e => h1 ⟨?_, e⟩)
        have : l.length ≠ 0 := fun e => hne (List.length_eq_zero_iff.1 e)
        omega)
    rw [h2, Int.toNat_natCast]
    exact h3
theorem specParse_ev (s : ByteArray) (hs : s.size ≤ 140737488351232) : Ev (fun k => spec_ParseInt.f k s) (parsed s) := by
  have hl : s.data.toList.length = s.size := by rw [Array.length_toList]; rfl
  unfold spec_ParseInt.f
  refine Ev.pure (l1In _ _ _) ?_
  by_cases h0 : 1 ≤ (s.size : Int) ∧ (s.size : Int) ≤ 13
  · refine Ev.yes (by simpa using h0) ?_
    have hne : s.data.toList ≠ [] := fun e => by rw [e] at hl; simp at hl; omega
    suffices H : Ev (fun k => spec_ParseInt.l0 k s 0 0) (if s.data.toList.all isDig = true then (if valD 0 s.data.toList > 1000000000000 then (0, false) else (if Lib.itoa (valD 0 s.data.toList) = s.data.toList then (valD 0 s.data.toList, true) else (0, false))) else (0, false)) by
      refine Ev.is H ?_
      unfold parsed
      by_cases a : s.data.toList.all isDig = true
      · rw [if_pos a]
        by_cases b : valD 0 s.data.toList > 1000000000000
        · rw [if_pos b, if_neg (fun h => by have := h.2.2.2; omega)]
        · rw [if_neg b]
          have key := itoa_val _ hne a
          rw [hl] at key
          by_cases c : Lib.itoa (valD 0 s.data.toList) = s.data.toList
          · rw [if_pos c, if_pos ⟨by omega, key.1 c, a, by omega⟩]
          · rw [if_neg c, if_neg (fun h => c (key.2 h.2.1))]
      · rw [if_neg a, if_neg (fun h => a h.2.2.1)]
    -- the loop
    have := loop_list0 s.data.toList (fun k n i => spec_ParseInt.l0 k s n i) (fun t n => if t.all isDig = true then (if valD n t > 1000000000000 then (0, false) else (if Lib.itoa (valD n t) = s.data.toList then (valD n t, true) else (0, false))) else (0, false)) (fun i n => NB i n) ?_ ?_ 0 ⟨0, rfl, by decide⟩
    · exact this
    · intro n hn
      have hnb := hn.b (by omega)
      refine Ev.step (fun k => by rw [spec_ParseInt.l0]) ?_
      rw [hl]
      refine Ev.no (nltc _) ?_
      by_cases a : n > 1000000000000
      · exact Ev.yes a (Ev.is (Ev.now _) (by simp [valD, a]))
      · refine Ev.no a (Ev.bind (specFmt_ev n (by omega)) ?_)
        simp only [str_mk, str_toList]
        by_cases b : Lib.itoa n = s.data.toList
        · exact Ev.yes b (Ev.is (Ev.now _) (by simp [valD, a, b]))
        · exact Ev.no b (Ev.is (Ev.now _) (by simp [valD, a, b]))
    · intro i x t n hi hx ht hn ih
      have hi' : i < s.size := by omega
      have hb := bt_at hx
      have hnb := hn.b (by omega)
      have hx8 := x.toNat_lt
      refine Ev.step (fun k => by rw [spec_ParseInt.l0]) ?_
      refine Ev.yes (ltc hi') (Ev.yes (nnc _) ?_)
      rw [hb, w64 (n := (x.toNat : Int)) (by omega)]
      refine Ev.pure (l1In _ _ _) ?_
      by_cases h1 : 48 ≤ (x.toNat : Int) ∧ (x.toNat : Int) ≤ 57
      · have hd : isDig x = true := decide_eq_true (by omega)
        refine Ev.yes (by simpa using h1) ?_
        rw [w64 (n := 10 * n) (by omega), show ((x.toNat : Int) - 48) % 256 = (x.toNat : Int) - 48 by omega, w64 (n := 10 * n + ((x.toNat : Int) - 48)) (by omega), w64s hi' (by omega)]
        refine Ev.is (ih _ (hn.step x hd)) ?_
        simp only [List.all_cons, hd, Bool.true_and, show valD n (x :: t) = valD (10 * n + ((x.toNat : Int) - 48)) t from rfl]
      · have hd : isDig x = false := decide_eq_false (by omega)
        refine Ev.no (by simp only [h1, decide_false]; decide) (Ev.is (Ev.now _) ?_)
        simp [hd]
  · refine Ev.no (by simp only [h0, decide_false]; decide) (Ev.is (Ev.now _) ?_)
    unfold parsed
    rw [if_neg (fun h => h0 (by have := h.1; omega))]

theorem implParse_l (s : ByteArray) (hs : s.size ≤ 13) : Ev (fun k => impl_ParseInt.l0 k s 0 (s.size : Int) 0) (loopD s.data.toList 0) := by
  have hl : s.data.toList.length = s.size := by rw [Array.length_toList]; rfl
  have := loop_list0 s.data.toList (fun k n i => impl_ParseInt.l0 k s n (s.size : Int) i) (fun t n => loopD t n) (fun i n => NB i n) ?_ ?_ 0 ⟨0, rfl, by decide⟩
  · exact this
  · intro n hn
    refine Ev.step (fun k => by rw [impl_ParseInt.l0]) ?_
    rw [hl]
    refine Ev.no (nltc _) ?_
    by_cases a : n > 1000000000000
    · exact Ev.yes a (Ev.is (Ev.now _) (by simp [loopD, valD, a]))
    · exact Ev.no a (Ev.is (Ev.now _) (by simp [loopD, valD, a]))
  · intro i x t n hi hx ht hn ih
    have hi' : i < s.size := by omega
    have hb := bt_at hx
    have hnb := hn.b (by omega)
    refine Ev.step (fun k => by rw [impl_ParseInt.l0]) ?_
    refine Ev.yes (ltc hi') (Ev.yes (nnc _) (Ev.yes (ltc hi') ?_))
    rw [hb]
    by_cases h1 : (x.toNat : Int) < 48
    · refine Ev.yes h1 (Ev.is (Ev.now _) ?_)
      have : isDig x = false := decide_eq_false (by omega)
      simp [loopD, this]
    · refine Ev.no h1 ?_
      by_cases h2 : (x.toNat : Int) > 57
      · refine Ev.yes h2 (Ev.is (Ev.now _) ?_)
        have : isDig x = false := decide_eq_false (by omega)
        simp [loopD, this]
      · have hd : isDig x = true := decide_eq_true (by omega)
        refine Ev.no h2 ?_
        rw [w64 (n := 10 * n) (by omega), show ((x.toNat : Int) - 48) % 256 = (x.toNat : Int) - 48 by omega, w64 (n := 10 * n + ((x.toNat : Int) - 48)) (by omega), w64s hi' (by omega)]
        refine Ev.is (ih _ (hn.step x hd)) ?_
        simp only [loopD, List.all_cons, hd, Bool.true_and, show valD n (x :: t) = valD (10 * n + ((x.toNat : Int) - 48)) t from rfl]
theorem implParse_ev (s : ByteArray) (hs : s.size ≤ 140737488351232) : Ev (fun k => impl_ParseInt.f k s) (parsed s) := by
  have hl : s.data.toList.length = s.size := by rw [Array.length_toList]; rfl
  have jt : Ev (fun k => impl_ParseInt.j0 k s true) (0, false) := by
    refine Ev.step (fun k => by rw [impl_ParseInt.j0]) ?_
    exact Ev.yes rfl (Ev.now _)
  have jf : s.size ≤ 13 → Ev (fun k => impl_ParseInt.j0 k s false) (loopD s.data.toList 0) := by
    intro h
    refine Ev.step (fun k => by rw [impl_ParseInt.j0]) ?_
    exact Ev.no (by simp) (implParse_l s h)
  have hp : s.size ≤ 13 → 1 ≤ s.size → ¬ (1 < s.size ∧ s.data.toList.head? = some 48) → loopD s.data.toList 0 = parsed s := by
    intro h1 h2 h3
    unfold loopD parsed
    by_cases a : s.data.toList.all isDig = true
    · rw [if_pos a]
      by_cases b : valD 0 s.data.toList > 1000000000000
      · rw [if_pos b, if_neg (fun h => by have := h.2.2.2; omega)]
      · rw [if_neg b, if_pos ⟨⟨h2, h1⟩, h3, a, by omega⟩]
    · rw [if_neg a, if_neg (fun h => a h.2.2.1)]
  unfold impl_ParseInt.f
  by_cases h0 : (s.size : Int) = 0
  · refine Ev.yes h0 (Ev.is jt ?_)
    unfold parsed
    rw [if_neg (fun h => by have := h.1.1; omega)]
  · refine Ev.no h0 ?_
    by_cases h1 : (s.size : Int) > 13
    · refine Ev.yes h1 (Ev.is jt ?_)
      unfold parsed
      rw [if_neg (fun h => by have := h.1.2; omega)]
    · refine Ev.no h1 ?_
      by_cases h2 : (s.size : Int) > 1
      · refine Ev.yes h2 (Ev.yes (by omega) ?_)
        have hg : s.data.toList[0]? = some (s.data.toList[0]'(by omega)) := List.getElem?_eq_getElem (by omega)
        have hb := bt_at hg
        rw [show ((0 : Nat) : Int) = 0 from rfl] at hb
        rw [hb]
        by_cases h3 : ((s.data.toList[0]'(by omega)).toNat : Int) = 48
        · rw [h3]
          refine Ev.is jt ?_
          unfold parsed
          have e48 : s.data.toList[0]'(by omega) = 48 := by
            apply UInt8.toNat_inj.1
            show _ = 48
            omega
          have hh : s.data.toList.head? = some 48 := by rw [List.head?_eq_getElem?, hg, e48]
          rw [if_neg (fun h => h.2.1 ⟨by omega, hh⟩)]
        · rw [show (((s.data.toList[0]'(by omega)).toNat : Int) == 48) = false from by simpa using h3]
          refine Ev.is (jf (by omega)) (hp (by omega) (by omega) ?_)
          rintro ⟨_, h⟩
          rw [List.head?_eq_getElem?, hg] at h
          simp only [Option.some.injEq] at h
          rw [h] at h3
          exact h3 rfl
      · exact Ev.no h2 (Ev.is (jf (by omega)) (hp (by omega) (by omega) (fun h => by omega)))

theorem FnExactParseInt : laws_FnExactParseInt.Pure := by
  intro s hs
  refine Ev.rounds (g := fun k => laws_FnExactParseInt.f k s) ?_
  unfold laws_FnExactParseInt.f
  by_cases h1 : (s.size : Int) > 1048576
  · exact Ev.yes h1 (Ev.now _)
  · exact Ev.no h1 (Ev.bind (specParse_ev s hs) (Ev.bind (implParse_ev s hs) (Ev.yes rfl (Ev.no (by simp) (Ev.now _)))))

end Go.Proofs.Ytijmcphmjlbpjab.Pure
