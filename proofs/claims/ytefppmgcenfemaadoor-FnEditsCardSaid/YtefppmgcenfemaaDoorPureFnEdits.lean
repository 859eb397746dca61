/- FnEdits: the pure statement of the law, for every input: what the program's functions and the reference's come to is the same, or what the law says holds. No condition beside the statement's own. -/
import Derived.Test.YtefppmgcenfemaaDoorQFnEditsx10
import Derived.Lib.ItoaNum
namespace Go.Proofs.YtefppmgcenfemaaDoor.Pure
open Go.RowKit Go.Proofs.YtefppmgcenfemaaDoor.QFnEdits Go.Proofs.YtefppmgcenfemaaDoorW.PrintWords Go.Proofs.YtefppmgcenfemaaDoorW.PrintLast Go.Proofs.YtefppmgcenfemaaDoorW.PrintMore
set_option linter.unusedVariables false
set_option linter.unusedSimpArgs false


theorem i64b {x : Int} (h : (Lit.int .i64 x).wf = true) : -9223372036854775808 ≤ x ∧ x ≤ 9223372036854775807 := by
  simp [Lit.wf, IntKind.min, IntKind.max, IntKind.signed, IntKind.bits] at h
  omega
theorem u8b {x : Int} (h : (Lit.int .u8 x).wf = true) : 0 ≤ x ∧ x ≤ 255 := by
  simp [Lit.wf, IntKind.min, IntKind.max, IntKind.signed, IntKind.bits] at h
  omega
theorem w64 {n : Int} (h : -9223372036854775808 ≤ n ∧ n ≤ 9223372036854775807) : wrap64 n = n := by unfold wrap64; omega
theorem w64s {i : Nat} {n : Nat} (h : i < n) (hn : n ≤ 9223372036854775807) : wrap64 ((i : Int) + 1) = ((i + 1 : Nat) : Int) := by unfold wrap64; omega
theorem ltc {i n : Nat} (h : i < n) : (i : Int) < (n : Int) := by omega
theorem nnc (i : Nat) : (0 : Int) ≤ (i : Int) := by omega
theorem nltc (n : Nat) : ¬ (n : Int) < (n : Int) := by omega
theorem rd_at {l : List Int} {i : Nat} {x : Int} (h : l[i]? = some x) : rd l (i : Int) = x := by
  unfold rd
  simp [List.getD, h]
/-- More rounds than some number. -/
theorem ev_k {α : Type} {g : Nat → Option α} {r : α} (h : Ev g r) : ∃ K, ∀ k, K ≤ k → g k = some r := h
theorem ev_succ {α : Type} {g : Nat → Option α} {r : α} (h : ∃ K, ∀ k, K ≤ k → g (k + 1) = some r) : Ev g r := by
  obtain ⟨K, h⟩ := h
  refine ⟨K + 1, fun k hk => ?_⟩
  obtain ⟨m, rfl⟩ : ∃ m, k = m + 1 := ⟨k - 1, by omega⟩
  exact h m (by omega)
/-- A loop over a list, from the front: what it comes to is told of the list's tails. -/
theorem loop_list {α σ ρ : Type} (l : List α) (L : Nat → σ → Int → Option ρ) (f : List α → σ → ρ) (I : Nat → σ → Prop)
    (hnil : ∀ s, I l.length s → Ev (fun k => L k s (l.length : Int)) (f [] s))
    (hcons : ∀ (i : Nat) (x : α) (t : List α) (s : σ), i < l.length → l[i]? = some x → l.drop (i + 1) = t → I i s →
      (∀ s', I (i + 1) s' → Ev (fun k => L k s' ((i + 1 : Nat) : Int)) (f t s')) → Ev (fun k => L k s (i : Int)) (f (x :: t) s)) :
    ∀ (i : Nat) (s : σ), i ≤ l.length → I i s → Ev (fun k => L k s (i : Int)) (f (l.drop i) s) := by
  intro i s hi hI
  generalize hd : l.length - i = d
  induction d generalizing i s with
  | zero =>
    have : i = l.length := by omega
    subst this
    rw [List.drop_length]
    exact hnil s hI
  | succ d ih =>
    have hlt : i < l.length := by omega
    rw [List.drop_eq_getElem_cons hlt]
    exact hcons i l[i] _ s hlt (List.getElem?_eq_getElem hlt) rfl hI (fun s' hI' => ih (i + 1) s' (by omega) hI' (by omega))
theorem loop_list0 {α σ ρ : Type} (l : List α) (L : Nat → σ → Int → Option ρ) (f : List α → σ → ρ) (I : Nat → σ → Prop)
    (hnil : ∀ s, I l.length s → Ev (fun k => L k s (l.length : Int)) (f [] s))
    (hcons : ∀ (i : Nat) (x : α) (t : List α) (s : σ), i < l.length → l[i]? = some x → l.drop (i + 1) = t → I i s →
      (∀ s', I (i + 1) s' → Ev (fun k => L k s' ((i + 1 : Nat) : Int)) (f t s')) → Ev (fun k => L k s (i : Int)) (f (x :: t) s))
    (s : σ) (hI : I 0 s) : Ev (fun k => L k s 0) (f l s) := by
  have := loop_list l L f I hnil hcons 0 s (Nat.zero_le _) hI
  simpa using this
theorem Ev.yes {α : Type} {c : Prop} [Decidable c] {f g : Nat → Option α} {r : α} (h : c) (e : Ev f r) : Ev (fun n => if c then f n else g n) r := by
  simp only [if_pos h]
  exact e
theorem Ev.no {α : Type} {c : Prop} [Decidable c] {f g : Nat → Option α} {r : α} (h : ¬ c) (e : Ev g r) : Ev (fun n => if c then f n else g n) r := by
  simp only [if_neg h]
  exact e
theorem Ev.pure {α β : Type} {x : Option α} {f : Nat → α → Option β} {a : α} {r : β} (h : x = some a) (k : Ev (fun n => f n a) r) : Ev (fun n => x.bind (f n)) r := by
  subst h
  exact k
theorem Ev.is {α : Type} {g : Nat → Option α} {r r' : α} (h : Ev g r) (e : r = r') : Ev g r' := e ▸ h

/-- A loop over the places of a row, with what holds at each: what it comes to. -/
theorem loop_run {σ ρ : Type} (n : Nat) (L : Nat → σ → Int → Option ρ) (I : Nat → σ → Prop) (r : ρ)
    (hdone : ∀ s, I n s → Ev (fun k => L k s (n : Int)) r)
    (hstep : ∀ i s, i < n → I i s → ∃ s', I (i + 1) s' ∧ ∃ K, ∀ k, K ≤ k → L (k + 1) s (i : Int) = L k s' ((i + 1 : Nat) : Int)) :
    ∀ (i : Nat) (s : σ), i ≤ n → I i s → Ev (fun k => L k s (i : Int)) r := by
  intro i s hi hI
  generalize hd : n - i = d
  induction d generalizing i s with
  | zero =>
    have : i = n := by omega
    subst this
    exact hdone s hI
  | succ d ih =>
    obtain ⟨s', hI', K, hK⟩ := hstep i s (by omega) hI
    obtain ⟨K', hK'⟩ := ih (i + 1) s' (by omega) hI' (by omega)
    refine ev_succ ⟨K + K', fun k hk => ?_⟩
    show L (k + 1) s (i : Int) = some r
    rw [hK k (by omega)]
    exact hK' k (by omega)
/-- Copying element by element. -/
theorem copy_loop {α β : Type} (l : List α) (g : α → β) (L : Nat → List β → Int → Option (List β))
    (hdone : ∀ k s, L (k + 1) s (l.length : Int) = some s)
    (hstep : ∀ k i x s, l[i]? = some x → i < l.length → s.length = l.length → L (k + 1) s (i : Int) = L k (s.set i (g x)) ((i + 1 : Nat) : Int))
    (s : List β) (hs : s.length = l.length) : Ev (fun k => L k s 0) (l.map g) := by
  refine loop_run l.length L (fun i s => s.length = l.length ∧ ∀ j, j < i → s[j]? = (l.map g)[j]?) _ ?_ ?_ 0 s (Nat.zero_le _) ⟨hs, fun j hj => by omega⟩
  · rintro s ⟨h1, h2⟩
    have : s = l.map g := by
      apply List.ext_getElem?
      intro j
      by_cases hj : j < l.length
      · exact h2 j hj
      · rw [List.getElem?_eq_none (by omega), List.getElem?_eq_none (by simp; omega)]
    subst this
    exact ev_succ ⟨0, fun k _ => hdone k _⟩
  · rintro i s hi ⟨h1, h2⟩
    have hx := List.getElem?_eq_getElem hi
    refine ⟨s.set i (g l[i]), ⟨by simp [h1], fun j hj => ?_⟩, 0, fun k _ => hstep k i _ s hx hi h1⟩
    by_cases hji : j = i
    · subst hji
      rw [List.getElem?_set_self (by omega)]
      simp [hi]
    · rw [List.getElem?_set_ne (by omega)]
      exact h2 j (by omega)
/-- Two rows held against each other, element by element. -/
theorem eq_loop {α : Type} [DecidableEq α] (a b : List α) (L : Nat → Int → Option Bool) (hlen : a.length = b.length)
    (hdone : ∀ k, L (k + 1) (a.length : Int) = some true)
    (hstep : ∀ k i x y, a[i]? = some x → b[i]? = some y → i < a.length → i < b.length → L (k + 1) (i : Int) = if x = y then L k ((i + 1 : Nat) : Int) else some false) :
    Ev (fun k => L k 0) (decide (a = b)) := by
  suffices H : ∀ d i, i ≤ a.length → a.length - i = d → Ev (fun k => L k (i : Int)) (decide (a.drop i = b.drop i)) by
    simpa using H _ 0 (Nat.zero_le _) rfl
  intro d
  induction d with
  | zero =>
    intro i hi hd
    have : i = a.length := by omega
    subst this
    refine ev_succ ⟨0, fun k _ => ?_⟩
    rw [List.drop_length, hlen, List.drop_length]
    rw [← hlen, hdone]
    simp
  | succ d ih =>
    intro i hi hd
    have h1 : i < a.length := by omega
    have h2 : i < b.length := by omega
    obtain ⟨K, hK⟩ := ih (i + 1) (by omega) (by omega)
    replace hK : ∀ k, K ≤ k → L k ((i + 1 : Nat) : Int) = some (decide (a.drop (i + 1) = b.drop (i + 1))) := hK
    refine ev_succ ⟨K, fun k hk => ?_⟩
    show L (k + 1) (i : Int) = _
    rw [hstep k i _ _ (List.getElem?_eq_getElem h1) (List.getElem?_eq_getElem h2) h1 h2, List.drop_eq_getElem_cons h1, List.drop_eq_getElem_cons h2]
    by_cases h : a[i] = b[i]
    · rw [if_pos h, hK k hk, h]
      simp only [List.cons.injEq, true_and]
    · rw [if_neg h]
      congr 1
      symm
      exact decide_eq_false (fun e => h (List.cons.inj e).1)
/-- Marks from c on, w a place. -/
def marks {β : Type} (m : Int → β) (w : Int) (c : Int) (n : Nat) : List β := (List.range n).map (fun i : Nat => m (c + w * (i : Int)))
theorem marks_len {β : Type} (m : Int → β) (w c : Int) (n : Nat) : (marks m w c n).length = n := by simp [marks]
theorem marks_at {β : Type} (m : Int → β) (w c : Int) (n i : Nat) (h : i < n) : (marks m w c n)[i]? = some (m (c + w * (i : Int))) := by simp [marks, h]
/-- Marking a row in place. -/
theorem mark_loop {β : Type} (m : Int → β) (w : Int) (n : Nat) (c0 : Int) (L : Nat → List β → Int → Int → Option (Int × List β))
    (hdone : ∀ k s c, s.length = n → L (k + 1) s c (n : Int) = some (c, s))
    (hstep : ∀ k i s, i < n → s.length = n → L (k + 1) s (c0 + w * (i : Int)) (i : Int) = L k (s.set i (m (c0 + w * (i : Int)))) (c0 + w * ((i + 1 : Nat) : Int)) ((i + 1 : Nat) : Int))
    (s : List β) (hs : s.length = n) : Ev (fun k => L k s c0 0) (c0 + w * (n : Int), marks m w c0 n) := by
  have := loop_run n (fun k (p : List β × Int) i => L k p.1 p.2 i) (fun i p => p.2 = c0 + w * (i : Int) ∧ p.1.length = n ∧ ∀ j, j < i → p.1[j]? = (marks m w c0 n)[j]?) (c0 + w * (n : Int), marks m w c0 n) ?_ ?_ 0 (s, c0) (Nat.zero_le _) ⟨by simp, hs, fun j hj => by omega⟩
  · exact this
  · rintro ⟨s, c⟩ ⟨h0, h1, h2⟩
    simp only at h0 h1 h2
    have : s = marks m w c0 n := by
      apply List.ext_getElem?
      intro j
      by_cases hj : j < n
      · exact h2 j hj
      · rw [List.getElem?_eq_none (by omega), List.getElem?_eq_none (by rw [marks_len]; omega)]
    subst this
    refine ev_succ ⟨0, fun k _ => ?_⟩
    show L (k + 1) _ c _ = _
    rw [hdone k _ c h1, h0]
  · rintro i ⟨s, c⟩ hi ⟨h0, h1, h2⟩
    simp only at h0 h1 h2
    refine ⟨(s.set i (m (c0 + w * (i : Int))), c0 + w * ((i + 1 : Nat) : Int)), ⟨rfl, by simp [h1], fun j hj => ?_⟩, 0, fun k _ => ?_⟩
    · by_cases hji : j = i
      · subst hji
        simp only
        rw [List.getElem?_set_self (by omega), marks_at _ _ _ _ _ hi]
      · simp only
        rw [List.getElem?_set_ne (by omega)]
        exact h2 j (by omega)
    · simp only [h0]
      exact hstep k i s hi h1
/-- A row's marks told again. -/
theorem held_loop (w : Int) (n : Nat) (c0 : Int) (L : Nat → Int → Int → Option Int)
    (hdone : ∀ k c, L (k + 1) c (n : Int) = some c)
    (hstep : ∀ k i, i < n → L (k + 1) (c0 + w * (i : Int)) (i : Int) = L k (c0 + w * ((i + 1 : Nat) : Int)) ((i + 1 : Nat) : Int)) :
    Ev (fun k => L k c0 0) (c0 + w * (n : Int)) := by
  have := loop_run n L (fun i c => c = c0 + w * (i : Int)) (c0 + w * (n : Int)) ?_ ?_ 0 c0 (Nat.zero_le _) (by simp)
  · exact this
  · rintro c h0
    refine ev_succ ⟨0, fun k _ => ?_⟩
    show L (k + 1) c _ = _
    rw [hdone k c, h0]
  · rintro i c hi h0
    subst h0
    exact ⟨_, rfl, 0, fun k _ => hstep k i hi⟩
/-- As 'loop_run', where a round may take several. -/
theorem loop_ev {σ ρ : Type} (n : Nat) (L : Nat → σ → Int → Option ρ) (I : Nat → σ → Prop) (r : ρ)
    (hdone : ∀ s, I n s → Ev (fun k => L k s (n : Int)) r)
    (hstep : ∀ i s, i < n → I i s → ∃ s', I (i + 1) s' ∧ (Ev (fun k => L k s' ((i + 1 : Nat) : Int)) r → Ev (fun k => L k s (i : Int)) r)) :
    ∀ (i : Nat) (s : σ), i ≤ n → I i s → Ev (fun k => L k s (i : Int)) r := by
  intro i s hi hI
  generalize hd : n - i = d
  induction d generalizing i s with
  | zero =>
    have : i = n := by omega
    subst this
    exact hdone s hI
  | succ d ih =>
    obtain ⟨s', hI', hs⟩ := hstep i s (by omega) hI
    exact hs (ih (i + 1) s' (by omega) hI' (by omega))

theorem bt_at {s : ByteArray} {i : Nat} {x : UInt8} (h : s.data.toList[i]? = some x) : bt s (i : Int) = (x.toNat : Int) := by
  have hi : i < s.size := by
    have := (List.getElem?_eq_some_iff.1 h).1
    rw [Array.length_toList] at this
    exact this
  unfold bt
  rw [Int.toNat_natCast, dif_pos hi]
  have h2 : s.data[i]? = some x := by rw [← h, Array.getElem?_toList]
  have h3 : s[i] = s.data[i]'hi := rfl
  rw [h3, (Array.getElem?_eq_some_iff.1 h2).2]
theorem str_size (l : List UInt8) : (⟨l.toArray⟩ : ByteArray).size = l.length := rfl
theorem str_append (a b : List UInt8) : (⟨a.toArray⟩ : ByteArray) ++ ⟨b.toArray⟩ = ⟨(a ++ b).toArray⟩ := by
  apply ByteArray.ext
  apply Array.toList_inj.1
  rw [ByteArray.toList_data_append]
theorem str_loop (s : ByteArray) (d : Nat) : ∀ (i : Nat) (r : List UInt8), i ≤ s.size → s.size - i = d → ByteArray.toList.loop s i r = r.reverse ++ s.data.toList.drop i := by
  induction d with
  | zero =>
    intro i r hi hd
    have : i = s.data.toList.length := by rw [Array.length_toList]; show i = s.size; omega
    unfold ByteArray.toList.loop
    rw [if_neg (by omega), this, List.drop_length, List.append_nil]
  | succ d ih =>
    intro i r hi hd
    unfold ByteArray.toList.loop
    have hlt : i < s.data.toList.length := by rw [Array.length_toList]; show i < s.size; omega
    rw [if_pos (by omega), ih (i + 1) _ (by omega) (by omega), List.drop_eq_getElem_cons hlt]
    have hg : s.get! i = s.data.toList[i] := by
      show s.data[i]! = _
      rw [getElem!_pos s.data i (by rw [Array.length_toList] at hlt; exact hlt)]
      simp
    rw [hg]
    simp
theorem str_toList (s : ByteArray) : s.toList = s.data.toList := by
  unfold ByteArray.toList
  rw [str_loop s s.size 0 [] (Nat.zero_le _) rfl]
  simp
theorem str_mk (l : List UInt8) : (⟨l.toArray⟩ : ByteArray).toList = l := by rw [str_toList]
theorem str_eta (s : ByteArray) : (⟨s.data.toList.toArray⟩ : ByteArray) = s := rfl

theorem strOf_one (n : Int) : strOfNums [n] = (⟨[UInt8.ofNat n.toNat].toArray⟩ : ByteArray) := rfl
def preD (m : Nat) (acc : List UInt8) : List UInt8 := if m = 0 then acc else Lib.decDigits m ++ acc
theorem preD_step (m : Nat) (h : m ≠ 0) (acc : List UInt8) : preD (m / 10) (UInt8.ofNat (48 + m % 10) :: acc) = preD m acc := by
  unfold preD
  rw [if_neg h]
  by_cases h1 : m < 10
  · rw [if_pos (by omega), Lib.decDigits, dif_pos h1, show m % 10 = m by omega]
    rfl
  · rw [if_neg (by omega)]
    conv => rhs; rw [Lib.decDigits]
    rw [dif_neg h1]
    simp
def signD (n : Int) (l : List UInt8) : List UInt8 := if n < 0 then 45 :: l else l
theorem implFmt_ok (n : Int) (h : -9223372036854775808 ≤ n ∧ n ≤ 9223372036854775807) : impl_FormatInt.f n = some ⟨(Lib.itoa n).toArray⟩ := by
  unfold impl_FormatInt.f strconv_Itoa_40.f
  rw [if_pos h]
  rfl

def isDig (c : UInt8) : Bool := decide (48 ≤ c.toNat ∧ c.toNat ≤ 57)
def valD (n : Int) (l : List UInt8) : Int := l.foldl (fun a c => 10 * a + ((c.toNat : Int) - 48)) n
def parsed (s : ByteArray) : Int × Bool :=
  if (1 ≤ s.size ∧ s.size ≤ 13) ∧ ¬ (1 < s.size ∧ s.data.toList.head? = some 48) ∧ s.data.toList.all isDig = true ∧ valD 0 s.data.toList ≤ 1000000000000 then (valD 0 s.data.toList, true) else (0, false)
def NB (i : Nat) (n : Int) : Prop := ∃ m : Nat, n = (m : Int) ∧ m < 10 ^ i
theorem NB.b {i : Nat} {n : Int} (h : NB i n) (hi : i ≤ 13) : 0 ≤ n ∧ n < 10000000000000 := by
  obtain ⟨m, rfl, hm⟩ := h
  have h1 : (10 : Nat) ^ i ≤ 10 ^ 13 := Nat.pow_le_pow_right (by decide) hi
  have h2 : (10 : Nat) ^ 13 = 10000000000000 := by decide
  omega
theorem NB.step {i : Nat} {n : Int} (h : NB i n) (c : UInt8) (hc : isDig c = true) : NB (i + 1) (10 * n + ((c.toNat : Int) - 48)) := by
  obtain ⟨m, rfl, hm⟩ := h
  unfold isDig at hc
  have hc := of_decide_eq_true hc
  refine ⟨10 * m + (c.toNat - 48), by omega, ?_⟩
  rw [Nat.pow_succ]
  omega
def loopD (t : List UInt8) (n : Int) : Int × Bool := if t.all isDig = true then (if valD n t > 1000000000000 then (0, false) else (valD n t, true)) else (0, false)

theorem digit_val (c : UInt8) (h : isDig c = true) : ∃ m : Nat, m < 10 ∧ (c.toNat : Int) - 48 = m ∧ UInt8.ofNat (48 + m) = c := by
  unfold isDig at h
  have h := of_decide_eq_true h
  refine ⟨c.toNat - 48, by omega, by omega, ?_⟩
  apply UInt8.toNat_inj.1
  rw [UInt8.toNat_ofNat']
  omega
/-- The numeral of a run of digits is the run itself, where no nought stands ahead. -/
theorem digits_back : ∀ (n : Nat) (l : List UInt8), l.length = n → l ≠ [] → l.all isDig = true → (l.length = 1 ∨ l.head? ≠ some 48) → ∃ v : Nat, valD 0 l = (v : Int) ∧ Lib.decDigits v = l := by
  intro n
  induction n with
  | zero => intro l hl hne; exact absurd (List.length_eq_zero_iff.1 hl) hne
  | succ n ih =>
    intro l hl hne hd hh
    obtain ⟨t, c, rfl⟩ : ∃ t c, l = t ++ [c] := ⟨l.dropLast, l.getLast hne, (List.dropLast_concat_getLast hne).symm⟩
    rw [List.all_append, Bool.and_eq_true] at hd
    have hc : isDig c = true := by simpa using hd.2
    obtain ⟨m, hm, hv, hb⟩ := digit_val c hc
    by_cases ht : t = []
    · subst ht
      refine ⟨m, by simp [valD, hv], ?_⟩
      rw [Lib.decDigits, dif_pos hm, hb]
      rfl
    · have hhead : t.head? ≠ some 48 := by
        rcases hh with h | h
        · have : t.length ≠ 0 := fun e => ht (List.length_eq_zero_iff.1 e)
          simp only [List.length_append, List.length_cons, List.length_nil] at h
          omega
        · cases t with
          | nil => exact absurd rfl ht
          | cons x t => simpa using h
      obtain ⟨v, h1, h2⟩ := ih t (by rw [List.length_append] at hl; simpa using hl) ht hd.1 (.inr hhead)
      have hv0 : v ≠ 0 := by
        rintro rfl
        rw [Lib.decDigits, dif_pos (by decide)] at h2
        rw [← h2] at hhead
        exact hhead rfl
      refine ⟨10 * v + m, ?_, ?_⟩
      · simp only [valD, List.foldl_append, List.foldl_cons, List.foldl_nil] at h1 ⊢
        rw [h1, hv]
        omega
      · rw [Lib.decDigits, dif_neg (by omega), show (10 * v + m) / 10 = v by omega, show (10 * v + m) % 10 = m by omega, h2, hb]
theorem decDigits_ne (n : Nat) : Lib.decDigits n ≠ [] := by
  rw [Lib.decDigits]
  split
  · simp
  · simp
theorem decDigits_head (n : Nat) (h : 1 ≤ n) : (Lib.decDigits n).head? ≠ some 48 := by
  induction n using Nat.strongRecOn with
  | _ n ih =>
    rw [Lib.decDigits]
    split
    · rename_i h1
      intro e
      simp only [List.head?_cons, Option.some.injEq] at e
      have := congrArg UInt8.toNat e
      rw [UInt8.toNat_ofNat'] at this
      have e48 : (48 : UInt8).toNat = 48 := rfl
      omega
    · rename_i h1
      have := ih (n / 10) (by omega) (by omega)
      cases hc : Lib.decDigits (n / 10) with
      | nil => exact absurd hc (decDigits_ne _)
      | cons x t => rw [hc] at this; simpa using this
theorem valD_nn (l : List UInt8) (h : l.all isDig = true) : ∀ n : Int, 0 ≤ n → 0 ≤ valD n l := by
  induction l with
  | nil => intro n hn; exact hn
  | cons c t ih =>
    intro n hn
    simp only [List.all_cons, Bool.and_eq_true] at h
    obtain ⟨m, hm, hv, _⟩ := digit_val c h.1
    exact ih h.2 (10 * n + ((c.toNat : Int) - 48)) (by omega)
/-- Whether the numeral comes back: no nought ahead of other digits. -/
theorem itoa_val (l : List UInt8) (hne : l ≠ []) (h : l.all isDig = true) : Lib.itoa (valD 0 l) = l ↔ ¬ (1 < l.length ∧ l.head? = some 48) := by
  have hnn := valD_nn l h 0 (Int.le_refl _)
  have e : Lib.itoa (valD 0 l) = Lib.decDigits (valD 0 l).toNat := by unfold Lib.itoa; rw [if_neg (by omega)]
  rw [e]
  constructor
  · rintro h1 ⟨h2, h3⟩
    by_cases h0 : (valD 0 l).toNat = 0
    · rw [h0, Lib.decDigits, dif_pos (by decide)] at h1
      rw [← h1] at h2
      simp at h2
    · have := decDigits_head _ (show 1 ≤ (valD 0 l).toNat by omega)
      rw [h1] at this
      exact this h3
  · intro h1
    obtain ⟨v, h2, h3⟩ := digits_back l.length l rfl hne h (by
      by_cases a : l.length = 1
      · exact .inl a
      · refine .inr (fun e => h1 ⟨?_, e⟩)
        have : l.length ≠ 0 := fun e => hne (List.length_eq_zero_iff.1 e)
        omega)
    rw [h2, Int.toNat_natCast]
    exact h3
theorem digit_of (m : Nat) (h : m < 10) : isDig (UInt8.ofNat (48 + m)) = true ∧ ((UInt8.ofNat (48 + m)).toNat : Int) - 48 = m := by
  have e : (UInt8.ofNat (48 + m)).toNat = 48 + m := by
    rw [UInt8.toNat_ofNat']
    omega
  unfold isDig
  rw [e]
  exact ⟨decide_eq_true (by omega), by omega⟩
theorem valD_snoc (l : List UInt8) (c : UInt8) : ∀ n, valD n (l ++ [c]) = 10 * valD n l + ((c.toNat : Int) - 48) := by
  intro n
  simp only [valD, List.foldl_append, List.foldl_cons, List.foldl_nil]
theorem decDigits_dig (n : Nat) : (Lib.decDigits n).all isDig = true ∧ valD 0 (Lib.decDigits n) = n := by
  induction n using Nat.strongRecOn with
  | _ n ih =>
    rw [Lib.decDigits]
    split
    · rename_i h
      have := digit_of n h
      refine ⟨by simp only [List.all_cons, List.all_nil, this.1, Bool.and_self], ?_⟩
      simp only [valD, List.foldl_cons, List.foldl_nil]
      omega
    · rename_i h
      have h1 := ih (n / 10) (by omega)
      have h2 := digit_of (n % 10) (by omega)
      refine ⟨by rw [List.all_append, h1.1]; simp only [List.all_cons, List.all_nil, h2.1, Bool.and_self], ?_⟩
      rw [valD_snoc, h1.2, h2.2]
      omega
theorem decDigits_len (k : Nat) : ∀ n, n < 10 ^ (k + 1) → (Lib.decDigits n).length ≤ k + 1 := by
  induction k with
  | zero =>
    intro n h
    rw [Lib.decDigits, dif_pos (by simpa using h)]
    simp
  | succ k ih =>
    intro n h
    rw [Lib.decDigits]
    split
    · simp
    · have := ih (n / 10) (by rw [Nat.pow_succ] at h; omega)
      rw [List.length_append]
      simp only [List.length_cons, List.length_nil]
      omega
theorem itoa_pos (m : Int) (h : 0 ≤ m) : Lib.itoa m = Lib.decDigits m.toNat := by unfold Lib.itoa; rw [if_neg (by omega)]
theorem itoa_ne (m : Int) : Lib.itoa m ≠ [] := by
  unfold Lib.itoa
  split
  · simp
  · exact decDigits_ne _
theorem itoa_len (m : Int) (h : -9223372036854775808 ≤ m ∧ m ≤ 9223372036854775807) : 1 ≤ (Lib.itoa m).length ∧ (Lib.itoa m).length ≤ 20 := by
  have h0 : (Lib.itoa m).length ≠ 0 := fun e => itoa_ne m (List.length_eq_zero_iff.1 e)
  refine ⟨by omega, ?_⟩
  have hp : (10 : Nat) ^ (18 + 1) = 10000000000000000000 := by decide
  unfold Lib.itoa
  split
  · have := decDigits_len 18 m.natAbs (by rw [hp]; omega)
    rw [List.length_cons]
    omega
  · have := decDigits_len 18 m.toNat (by rw [hp]; omega)
    omega
/-- A number's numeral, parsed. -/
theorem parsed_itoa (m : Int) : parsed ⟨(Lib.itoa m).toArray⟩ = if 0 ≤ m ∧ m ≤ 1000000000000 then (m, true) else (0, false) := by
  have hsz : (⟨(Lib.itoa m).toArray⟩ : ByteArray).size = (Lib.itoa m).length := rfl
  have hl : (⟨(Lib.itoa m).toArray⟩ : ByteArray).data.toList = Lib.itoa m := rfl
  unfold parsed
  rw [hsz, hl]
  by_cases h0 : 0 ≤ m
  · have e := itoa_pos m h0
    have hd := decDigits_dig m.toNat
    have hne := decDigits_ne m.toNat
    rw [e]
    have hv : valD 0 (Lib.decDigits m.toNat) = m := by rw [hd.2]; omega
    by_cases h1 : m ≤ 1000000000000
    · rw [if_pos (⟨h0, h1⟩ : 0 ≤ m ∧ m ≤ 1000000000000)]
      have hlen := decDigits_len 12 m.toNat (by
        have : (10 : Nat) ^ (12 + 1) = 10000000000000 := by decide
        rw [this]
        omega)
      have h2 : (Lib.decDigits m.toNat).length ≠ 0 := fun e => hne (List.length_eq_zero_iff.1 e)
      have key := (itoa_val _ hne hd.1).1 (by rw [hv]; exact e)
      rw [if_pos ⟨by omega, key, hd.1, by rw [hv]; exact h1⟩, hv]
    · rw [if_neg (fun h => h1 (by have := h.2.2.2; rw [hv] at this; exact this)), if_neg (fun h => h1 h.2)]
  · rw [if_neg (c := 0 ≤ m ∧ m ≤ 1000000000000) (fun h => h0 h.1)]
    have e : Lib.itoa m = 45 :: Lib.decDigits m.natAbs := by unfold Lib.itoa; rw [if_pos (by omega)]
    rw [if_neg]
    rintro ⟨_, _, h, _⟩
    rw [e, List.all_cons] at h
    have : isDig 45 = false := by decide
    rw [this] at h
    cases h
/-- What is parsed is a numeral. -/
theorem parsed_back (s : ByteArray) (h : (parsed s).2 = true) : (⟨(Lib.itoa (parsed s).1).toArray⟩ : ByteArray) = s ∧ 0 ≤ (parsed s).1 ∧ (parsed s).1 ≤ 1000000000000 := by
  have hl : s.data.toList.length = s.size := by rw [Array.length_toList]; rfl
  unfold parsed at h ⊢
  split at h
  · rename_i g
    rw [if_pos g]
    obtain ⟨h1, h2, h3, h4⟩ := g
    have hne : s.data.toList ≠ [] := fun e => by rw [e] at hl; simp at hl; omega
    have key := (itoa_val _ hne h3).2 (by rw [hl]; exact h2)
    refine ⟨?_, valD_nn _ h3 0 (Int.le_refl _), h4⟩
    simp only
    rw [key]
  · cases h

def editB (o n p q r b : Int) : List UInt8 :=
  if o = 1 then [97, 100, 100, 32] ++ (Lib.itoa n ++ ([32] ++ (Lib.itoa p ++ ([32] ++ (Lib.itoa q ++ ([32] ++ (Lib.itoa r ++ ([32, 64] ++ Lib.itoa b))))))))
  else if o = 2 then [100, 114, 111, 112, 32] ++ (Lib.itoa n ++ ([32, 64] ++ Lib.itoa b))
  else if o = 3 then [116, 101, 120, 116, 32] ++ (Lib.itoa n ++ ([32] ++ (Lib.itoa r ++ ([32, 64] ++ Lib.itoa b))))
  else if o = 4 then [109, 111, 118, 101, 32] ++ (Lib.itoa n ++ ([32] ++ (Lib.itoa p ++ ([32, 64] ++ Lib.itoa b))))
  else []
def i64r (x : Int) : Prop := -9223372036854775808 ≤ x ∧ x ≤ 9223372036854775807
theorem implEditText_ev (o n p q r b : Int) (hn : i64r n) (hp : i64r p) (hq : i64r q) (hr : i64r r) (hb : i64r b) : Ev (fun _ : Nat => impl_EditText.f o n p q r b) ⟨(editB o n p q r b).toArray⟩ := by
  have en := implFmt_ok n hn
  have ep := implFmt_ok p hp
  have eq := implFmt_ok q hq
  have er := implFmt_ok r hr
  have eb := implFmt_ok b hb
  have ln := itoa_len n hn
  have lp := itoa_len p hp
  have lq := itoa_len q hq
  have lr := itoa_len r hr
  have lb := itoa_len b hb
  unfold impl_EditText.f editB
  generalize Lib.itoa n = an at *
  generalize Lib.itoa p = ap at *
  generalize Lib.itoa q = aq at *
  generalize Lib.itoa r = ar at *
  generalize Lib.itoa b = ab at *
  refine Ev.pure en (Ev.yes ?_ ?_)
  · simp only [str_append, str_size, List.length_append, List.length_cons, List.length_nil]; omega
  by_cases h1 : o = 1
  · refine Ev.yes h1 (Ev.yes ?_ (Ev.yes ?_ (Ev.pure ep (Ev.yes ?_ (Ev.yes ?_ (Ev.pure eq (Ev.yes ?_ (Ev.yes ?_ (Ev.pure er (Ev.yes ?_ (Ev.yes ?_ (Ev.pure eb (Ev.yes ?_ (Ev.is (Ev.now _) ?_))))))))))))))
    all_goals first
      | (simp only [str_append, str_size, List.length_append, List.length_cons, List.length_nil]; omega)
      | (rw [if_pos h1]; simp only [str_append, List.append_assoc, List.cons_append, List.nil_append])
  refine Ev.no h1 ?_
  by_cases h2 : o = 2
  · refine Ev.yes h2 (Ev.yes ?_ (Ev.yes ?_ (Ev.pure eb (Ev.yes ?_ (Ev.is (Ev.now _) ?_)))))
    all_goals first
      | (simp only [str_append, str_size, List.length_append, List.length_cons, List.length_nil]; omega)
      | (rw [if_neg h1, if_pos h2]; simp only [str_append, List.append_assoc, List.cons_append, List.nil_append])
  refine Ev.no h2 ?_
  by_cases h3 : o = 3
  · refine Ev.yes h3 (Ev.yes ?_ (Ev.yes ?_ (Ev.pure er (Ev.yes ?_ (Ev.yes ?_ (Ev.pure eb (Ev.yes ?_ (Ev.is (Ev.now _) ?_))))))))
    all_goals first
      | (simp only [str_append, str_size, List.length_append, List.length_cons, List.length_nil]; omega)
      | (rw [if_neg h1, if_neg h2, if_pos h3]; simp only [str_append, List.append_assoc, List.cons_append, List.nil_append])
  refine Ev.no h3 ?_
  by_cases h4 : o = 4
  · refine Ev.yes h4 (Ev.yes ?_ (Ev.yes ?_ (Ev.pure ep (Ev.yes ?_ (Ev.yes ?_ (Ev.pure eb (Ev.yes ?_ (Ev.is (Ev.now _) ?_))))))))
    all_goals first
      | (simp only [str_append, str_size, List.length_append, List.length_cons, List.length_nil]; omega)
      | (rw [if_neg h1, if_neg h2, if_neg h3, if_pos h4]; simp only [str_append, List.append_assoc, List.cons_append, List.nil_append])
  exact Ev.no h4 (Ev.is (Ev.now _) (by rw [if_neg h1, if_neg h2, if_neg h3, if_neg h4]))

theorem rdE_at {l : List S40} {i : Nat} {x : S40} (h : l[i]? = some x) : rd_T40 l (i : Int) = x := by
  unfold rd_T40
  simp [List.getD, h]
theorem edit_ext (x y : S40) : x = y ↔ x.f0 = y.f0 ∧ x.f1 = y.f1 ∧ x.f2 = y.f2 ∧ x.f3 = y.f3 ∧ x.f4 = y.f4 ∧ x.f5 = y.f5 := by
  obtain ⟨a, b, c, d, e, f⟩ := x
  obtain ⟨a', b', c', d', e', f'⟩ := y
  simp only [S40.mk.injEq]
instance : DecidableEq S40 := fun x y => decidable_of_iff _ (edit_ext x y).symm
def mEdit (c : Int) : S40 := ⟨c, c + 1, c + 2, c + 3, c + 4, c + 5⟩
theorem rdN_at {l : List S34} {i : Nat} {x : S34} (h : l[i]? = some x) : rd_T34 l (i : Int) = x := by
  unfold rd_T34
  simp [List.getD, h]
theorem node_ext (x y : S34) : x = y ↔ x.f0 = y.f0 ∧ x.f1 = y.f1 ∧ x.f2 = y.f2 ∧ x.f3 = y.f3 ∧ x.f4 = y.f4 := by
  obtain ⟨a, b, c, d, e⟩ := x
  obtain ⟨a', b', c', d', e'⟩ := y
  simp only [S34.mk.injEq]
instance : DecidableEq S34 := fun x y => decidable_of_iff _ (node_ext x y).symm
def mNode (c : Int) : S34 := ⟨c, c + 1, c + 2, c + 3, c + 4⟩

/-- The place of the first node with an id, from a place on. -/
def nodeFrom (id : Int) : List S34 → Nat → Int
  | [], _ => -1
  | x :: t, i => if x.f0 = id then (i : Int) else nodeFrom id t (i + 1)
def nodeOf (l : List S34) (id : Int) : Int := nodeFrom id l 0
theorem implNodeOf_ev (l : List S34) (id : Int) (hl : l.length ≤ 9223372036854775807) : Ev (fun k => impl_NodeOf.f k l id) (nodeOf l id) := by
  have := loop_list0 l (fun k (s : Nat) i => impl_NodeOf.l0 k id l (l.length : Int) i) (fun t s => nodeFrom id t s) (fun i s => s = i) ?_ ?_ 0 rfl
  · exact this
  · intro s hs
    exact ev_succ ⟨0, fun k _ => by simp only [impl_NodeOf.l0, nltc, if_false, nodeFrom]⟩
  · intro i x t s hi hx ht hs ih
    subst hs
    obtain ⟨K, hK⟩ := ih (s + 1) rfl
    refine ev_succ ⟨K, fun k hk => ?_⟩
    simp only [impl_NodeOf.l0, ltc hi, nnc, if_true, rdN_at hx, w64s hi hl, nodeFrom]
    split
    · rfl
    · exact hK k hk
/-- A loop over places that stops where a test fails. -/
theorem all_loop (n : Nat) (P : Nat → Bool) (L : Nat → Int → Option Bool) (hdone : Ev (fun k => L k (n : Int)) true)
    (hno : ∀ i, i < n → P i = false → Ev (fun k => L k (i : Int)) false)
    (hyes : ∀ i, i < n → P i = true → ∀ r, Ev (fun k => L k ((i + 1 : Nat) : Int)) r → Ev (fun k => L k (i : Int)) r) : Ev (fun k => L k 0) ((List.range n).all P) := by
  suffices H : ∀ d i, i + d = n → Ev (fun k => L k (i : Int)) ((List.range' i d).all P) by
    rw [List.range_eq_range']
    exact H n 0 (by omega)
  intro d
  induction d with
  | zero =>
    intro i hi
    have : i = n := by omega
    subst this
    exact hdone
  | succ d ih =>
    intro i hi
    rw [List.range'_succ, List.all_cons]
    cases h : P i with
    | false => exact hno i (by omega) h
    | true => exact hyes i (by omega) h _ (by simpa using ih (i + 1) (by omega))
def okN (x : S34) : Bool := decide ((0 ≤ x.f2 ∧ x.f2 ≤ 9) ∧ (0 ≤ x.f3 ∧ x.f3 ≤ 999) ∧ (0 ≤ x.f4 ∧ x.f4 ≤ 5))
/-- What holds of a node behind the root. -/
def docAt (l : List S34) (i : Nat) : Bool := okN (rd_T34 l (i : Int)) && (decide (i = 0) || (decide ((rd_T34 l ((i - 1 : Nat) : Int)).f0 < (rd_T34 l (i : Int)).f0) && decide (0 ≤ nodeOf (l.take i) (rd_T34 l (i : Int)).f1)))
def rootOk (l : List S34) : Bool := decide ((rd_T34 l 0).f0 = 0) && decide ((rd_T34 l 0).f1 = -1)
def isDoc (l : List S34) : Bool := decide (1 ≤ l.length ∧ l.length ≤ 16) && (rootOk l && (List.range l.length).all (docAt l))

theorem nodeFrom_cases (id : Int) (l : List S34) : ∀ s : Nat, (nodeFrom id l s = -1 ∧ ∀ x ∈ l, x.f0 ≠ id) ∨ ∃ (j : Nat) (x : S34), l[j]? = some x ∧ x.f0 = id ∧ nodeFrom id l s = ((s + j : Nat) : Int) ∧ ∀ (j' : Nat) (y : S34), j' < j → l[j']? = some y → y.f0 ≠ id := by
  induction l with
  | nil => intro s; exact .inl ⟨rfl, by simp⟩
  | cons x t ih =>
    intro s
    by_cases h : x.f0 = id
    · refine .inr ⟨0, x, rfl, h, by simp [nodeFrom, h], fun j' y hj => by omega⟩
    · rcases ih (s + 1) with ⟨h1, h2⟩ | ⟨j, y, h1, h2, h3, h4⟩
      · refine .inl ⟨by simp only [nodeFrom, h, if_false]; exact h1, ?_⟩
        intro z hz
        rcases List.mem_cons.1 hz with rfl | hz
        · exact h
        · exact h2 z hz
      · refine .inr ⟨j + 1, y, by simpa using h1, h2, ?_, ?_⟩
        · simp only [nodeFrom, h, if_false]
          rw [h3]
          omega
        · intro j' z hj hz
          cases j' with
          | zero => simp at hz; subst hz; exact h
          | succ j' => exact h4 j' z (by omega) (by simpa using hz)
/-- Where a node stands: nowhere, or at its first place. -/
theorem nodeOf_cases (id : Int) (l : List S34) : (nodeOf l id = -1 ∧ ∀ x ∈ l, x.f0 ≠ id) ∨ ∃ (j : Nat) (x : S34), l[j]? = some x ∧ x.f0 = id ∧ nodeOf l id = (j : Int) ∧ ∀ (j' : Nat) (y : S34), j' < j → l[j']? = some y → y.f0 ≠ id := by
  have := nodeFrom_cases id l 0
  simpa [nodeOf] using this
theorem nodeOf_lt (id : Int) (l : List S34) : -1 ≤ nodeOf l id ∧ nodeOf l id < l.length := by
  rcases nodeOf_cases id l with ⟨h, _⟩ | ⟨j, x, h1, _, h, _⟩
  · omega
  · have := (List.getElem?_eq_some_iff.1 h1).1
    omega
theorem rdN_get (l : List S34) (i : Nat) (h : i < l.length) : l[i]? = some (rd_T34 l (i : Int)) := by
  rw [List.getElem?_eq_getElem h]
  congr 1
  exact (rdN_at (List.getElem?_eq_getElem h)).symm
theorem nodeOf_at (id : Int) (l : List S34) (h : 0 ≤ nodeOf l id) : (rd_T34 l (nodeOf l id)).f0 = id := by
  rcases nodeOf_cases id l with ⟨h', _⟩ | ⟨j, x, h1, h2, h3, _⟩
  · omega
  · rw [h3, rdN_at h1, h2]
theorem nodeOf_take (id : Int) (l : List S34) (i : Nat) (h : 0 ≤ nodeOf (l.take i) id) : nodeOf l id = nodeOf (l.take i) id ∧ nodeOf l id < i := by
  rcases nodeOf_cases id (l.take i) with ⟨h', _⟩ | ⟨j, x, h1, h2, h3, h4⟩
  · omega
  · have hj : j < i := by
      have := (List.getElem?_eq_some_iff.1 h1).1
      rw [List.length_take] at this
      omega
    rw [List.getElem?_take_of_lt hj] at h1
    rcases nodeOf_cases id l with ⟨_, h6⟩ | ⟨j2, x2, g1, g2, g3, g4⟩
    · exact absurd h2 (h6 x (List.mem_of_getElem? h1))
    · have e : j2 = j := by
        by_cases a : j2 < j
        · exact absurd g2 (h4 j2 x2 a (by rw [List.getElem?_take_of_lt (by omega)]; exact g1))
        · by_cases b : j < j2
          · exact absurd h2 (g4 j x b h1)
          · omega
      rw [g3, h3, e]
      omega
/-- What is known of a document. -/
structure Doc (l : List S34) : Prop where
  one : 1 ≤ l.length
  most : l.length ≤ 16
  root : (rd_T34 l 0).f0 = 0
  rootp : (rd_T34 l 0).f1 = -1
  ok : ∀ i : Nat, i < l.length → okN (rd_T34 l (i : Int)) = true
  ord : ∀ i : Nat, 0 < i → i < l.length → (rd_T34 l ((i - 1 : Nat) : Int)).f0 < (rd_T34 l (i : Int)).f0
  par : ∀ i : Nat, 0 < i → i < l.length → 0 ≤ nodeOf (l.take i) (rd_T34 l (i : Int)).f1
theorem isDoc_iff (l : List S34) : isDoc l = true ↔ Doc l := by
  unfold isDoc rootOk docAt
  simp only [Bool.and_eq_true, decide_eq_true_eq, List.all_eq_true, List.mem_range, Bool.or_eq_true]
  constructor
  · rintro ⟨⟨h1, h2⟩, ⟨h3, h4⟩, h5⟩
    exact ⟨h1, h2, h3, h4, fun i hi => (h5 i hi).1, fun i h0 hi => by
      rcases (h5 i hi).2 with e | e
      · omega
      · exact e.1, fun i h0 hi => by
      rcases (h5 i hi).2 with e | e
      · omega
      · exact e.2⟩
  · intro h
    refine ⟨⟨h.one, h.most⟩, ⟨h.root, h.rootp⟩, fun i hi => ⟨h.ok i hi, ?_⟩⟩
    by_cases h0 : i = 0
    · exact .inl h0
    · exact .inr ⟨h.ord i (by omega) hi, h.par i (by omega) hi⟩
theorem Doc.mono {l : List S34} (h : Doc l) : ∀ j i : Nat, i < j → j < l.length → (rd_T34 l (i : Int)).f0 < (rd_T34 l (j : Int)).f0 := by
  intro j
  induction j with
  | zero => intro i hi; omega
  | succ j ih =>
    intro i hi hj
    have h1 := h.ord (j + 1) (by omega) hj
    simp only [Nat.add_sub_cancel] at h1
    by_cases e : i = j
    · subst e; exact h1
    · have := ih i (by omega) (by omega)
      omega
theorem Doc.node {l : List S34} (h : Doc l) (i : Nat) (hi : i < l.length) : nodeOf l (rd_T34 l (i : Int)).f0 = (i : Int) := by
  rcases nodeOf_cases (rd_T34 l (i : Int)).f0 l with ⟨_, h6⟩ | ⟨j, x, g1, g2, g3, g4⟩
  · exact absurd rfl (h6 _ (List.mem_of_getElem? (rdN_get l i hi)))
  · have hj := (List.getElem?_eq_some_iff.1 g1).1
    have hx := rdN_at g1
    rw [← hx] at g2
    by_cases a : i < j
    · have := h.mono j i a hj; omega
    · by_cases b : j < i
      · have := h.mono i j b hi; omega
      · rw [g3]; omega
theorem Doc.ids {l : List S34} (h : Doc l) (i : Nat) (hi : i < l.length) : (i : Int) ≤ (rd_T34 l (i : Int)).f0 := by
  induction i with
  | zero =>
    have h0 : (rd_T34 l ((0 : Nat) : Int)).f0 = 0 := h.root
    omega
  | succ i ih =>
    have h1 := h.ord (i + 1) (by omega) hi
    simp only [Nat.add_sub_cancel] at h1
    have := ih (by omega)
    omega
/-- The parent of a node behind the root stands before it. -/
theorem Doc.up {l : List S34} (h : Doc l) (i : Nat) (h0 : 0 < i) (hi : i < l.length) : 0 ≤ nodeOf l (rd_T34 l (i : Int)).f1 ∧ nodeOf l (rd_T34 l (i : Int)).f1 < (i : Int) := by
  have h1 := h.par i h0 hi
  have := nodeOf_take _ l i h1
  omega
/-- Going up from a node, d steps at most: does one come to top? -/
def upTo (l : List S34) (top : Int) : Nat → Int → Bool
  | 0, id => decide (id = top)
  | d + 1, id => if id = top then true else if nodeOf l id ≤ 0 then false else upTo l top d (rd_T34 l (nodeOf l id)).f1
def isUnder (l : List S34) (id top : Int) : Bool := isDoc l && (decide (0 ≤ nodeOf l id) && (decide (0 ≤ nodeOf l top) && upTo l top l.length id))

/-- A document, told by what is in it. -/
structure Tree (l : List S34) : Prop where
  most : l.length ≤ 16
  root : ∃ (x : S34) (t : List S34), l = x :: t ∧ x.f0 = 0 ∧ x.f1 = -1
  ok : ∀ x ∈ l, okN x = true
  up : l.Pairwise (fun x y => x.f0 < y.f0)
  par : ∀ x ∈ l, x.f0 ≠ 0 → ∃ y ∈ l, y.f0 = x.f1 ∧ x.f1 < x.f0
theorem Tree.same {l : List S34} (h : l.Pairwise (fun x y => x.f0 < y.f0)) {x y : S34} (hx : x ∈ l) (hy : y ∈ l) (e : x.f0 = y.f0) : x = y := by
  induction l with
  | nil => cases hx
  | cons z t ih =>
    obtain ⟨h1, h2⟩ := List.pairwise_cons.1 h
    rcases List.mem_cons.1 hx with rfl | hx'
    · rcases List.mem_cons.1 hy with rfl | hy'
      · rfl
      · have := h1 y hy'
        omega
    · rcases List.mem_cons.1 hy with rfl | hy'
      · have := h1 x hx'
        omega
      · exact ih h2 hx' hy'
theorem nodeOf_mem (l : List S34) (id : Int) : 0 ≤ nodeOf l id ↔ ∃ x ∈ l, x.f0 = id := by
  rcases nodeOf_cases id l with ⟨h1, h2⟩ | ⟨j, x, h1, h2, h3, h4⟩
  · constructor
    · intro h
      omega
    · rintro ⟨x, hx, e⟩
      exact absurd e (h2 x hx)
  · constructor
    · intro _
      exact ⟨x, List.mem_of_getElem? h1, h2⟩
    · intro _
      omega
theorem nodeOf_neg (l : List S34) (id : Int) : nodeOf l id < 0 ↔ ∀ x ∈ l, x.f0 ≠ id := by
  have := nodeOf_mem l id
  constructor
  · intro h x hx e
    have := this.2 ⟨x, hx, e⟩
    omega
  · intro h
    by_cases g : 0 ≤ nodeOf l id
    · obtain ⟨x, hx, e⟩ := this.1 g
      exact absurd e (h x hx)
    · omega
theorem nodeOf_get (l : List S34) (id : Int) (h : 0 ≤ nodeOf l id) : rd_T34 l (nodeOf l id) ∈ l ∧ (rd_T34 l (nodeOf l id)).f0 = id := by
  have hr := nodeOf_lt id l
  obtain ⟨i, hi⟩ := Int.eq_ofNat_of_zero_le h
  refine ⟨?_, nodeOf_at id l h⟩
  rw [hi]
  exact List.mem_of_getElem? (rdN_get l i (by omega))
theorem Doc.tree {l : List S34} (h : Doc l) : Tree l := by
  have hup : l.Pairwise (fun x y => x.f0 < y.f0) := by
    rw [List.pairwise_iff_getElem]
    intro i j hi hj hij
    have e1 := rdN_at (List.getElem?_eq_getElem hi)
    have e2 := rdN_at (List.getElem?_eq_getElem hj)
    have := h.mono j i hij hj
    rw [e1, e2] at this
    exact this
  refine ⟨h.most, ?_, ?_, hup, ?_⟩
  · have h1 := h.one
    cases l with
    | nil => simp at h1
    | cons x t =>
      have e : rd_T34 (x :: t) 0 = x := rdN_at (i := 0) rfl
      refine ⟨x, t, rfl, ?_, ?_⟩
      · rw [← e]; exact h.root
      · rw [← e]; exact h.rootp
  · intro x hx
    obtain ⟨i, hi, rfl⟩ := List.mem_iff_getElem.1 hx
    rw [← rdN_at (List.getElem?_eq_getElem hi)]
    exact h.ok i hi
  · intro x hx h0
    obtain ⟨i, hi, rfl⟩ := List.mem_iff_getElem.1 hx
    have e := rdN_at (List.getElem?_eq_getElem hi)
    have hi0 : 0 < i := by
      by_cases g : i = 0
      · subst g
        have hr : (rd_T34 l ((0 : Nat) : Int)).f0 = 0 := h.root
        rw [e] at hr
        exact absurd hr h0
      · omega
    have hu := h.up i hi0 hi
    rw [e] at hu
    obtain ⟨hm, hf⟩ := nodeOf_get l _ hu.1
    refine ⟨_, hm, hf, ?_⟩
    obtain ⟨j, hj⟩ := Int.eq_ofNat_of_zero_le hu.1
    have := h.mono i j (by omega) hi
    rw [e, ← hj, hf] at this
    exact this
theorem Tree.doc {l : List S34} (h : Tree l) : Doc l := by
  obtain ⟨x, t, rfl, hx0, hx1⟩ := h.root
  have e0 : rd_T34 (x :: t) 0 = x := rdN_at (i := 0) rfl
  have hmono : ∀ j i : Nat, i < j → j < (x :: t).length → (rd_T34 (x :: t) (i : Int)).f0 < (rd_T34 (x :: t) (j : Int)).f0 := by
    intro j i hij hj
    rw [rdN_at (List.getElem?_eq_getElem (show i < (x :: t).length by omega)), rdN_at (List.getElem?_eq_getElem hj)]
    exact List.pairwise_iff_getElem.1 h.up i j (by omega) hj hij
  refine ⟨by simp, h.most, by rw [e0]; exact hx0, by rw [e0]; exact hx1, ?_, ?_, ?_⟩
  · intro i hi
    rw [rdN_at (List.getElem?_eq_getElem hi)]
    exact h.ok _ (List.getElem_mem hi)
  · intro i h0 hi
    exact hmono i (i - 1) (by omega) hi
  · intro i h0 hi
    have e := rdN_at (List.getElem?_eq_getElem hi)
    have hne : (rd_T34 (x :: t) (i : Int)).f0 ≠ 0 := by
      have := hmono i 0 h0 hi
      have e0' : rd_T34 (x :: t) ((0 : Nat) : Int) = x := e0
      rw [e0'] at this
      omega
    rw [e] at hne ⊢
    obtain ⟨y, hy, h1, h2⟩ := h.par _ (List.getElem_mem hi) hne
    obtain ⟨j, hj, rfl⟩ := List.mem_iff_getElem.1 hy
    have hji : j < i := by
      by_cases g : j < i
      · exact g
      · by_cases g2 : j = i
        · subst g2
          omega
        · have := hmono j i (by omega) hj
          rw [e, rdN_at (List.getElem?_eq_getElem hj)] at this
          omega
    refine (nodeOf_mem _ _).2 ⟨(x :: t)[j], ?_, h1⟩
    rw [List.mem_iff_getElem?]
    exact ⟨j, by rw [List.getElem?_take_of_lt hji, List.getElem?_eq_getElem hj]⟩
theorem doc_iff (l : List S34) : isDoc l = true ↔ Tree l := by
  rw [isDoc_iff]
  exact ⟨Doc.tree, Tree.doc⟩

def okEdit (a b c d e f : Int) : Bool := decide ((1 ≤ a ∧ a ≤ 4) ∧ (1 ≤ b ∧ b ≤ 99) ∧ (0 ≤ c ∧ c ≤ 99) ∧ (0 ≤ d ∧ d ≤ 9) ∧ (0 ≤ e ∧ e ≤ 999) ∧ (0 ≤ f ∧ f ≤ 5))

/-- Where a new node goes: behind those with a lower number. -/
def insAt (n : Int) : List S34 → Nat
  | [] => 0
  | x :: t => if x.f0 < n then insAt n t + 1 else 0
def insL (l : List S34) (x : S34) : List S34 := l.take (insAt x.f0 l) ++ (x :: l.drop (insAt x.f0 l))
def dropL (l : List S34) (n : Int) : List S34 := l.filter (fun x => !(isUnder l x.f0 n))
/-- Of a list of nodes those that are not under a node of a document. -/
def dropL' (l : List S34) (n : Int) (t : List S34) : List S34 := t.filter (fun x => !(isUnder l x.f0 n))
def textOf (x : S34) (r b : Int) : S34 := ⟨x.f0, x.f1, x.f2, r, b⟩
def moveOf (x : S34) (p b : Int) : S34 := ⟨x.f0, p, x.f2, x.f3, b⟩
def nodeAt (l : List S34) (n : Int) : S34 := rd_T34 l (nodeOf l n)
/-- What an edit makes of a document. -/
def applyL (l : List S34) (o n p q r b : Int) : List S34 × Bool :=
  if isDoc l = true ∧ okEdit o n p q r b = true then
    (if o = 1 then (if nodeOf l n ≥ 0 ∨ nodeOf l p < 0 ∨ p > n ∨ 16 ≤ l.length then (l, false) else (insL l ⟨n, p, q, r, b⟩, true))
     else if o = 2 then (if nodeOf l n < 0 then (l, false) else (dropL l n, true))
     else if nodeOf l n < 0 then (l, false)
     else if o = 3 then (l.set (nodeOf l n).toNat (textOf (nodeAt l n) r b), true)
     else if nodeOf l p < 0 ∨ p ≥ n then (l, false)
     else (l.set (nodeOf l n).toNat (moveOf (nodeAt l n) p b), true))
  else (l, false)
theorem insAt_le (n : Int) (l : List S34) : insAt n l ≤ l.length := by
  induction l with
  | nil => exact Nat.zero_le _
  | cons x t ih =>
    unfold insAt
    split
    · simp; omega
    · exact Nat.zero_le _
theorem insL_len (l : List S34) (x : S34) : (insL l x).length = l.length + 1 := by
  unfold insL
  have := insAt_le x.f0 l
  simp
  omega
theorem dropL_len (l : List S34) (n : Int) : (dropL l n).length ≤ l.length := List.length_filter_le _ _
theorem isDoc_most {l : List S34} (h : isDoc l = true) : 1 ≤ l.length ∧ l.length ≤ 16 := ⟨((isDoc_iff l).1 h).one, ((isDoc_iff l).1 h).most⟩
theorem applyL_len (l : List S34) (o n p q r b : Int) : (applyL l o n p q r b).1.length ≤ l.length ∨ (applyL l o n p q r b).1.length ≤ 16 := by
  unfold applyL
  split
  · rename_i h
    have hm := isDoc_most h.1
    repeat' split
    all_goals first
      | exact .inl (Nat.le_refl _)
      | (right; simp only [insL_len]; omega)
      | (left; simp only [List.length_set]; omega)
      | (left; exact dropL_len _ _)
  · exact .inl (Nat.le_refl _)
theorem mem_insL (l : List S34) (x y : S34) : y ∈ insL l x ↔ y = x ∨ y ∈ l := by
  have h : ∀ z, z ∈ l ↔ z ∈ l.take (insAt x.f0 l) ∨ z ∈ l.drop (insAt x.f0 l) := by
    intro z
    conv => lhs; rw [← List.take_append_drop (insAt x.f0 l) l]
    exact List.mem_append
  unfold insL
  rw [List.mem_append, List.mem_cons, h y]
  constructor
  · rintro (h | h | h)
    · exact .inr (.inl h)
    · exact .inl h
    · exact .inr (.inr h)
  · rintro (h | h | h)
    · exact .inr (.inl h)
    · exact .inl h
    · exact .inr (.inr h)
theorem insL_nil (x : S34) : insL [] x = [x] := rfl
theorem insL_cons (y x : S34) (t : List S34) : insL (y :: t) x = if y.f0 < x.f0 then y :: insL t x else x :: y :: t := by
  unfold insL
  by_cases h : y.f0 < x.f0
  · rw [if_pos h, insAt, if_pos h]
    rfl
  · rw [if_neg h, insAt, if_neg h]
    rfl
theorem insL_up (l : List S34) (x : S34) (h : l.Pairwise (fun x y => x.f0 < y.f0)) (hn : ∀ y ∈ l, y.f0 ≠ x.f0) : (insL l x).Pairwise (fun x y => x.f0 < y.f0) := by
  induction l with
  | nil => rw [insL_nil]; exact List.pairwise_singleton _ _
  | cons y t ih =>
    obtain ⟨h1, h2⟩ := List.pairwise_cons.1 h
    have hy := hn y List.mem_cons_self
    rw [insL_cons]
    split
    · rename_i g
      refine List.pairwise_cons.2 ⟨fun z hz => ?_, ih h2 (fun z hz => hn z (List.mem_cons_of_mem _ hz))⟩
      rcases (mem_insL t x z).1 hz with rfl | hz
      · exact g
      · exact h1 z hz
    · rename_i g
      refine List.pairwise_cons.2 ⟨fun z hz => ?_, h⟩
      rcases List.mem_cons.1 hz with rfl | hz
      · omega
      · have := h1 z hz
        omega
/-- Writing at a node's place is writing at each node of its number. -/
theorem set_map (l : List S34) (h : l.Pairwise (fun x y => x.f0 < y.f0)) (n : Int) (hn : 0 ≤ nodeOf l n) (f : S34 → S34) : l.set (nodeOf l n).toNat (f (nodeAt l n)) = l.map (fun x => if x.f0 = n then f x else x) := by
  have hr := nodeOf_lt n l
  obtain ⟨i, hi⟩ := Int.eq_ofNat_of_zero_le hn
  have hg := nodeOf_get l n hn
  have hlt : i < l.length := by omega
  unfold nodeAt
  rw [hi] at hg ⊢
  have e := rdN_at (List.getElem?_eq_getElem hlt)
  rw [e] at hg ⊢
  apply List.ext_getElem?
  intro j
  rw [Int.toNat_natCast, List.getElem?_map]
  by_cases hj : j = i
  · subst hj
    rw [List.getElem?_set_self hlt, List.getElem?_eq_getElem hlt]
    simp only [Option.map_some, if_pos hg.2]
  · rw [List.getElem?_set_ne (by omega)]
    by_cases hjl : j < l.length
    · rw [List.getElem?_eq_getElem hjl]
      have hne : l[j].f0 ≠ n := by
        intro e2
        have hpw := List.pairwise_iff_getElem.1 h
        rcases Nat.lt_or_ge j i with g | g
        · have := hpw j i hjl hlt g
          omega
        · have := hpw i j hlt hjl (by omega)
          omega
      simp only [Option.map_some, if_neg hne]
    · rw [List.getElem?_eq_none (by omega)]
      rfl
/-- Going up, enough steps given, comes to the same whatever is given beyond. -/
theorem upTo_step (l : List S34) (h : Doc l) (top : Int) : ∀ (d d' : Nat) (id : Int), nodeOf l id ≤ d → nodeOf l id ≤ d' → upTo l top d id = upTo l top d' id := by
  intro d
  induction d with
  | zero =>
    intro d' id h1 h2
    cases d' with
    | zero => rfl
    | succ d' =>
      unfold upTo
      by_cases e : id = top
      · simp [e]
      · rw [if_neg e, if_pos (by omega)]
        simp [e]
  | succ d ih =>
    intro d' id h1 h2
    cases d' with
    | zero =>
      unfold upTo
      by_cases e : id = top
      · simp [e]
      · rw [if_neg e, if_pos (by omega)]
        simp [e]
    | succ d' =>
      unfold upTo
      by_cases e : id = top
      · simp [e]
      · rw [if_neg e, if_neg e]
        by_cases g : nodeOf l id ≤ 0
        · rw [if_pos g, if_pos g]
        · rw [if_neg g, if_neg g]
          have hr := nodeOf_lt id l
          obtain ⟨i, hi⟩ := Int.eq_ofNat_of_zero_le (show 0 ≤ nodeOf l id by omega)
          have hu := h.up i (by omega) (by omega)
          rw [hi]
          exact ih d' _ (by omega) (by omega)
/-- A node is under another if it is that node, or its parent is under it. -/
theorem under_up (l : List S34) (h : Doc l) (top : Int) (ht : 0 ≤ nodeOf l top) (x : S34) (hx : x ∈ l) (h0 : x.f0 ≠ 0) : isUnder l x.f0 top = (decide (x.f0 = top) || isUnder l x.f1 top) := by
  have hd := (isDoc_iff l).2 h
  have ht' := h.tree
  have hxn : 0 ≤ nodeOf l x.f0 := (nodeOf_mem l _).2 ⟨x, hx, rfl⟩
  obtain ⟨y, hy, hy1, hy2⟩ := ht'.par x hx h0
  have hyn : 0 ≤ nodeOf l x.f1 := (nodeOf_mem l _).2 ⟨y, hy, hy1⟩
  have hgx := nodeOf_get l x.f0 hxn
  have ex := Tree.same ht'.up hgx.1 hx hgx.2
  have hr := nodeOf_lt x.f0 l
  have hry := nodeOf_lt x.f1 l
  unfold isUnder
  rw [hd, decide_eq_true hxn, decide_eq_true ht, decide_eq_true hyn]
  simp only [Bool.true_and]
  have hlen : ∃ m, l.length = m + 1 := ⟨l.length - 1, by have := h.one; omega⟩
  obtain ⟨m, hm⟩ := hlen
  have hpos : ¬ nodeOf l x.f0 ≤ 0 := by
    intro g
    have hz : nodeOf l x.f0 = 0 := by omega
    have := h.root
    rw [hz] at ex
    rw [ex] at this
    exact h0 this
  have hlt : nodeOf l x.f1 < nodeOf l x.f0 := by
    obtain ⟨i, hi⟩ := Int.eq_ofNat_of_zero_le hxn
    have hu := h.up i (by omega) (by omega)
    rw [hi] at ex
    rw [ex] at hu
    omega
  conv => lhs; rw [hm, upTo]
  by_cases e : x.f0 = top
  · simp [e]
  · rw [if_neg e, if_neg hpos, ex, decide_eq_false e, Bool.false_or]
    exact upTo_step l h top _ _ _ (by omega) (by omega)
theorem under_root (l : List S34) (h : Doc l) (top : Int) (ht : top ≠ 0) : isUnder l 0 top = false := by
  have hz : nodeOf l 0 ≤ 0 := by
    have h1 := h.root
    have := h.node 0 h.one
    have h2 : (rd_T34 l ((0 : Nat) : Int)).f0 = 0 := h1
    rw [h2] at this
    omega
  unfold isUnder
  have hlen : ∃ m, l.length = m + 1 := ⟨l.length - 1, by have := h.one; omega⟩
  obtain ⟨m, hm⟩ := hlen
  rw [hm, upTo, if_neg (by omega), if_pos hz]
  simp
theorem under_self (l : List S34) (h : Doc l) (id : Int) (hn : 0 ≤ nodeOf l id) : isUnder l id id = true := by
  unfold isUnder
  have hlen : ∃ m, l.length = m + 1 := ⟨l.length - 1, by have := h.one; omega⟩
  obtain ⟨m, hm⟩ := hlen
  rw [(isDoc_iff l).2 h, decide_eq_true hn, hm, upTo, if_pos rfl]
  rfl

theorem applyL_no (l : List S34) (o n p q r b : Int) (h : (applyL l o n p q r b).2 = false) : (applyL l o n p q r b).1 = l := by
  unfold applyL at h ⊢
  split
  · rename_i g
    rw [if_pos g] at h
    repeat' split
    all_goals first
      | rfl
      | (exfalso; revert h; simp only [*, if_true, if_false, Bool.true_eq_false, false_implies, not_false_eq_true, not_true, ite_true, ite_false, reduceCtorEq]; done)
      | (exfalso; simp_all; done)
  · rfl
/-- What an edit that is carried out makes. -/
theorem applyL_yes (l : List S34) (o n p q r b : Int) (h : (applyL l o n p q r b).2 = true) : isDoc l = true ∧ okEdit o n p q r b = true ∧
    ((o = 1 ∧ nodeOf l n < 0 ∧ 0 ≤ nodeOf l p ∧ p ≤ n ∧ l.length < 16 ∧ (applyL l o n p q r b).1 = insL l ⟨n, p, q, r, b⟩) ∨
      (o = 2 ∧ 0 ≤ nodeOf l n ∧ (applyL l o n p q r b).1 = dropL l n) ∨
      (o = 3 ∧ 0 ≤ nodeOf l n ∧ (applyL l o n p q r b).1 = l.map (fun x => if x.f0 = n then textOf x r b else x)) ∨
      (o = 4 ∧ 0 ≤ nodeOf l n ∧ 0 ≤ nodeOf l p ∧ p < n ∧ (applyL l o n p q r b).1 = l.map (fun x => if x.f0 = n then moveOf x p b else x))) := by
  unfold applyL at h ⊢
  by_cases g : isDoc l = true ∧ okEdit o n p q r b = true
  · rw [if_pos g] at h ⊢
    refine ⟨g.1, g.2, ?_⟩
    have hup := ((doc_iff l).1 g.1).up
    have hk : 1 ≤ o ∧ o ≤ 4 := by
      have := g.2
      unfold okEdit at this
      exact (of_decide_eq_true this).1
    by_cases h1 : o = 1
    · rw [if_pos h1] at h ⊢
      by_cases h2 : nodeOf l n ≥ 0 ∨ nodeOf l p < 0 ∨ p > n ∨ 16 ≤ l.length
      · rw [if_pos h2] at h
        cases h
      · rw [if_neg h2] at h ⊢
        exact .inl ⟨h1, by omega, by omega, by omega, by omega, rfl⟩
    · rw [if_neg h1] at h ⊢
      by_cases h2 : o = 2
      · rw [if_pos h2] at h ⊢
        by_cases h3 : nodeOf l n < 0
        · rw [if_pos h3] at h
          cases h
        · rw [if_neg h3] at h ⊢
          exact .inr (.inl ⟨h2, by omega, rfl⟩)
      · rw [if_neg h2] at h ⊢
        by_cases h3 : nodeOf l n < 0
        · rw [if_pos h3] at h
          cases h
        · rw [if_neg h3] at h ⊢
          by_cases h4 : o = 3
          · rw [if_pos h4] at h ⊢
            refine .inr (.inr (.inl ⟨h4, by omega, ?_⟩))
            exact set_map l hup n (by omega) (fun x => textOf x r b)
          · rw [if_neg h4] at h ⊢
            by_cases h5 : nodeOf l p < 0 ∨ p ≥ n
            · rw [if_pos h5] at h
              cases h
            · rw [if_neg h5] at h ⊢
              refine .inr (.inr (.inr ⟨by omega, by omega, by omega, by omega, ?_⟩))
              exact set_map l hup n (by omega) (fun x => moveOf x p b)
  · rw [if_neg g] at h
    cases h
theorem tree_map (l : List S34) (h : Tree l) (f : S34 → S34) (hid : ∀ x, (f x).f0 = x.f0) (hok : ∀ x ∈ l, okN (f x) = true) (hroot : ∀ x, x.f0 = 0 → f x = x)
    (hpar : ∀ x ∈ l, x.f0 ≠ 0 → (f x).f1 = x.f1 ∨ (∃ y ∈ l, y.f0 = (f x).f1 ∧ (f x).f1 < x.f0)) : Tree (l.map f) := by
  obtain ⟨x, t, rfl, hx0, hx1⟩ := h.root
  refine ⟨by rw [List.length_map]; exact h.most, ⟨f x, t.map f, rfl, by rw [hid]; exact hx0, by rw [hroot x hx0]; exact hx1⟩, ?_, ?_, ?_⟩
  · intro y hy
    obtain ⟨z, hz, rfl⟩ := List.mem_map.1 hy
    exact hok z hz
  · refine List.pairwise_map.2 (h.up.imp ?_)
    intro a c hac
    rw [hid, hid]
    exact hac
  · intro y hy h0
    obtain ⟨z, hz, rfl⟩ := List.mem_map.1 hy
    rw [hid] at h0 ⊢
    rcases hpar z hz h0 with e | ⟨u, hu, e1, e2⟩
    · obtain ⟨u, hu, e1, e2⟩ := h.par z hz h0
      exact ⟨f u, List.mem_map_of_mem hu, by rw [hid, e, e1], by rw [e]; exact e2⟩
    · exact ⟨f u, List.mem_map_of_mem hu, by rw [hid, e1], e2⟩
theorem okN_iff (x : S34) : okN x = true ↔ (0 ≤ x.f2 ∧ x.f2 ≤ 9) ∧ (0 ≤ x.f3 ∧ x.f3 ≤ 999) ∧ (0 ≤ x.f4 ∧ x.f4 ≤ 5) := by
  unfold okN
  exact decide_eq_true_iff
theorem applyL_tree (l : List S34) (o n p q r b : Int) (h : (applyL l o n p q r b).2 = true) : Tree (applyL l o n p q r b).1 := by
  obtain ⟨hd, hk, hc⟩ := applyL_yes l o n p q r b h
  have ht := (doc_iff l).1 hd
  have hD := (isDoc_iff l).1 hd
  unfold okEdit at hk
  replace hk := of_decide_eq_true hk
  rcases hc with ⟨rfl, hn, hp, hpn, hl, e⟩ | ⟨rfl, hn, e⟩ | ⟨rfl, hn, e⟩ | ⟨rfl, hn, hp, hpn, e⟩
  · rw [e]
    have hnot := (nodeOf_neg l n).1 hn
    obtain ⟨y, hy, hyp⟩ := (nodeOf_mem l p).1 hp
    obtain ⟨x, t, hxt, hx0, hx1⟩ := ht.root
    refine ⟨by rw [insL_len]; omega, ?_, ?_, insL_up l _ ht.up hnot, ?_⟩
    · subst hxt
      refine ⟨x, insL t ⟨n, p, q, r, b⟩, ?_, hx0, hx1⟩
      rw [insL_cons, if_pos (by rw [hx0]; show 0 < n; omega)]
    · intro z hz
      rcases (mem_insL l _ z).1 hz with rfl | hz
      · exact (okN_iff _).2 ⟨by simp only; omega, by simp only; omega, by simp only; omega⟩
      · exact ht.ok z hz
    · intro z hz h0
      rcases (mem_insL l _ z).1 hz with rfl | hz
      · refine ⟨y, (mem_insL l _ y).2 (.inr hy), hyp, ?_⟩
        have := hnot y hy
        simp only
        omega
      · obtain ⟨u, hu, e1, e2⟩ := ht.par z hz h0
        exact ⟨u, (mem_insL l _ u).2 (.inr hu), e1, e2⟩
  · rw [e]
    obtain ⟨x, t, hxt, hx0, hx1⟩ := ht.root
    have hsub : ∀ z, z ∈ dropL l n ↔ z ∈ l ∧ isUnder l z.f0 n = false := by
      intro z
      unfold dropL
      rw [List.mem_filter, Bool.not_eq_true']
    refine ⟨Nat.le_trans (dropL_len l n) ht.most, ?_, fun z hz => ht.ok z ((hsub z).1 hz).1, ht.up.filter _, ?_⟩
    · refine ⟨x, t.filter (fun x => !(isUnder l x.f0 n)), ?_, hx0, hx1⟩
      unfold dropL
      conv => lhs; arg 2; rw [hxt]
      rw [List.filter_cons_of_pos]
      rw [hx0, under_root l hD n (by omega)]
      rfl
    · intro z hz h0
      obtain ⟨hz1, hz2⟩ := (hsub z).1 hz
      obtain ⟨u, hu, e1, e2⟩ := ht.par z hz1 h0
      refine ⟨u, (hsub u).2 ⟨hu, ?_⟩, e1, e2⟩
      rw [under_up l hD n hn z hz1 h0] at hz2
      rw [e1]
      exact (Bool.or_eq_false_iff.1 hz2).2
  · rw [e]
    refine tree_map l ht _ ?_ ?_ ?_ ?_
    · intro x
      split <;> rfl
    · intro x hx
      have := (okN_iff x).1 (ht.ok x hx)
      split
      · exact (okN_iff _).2 ⟨this.1, by simp only [textOf]; omega, by simp only [textOf]; omega⟩
      · exact ht.ok x hx
    · intro x hx0
      rw [if_neg (by omega)]
    · intro x hx h0
      split <;> exact .inl rfl
  · rw [e]
    obtain ⟨y, hy, hyp⟩ := (nodeOf_mem l p).1 hp
    refine tree_map l ht _ ?_ ?_ ?_ ?_
    · intro x
      split <;> rfl
    · intro x hx
      have := (okN_iff x).1 (ht.ok x hx)
      split
      · exact (okN_iff _).2 ⟨this.1, this.2.1, by simp only [moveOf]; omega⟩
      · exact ht.ok x hx
    · intro x hx0
      rw [if_neg (by omega)]
    · intro x hx h0
      split
      · rename_i g
        exact .inr ⟨y, hy, hyp, by rw [g]; exact hpn⟩
      · exact .inl rfl
theorem applyL_doc (l : List S34) (o n p q r b : Int) : isDoc (applyL l o n p q r b).1 = isDoc l := by
  cases h : (applyL l o n p q r b).2 with
  | false => rw [applyL_no _ _ _ _ _ _ _ h]
  | true =>
    rw [(applyL_yes _ _ _ _ _ _ _ h).1]
    exact (doc_iff _).2 (applyL_tree _ _ _ _ _ _ _ h)
/-- What is there behind an edit was there, or is its node with its author. -/
theorem applyL_new (l : List S34) (o n p q r b : Int) (y : S34) (hy : y ∈ (applyL l o n p q r b).1) : y ∈ l ∨ (y.f0 = n ∧ y.f4 = b ∧ (applyL l o n p q r b).2 = true) := by
  cases h : (applyL l o n p q r b).2 with
  | false =>
    rw [applyL_no _ _ _ _ _ _ _ h] at hy
    exact .inl hy
  | true =>
    obtain ⟨hd, hk, hc⟩ := applyL_yes l o n p q r b h
    rcases hc with ⟨rfl, hn, hp, hpn, hl, e⟩ | ⟨rfl, hn, e⟩ | ⟨rfl, hn, e⟩ | ⟨rfl, hn, hp, hpn, e⟩
    · rw [e] at hy
      rcases (mem_insL l _ y).1 hy with rfl | hy
      · exact .inr ⟨rfl, rfl, rfl⟩
      · exact .inl hy
    · rw [e] at hy
      exact .inl (List.mem_filter.1 hy).1
    · rw [e] at hy
      obtain ⟨z, hz, rfl⟩ := List.mem_map.1 hy
      split
      · rename_i g
        exact .inr ⟨g, rfl, rfl⟩
      · exact .inl hz
    · rw [e] at hy
      obtain ⟨z, hz, rfl⟩ := List.mem_map.1 hy
      split
      · rename_i g
        exact .inr ⟨g, rfl, rfl⟩
      · exact .inl hz
/-- What was there and is not the edit's node is there still, or was dropped with it. -/
theorem applyL_old (l : List S34) (o n p q r b : Int) (h : (applyL l o n p q r b).2 = true) (y : S34) (hy : y ∈ l) (hne : y.f0 ≠ n) :
    y ∈ (applyL l o n p q r b).1 ∨ (o = 2 ∧ isUnder l y.f0 n = true ∧ ∀ z ∈ (applyL l o n p q r b).1, z.f0 ≠ y.f0) := by
  obtain ⟨hd, hk, hc⟩ := applyL_yes l o n p q r b h
  have ht := (doc_iff l).1 hd
  rcases hc with ⟨rfl, hn, hp, hpn, hl, e⟩ | ⟨rfl, hn, e⟩ | ⟨rfl, hn, e⟩ | ⟨rfl, hn, hp, hpn, e⟩
  · rw [e]
    exact .inl ((mem_insL l _ y).2 (.inr hy))
  · rw [e]
    cases hu : isUnder l y.f0 n with
    | false => exact .inl (List.mem_filter.2 ⟨hy, by rw [hu]; rfl⟩)
    | true =>
      refine .inr ⟨rfl, rfl, fun z hz e2 => ?_⟩
      obtain ⟨hz1, hz2⟩ := List.mem_filter.1 hz
      rw [e2, hu] at hz2
      cases hz2
  · rw [e]
    refine .inl (List.mem_map.2 ⟨y, hy, ?_⟩)
    rw [if_neg hne]
  · rw [e]
    refine .inl (List.mem_map.2 ⟨y, hy, ?_⟩)
    rw [if_neg hne]
/-- The edit's own node: gone, or its author's. -/
theorem applyL_own (l : List S34) (o n p q r b : Int) (h : (applyL l o n p q r b).2 = true) :
    (o = 2 ∧ ∀ z ∈ (applyL l o n p q r b).1, z.f0 ≠ n) ∨ (o ≠ 2 ∧ ∃ z ∈ (applyL l o n p q r b).1, z.f0 = n ∧ z.f4 = b ∧ (o = 3 → z.f3 = r)) := by
  obtain ⟨hd, hk, hc⟩ := applyL_yes l o n p q r b h
  have hD := (isDoc_iff l).1 hd
  rcases hc with ⟨rfl, hn, hp, hpn, hl, e⟩ | ⟨rfl, hn, e⟩ | ⟨rfl, hn, e⟩ | ⟨rfl, hn, hp, hpn, e⟩
  · rw [e]
    exact .inr ⟨by omega, _, (mem_insL l _ _).2 (.inl rfl), rfl, rfl, by omega⟩
  · rw [e]
    refine .inl ⟨rfl, fun z hz e2 => ?_⟩
    obtain ⟨hz1, hz2⟩ := List.mem_filter.1 hz
    rw [e2, under_self l hD n hn] at hz2
    cases hz2
  · rw [e]
    obtain ⟨x, hx, hxn⟩ := (nodeOf_mem l n).1 hn
    exact .inr ⟨by omega, _, List.mem_map.2 ⟨x, hx, rfl⟩, by rw [if_pos hxn]; exact hxn, by rw [if_pos hxn]; rfl, fun _ => by rw [if_pos hxn]; rfl⟩
  · rw [e]
    obtain ⟨x, hx, hxn⟩ := (nodeOf_mem l n).1 hn
    exact .inr ⟨by omega, _, List.mem_map.2 ⟨x, hx, rfl⟩, by rw [if_pos hxn]; exact hxn, by rw [if_pos hxn]; rfl, by omega⟩
/-- Where a node of a document stands. -/
theorem node_at (l : List S34) (h : l.Pairwise (fun x y => x.f0 < y.f0)) (x : S34) (hx : x ∈ l) : 0 ≤ nodeOf l x.f0 ∧ nodeOf l x.f0 < l.length ∧ nodeAt l x.f0 = x := by
  have hn : 0 ≤ nodeOf l x.f0 := (nodeOf_mem l _).2 ⟨x, hx, rfl⟩
  have hg := nodeOf_get l x.f0 hn
  exact ⟨hn, (nodeOf_lt x.f0 l).2, Tree.same h hg.1 hx hg.2⟩

/-- What a list of edits makes of a document. -/
def runL (a : List S34) (es : List S40) : List S34 := es.foldl (fun a x => (applyL a x.f0 x.f1 x.f2 x.f3 x.f4 x.f5).1) a
theorem runL_cons (a : List S34) (x : S40) (t : List S40) : runL a (x :: t) = runL (applyL a x.f0 x.f1 x.f2 x.f3 x.f4 x.f5).1 t := rfl
theorem runL_len (es : List S40) : ∀ (a : List S34) (m : Nat), a.length ≤ m → 16 ≤ m → (runL a es).length ≤ m := by
  induction es with
  | nil => intro a m h _; exact h
  | cons x t ih =>
    intro a m h h16
    rw [runL_cons]
    have := applyL_len a x.f0 x.f1 x.f2 x.f3 x.f4 x.f5
    exact ih _ m (by omega) h16

theorem inR (a b c : Int) : impl_InRange.f a b c = some (decide (b ≤ a ∧ a ≤ c)) := by
  unfold impl_InRange.f
  by_cases h : b ≤ a
  · rw [if_pos h]
    simp [h]
  · rw [if_neg h]
    simp [h]

theorem isEditI (a b c d e f : Int) : impl_IsEdit.f a b c d e f = some (okEdit a b c d e f) := by
  unfold impl_IsEdit.f okEdit
  simp only [inR, Option.bind_some]
  by_cases h1 : 1 ≤ a ∧ a ≤ 4
  · by_cases h2 : 1 ≤ b ∧ b ≤ 99
    · by_cases h3 : 0 ≤ c ∧ c ≤ 99
      · by_cases h4 : 0 ≤ d ∧ d ≤ 9
        · by_cases h5 : 0 ≤ e ∧ e ≤ 999
          · simp only [h1, h2, h3, h4, h5, and_self, decide_true, if_true, true_and]
          · simp only [h1, h2, h3, h4, h5, and_self, decide_true, if_true, decide_false, Bool.false_eq_true, if_false, false_and, and_false]
        · simp only [h1, h2, h3, h4, and_self, decide_true, if_true, decide_false, Bool.false_eq_true, if_false, false_and, and_false]
      · simp only [h1, h2, h3, and_self, decide_true, if_true, decide_false, Bool.false_eq_true, if_false, false_and, and_false]
    · simp only [h1, h2, and_self, decide_true, if_true, decide_false, Bool.false_eq_true, if_false, false_and, and_false]
  · simp only [h1, decide_false, Bool.false_eq_true, if_false, false_and]
theorem insAt_get (n : Int) (l : List S34) : (∀ (i : Nat) (x : S34), i < insAt n l → l[i]? = some x → x.f0 < n) ∧ (∀ x : S34, l[insAt n l]? = some x → ¬ x.f0 < n) := by
  induction l with
  | nil => exact ⟨fun i x h => by simp [insAt] at h, fun x h => by simp at h⟩
  | cons y t ih =>
    by_cases h : y.f0 < n
    · have e : insAt n (y :: t) = insAt n t + 1 := by rw [insAt, if_pos h]
      rw [e]
      refine ⟨fun i x hi hx => ?_, fun x hx => ?_⟩
      · cases i with
        | zero => simp at hx; subst hx; exact h
        | succ i => exact ih.1 i x (by omega) (by simpa using hx)
      · exact ih.2 x (by simpa using hx)
    · have e : insAt n (y :: t) = 0 := by rw [insAt, if_neg h]
      rw [e]
      exact ⟨fun i x hi => by omega, fun x hx => by simp at hx; subst hx; exact h⟩
theorem set_text (l : List S34) (k : Nat) (hk : k < l.length) (r b : Int) :
    ((l.set k ⟨(rd_T34 l (k : Int)).f0, (rd_T34 l (k : Int)).f1, (rd_T34 l (k : Int)).f2, r, (rd_T34 l (k : Int)).f4⟩).set k
      ⟨(rd_T34 (l.set k ⟨(rd_T34 l (k : Int)).f0, (rd_T34 l (k : Int)).f1, (rd_T34 l (k : Int)).f2, r, (rd_T34 l (k : Int)).f4⟩) (k : Int)).f0, (rd_T34 (l.set k ⟨(rd_T34 l (k : Int)).f0, (rd_T34 l (k : Int)).f1, (rd_T34 l (k : Int)).f2, r, (rd_T34 l (k : Int)).f4⟩) (k : Int)).f1, (rd_T34 (l.set k ⟨(rd_T34 l (k : Int)).f0, (rd_T34 l (k : Int)).f1, (rd_T34 l (k : Int)).f2, r, (rd_T34 l (k : Int)).f4⟩) (k : Int)).f2, (rd_T34 (l.set k ⟨(rd_T34 l (k : Int)).f0, (rd_T34 l (k : Int)).f1, (rd_T34 l (k : Int)).f2, r, (rd_T34 l (k : Int)).f4⟩) (k : Int)).f3, b⟩) = l.set k (textOf (rd_T34 l (k : Int)) r b) := by
  have rs : ∀ (x : S34), rd_T34 (l.set k x) (k : Int) = x := fun x => rdN_at (List.getElem?_set_self hk)
  rw [rs, List.set_set]
  rfl
theorem set_move (l : List S34) (k : Nat) (hk : k < l.length) (p b : Int) :
    ((l.set k ⟨(rd_T34 l (k : Int)).f0, p, (rd_T34 l (k : Int)).f2, (rd_T34 l (k : Int)).f3, (rd_T34 l (k : Int)).f4⟩).set k
      ⟨(rd_T34 (l.set k ⟨(rd_T34 l (k : Int)).f0, p, (rd_T34 l (k : Int)).f2, (rd_T34 l (k : Int)).f3, (rd_T34 l (k : Int)).f4⟩) (k : Int)).f0, (rd_T34 (l.set k ⟨(rd_T34 l (k : Int)).f0, p, (rd_T34 l (k : Int)).f2, (rd_T34 l (k : Int)).f3, (rd_T34 l (k : Int)).f4⟩) (k : Int)).f1, (rd_T34 (l.set k ⟨(rd_T34 l (k : Int)).f0, p, (rd_T34 l (k : Int)).f2, (rd_T34 l (k : Int)).f3, (rd_T34 l (k : Int)).f4⟩) (k : Int)).f2, (rd_T34 (l.set k ⟨(rd_T34 l (k : Int)).f0, p, (rd_T34 l (k : Int)).f2, (rd_T34 l (k : Int)).f3, (rd_T34 l (k : Int)).f4⟩) (k : Int)).f3, b⟩) = l.set k (moveOf (rd_T34 l (k : Int)) p b) := by
  have rs : ∀ (x : S34), rd_T34 (l.set k x) (k : Int) = x := fun x => rdN_at (List.getElem?_set_self hk)
  rw [rs, List.set_set]
  rfl
theorem okI_chain (x : S34) {f : Nat → Bool → Option Bool} {r : Bool} (h : Ev (fun k => f k (!okN x)) r) :
    Ev (fun k => (impl_InRange.f x.f2 0 9).bind fun t => if t = true then ((impl_InRange.f x.f3 0 999).bind fun t => if t = true then ((impl_InRange.f x.f4 0 5).bind fun t => f k (!t)) else f k true) else f k true) r := by
  unfold okN at h
  refine Ev.pure (inR _ _ _) ?_
  by_cases a1 : 0 ≤ x.f2 ∧ x.f2 ≤ 9
  · refine Ev.yes (by simpa using a1) (Ev.pure (inR _ _ _) ?_)
    by_cases a2 : 0 ≤ x.f3 ∧ x.f3 ≤ 999
    · refine Ev.yes (by simpa using a2) (Ev.pure (inR _ _ _) ?_)
      simpa only [a1, a2, and_self, true_and] using h
    · refine Ev.no (by simp only [a2, decide_false]; decide) ?_
      simpa only [a2, and_false, false_and, decide_false, Bool.not_false] using h
  · refine Ev.no (by simp only [a1, decide_false]; decide) ?_
    simpa only [a1, false_and, decide_false, Bool.not_false] using h
/-- A node of a document, the root's own test with it. -/
def docAtI (l : List S34) (i : Nat) : Bool := docAt l i && (!decide (i = 0) || rootOk l)
theorem implDoc_at (l : List S34) (i : Nat) (hi : i < l.length) (hl : l.length ≤ 9223372036854775807) {r : Bool} (h : docAtI l i = true → Ev (fun k => impl_IsDocument.l0 k l l (l.length : Int) ((i + 1 : Nat) : Int)) r) (h' : docAtI l i = false → r = false) : Ev (fun k => impl_IsDocument.l0 k l l (l.length : Int) (i : Int)) r := by
  unfold docAtI docAt rootOk at h h'
  refine Ev.step (fun k => by rw [impl_IsDocument.l0]) ?_
  refine Ev.yes (ltc hi) (Ev.yes (nnc _) (Ev.yes (ltc hi) ?_))
  refine okI_chain (rd_T34 l (i : Int)) (f := fun k b => impl_IsDocument.j2 k l (i : Int) l (l.length : Int) (i : Int) b (rd_T34 l (i : Int)).f0 (rd_T34 l (i : Int)).f1 (rd_T34 l (i : Int)).f2 (rd_T34 l (i : Int)).f3 (rd_T34 l (i : Int)).f4) ?_
  refine Ev.step (fun k => by rw [impl_IsDocument.j2]) ?_
  cases hok : okN (rd_T34 l (i : Int)) with
  | false =>
    rw [hok] at h'
    exact Ev.yes rfl (Ev.is (Ev.now _) (h' (by simp)).symm)
  | true =>
    rw [hok] at h h'
    refine Ev.no (by simp) ?_
    rw [w64s hi hl]
    by_cases h0 : i = 0
    · subst h0
      refine Ev.yes rfl ?_
      by_cases h2 : (rd_T34 l ((0 : Nat) : Int)).f0 = 0
      · refine Ev.yes h2 ?_
        by_cases h3 : (rd_T34 l ((0 : Nat) : Int)).f1 = -1
        · refine Ev.yes h3 (h ?_)
          have h2' : (rd_T34 l 0).f0 = 0 := h2
          have h3' : (rd_T34 l 0).f1 = -1 := h3
          simp [h2', h3']
        · refine Ev.no h3 (Ev.is (Ev.now _) (h' ?_).symm)
          have h3' : ¬ (rd_T34 l 0).f1 = -1 := h3
          simp [h3']
      · refine Ev.no h2 (Ev.is (Ev.now _) (h' ?_).symm)
        have h2' : ¬ (rd_T34 l 0).f0 = 0 := h2
        simp [h2']
    · have hw : wrap64 ((i : Int) - 1) = ((i - 1 : Nat) : Int) := by rw [w64 (by omega)]; omega
      refine Ev.no (by omega) ?_
      rw [hw]
      refine Ev.yes (nnc _) (Ev.yes (ltc (by omega)) ?_)
      by_cases h1 : (rd_T34 l (i : Int)).f0 ≤ (rd_T34 l ((i - 1 : Nat) : Int)).f0
      · refine Ev.yes h1 (Ev.is (Ev.now _) (h' ?_).symm)
        rw [decide_eq_false h0, decide_eq_false (by omega : ¬ (rd_T34 l ((i - 1 : Nat) : Int)).f0 < (rd_T34 l (i : Int)).f0)]
        simp
      · refine Ev.no h1 (Ev.yes (nnc _) (Ev.yes (by omega) ?_))
        have ht := implNodeOf_ev (l.take i) (rd_T34 l (i : Int)).f1 (by simp; omega)
        refine Ev.bind (by simpa using ht) ?_
        by_cases h2 : nodeOf (l.take i) (rd_T34 l (i : Int)).f1 < 0
        · refine Ev.yes h2 (Ev.is (Ev.now _) (h' ?_).symm)
          rw [decide_eq_false h0, decide_eq_false (by omega : ¬ 0 ≤ nodeOf (l.take i) (rd_T34 l (i : Int)).f1)]
          simp
        · refine Ev.no h2 (h ?_)
          rw [decide_eq_false h0, decide_eq_true (by omega : (rd_T34 l ((i - 1 : Nat) : Int)).f0 < (rd_T34 l (i : Int)).f0), decide_eq_true (by omega : 0 ≤ nodeOf (l.take i) (rd_T34 l (i : Int)).f1)]
          simp
theorem docAtI_all (l : List S34) (h : 1 ≤ l.length) : (List.range l.length).all (docAtI l) = (rootOk l && (List.range l.length).all (docAt l)) := by
  rw [Bool.eq_iff_iff]
  simp only [List.all_eq_true, Bool.and_eq_true, List.mem_range, docAtI, Bool.or_eq_true, Bool.not_eq_true', decide_eq_false_iff_not]
  constructor
  · intro H
    refine ⟨?_, fun i hi => (H i hi).1⟩
    rcases (H 0 (by omega)).2 with h0 | h0
    · exact absurd rfl h0
    · exact h0
  · rintro ⟨h1, h2⟩ i hi
    exact ⟨h2 i hi, .inr h1⟩
theorem implDoc_ev (l : List S34) (hl : l.length ≤ 9223372036854775807) : Ev (fun k => impl_IsDocument.f k l) (isDoc l) := by
  have hloop : Ev (fun k => impl_IsDocument.l0 k l l (l.length : Int) 0) ((List.range l.length).all (docAtI l)) :=
    all_loop l.length (docAtI l) (fun k i => impl_IsDocument.l0 k l l (l.length : Int) i) (ev_succ ⟨0, fun k _ => by simp only [impl_IsDocument.l0, nltc, if_false]⟩)
      (fun i hi hP => implDoc_at l i hi hl (fun e => by rw [hP] at e; cases e) (fun _ => rfl)) (fun i hi hP r hr => implDoc_at l i hi hl (fun _ => hr) (fun e => by rw [hP] at e; cases e))
  have jt : Ev (fun k => impl_IsDocument.j0 k l true) false := by
    refine Ev.step (fun k => by rw [impl_IsDocument.j0]) ?_
    exact Ev.yes rfl (Ev.now _)
  unfold isDoc impl_IsDocument.f
  by_cases h1 : (l.length : Int) < 1
  · rw [decide_eq_false (by omega : ¬ (1 ≤ l.length ∧ l.length ≤ 16))]
    exact Ev.yes h1 jt
  · refine Ev.no h1 ?_
    by_cases h2 : (l.length : Int) > 16
    · rw [decide_eq_true h2, decide_eq_false (by omega : ¬ (1 ≤ l.length ∧ l.length ≤ 16))]
      exact jt
    · rw [decide_eq_false h2, decide_eq_true (by omega : 1 ≤ l.length ∧ l.length ≤ 16), Bool.true_and, ← docAtI_all l (by omega)]
      refine Ev.step (fun k => by rw [impl_IsDocument.j0]) ?_
      exact Ev.no (by simp) hloop

theorem implAbove_l (l : List S34) (h : Doc l) (top : Int) : ∀ (d : Nat) (id : Int), nodeOf l id ≤ d → Ev (fun k => impl_above.l0 k l id top) (upTo l top d id) := by
  intro d
  have hlen : l.length ≤ 9223372036854775807 := by have := h.most; omega
  induction d with
  | zero =>
    intro id hd
    refine Ev.step (fun k => by rw [impl_above.l0]) ?_
    unfold upTo
    by_cases e : id = top
    · exact Ev.yes e (Ev.is (Ev.now _) (by simp [e]))
    · exact Ev.no e (Ev.bind (implNodeOf_ev l id hlen) (Ev.yes (by omega) (Ev.is (Ev.now _) (by simp [e]))))
  | succ d ih =>
    intro id hd
    refine Ev.step (fun k => by rw [impl_above.l0]) ?_
    unfold upTo
    by_cases e : id = top
    · exact Ev.yes e (Ev.is (Ev.now _) (by rw [if_pos e]))
    · rw [if_neg e]
      refine Ev.no e (Ev.bind (implNodeOf_ev l id hlen) ?_)
      by_cases e2 : nodeOf l id ≤ 0
      · rw [if_pos e2]
        exact Ev.yes e2 (Ev.now _)
      · rw [if_neg e2]
        have hr := nodeOf_lt id l
        refine Ev.no e2 (Ev.yes (by omega) (Ev.yes hr.2 (ih _ ?_)))
        obtain ⟨i, hi⟩ := Int.eq_ofNat_of_zero_le (show 0 ≤ nodeOf l id by omega)
        rw [hi]
        have := h.up i (by omega) (by omega)
        omega
theorem implAbove_ev (l : List S34) (h : Doc l) (id top : Int) : Ev (fun k => impl_above.f k l id top) (upTo l top l.length id) := by
  unfold impl_above.f
  have := nodeOf_lt id l
  exact implAbove_l l h top l.length id (by omega)
theorem implUnder_ev (l : List S34) (id top : Int) (hl : l.length ≤ 9223372036854775807) : Ev (fun k => impl_IsUnder.f k l id top) (isUnder l id top) := by
  unfold impl_IsUnder.f isUnder
  refine Ev.bind (implDoc_ev l hl) ?_
  cases hd : isDoc l with
  | false => exact Ev.no (by simp) (Ev.now _)
  | true =>
    have h := (isDoc_iff l).1 hd
    refine Ev.yes rfl (Ev.bind (implNodeOf_ev l id hl) ?_)
    by_cases h1 : nodeOf l id ≥ 0
    · refine Ev.yes h1 (Ev.bind (implNodeOf_ev l top hl) ?_)
      by_cases h2 : nodeOf l top ≥ 0
      · exact Ev.yes h2 (Ev.bind (implAbove_ev l h id top) (Ev.is (Ev.now _) (by rw [decide_eq_true (show 0 ≤ nodeOf l id from h1), decide_eq_true (show 0 ≤ nodeOf l top from h2)]; simp)))
      · exact Ev.no h2 (Ev.is (Ev.now _) (by rw [decide_eq_false (show ¬ 0 ≤ nodeOf l top from h2)]; simp))
    · exact Ev.no h1 (Ev.is (Ev.now _) (by rw [decide_eq_false (show ¬ 0 ≤ nodeOf l id from h1)]; simp))

theorem clone_ok (l : List S34) (h : l.length ≤ 1000000000) : impl_Node_35.f l = some l := by
  unfold impl_Node_35.f
  rw [if_pos h]
theorem insert_ok (l : List S34) (x : S34) (h1 : 1 ≤ l.length) (hm : l.length ≤ 1000000) (i : Nat) (hi : i ≤ l.length) : impl_Node_36.f l (i : Int) [x] = some (l.take i ++ (x :: l.drop i)) := by
  unfold impl_Node_36.f
  rw [if_pos ⟨by omega, by omega, h1, hm, rfl⟩, Int.toNat_natCast]
  rfl
theorem implAdd_l (l : List S34) (o n p q r b : Int) (h1 : 1 ≤ l.length) (hm : l.length ≤ 1000000) : ∀ (d i : Nat), i + d = insAt n l → Ev (fun k => impl_ApplyEdit.l0 k l l (i : Int) o n p q r b) (insL l ⟨n, p, q, r, b⟩, true) := by
  have hle := insAt_le n l
  have hget := insAt_get n l
  intro d
  induction d with
  | zero =>
    intro i hi
    have hi' : i = insAt n l := by omega
    have tail : Ev (fun k => impl_ApplyEdit.j3 k l (i : Int) o n p q r b) (insL l ⟨n, p, q, r, b⟩, true) := by
      refine Ev.step (fun k => by rw [impl_ApplyEdit.j3]) ?_
      refine Ev.pure (insert_ok l _ h1 hm i (by omega)) (Ev.is (Ev.now _) ?_)
      unfold insL
      rw [hi']
    refine Ev.step (fun k => by rw [impl_ApplyEdit.l0]) ?_
    by_cases h2 : (i : Int) < (l.length : Int)
    · have h3 := hget.2 (rd_T34 l (i : Int)) (by rw [← hi']; exact rdN_get l i (by omega))
      exact Ev.yes h2 (Ev.yes (nnc _) (Ev.no h3 tail))
    · exact Ev.no h2 tail
  | succ d ih =>
    intro i hi
    have hlt : i < l.length := by omega
    refine Ev.step (fun k => by rw [impl_ApplyEdit.l0]) ?_
    refine Ev.yes (ltc hlt) (Ev.yes (nnc _) (Ev.yes (hget.1 i _ (by omega) (rdN_get l i hlt)) ?_))
    rw [w64s hlt (by omega)]
    exact ih (i + 1) (by omega)
theorem implDrop_l (l : List S34) (hD : Doc l) (o n p q r b : Int) (hn : 0 ≤ nodeOf l n) (hl : l.length ≤ 1048576) : Ev (fun k => impl_ApplyEdit.l1 k l [] l (l.length : Int) 0 o n p q r b) (dropL l n, true) := by
  have hun : ∀ x ∈ l, isUnder l x.f0 n = upTo l n l.length x.f0 := by
    intro x hx
    unfold isUnder
    rw [(isDoc_iff l).2 hD, decide_eq_true hn, decide_eq_true ((nodeOf_mem l x.f0).2 ⟨x, hx, rfl⟩)]
    rfl
  have := loop_list0 l (fun k s i => impl_ApplyEdit.l1 k l s l (l.length : Int) i o n p q r b) (fun t s => (s ++ dropL' l n t, true)) (fun i s => s.length ≤ i) ?_ ?_ [] (by simp)
  · simpa [dropL', dropL] using this
  · intro s hs
    refine Ev.step (fun k => by rw [impl_ApplyEdit.l1]) ?_
    exact Ev.no (nltc _) (Ev.is (Ev.now _) (by simp [dropL']))
  · intro i y t s hi hx ht hs ih
    refine Ev.step (fun k => by rw [impl_ApplyEdit.l1]) ?_
    rw [rdN_at hx, w64s hi (by omega)]
    refine Ev.yes (ltc hi) (Ev.yes (nnc _) (Ev.yes (ltc hi) (Ev.bind (implAbove_ev l hD y.f0 n) ?_)))
    rw [← hun y (List.mem_of_getElem? hx)]
    by_cases e : isUnder l y.f0 n = true
    · refine Ev.yes e (Ev.is (ih s (by omega)) ?_)
      simp [dropL', e]
    · refine Ev.no e (Ev.yes (by omega) (Ev.is (ih (s ++ [y]) (by simp; omega)) ?_))
      simp only [Bool.not_eq_true] at e
      simp [dropL', e]
theorem implApply_ev (l : List S34) (o n p q r b : Int) (hl : l.length ≤ 1048576) : Ev (fun k => impl_ApplyEdit.f k l o n p q r b) (applyL l o n p q r b) := by
  have hb9 : l.length ≤ 9223372036854775807 := by omega
  have j0t : Ev (fun k => impl_ApplyEdit.j0 k l l true o n p q r b) (l, false) := by
    refine Ev.step (fun k => by rw [impl_ApplyEdit.j0]) ?_
    exact Ev.yes rfl (Ev.now _)
  have j1t : Ev (fun k => impl_ApplyEdit.j1 k l l true o n p q r b) (l, false) := by
    refine Ev.step (fun k => by rw [impl_ApplyEdit.j1]) ?_
    exact Ev.yes rfl (Ev.now _)
  unfold impl_ApplyEdit.f applyL
  refine Ev.pure (clone_ok l (by omega)) (Ev.bind (implDoc_ev l hb9) ?_)
  cases hd : isDoc l with
  | false => exact Ev.no (by simp) (Ev.is j0t (by simp))
  | true =>
    have hD := (isDoc_iff l).1 hd
    have hone := hD.one
    have hmost := hD.most
    refine Ev.yes rfl (Ev.pure (isEditI o n p q r b) ?_)
    cases hk : okEdit o n p q r b with
    | false => exact Ev.is j0t (by simp)
    | true =>
      rw [if_pos ⟨rfl, rfl⟩]
      have j1f : Ev (fun k => impl_ApplyEdit.j1 k l l false o n p q r b) (insL l ⟨n, p, q, r, b⟩, true) := by
        refine Ev.step (fun k => by rw [impl_ApplyEdit.j1]) ?_
        exact Ev.no (by simp) (implAdd_l l o n p q r b hone (by omega) (insAt n l) 0 (by omega))
      refine Ev.step (fun k => by rw [impl_ApplyEdit.j0]) ?_
      refine Ev.no (by simp) (Ev.bind (implNodeOf_ev l n hb9) ?_)
      by_cases h1 : o = 1
      · rw [if_pos h1]
        refine Ev.yes h1 ?_
        by_cases h2 : nodeOf l n ≥ 0
        · exact Ev.yes h2 (Ev.is j1t (by rw [if_pos (Or.inl h2)]))
        refine Ev.no h2 (Ev.bind (implNodeOf_ev l p hb9) ?_)
        by_cases h3 : nodeOf l p < 0
        · exact Ev.yes h3 (Ev.is j1t (by rw [if_pos (Or.inr (Or.inl h3))]))
        refine Ev.no h3 ?_
        by_cases h4 : p > n
        · exact Ev.yes h4 (Ev.is j1t (by rw [if_pos (Or.inr (Or.inr (Or.inl h4)))]))
        refine Ev.no h4 ?_
        by_cases h5 : (l.length : Int) ≥ 16
        · rw [decide_eq_true h5]
          exact Ev.is j1t (by rw [if_pos (Or.inr (Or.inr (Or.inr (by omega))))])
        · rw [decide_eq_false h5]
          exact Ev.is j1f (by rw [if_neg (by omega)])
      rw [if_neg h1]
      refine Ev.no h1 ?_
      have hr := nodeOf_lt n l
      by_cases h2 : o = 2
      · rw [if_pos h2]
        refine Ev.yes h2 ?_
        by_cases h3 : nodeOf l n < 0
        · exact Ev.yes h3 (Ev.is (Ev.now _) (by rw [if_pos h3]))
        · exact Ev.no h3 (Ev.is (implDrop_l l hD o n p q r b (by omega) hl) (by rw [if_neg h3]))
      rw [if_neg h2]
      refine Ev.no h2 ?_
      by_cases h3 : o = 3
      · refine Ev.yes h3 ?_
        by_cases h4 : nodeOf l n < 0
        · exact Ev.yes h4 (Ev.is (Ev.now _) (by rw [if_pos h4]))
        refine Ev.no h4 ?_
        rw [if_neg h4, if_pos h3]
        unfold nodeAt
        obtain ⟨i, hi⟩ := Int.eq_ofNat_of_zero_le (show 0 ≤ nodeOf l n by omega)
        rw [hi] at hr ⊢
        rw [Int.toNat_natCast]
        exact Ev.yes (nnc _) (Ev.yes hr.2 (Ev.pure rfl (Ev.is (Ev.now _) (by rw [set_text l i (by omega)]))))
      · refine Ev.no h3 ?_
        by_cases h4 : nodeOf l n < 0
        · exact Ev.yes h4 (Ev.is (Ev.now _) (by rw [if_pos h4]))
        rw [if_neg h4, if_neg h3]
        refine Ev.no h4 (Ev.bind (implNodeOf_ev l p hb9) ?_)
        by_cases h5 : nodeOf l p < 0
        · exact Ev.yes h5 (Ev.is (Ev.now _) (by rw [if_pos (Or.inl h5)]))
        refine Ev.no h5 ?_
        by_cases h6 : p ≥ n
        · exact Ev.yes h6 (Ev.is (Ev.now _) (by rw [if_pos (Or.inr h6)]))
        refine Ev.no h6 ?_
        rw [if_neg (show ¬ (nodeOf l p < 0 ∨ p ≥ n) by omega)]
        unfold nodeAt
        obtain ⟨i, hi⟩ := Int.eq_ofNat_of_zero_le (show 0 ≤ nodeOf l n by omega)
        rw [hi] at hr ⊢
        rw [Int.toNat_natCast]
        exact Ev.yes (nnc _) (Ev.yes hr.2 (Ev.pure rfl (Ev.is (Ev.now _) (by rw [set_move l i (by omega)]))))

theorem implRun_ev (a : List S34) (es : List S40) (ha : a.length ≤ 1048576) (he : es.length ≤ 9223372036854775807) : Ev (fun k => impl_RunEdits.f k a es) (runL a es) := by
  have := loop_list0 es (fun k s i => impl_RunEdits.l0 k s es (es.length : Int) i) (fun t s => runL s t) (fun i s => s.length ≤ 1048576) ?_ ?_ a ha
  · unfold impl_RunEdits.f
    exact Ev.pure (clone_ok a (by omega)) this
  · intro s hs
    exact ev_succ ⟨0, fun k _ => by simp only [impl_RunEdits.l0, nltc, if_false, runL, List.foldl_nil]⟩
  · intro i x t s hi hx ht hs ih
    refine Ev.step (fun k => by rw [impl_RunEdits.l0]) ?_
    refine Ev.yes (by omega) (Ev.yes (by omega) (Ev.yes (by omega) ?_))
    simp only [rdE_at hx, w64s hi he]
    have := applyL_len s x.f0 x.f1 x.f2 x.f3 x.f4 x.f5
    exact Ev.bind (implApply_ev s _ _ _ _ _ _ hs) (ih _ (by omega))

theorem ne_chain (x y : S34) : (!(x.f0 == y.f0) || (!(x.f1 == y.f1) || (!(x.f2 == y.f2) || (!(x.f3 == y.f3) || (!(x.f4 == y.f4)))))) = !decide (x = y) := by
  rw [show (decide (x = y)) = decide (x.f0 = y.f0 ∧ x.f1 = y.f1 ∧ x.f2 = y.f2 ∧ x.f3 = y.f3 ∧ x.f4 = y.f4) from by simp only [node_ext]]
  by_cases h0 : x.f0 = y.f0 <;> by_cases h1 : x.f1 = y.f1 <;> by_cases h2 : x.f2 = y.f2 <;> by_cases h3 : x.f3 = y.f3 <;> by_cases h4 : x.f4 = y.f4 <;> simp [h0, h1, h2, h3, h4]
theorem ne_if {α : Type} (x y : S34) (a b : α) : (if (!(x.f0 == y.f0) || (!(x.f1 == y.f1) || (!(x.f2 == y.f2) || (!(x.f3 == y.f3) || (!(x.f4 == y.f4)))))) = true then a else b) = if x = y then b else a := by
  rw [ne_chain]
  by_cases h : x = y <;> simp [h]
theorem implEqDocs_ev (a b : List S34) (h : a.length ≤ 9223372036854775807) : Ev (fun k => impl_EqualDocuments.f k a b) (decide (a = b)) := by
  by_cases hl : a.length = b.length
  · have H := eq_loop a b (fun k i => impl_Node_30.l0 k a b (a.length : Int) i) hl (fun k => by simp only [impl_Node_30.l0, nltc, if_false]) (fun k i x y hx hy hi hi2 => by
      simp only [impl_Node_30.l0, ltc hi, ltc hi2, nnc, if_true, rdN_at hx, rdN_at hy, w64s hi h, ne_if])
    obtain ⟨K, hK⟩ := H
    refine ⟨K, fun k hk => ?_⟩
    have := hK k hk
    simp only at this
    simp only [impl_EqualDocuments.f, impl_Node_30.f, hl, if_true]
    rw [← hl, this]
    rfl
  · refine ⟨0, fun k _ => ?_⟩
    simp only [impl_EqualDocuments.f, impl_Node_30.f]
    rw [if_neg (by omega)]
    simp only [Option.bind_some]
    congr 1
    symm
    exact decide_eq_false (fun e => hl (by rw [e]))

theorem and255 (x : Int) : 0 ≤ Go.bits .and .i64 x 255 ∧ Go.bits .and .i64 x 255 ≤ 255 := by
  simp only [Go.bits, BitVec.toNat_and]
  have h : (BitVec.ofInt IntKind.i64.bits x).toNat &&& (BitVec.ofInt IntKind.i64.bits 255).toNat ≤ 255 := by
    have e : (BitVec.ofInt IntKind.i64.bits 255).toNat = 255 := by decide
    rw [e]
    exact Nat.and_le_right
  generalize (BitVec.ofInt IntKind.i64.bits x).toNat &&& (BitVec.ofInt IntKind.i64.bits 255).toNat = n at h
  rw [IntKind.wrap_i64]
  omega
/-- A cursor's place is within its bytes. -/
def OKC (l : List Int) (i : Int) : Prop := 0 ≤ i ∧ i ≤ l.length
theorem l1New_ev (l : List Int) (hl : l.length ≤ 140737488355328) : ∃ h, Ev (fun k => spec_l1New.f k l) (l, 0, h) := by
  suffices H : ∀ (d i : Nat) (x : Int), i ≤ l.length → l.length - i = d → ∃ h, Ev (fun k => spec_l1New.l0 k l x i) (l, 0, h) from H _ 0 _ (Nat.zero_le _) rfl
  intro d
  induction d with
  | zero =>
    intro i x hi hd
    have : i = l.length := by omega
    subst this
    exact ⟨x, ev_succ ⟨0, fun k _ => by simp only [spec_l1New.l0, nltc, if_false]⟩⟩
  | succ d ih =>
    intro i x hi hd
    have hlt : i < l.length := by omega
    by_cases h4 : (i : Int) < 4000
    · obtain ⟨h, K, hK⟩ := ih (i + 1) (Go.bits .and .i64 (wrap64 ((wrap64 ((wrap64 (x * 137)) + (wrap64 (rd l (i : Int))))) + 11)) 1073741823) (by omega) (by omega)
      refine ⟨h, ev_succ ⟨K, fun k hk => ?_⟩⟩
      simp only [spec_l1New.l0, ltc hlt, h4, nnc, if_true, w64s hlt (show l.length ≤ 9223372036854775807 by omega)]
      exact hK k hk
    · exact ⟨x, ev_succ ⟨0, fun k _ => by simp only [spec_l1New.l0, ltc hlt, h4, if_true, if_false]⟩⟩
theorem l1Byte_draw (l : List Int) (i h : Int) (hl : l.length ≤ 140737488355328) (hi : OKC l i) : ∃ x i' h', spec_l1Byte.f l i h = some (x, i', h') ∧ OKC l i' ∧ 0 ≤ x ∧ x ≤ 255 := by
  unfold OKC at hi
  unfold spec_l1Byte.f
  by_cases h1 : i < (l.length : Int)
  · rw [if_pos h1, if_pos hi.1]
    refine ⟨_, _, _, rfl, ?_, and255 _⟩
    rw [w64 (by omega)]
    unfold OKC
    omega
  · rw [if_neg h1]
    exact ⟨_, _, _, rfl, hi, and255 _⟩
theorem tmod_b (x n : Int) (hx : 0 ≤ x) (hn : 0 < n) : 0 ≤ Int.tmod x n ∧ Int.tmod x n < n := by
  rw [Int.tmod_eq_emod_of_nonneg hx]
  exact ⟨Int.emod_nonneg _ (by omega), Int.emod_lt_of_pos _ hn⟩
theorem l1Below_draw (l : List Int) (i h n : Int) (hl : l.length ≤ 140737488355328) (hi : OKC l i) : ∃ x i' h', spec_l1Below.f l i h n = some (x, i', h') ∧ OKC l i' ∧ 0 ≤ x ∧ (0 < n → x < n) ∧ (n ≤ 0 → x = 0) := by
  unfold spec_l1Below.f
  by_cases h1 : n ≤ 0
  · rw [if_pos h1]
    exact ⟨0, i, h, rfl, hi, by omega, by omega, fun _ => rfl⟩
  · rw [if_neg h1]
    obtain ⟨x, i1, g1, e1, o1, b1, c1⟩ := l1Byte_draw l i h hl hi
    by_cases h2 : n ≤ 256
    · rw [if_pos h2, e1]
      simp only [Option.bind_some]
      rw [if_neg (by omega)]
      have := tmod_b x n b1 (by omega)
      exact ⟨_, _, _, rfl, o1, this.1, fun _ => this.2, by omega⟩
    · rw [if_neg h2, e1]
      simp only [Option.bind_some]
      obtain ⟨y, i2, g2, e2, o2, b2, c2⟩ := l1Byte_draw l i1 g1 hl o1
      rw [e2]
      simp only [Option.bind_some]
      obtain ⟨z, i3, g3, e3, o3, b3, c3⟩ := l1Byte_draw l i2 g2 hl o2
      rw [e3]
      simp only [Option.bind_some]
      rw [if_neg (by omega), w64 (n := x * 65536) (by omega), w64 (n := y * 256) (by omega), w64 (n := x * 65536 + y * 256) (by omega), w64 (by omega)]
      have := tmod_b (x * 65536 + y * 256 + z) n (by omega) (by omega)
      exact ⟨_, _, _, rfl, o3, this.1, fun _ => this.2, by omega⟩
theorem l1Once_draw (l : List Int) (i h n : Int) (hl : l.length ≤ 140737488355328) (hi : OKC l i) : ∃ b i' h', spec_l1Once.f l i h n = some (b, i', h') ∧ OKC l i' := by
  obtain ⟨x, i1, g1, e1, o1, _⟩ := l1Below_draw l i h n hl hi
  unfold spec_l1Once.f
  rw [e1]
  exact ⟨_, _, _, rfl, o1⟩
theorem l1Int_draw (l : List Int) (i h : Int) (m : List Int) (hl : l.length ≤ 140737488355328) (hi : OKC l i) (hm : 0 < m.length) : ∃ x i' h', spec_l1Int.f l i h m = some (x, i', h') ∧ OKC l i' ∧ x ∈ m := by
  obtain ⟨x, i1, g1, e1, o1, b1, c1, _⟩ := l1Below_draw l i h (m.length : Int) hl hi
  have c1 := c1 (by omega)
  unfold spec_l1Int.f
  rw [e1]
  simp only [Option.bind_some]
  rw [if_pos b1, if_pos c1]
  refine ⟨_, _, _, rfl, o1, ?_⟩
  obtain ⟨n, rfl⟩ := Int.eq_ofNat_of_zero_le b1
  have hn : n < m.length := by omega
  rw [rd_at (List.getElem?_eq_getElem hn)]
  exact List.getElem_mem hn
theorem w64_top (n : Int) : wrap64 n ≤ 9223372036854775807 := by
  unfold wrap64
  omega
theorem top_snoc {s : List S34} (h : ∀ x ∈ s, x.f0 ≤ 9223372036854775807) (y : S34) (hy : y.f0 ≤ 9223372036854775807) : ∀ x ∈ s ++ [y], x.f0 ≤ 9223372036854775807 := by
  intro x hx
  rcases List.mem_append.1 hx with hx | hx
  · exact h x hx
  · rw [List.mem_singleton] at hx
    rw [hx]
    exact hy
theorem top_set {s : List S34} (h : ∀ x ∈ s, x.f0 ≤ 9223372036854775807) (i : Nat) (y : S34) (hy : y.f0 ≤ 9223372036854775807) : ∀ x ∈ s.set i y, x.f0 ≤ 9223372036854775807 := by
  intro x hx
  rcases List.mem_or_eq_of_mem_set hx with hx | hx
  · exact h x hx
  · rw [hx]
    exact hy
theorem rd_in (l : List S34) (i : Int) (h0 : 0 ≤ i) (h1 : i < l.length) : rd_T34 l i ∈ l := by
  obtain ⟨n, rfl⟩ := Int.eq_ofNat_of_zero_le h0
  exact List.mem_of_getElem? (rdN_get l n (by omega))
theorem l4DrawT_l (l : List Int) (hl : l.length ≤ 140737488355328) : ∀ (d : Nat) (s : List S34) (c i h : Int), OKC l i → 1 ≤ s.length → (∀ x ∈ s, x.f0 ≤ 9223372036854775807) → s.length + d ≤ 1000 → ∃ a i' h', Ev (fun k => spec_l4Draw.l0 k s c (d : Int) l i h) (a, i', h') ∧ OKC l i' ∧ 1 ≤ a.length ∧ a.length ≤ 1000 ∧ ∀ x ∈ a, x.f0 ≤ 9223372036854775807 := by
  intro d
  induction d with
  | zero =>
    intro s c i h hi h1 ht hm
    refine ⟨s, i, h, ?_, hi, h1, by omega, ht⟩
    refine Ev.step (fun k => by rw [spec_l4Draw.l0]) ?_
    exact Ev.no (by simp) (Ev.now _)
  | succ d ih =>
    intro s c i h hi h1 ht hm
    obtain ⟨x0, i0, g0, e0, o0, _⟩ := l1Below_draw l i h 2 hl hi
    obtain ⟨x1, i1, g1, e1, o1, b1, c1, _⟩ := l1Below_draw l i0 g0 (s.length : Int) hl o0
    obtain ⟨x2, i2, g2, e2, o2, _⟩ := l1Below_draw l i1 g1 5 hl o1
    obtain ⟨x3, i3, g3, e3, o3, _⟩ := l1Below_draw l i2 g2 50 hl o2
    obtain ⟨x4, i4, g4, e4, o4, _⟩ := l1Below_draw l i3 g3 3 hl o3
    obtain ⟨a, i', h', ea, oa, la⟩ := ih (s ++ [⟨wrap64 (wrap64 (c + 1) + x0), (rd_T34 s x1).f0, x2, x3, x4⟩]) (wrap64 (wrap64 (c + 1) + x0)) i4 g4 o4 (by simp) (top_snoc ht _ (w64_top _)) (by simp; omega)
    refine ⟨a, i', h', ?_, oa, la⟩
    refine Ev.step (fun k => by rw [spec_l4Draw.l0]) ?_
    refine Ev.yes (by omega) (Ev.pure e0 (Ev.pure e1 (Ev.yes b1 (Ev.yes (c1 (by omega)) (Ev.pure e2 (Ev.pure e3 (Ev.pure e4 (Ev.yes (by omega) ?_))))))))
    have e : wrap64 (((d + 1 : Nat) : Int) - 1) = (d : Int) := by
      rw [w64 (by omega)]
      omega
    rw [e]
    exact ea
theorem l4DrawT_ev (l : List Int) (hl : l.length ≤ 140737488355328) (i h : Int) (hi : OKC l i) : ∃ a i' h', Ev (fun k => spec_l4Draw.f k l i h) (a, i', h') ∧ OKC l i' ∧ 1 ≤ a.length ∧ a.length ≤ 1000 ∧ ∀ x ∈ a, x.f0 ≤ 9223372036854775807 := by
  obtain ⟨x0, i0, g0, e0, o0, b0, c0, _⟩ := l1Below_draw l i h 7 hl hi
  obtain ⟨n, rfl⟩ := Int.eq_ofNat_of_zero_le b0
  have := c0 (by decide)
  obtain ⟨a, i', h', ea, oa, la⟩ := l4DrawT_l l hl n [⟨0, -1, 0, 0, 0⟩] 0 i0 g0 o0 (by simp) (by simp) (by simp; omega)
  refine ⟨a, i', h', ?_, oa, la⟩
  unfold spec_l4Draw.f
  exact Ev.pure e0 ea
theorem l4AnyT_l (l : List Int) (i h : Int) : ∀ (d : Nat) (s : List S34), s.length + d = 1017 → (∀ x ∈ s, x.f0 ≤ 9223372036854775807) → ∃ a, Ev (fun k => spec_l4Any.l0 k s l i h) (a, i, h) ∧ a.length ≤ 1017 ∧ ∀ x ∈ a, x.f0 ≤ 9223372036854775807 := by
  intro d
  induction d with
  | zero =>
    intro s hs ht
    refine ⟨s, ?_, by omega, ht⟩
    refine Ev.step (fun k => by rw [spec_l4Any.l0]) ?_
    exact Ev.no (by omega) (Ev.now _)
  | succ d ih =>
    intro s hs ht
    by_cases h1 : (s.length : Int) < 17
    · obtain ⟨a, ea, la⟩ := ih (s ++ [⟨wrap64 (100 + (s.length : Int)), 0, 0, 0, 0⟩]) (by simp; omega) (top_snoc ht _ (w64_top _))
      refine ⟨a, ?_, la⟩
      refine Ev.step (fun k => by rw [spec_l4Any.l0]) ?_
      exact Ev.yes h1 (Ev.yes (by omega) ea)
    · refine ⟨s, ?_, by omega, ht⟩
      refine Ev.step (fun k => by rw [spec_l4Any.l0]) ?_
      exact Ev.no h1 (Ev.now _)
theorem l4AnyT_ev (l : List Int) (hl : l.length ≤ 140737488355328) (i h : Int) (hi : OKC l i) : ∃ a i' h', Ev (fun k => spec_l4Any.f k l i h) (a, i', h') ∧ OKC l i' ∧ a.length ≤ 1017 ∧ ∀ x ∈ a, x.f0 ≤ 9223372036854775807 := by
  obtain ⟨a, i0, g0, ea, o0, la1, la2, lt⟩ := l4DrawT_ev l hl i h hi
  obtain ⟨x1, i1, g1, e1, o1, b1, c1, _⟩ := l1Below_draw l i0 g0 (a.length : Int) hl o0
  have c1 := c1 (by omega)
  obtain ⟨x2, i2, g2, e2, o2, _⟩ := l1Below_draw l i1 g1 12 hl o1
  unfold spec_l4Any.f
  by_cases h0 : x2 = 0
  · obtain ⟨y, i3, g3, e3, o3, hy⟩ := l1Int_draw l i2 g2 [-1, -2, 0, 99, (rd_T34 a x1).f0] hl o2 (by simp)
    refine ⟨_, _, _, Ev.bind ea (Ev.pure e1 (Ev.pure e2 (Ev.yes h0 (Ev.yes b1 (Ev.yes c1 (Ev.pure e3 (Ev.now _))))))), o3, by simp only [List.length_set]; omega, ?_⟩
    exact top_set lt _ _ (show (rd_T34 a x1).f0 ≤ 9223372036854775807 from lt _ (rd_in a x1 b1 c1))
  by_cases h1 : x2 = 1
  · obtain ⟨y, i3, g3, e3, o3, hy⟩ := l1Int_draw l i2 g2 [-1, 9, 10] hl o2 (by simp)
    refine ⟨_, _, _, Ev.bind ea (Ev.pure e1 (Ev.pure e2 (Ev.no h0 (Ev.yes h1 (Ev.pure e3 (Ev.yes b1 (Ev.yes c1 (Ev.now _)))))))), o3, by simp only [List.length_set]; omega, ?_⟩
    exact top_set lt _ _ (show (rd_T34 a x1).f0 ≤ 9223372036854775807 from lt _ (rd_in a x1 b1 c1))
  by_cases h2 : x2 = 2
  · obtain ⟨y, i3, g3, e3, o3, hy⟩ := l1Int_draw l i2 g2 [-1, 999, 1000] hl o2 (by simp)
    refine ⟨_, _, _, Ev.bind ea (Ev.pure e1 (Ev.pure e2 (Ev.no h0 (Ev.no h1 (Ev.yes h2 (Ev.pure e3 (Ev.yes b1 (Ev.yes c1 (Ev.now _))))))))), o3, by simp only [List.length_set]; omega, ?_⟩
    exact top_set lt _ _ (show (rd_T34 a x1).f0 ≤ 9223372036854775807 from lt _ (rd_in a x1 b1 c1))
  by_cases h3 : x2 = 3
  · obtain ⟨y, i3, g3, e3, o3, hy⟩ := l1Int_draw l i2 g2 [-1, 5, 6] hl o2 (by simp)
    refine ⟨_, _, _, Ev.bind ea (Ev.pure e1 (Ev.pure e2 (Ev.no h0 (Ev.no h1 (Ev.no h2 (Ev.yes h3 (Ev.pure e3 (Ev.yes b1 (Ev.yes c1 (Ev.now _)))))))))), o3, by simp only [List.length_set]; omega, ?_⟩
    exact top_set lt _ _ (show (rd_T34 a x1).f0 ≤ 9223372036854775807 from lt _ (rd_in a x1 b1 c1))
  by_cases h4 : x2 = 4
  · obtain ⟨y, i3, g3, e3, o3, hy⟩ := l1Int_draw l i2 g2 [-1, 0, 5, 9223372036854775807] hl o2 (by simp)
    refine ⟨_, _, _, Ev.bind ea (Ev.pure e1 (Ev.pure e2 (Ev.no h0 (Ev.no h1 (Ev.no h2 (Ev.no h3 (Ev.yes h4 (Ev.pure e3 (Ev.yes b1 (Ev.yes c1 (Ev.now _))))))))))), o3, by simp only [List.length_set]; omega, ?_⟩
    exact top_set lt _ _ (by simp only [List.mem_cons, List.not_mem_nil, or_false] at hy; simp only; omega)
  by_cases h5 : x2 = 5
  · exact ⟨_, _, _, Ev.bind ea (Ev.pure e1 (Ev.pure e2 (Ev.no h0 (Ev.no h1 (Ev.no h2 (Ev.no h3 (Ev.no h4 (Ev.yes h5 (Ev.now _))))))))), o2, by simp, by simp⟩
  by_cases h6 : x2 = 6
  · obtain ⟨a', ea', la', lt'⟩ := l4AnyT_l l i2 g2 (1017 - a.length) a (by omega) lt
    exact ⟨_, _, _, Ev.bind ea (Ev.pure e1 (Ev.pure e2 (Ev.no h0 (Ev.no h1 (Ev.no h2 (Ev.no h3 (Ev.no h4 (Ev.no h5 (Ev.yes h6 ea'))))))))), o2, la', lt'⟩
  · exact ⟨_, _, _, Ev.bind ea (Ev.pure e1 (Ev.pure e2 (Ev.no h0 (Ev.no h1 (Ev.no h2 (Ev.no h3 (Ev.no h4 (Ev.no h5 (Ev.no h6 (Ev.now _)))))))))), o2, by simp only; omega, lt⟩

theorem l5Edit_draw (l : List Int) (hl : l.length ≤ 140737488355328) (i h : Int) (hi : OKC l i) : ∃ x0 x1 x2 x3 x4 x5 i' h', spec_l5Edit.f l i h = some (x0, x1, x2, x3, x4, x5, i', h') ∧ OKC l i' := by
  unfold spec_l5Edit.f
  obtain ⟨x0, i0, g0, e0, o0, _⟩ := l1Below_draw l i h 4 hl hi
  obtain ⟨x1, i1, g1, e1, o1, _⟩ := l1Below_draw l i0 g0 9 hl o0
  obtain ⟨x2, i2, g2, e2, o2, _⟩ := l1Below_draw l i1 g1 6 hl o1
  obtain ⟨x3, i3, g3, e3, o3, _⟩ := l1Below_draw l i2 g2 5 hl o2
  obtain ⟨x4, i4, g4, e4, o4, _⟩ := l1Below_draw l i3 g3 50 hl o3
  obtain ⟨x5, i5, g5, e5, o5, _⟩ := l1Below_draw l i4 g4 4 hl o4
  simp only [e0, e1, e2, e3, e4, e5, Option.bind_some]
  exact ⟨_, _, _, _, _, _, _, _, rfl, o5⟩

theorem l5Edits_l (l : List Int) (hl : l.length ≤ 140737488355328) : ∀ (d : Nat) (s : List S40) (i h : Int), OKC l i → s.length + d ≤ 1000 → ∃ a i' h', Ev (fun k => spec_l5Edits.l0 k s (d : Int) l i h) (a, i', h') ∧ OKC l i' ∧ a.length ≤ 1000 := by
  intro d
  induction d with
  | zero =>
    intro s i h hi hm
    refine ⟨s, i, h, ?_, hi, by omega⟩
    refine Ev.step (fun k => by rw [spec_l5Edits.l0]) ?_
    exact Ev.no (by simp) (Ev.now _)
  | succ d ih =>
    intro s i h hi hm
    obtain ⟨x0, x1, x2, x3, x4, x5, i0, g0, e0, o0⟩ := l5Edit_draw l hl i h hi
    obtain ⟨a, i', h', ea, oa, la⟩ := ih (s ++ [⟨x0, x1, x2, x3, x4, x5⟩]) i0 g0 o0 (by simp; omega)
    refine ⟨a, i', h', ?_, oa, la⟩
    refine Ev.step (fun k => by rw [spec_l5Edits.l0]) ?_
    refine Ev.yes (by omega) (Ev.pure e0 (Ev.yes (by omega) ?_))
    have e : wrap64 (((d + 1 : Nat) : Int) - 1) = (d : Int) := by
      rw [w64 (by omega)]
      omega
    rw [e]
    exact ea
theorem l5Edits_ev (l : List Int) (hl : l.length ≤ 140737488355328) (i h n : Int) (hn : n ≤ 1000) (hi : OKC l i) : ∃ a i' h', Ev (fun k => spec_l5Edits.f k l i h n) (a, i', h') ∧ OKC l i' ∧ a.length ≤ 1000 := by
  obtain ⟨x0, i0, g0, e0, o0, b0, c0, d0⟩ := l1Below_draw l i h n hl hi
  have hx : x0 ≤ 1000 := by
    by_cases h0 : 0 < n
    · have := c0 h0
      omega
    · have := d0 (by omega)
      omega
  obtain ⟨m, rfl⟩ := Int.eq_ofNat_of_zero_le b0
  obtain ⟨a, i', h', ea, oa, la⟩ := l5Edits_l l hl m [] i0 g0 o0 (by simp; omega)
  refine ⟨a, i', h', ?_, oa, la⟩
  unfold spec_l5Edits.f
  exact Ev.pure e0 ea

theorem l5Any_draw (l : List Int) (hl : l.length ≤ 140737488355328) (i h : Int) (hi : OKC l i) : ∃ x0 x1 x2 x3 x4 x5 i' h', spec_l5Any.f l i h = some (x0, x1, x2, x3, x4, x5, i', h') ∧ OKC l i' := by
  unfold spec_l5Any.f
  obtain ⟨x0, x1, x2, x3, x4, x5, i0, g0, e0, o0⟩ := l5Edit_draw l hl i h hi
  obtain ⟨y, i1, g1, e1, o1, _⟩ := l1Below_draw l i0 g0 12 hl o0
  simp only [e0, e1, Option.bind_some]
  by_cases h0 : y = 0
  · obtain ⟨v, i2, g2, e2, o2, _⟩ := l1Int_draw l i1 g1 [0, 5, -1] hl o1 (by simp)
    rw [if_pos h0, e2]
    exact ⟨_, _, _, _, _, _, _, _, rfl, o2⟩
  rw [if_neg h0]
  by_cases h1 : y = 1
  · obtain ⟨v, i2, g2, e2, o2, _⟩ := l1Int_draw l i1 g1 [0, 99, 100, -1] hl o1 (by simp)
    rw [if_pos h1, e2]
    exact ⟨_, _, _, _, _, _, _, _, rfl, o2⟩
  rw [if_neg h1]
  by_cases h2 : y = 2
  · obtain ⟨v, i2, g2, e2, o2, _⟩ := l1Int_draw l i1 g1 [-1, 99, 100] hl o1 (by simp)
    rw [if_pos h2, e2]
    exact ⟨_, _, _, _, _, _, _, _, rfl, o2⟩
  rw [if_neg h2]
  by_cases h3 : y = 3
  · obtain ⟨v, i2, g2, e2, o2, _⟩ := l1Int_draw l i1 g1 [-1, 999, 1000] hl o1 (by simp)
    rw [if_pos h3, e2]
    exact ⟨_, _, _, _, _, _, _, _, rfl, o2⟩
  rw [if_neg h3]
  by_cases h4 : y = 4
  · obtain ⟨v, i2, g2, e2, o2, _⟩ := l1Int_draw l i1 g1 [-1, 5, 6] hl o1 (by simp)
    rw [if_pos h4, e2]
    exact ⟨_, _, _, _, _, _, _, _, rfl, o2⟩
  rw [if_neg h4]
  exact ⟨_, _, _, _, _, _, _, _, rfl, o1⟩

theorem run_doc (es : List S40) : ∀ a : List S34, isDoc (runL a es) = isDoc a := by
  induction es with
  | nil => intro a; rfl
  | cons x t ih =>
    intro a
    rw [runL_cons, ih, applyL_doc]
theorem editB_ne (o n p q r b : Int) (h : 1 ≤ o ∧ o ≤ 4) : editB o n p q r b ≠ [] := by
  unfold editB
  by_cases h1 : o = 1
  · rw [if_pos h1]; simp
  rw [if_neg h1]
  by_cases h2 : o = 2
  · rw [if_pos h2]; simp
  rw [if_neg h2]
  by_cases h3 : o = 3
  · rw [if_pos h3]; simp
  rw [if_neg h3, if_pos (by omega)]
  simp
theorem drawApply_ev (l : List Int) (hl : l.length ≤ 140737488355328) : ∃ a o n p q r b, Ev (fun k => spec_DrawApplyEdit.f k l) (a, o, n, p, q, r, b) ∧ a.length ≤ 1017 := by
  obtain ⟨g0, d0⟩ := l1New_ev l hl
  obtain ⟨a, i1, g1, d1, o1, _, la, _⟩ := l4DrawT_ev l hl 0 g0 ⟨Int.le_refl _, by omega⟩
  obtain ⟨t, i2, g2, d2, o2⟩ := l1Once_draw l i1 g1 9 hl o1
  unfold spec_DrawApplyEdit.f
  by_cases ht : t = true
  · obtain ⟨a', i3, g3, d3, o3, la', _⟩ := l4AnyT_ev l hl i2 g2 o2
    obtain ⟨x0, x1, x2, x3, x4, x5, i4, g4, d4, o4⟩ := l5Any_draw l hl i3 g3 o3
    exact ⟨a', x0, x1, x2, x3, x4, x5, Ev.bind d0 (Ev.bind d1 (Ev.pure d2 (Ev.yes ht (Ev.bind d3 (Ev.pure d4 (Ev.now _)))))), la'⟩
  · obtain ⟨x0, x1, x2, x3, x4, x5, i4, g4, d4, o4⟩ := l5Any_draw l hl i2 g2 o2
    exact ⟨a, x0, x1, x2, x3, x4, x5, Ev.bind d0 (Ev.bind d1 (Ev.pure d2 (Ev.no ht (Ev.pure d4 (Ev.now _))))), by omega⟩
theorem FnEdits : laws_FnEdits.Pure := by
  intro code h1 h2 _
  have hm : maxLen = 9223372036854775807 := by decide
  refine Ev.rounds (g := fun k => laws_FnEdits.f k code) ?_
  unfold laws_FnEdits.f
  refine Ev.pure (a := decide ((code.length : Int) > 1048576)) rfl ?_
  by_cases hb : (code.length : Int) > 1048576
  · exact Ev.yes (decide_eq_true hb) (Ev.now _)
  refine Ev.no (by simpa using hb) ?_
  have hcl : code.length ≤ 140737488355328 := by omega
  obtain ⟨a, o, n, p, q, r, b, hd, la⟩ := drawApply_ev code hcl
  refine Ev.bind hd (Ev.bind (implApply_ev a o n p q r b (by omega)) ?_)
  have hlen := applyL_len a o n p q r b
  by_cases hok : (applyL a o n p q r b).2 = true
  · obtain ⟨hda, hoe, _⟩ := applyL_yes a o n p q r b hok
    have hdx := applyL_doc a o n p q r b
    rw [hda] at hdx
    have hD := (isDoc_iff a).1 hda
    have hT := applyL_tree a o n p q r b hok
    have hown := applyL_own a o n p q r b hok
    have hold := applyL_old a o n p q r b hok
    have hb6 : (1 ≤ o ∧ o ≤ 4) ∧ (1 ≤ n ∧ n ≤ 99) ∧ (0 ≤ p ∧ p ≤ 99) ∧ (0 ≤ q ∧ q ≤ 9) ∧ (0 ≤ r ∧ r ≤ 999) ∧ (0 ≤ b ∧ b ≤ 5) := by
      unfold okEdit at hoe
      exact of_decide_eq_true hoe
    obtain ⟨hbo, hbn, hbp, hbq, hbr, hbb⟩ := hb6
    have hi64 : ∀ z : Int, 0 ≤ z → z ≤ 999 → i64r z := by
      intro z z0 z1
      unfold i64r
      omega
    generalize hx : (applyL a o n p q r b).1 = x at *
    have l0 : Ev (fun k => laws_FnEdits.l0 k code a x 0 o n p q r b) true := by
      refine loop_list0 a (fun k (_ : Unit) i => laws_FnEdits.l0 k code a x i o n p q r b) (fun _ _ => true) (fun _ _ => True) ?_ ?_ () trivial
      · intro _ _
        obtain ⟨g0, d0⟩ := l1New_ev code hcl
        obtain ⟨w, i1, g1, d1, o1, _, lw, _⟩ := l4DrawT_ev code hcl 0 g0 ⟨Int.le_refl _, by omega⟩
        obtain ⟨es, i2, g2, d2, o2, le⟩ := l5Edits_ev code hcl i1 g1 9 (by decide) o1
        have hdr : Ev (fun k => spec_DrawRunEdits.f k code) (w, es) := by
          unfold spec_DrawRunEdits.f
          exact Ev.bind d0 (Ev.bind d1 (Ev.bind d2 (Ev.now _)))
        have hrl := runL_len es w 1000 lw (by decide)
        refine Ev.step (fun k => by rw [laws_FnEdits.l0]) ?_
        refine Ev.no (nltc _) (Ev.bind hdr (Ev.bind (implRun_ev w es (by omega) (by omega)) (Ev.bind (implDoc_ev _ (by omega)) (Ev.bind (implDoc_ev w (by omega)) (Ev.is (Ev.now _) ?_)))))
        rw [run_doc]
        simp
      · intro i y t _ hi hy ht _ ih
        have hya : y ∈ a := List.mem_of_getElem? hy
        have hj3 : ∀ t, t = false → Ev (fun k => laws_FnEdits.j3 k code a x (i : Int) t o n p q r b) true := by
          rintro t rfl
          refine Ev.step (fun k => by rw [laws_FnEdits.j3]) ?_
          rw [w64s hi (by omega)]
          exact Ev.no (by simp) (ih () trivial)
        refine Ev.step (fun k => by rw [laws_FnEdits.l0]) ?_
        rw [rdN_at hy]
        refine Ev.yes (ltc hi) (Ev.yes (nnc _) (Ev.bind (implNodeOf_ev x y.f0 (by omega)) ?_))
        by_cases hyn : y.f0 = n
        · refine Ev.yes hyn ?_
          by_cases hj : nodeOf x y.f0 < 0
          · have ho : o = 2 := by
              rcases hown with ⟨h, _⟩ | ⟨_, z, hz, z0, _⟩
              · exact h
              · have := (nodeOf_mem x y.f0).2 ⟨z, hz, by omega⟩
                omega
            refine Ev.yes hj (Ev.yes ho (Ev.bind (implUnder_ev a y.f0 n (by omega)) (hj3 _ ?_)))
            have hn0 : 0 ≤ nodeOf a n := (nodeOf_mem a n).2 ⟨y, hya, hyn⟩
            rw [hyn, under_self a hD n hn0]
            rfl
          · exact Ev.no hj (hj3 _ rfl)
        · refine Ev.no hyn ?_
          rcases hold y hya hyn with hin | ⟨ho, hu, hno⟩
          · obtain ⟨k1, k2, k3⟩ := node_at x hT.up y hin
            refine Ev.yes k1 (Ev.yes k1 (Ev.yes k2 ?_))
            have k4 : rd_T34 x (nodeOf x y.f0) = y := k3
            rw [k4, ne_chain, decide_eq_true rfl]
            exact Ev.no (by simp) (Ev.no (by omega) (hj3 _ rfl))
          · have hj := (nodeOf_neg x y.f0).2 hno
            refine Ev.no (by omega) (Ev.yes hj (Ev.yes ho (Ev.bind (implUnder_ev a y.f0 n (by omega)) (hj3 _ ?_))))
            rw [hu]
            rfl
    have j1 : ∀ t, t = false → Ev (fun k => laws_FnEdits.j1 k code a x t o n p q r b) true := by
      rintro t rfl
      refine Ev.step (fun k => by rw [laws_FnEdits.j1]) ?_
      exact Ev.no (by simp) l0
    have j0 : ∀ t, t = false → Ev (fun k => laws_FnEdits.j0 k code a x t o n p q r b) true := by
      rintro t rfl
      refine Ev.step (fun k => by rw [laws_FnEdits.j0]) ?_
      refine Ev.no (by simp) (Ev.bind (implNodeOf_ev x n (by omega)) ?_)
      rcases hown with ⟨ho, hno⟩ | ⟨ho, z, hz, z0, z4, _⟩
      · have hj := (nodeOf_neg x n).2 hno
        exact Ev.no (by rw [decide_eq_true hj, ho]; decide) (Ev.no (by omega) (j1 _ rfl))
      · have hk := node_at x hT.up z hz
        rw [z0] at hk
        obtain ⟨k1, k2, k3⟩ := hk
        have k4 : rd_T34 x (nodeOf x n) = z := k3
        refine Ev.no (by rw [decide_eq_false (by omega)]; simp [ho]) (Ev.yes k1 (Ev.yes k1 (Ev.yes k2 (j1 _ ?_))))
        rw [k4, z4]
        simp
    refine Ev.yes hok (Ev.bind (implDoc_ev _ (by omega)) (Ev.yes hdx (Ev.pure (isEditI o n p q r b) (Ev.yes hoe ?_))))
    have het := implEditText_ev o n p q r b (hi64 n (by omega) (by omega)) (hi64 p (by omega) (by omega)) (hi64 q (by omega) (by omega)) (hi64 r (by omega) (by omega)) (hi64 b (by omega) (by omega))
    refine Ev.bind het ?_
    refine j0 _ ?_
    rw [str_mk]
    have := editB_ne o n p q r b hbo
    simpa using this
  · have hno : (applyL a o n p q r b).2 = false := by simpa using hok
    refine Ev.no hok (Ev.bind (implEqDocs_ev _ _ (by omega)) (Ev.is (Ev.now _) ?_))
    simp only [applyL_no a o n p q r b hno, decide_true]

end Go.Proofs.YtefppmgcenfemaaDoor.Pure
