/- FnExactDocumentText: the pure statement of the law, for every input: what the program's functions and the reference's come to is the same, or what the law says holds. No condition beside the statement's own. -/
import Derived.Test.YtbafockooilcnacDoorQFnExactDocumentTextx4
import Derived.Lib.ItoaNum
import Derived.Lib.Join
namespace Go.Proofs.YtbafockooilcnacDoor.Pure
open Go.RowKit Go.Proofs.YtbafockooilcnacDoor.QFnExactDocumentText Go.Proofs.YtbafockooilcnacDoorW.PrintWords Go.Proofs.YtbafockooilcnacDoorW.PrintLast Go.Proofs.YtbafockooilcnacDoorW.PrintMore
set_option linter.unusedVariables false
set_option linter.unusedSimpArgs false

/-- What is to be shown of the law's function. -/
def FnExactDocumentText_Pure : Prop := ∀ (l0 : List S56), l0.length ≤ maxLen → (∀ x ∈ l0, (Lit.int .i64 x.f0).wf = true ∧ (Lit.int .i64 x.f1).wf = true ∧ (Lit.int .i64 x.f2).wf = true ∧ (Lit.int .i64 x.f3).wf = true ∧ (Lit.int .i64 x.f4).wf = true) → ∃ k, laws_FnExactDocumentText.f k l0 = some true

theorem i64b {x : Int} (h : (Lit.int .i64 x).wf = true) : -9223372036854775808 ≤ x ∧ x ≤ 9223372036854775807 := by
  simp [Lit.wf, IntKind.min, IntKind.max, IntKind.signed, IntKind.bits] at h
  omega
theorem u8b {x : Int} (h : (Lit.int .u8 x).wf = true) : 0 ≤ x ∧ x ≤ 255 := by
  simp [Lit.wf, IntKind.min, IntKind.max, IntKind.signed, IntKind.bits] at h
  omega
theorem w64 {n : Int} (h : -9223372036854775808 ≤ n ∧ n ≤ 9223372036854775807) : wrap64 n = n := by unfold wrap64; omega
theorem w64s {i : Nat} {n : Nat} (h : i < n) (hn : n ≤ 9223372036854775807) : wrap64 ((i : Int) + 1) = ((i + 1 : Nat) : Int) := by unfold wrap64; omega
theorem ltc {i n : Nat} (h : i < n) : (i : Int) < (n : Int) := by omega
theorem nnc (i : Nat) : (0 : Int) ≤ (i : Int) := by omega
theorem nltc (n : Nat) : ¬ (n : Int) < (n : Int) := by omega
theorem rd_at {l : List Int} {i : Nat} {x : Int} (h : l[i]? = some x) : rd l (i : Int) = x := by
  unfold rd
  simp [List.getD, h]
/-- More rounds than some number. -/
theorem ev_k {α : Type} {g : Nat → Option α} {r : α} (h : Ev g r) : ∃ K, ∀ k, K ≤ k → g k = some r := h
theorem ev_succ {α : Type} {g : Nat → Option α} {r : α} (h : ∃ K, ∀ k, K ≤ k → g (k + 1) = some r) : Ev g r := by
  obtain ⟨K, h⟩ := h
  refine ⟨K + 1, fun k hk => ?_⟩
  obtain ⟨m, rfl⟩ : ∃ m, k = m + 1 := ⟨k - 1, by omega⟩
  exact h m (by omega)
/-- A loop over a list, from the front: what it comes to is told of the list's tails. -/
theorem loop_list {α σ ρ : Type} (l : List α) (L : Nat → σ → Int → Option ρ) (f : List α → σ → ρ) (I : Nat → σ → Prop)
    (hnil : ∀ s, I l.length s → Ev (fun k => L k s (l.length : Int)) (f [] s))
    (hcons : ∀ (i : Nat) (x : α) (t : List α) (s : σ), i < l.length → l[i]? = some x → l.drop (i + 1) = t → I i s →
      (∀ s', I (i + 1) s' → Ev (fun k => L k s' ((i + 1 : Nat) : Int)) (f t s')) → Ev (fun k => L k s (i : Int)) (f (x :: t) s)) :
    ∀ (i : Nat) (s : σ), i ≤ l.length → I i s → Ev (fun k => L k s (i : Int)) (f (l.drop i) s) := by
  intro i s hi hI
  generalize hd : l.length - i = d
  induction d generalizing i s with
  | zero =>
    have : i = l.length := by omega
    subst this
    rw [List.drop_length]
    exact hnil s hI
  | succ d ih =>
    have hlt : i < l.length := by omega
    rw [List.drop_eq_getElem_cons hlt]
    exact hcons i l[i] _ s hlt (List.getElem?_eq_getElem hlt) rfl hI (fun s' hI' => ih (i + 1) s' (by omega) hI' (by omega))
theorem loop_list0 {α σ ρ : Type} (l : List α) (L : Nat → σ → Int → Option ρ) (f : List α → σ → ρ) (I : Nat → σ → Prop)
    (hnil : ∀ s, I l.length s → Ev (fun k => L k s (l.length : Int)) (f [] s))
    (hcons : ∀ (i : Nat) (x : α) (t : List α) (s : σ), i < l.length → l[i]? = some x → l.drop (i + 1) = t → I i s →
      (∀ s', I (i + 1) s' → Ev (fun k => L k s' ((i + 1 : Nat) : Int)) (f t s')) → Ev (fun k => L k s (i : Int)) (f (x :: t) s))
    (s : σ) (hI : I 0 s) : Ev (fun k => L k s 0) (f l s) := by
  have := loop_list l L f I hnil hcons 0 s (Nat.zero_le _) hI
  simpa using this
theorem Ev.yes {α : Type} {c : Prop} [Decidable c] {f g : Nat → Option α} {r : α} (h : c) (e : Ev f r) : Ev (fun n => if c then f n else g n) r := by
  simp only [if_pos h]
  exact e
theorem Ev.no {α : Type} {c : Prop} [Decidable c] {f g : Nat → Option α} {r : α} (h : ¬ c) (e : Ev g r) : Ev (fun n => if c then f n else g n) r := by
  simp only [if_neg h]
  exact e
theorem Ev.pure {α β : Type} {x : Option α} {f : Nat → α → Option β} {a : α} {r : β} (h : x = some a) (k : Ev (fun n => f n a) r) : Ev (fun n => x.bind (f n)) r := by
  subst h
  exact k
theorem Ev.is {α : Type} {g : Nat → Option α} {r r' : α} (h : Ev g r) (e : r = r') : Ev g r' := e ▸ h

/-- A loop over the places of a row, with what holds at each: what it comes to. -/
theorem loop_run {σ ρ : Type} (n : Nat) (L : Nat → σ → Int → Option ρ) (I : Nat → σ → Prop) (r : ρ)
    (hdone : ∀ s, I n s → Ev (fun k => L k s (n : Int)) r)
    (hstep : ∀ i s, i < n → I i s → ∃ s', I (i + 1) s' ∧ ∃ K, ∀ k, K ≤ k → L (k + 1) s (i : Int) = L k s' ((i + 1 : Nat) : Int)) :
    ∀ (i : Nat) (s : σ), i ≤ n → I i s → Ev (fun k => L k s (i : Int)) r := by
  intro i s hi hI
  generalize hd : n - i = d
  induction d generalizing i s with
  | zero =>
    have : i = n := by omega
    subst this
    exact hdone s hI
  | succ d ih =>
    obtain ⟨s', hI', K, hK⟩ := hstep i s (by omega) hI
    obtain ⟨K', hK'⟩ := ih (i + 1) s' (by omega) hI' (by omega)
    refine ev_succ ⟨K + K', fun k hk => ?_⟩
    show L (k + 1) s (i : Int) = some r
    rw [hK k (by omega)]
    exact hK' k (by omega)
/-- Copying element by element. -/
theorem copy_loop {α β : Type} (l : List α) (g : α → β) (L : Nat → List β → Int → Option (List β))
    (hdone : ∀ k s, L (k + 1) s (l.length : Int) = some s)
    (hstep : ∀ k i x s, l[i]? = some x → i < l.length → s.length = l.length → L (k + 1) s (i : Int) = L k (s.set i (g x)) ((i + 1 : Nat) : Int))
    (s : List β) (hs : s.length = l.length) : Ev (fun k => L k s 0) (l.map g) := by
  refine loop_run l.length L (fun i s => s.length = l.length ∧ ∀ j, j < i → s[j]? = (l.map g)[j]?) _ ?_ ?_ 0 s (Nat.zero_le _) ⟨hs, fun j hj => by omega⟩
  · rintro s ⟨h1, h2⟩
    have : s = l.map g := by
      apply List.ext_getElem?
      intro j
      by_cases hj : j < l.length
      · exact h2 j hj
      · rw [List.getElem?_eq_none (by omega), List.getElem?_eq_none (by simp; omega)]
    subst this
    exact ev_succ ⟨0, fun k _ => hdone k _⟩
  · rintro i s hi ⟨h1, h2⟩
    have hx := List.getElem?_eq_getElem hi
    refine ⟨s.set i (g l[i]), ⟨by simp [h1], fun j hj => ?_⟩, 0, fun k _ => hstep k i _ s hx hi h1⟩
    by_cases hji : j = i
    · subst hji
      rw [List.getElem?_set_self (by omega)]
      simp [hi]
    · rw [List.getElem?_set_ne (by omega)]
      exact h2 j (by omega)
/-- Two rows held against each other, element by element. -/
theorem eq_loop {α : Type} [DecidableEq α] (a b : List α) (L : Nat → Int → Option Bool) (hlen : a.length = b.length)
    (hdone : ∀ k, L (k + 1) (a.length : Int) = some true)
    (hstep : ∀ k i x y, a[i]? = some x → b[i]? = some y → i < a.length → i < b.length → L (k + 1) (i : Int) = if x = y then L k ((i + 1 : Nat) : Int) else some false) :
    Ev (fun k => L k 0) (decide (a = b)) := by
  suffices H : ∀ d i, i ≤ a.length → a.length - i = d → Ev (fun k => L k (i : Int)) (decide (a.drop i = b.drop i)) by
    simpa using H _ 0 (Nat.zero_le _) rfl
  intro d
  induction d with
  | zero =>
    intro i hi hd
    have : i = a.length := by omega
    subst this
    refine ev_succ ⟨0, fun k _ => ?_⟩
    rw [List.drop_length, hlen, List.drop_length]
    rw [← hlen, hdone]
    simp
  | succ d ih =>
    intro i hi hd
    have h1 : i < a.length := by omega
    have h2 : i < b.length := by omega
    obtain ⟨K, hK⟩ := ih (i + 1) (by omega) (by omega)
    replace hK : ∀ k, K ≤ k → L k ((i + 1 : Nat) : Int) = some (decide (a.drop (i + 1) = b.drop (i + 1))) := hK
    refine ev_succ ⟨K, fun k hk => ?_⟩
    show L (k + 1) (i : Int) = _
    rw [hstep k i _ _ (List.getElem?_eq_getElem h1) (List.getElem?_eq_getElem h2) h1 h2, List.drop_eq_getElem_cons h1, List.drop_eq_getElem_cons h2]
    by_cases h : a[i] = b[i]
    · rw [if_pos h, hK k hk, h]
      simp only [List.cons.injEq, true_and]
    · rw [if_neg h]
      congr 1
      symm
      exact decide_eq_false (fun e => h (List.cons.inj e).1)
/-- Marks from c on, w a place. -/
def marks {β : Type} (m : Int → β) (w : Int) (c : Int) (n : Nat) : List β := (List.range n).map (fun i : Nat => m (c + w * (i : Int)))
theorem marks_len {β : Type} (m : Int → β) (w c : Int) (n : Nat) : (marks m w c n).length = n := by simp [marks]
theorem marks_at {β : Type} (m : Int → β) (w c : Int) (n i : Nat) (h : i < n) : (marks m w c n)[i]? = some (m (c + w * (i : Int))) := by simp [marks, h]
/-- Marking a row in place. -/
theorem mark_loop {β : Type} (m : Int → β) (w : Int) (n : Nat) (c0 : Int) (L : Nat → List β → Int → Int → Option (Int × List β))
    (hdone : ∀ k s c, s.length = n → L (k + 1) s c (n : Int) = some (c, s))
    (hstep : ∀ k i s, i < n → s.length = n → L (k + 1) s (c0 + w * (i : Int)) (i : Int) = L k (s.set i (m (c0 + w * (i : Int)))) (c0 + w * ((i + 1 : Nat) : Int)) ((i + 1 : Nat) : Int))
    (s : List β) (hs : s.length = n) : Ev (fun k => L k s c0 0) (c0 + w * (n : Int), marks m w c0 n) := by
  have := loop_run n (fun k (p : List β × Int) i => L k p.1 p.2 i) (fun i p => p.2 = c0 + w * (i : Int) ∧ p.1.length = n ∧ ∀ j, j < i → p.1[j]? = (marks m w c0 n)[j]?) (c0 + w * (n : Int), marks m w c0 n) ?_ ?_ 0 (s, c0) (Nat.zero_le _) ⟨by simp, hs, fun j hj => by omega⟩
  · exact this
  · rintro ⟨s, c⟩ ⟨h0, h1, h2⟩
    simp only at h0 h1 h2
    have : s = marks m w c0 n := by
      apply List.ext_getElem?
      intro j
      by_cases hj : j < n
      · exact h2 j hj
      · rw [List.getElem?_eq_none (by omega), List.getElem?_eq_none (by rw [marks_len]; omega)]
    subst this
    refine ev_succ ⟨0, fun k _ => ?_⟩
    show L (k + 1) _ c _ = _
    rw [hdone k _ c h1, h0]
  · rintro i ⟨s, c⟩ hi ⟨h0, h1, h2⟩
    simp only at h0 h1 h2
    refine ⟨(s.set i (m (c0 + w * (i : Int))), c0 + w * ((i + 1 : Nat) : Int)), ⟨rfl, by simp [h1], fun j hj => ?_⟩, 0, fun k _ => ?_⟩
    · by_cases hji : j = i
      · subst hji
        simp only
        rw [List.getElem?_set_self (by omega), marks_at _ _ _ _ _ hi]
      · simp only
        rw [List.getElem?_set_ne (by omega)]
        exact h2 j (by omega)
    · simp only [h0]
      exact hstep k i s hi h1
/-- A row's marks told again. -/
theorem held_loop (w : Int) (n : Nat) (c0 : Int) (L : Nat → Int → Int → Option Int)
    (hdone : ∀ k c, L (k + 1) c (n : Int) = some c)
    (hstep : ∀ k i, i < n → L (k + 1) (c0 + w * (i : Int)) (i : Int) = L k (c0 + w * ((i + 1 : Nat) : Int)) ((i + 1 : Nat) : Int)) :
    Ev (fun k => L k c0 0) (c0 + w * (n : Int)) := by
  have := loop_run n L (fun i c => c = c0 + w * (i : Int)) (c0 + w * (n : Int)) ?_ ?_ 0 c0 (Nat.zero_le _) (by simp)
  · exact this
  · rintro c h0
    refine ev_succ ⟨0, fun k _ => ?_⟩
    show L (k + 1) c _ = _
    rw [hdone k c, h0]
  · rintro i c hi h0
    subst h0
    exact ⟨_, rfl, 0, fun k _ => hstep k i hi⟩
/-- As 'loop_run', where a round may take several. -/
theorem loop_ev {σ ρ : Type} (n : Nat) (L : Nat → σ → Int → Option ρ) (I : Nat → σ → Prop) (r : ρ)
    (hdone : ∀ s, I n s → Ev (fun k => L k s (n : Int)) r)
    (hstep : ∀ i s, i < n → I i s → ∃ s', I (i + 1) s' ∧ (Ev (fun k => L k s' ((i + 1 : Nat) : Int)) r → Ev (fun k => L k s (i : Int)) r)) :
    ∀ (i : Nat) (s : σ), i ≤ n → I i s → Ev (fun k => L k s (i : Int)) r := by
  intro i s hi hI
  generalize hd : n - i = d
  induction d generalizing i s with
  | zero =>
    have : i = n := by omega
    subst this
    exact hdone s hI
  | succ d ih =>
    obtain ⟨s', hI', hs⟩ := hstep i s (by omega) hI
    exact hs (ih (i + 1) s' (by omega) hI' (by omega))

theorem bt_at {s : ByteArray} {i : Nat} {x : UInt8} (h : s.data.toList[i]? = some x) : bt s (i : Int) = (x.toNat : Int) := by
  have hi : i < s.size := by
    have := (List.getElem?_eq_some_iff.1 h).1
    rw [Array.length_toList] at this
    exact this
  unfold bt
  rw [Int.toNat_natCast, dif_pos hi]
  have h2 : s.data[i]? = some x := by rw [← h, Array.getElem?_toList]
  have h3 : s[i] = s.data[i]'hi := rfl
  rw [h3, (Array.getElem?_eq_some_iff.1 h2).2]
theorem str_size (l : List UInt8) : (⟨l.toArray⟩ : ByteArray).size = l.length := rfl
theorem str_append (a b : List UInt8) : (⟨a.toArray⟩ : ByteArray) ++ ⟨b.toArray⟩ = ⟨(a ++ b).toArray⟩ := by
  apply ByteArray.ext
  apply Array.toList_inj.1
  rw [ByteArray.toList_data_append]
theorem str_loop (s : ByteArray) (d : Nat) : ∀ (i : Nat) (r : List UInt8), i ≤ s.size → s.size - i = d → ByteArray.toList.loop s i r = r.reverse ++ s.data.toList.drop i := by
  induction d with
  | zero =>
    intro i r hi hd
    have : i = s.data.toList.length := by rw [Array.length_toList]; show i = s.size; omega
    unfold ByteArray.toList.loop
    rw [if_neg (by omega), this, List.drop_length, List.append_nil]
  | succ d ih =>
    intro i r hi hd
    unfold ByteArray.toList.loop
    have hlt : i < s.data.toList.length := by rw [Array.length_toList]; show i < s.size; omega
    rw [if_pos (by omega), ih (i + 1) _ (by omega) (by omega), List.drop_eq_getElem_cons hlt]
    have hg : s.get! i = s.data.toList[i] := by
      show s.data[i]! = _
      rw [getElem!_pos s.data i (by rw [Array.length_toList] at hlt; exact hlt)]
      simp
    rw [hg]
    simp
theorem str_toList (s : ByteArray) : s.toList = s.data.toList := by
  unfold ByteArray.toList
  rw [str_loop s s.size 0 [] (Nat.zero_le _) rfl]
  simp
theorem str_mk (l : List UInt8) : (⟨l.toArray⟩ : ByteArray).toList = l := by rw [str_toList]
theorem str_eta (s : ByteArray) : (⟨s.data.toList.toArray⟩ : ByteArray) = s := rfl

theorem strOf_one (n : Int) : strOfNums [n] = (⟨[UInt8.ofNat n.toNat].toArray⟩ : ByteArray) := rfl
def preD (m : Nat) (acc : List UInt8) : List UInt8 := if m = 0 then acc else Lib.decDigits m ++ acc
theorem preD_step (m : Nat) (h : m ≠ 0) (acc : List UInt8) : preD (m / 10) (UInt8.ofNat (48 + m % 10) :: acc) = preD m acc := by
  unfold preD
  rw [if_neg h]
  by_cases h1 : m < 10
  · rw [if_pos (by omega), Lib.decDigits, dif_pos h1, show m % 10 = m by omega]
    rfl
  · rw [if_neg (by omega)]
    conv => rhs; rw [Lib.decDigits]
    rw [dif_neg h1]
    simp
def signD (n : Int) (l : List UInt8) : List UInt8 := if n < 0 then 45 :: l else l
theorem specFmt_l (x0 : Int) (d : Nat) : ∀ (x : Int) (acc : List UInt8), x.natAbs < 10 ^ d → d ≤ 30 → acc.length + d ≤ 60 → -9223372036854775808 ≤ x → x ≤ 9223372036854775807 → Ev (fun k => spec_FormatInt.l0 k x0 ⟨acc.toArray⟩ x) ⟨(signD x0 (preD x.natAbs acc)).toArray⟩ := by
  have fin : ∀ acc : List UInt8, acc.length ≤ 60 → Ev (fun k => spec_FormatInt.l0 k x0 ⟨acc.toArray⟩ 0) ⟨(signD x0 (preD 0 acc)).toArray⟩ := by
    intro acc ha
    refine Ev.step (fun k => by rw [spec_FormatInt.l0]) ?_
    refine Ev.yes rfl ?_
    unfold signD preD
    by_cases hn : x0 < 0
    · refine Ev.yes hn (Ev.yes (by rw [str_size]; omega) (Ev.is (Ev.now _) ?_))
      rw [if_pos hn, if_pos rfl]
      exact str_append [45] acc
    · exact Ev.no hn (Ev.is (Ev.now _) (by rw [if_neg hn, if_pos rfl]))
  induction d with
  | zero =>
    intro x acc hx _ ha _ _
    have : x = 0 := by simp at hx; omega
    subst this
    exact fin acc (by omega)
  | succ d ih =>
    intro x acc hx hd ha hlo hhi
    by_cases h0 : x = 0
    · subst h0
      exact fin acc (by omega)
    · have hm : x.natAbs / 10 < 10 ^ d := by
        rw [Nat.pow_succ] at hx
        omega
      have ht : Int.tdiv x 10 = (if x < 0 then -((x.natAbs / 10 : Nat) : Int) else ((x.natAbs / 10 : Nat) : Int)) := by
        split
        · obtain ⟨y, rfl⟩ : ∃ y, x = -y := ⟨-x, by omega⟩
          rw [Int.neg_tdiv, Int.tdiv_eq_ediv_of_nonneg (by omega)]
          omega
        · rw [Int.tdiv_eq_ediv_of_nonneg (by omega)]
          omega
      have hr : Int.tmod x 10 = (if x < 0 then -((x.natAbs % 10 : Nat) : Int) else ((x.natAbs % 10 : Nat) : Int)) := by
        split
        · obtain ⟨y, rfl⟩ : ∃ y, x = -y := ⟨-x, by omega⟩
          rw [Int.neg_tmod, Int.tmod_eq_emod_of_nonneg (by omega)]
          omega
        · rw [Int.tmod_eq_emod_of_nonneg (by omega)]
          omega
      have hna : (Int.tdiv x 10).natAbs = x.natAbs / 10 := by rw [ht]; split <;> omega
      have hw : wrap64 (Int.tdiv x 10) = Int.tdiv x 10 := w64 (by rw [ht]; split <;> omega)
      have key := ih (Int.tdiv x 10) (UInt8.ofNat (48 + x.natAbs % 10) :: acc) (by rw [hna]; exact hm) (by omega) (by simp; omega) (by rw [ht]; split <;> omega) (by rw [ht]; split <;> omega)
      rw [hna, preD_step _ (by omega)] at key
      refine Ev.step (fun k => by rw [spec_FormatInt.l0]) ?_
      refine Ev.no h0 ?_
      rw [hw]
      have arm : ∀ (n : Int), n = 48 + ((x.natAbs % 10 : Nat) : Int) → Ev (fun k => ((some ([n % 256] : List Int) : Option (List Int)).bind fun y => (if (strOfNums y).size + (⟨acc.toArray⟩ : ByteArray).size ≤ 9223372036854775807 then (spec_FormatInt.l0 k x0 ((strOfNums y) ++ ⟨acc.toArray⟩) (Int.tdiv x 10)) else none))) ⟨(signD x0 (preD x.natAbs acc)).toArray⟩ := by
        rintro n rfl
        refine Ev.pure rfl (Ev.yes (by rw [strOf_one, str_size, str_size]; simp; omega) ?_)
        rw [strOf_one, str_append, show ((48 + ((x.natAbs % 10 : Nat) : Int)) % 256).toNat = 48 + x.natAbs % 10 by omega]
        exact key
      by_cases hneg : Int.tmod x 10 < 0
      · refine Ev.yes hneg (arm _ ?_)
        rw [hr] at hneg ⊢
        split at hneg
        · rename_i hlt
          rw [if_pos hlt, w64 (n := - -((x.natAbs % 10 : Nat) : Int)) (by omega), w64 (by omega)]
          omega
        · omega
      · refine Ev.no hneg (arm _ ?_)
        rw [hr] at hneg ⊢
        split at hneg
        · rename_i hlt
          rw [if_pos hlt, w64 (by omega)]
          omega
        · rename_i hlt
          rw [if_neg hlt, w64 (by omega)]
theorem specFmt_ev (n : Int) (h : -9223372036854775808 ≤ n ∧ n ≤ 9223372036854775807) : Ev (fun k => spec_FormatInt.f k n) ⟨(Lib.itoa n).toArray⟩ := by
  unfold spec_FormatInt.f
  by_cases h0 : n = 0
  · subst h0
    refine Ev.yes rfl (Ev.is (Ev.now _) ?_)
    unfold Lib.itoa
    rw [if_neg (by decide), Lib.decDigits, dif_pos (by decide)]
    rfl
  · refine Ev.no h0 (Ev.is (specFmt_l n 20 n [] ?_ (by omega) (by simp) h.1 h.2) ?_)
    · have : (10 : Nat) ^ 20 = 100000000000000000000 := by decide
      omega
    · unfold signD preD Lib.itoa
      rw [if_neg (show ¬ n.natAbs = 0 by omega), List.append_nil]
      by_cases hn : n < 0
      · rw [if_pos hn, if_pos hn]
      · rw [if_neg hn, if_neg hn, show n.natAbs = n.toNat by omega]

theorem implFmt_ok (n : Int) (h : -9223372036854775808 ≤ n ∧ n ≤ 9223372036854775807) : impl_FormatInt.f n = some ⟨(Lib.itoa n).toArray⟩ := by
  unfold impl_FormatInt.f strconv_Itoa_24.f
  rw [if_pos h]
  rfl

def isDig (c : UInt8) : Bool := decide (48 ≤ c.toNat ∧ c.toNat ≤ 57)
def valD (n : Int) (l : List UInt8) : Int := l.foldl (fun a c => 10 * a + ((c.toNat : Int) - 48)) n
def parsed (s : ByteArray) : Int × Bool :=
  if (1 ≤ s.size ∧ s.size ≤ 13) ∧ ¬ (1 < s.size ∧ s.data.toList.head? = some 48) ∧ s.data.toList.all isDig = true ∧ valD 0 s.data.toList ≤ 1000000000000 then (valD 0 s.data.toList, true) else (0, false)
def NB (i : Nat) (n : Int) : Prop := ∃ m : Nat, n = (m : Int) ∧ m < 10 ^ i
theorem NB.b {i : Nat} {n : Int} (h : NB i n) (hi : i ≤ 13) : 0 ≤ n ∧ n < 10000000000000 := by
  obtain ⟨m, rfl, hm⟩ := h
  have h1 : (10 : Nat) ^ i ≤ 10 ^ 13 := Nat.pow_le_pow_right (by decide) hi
  have h2 : (10 : Nat) ^ 13 = 10000000000000 := by decide
  omega
theorem NB.step {i : Nat} {n : Int} (h : NB i n) (c : UInt8) (hc : isDig c = true) : NB (i + 1) (10 * n + ((c.toNat : Int) - 48)) := by
  obtain ⟨m, rfl, hm⟩ := h
  unfold isDig at hc
  have hc := of_decide_eq_true hc
  refine ⟨10 * m + (c.toNat - 48), by omega, ?_⟩
  rw [Nat.pow_succ]
  omega
def loopD (t : List UInt8) (n : Int) : Int × Bool := if t.all isDig = true then (if valD n t > 1000000000000 then (0, false) else (valD n t, true)) else (0, false)

theorem digit_val (c : UInt8) (h : isDig c = true) : ∃ m : Nat, m < 10 ∧ (c.toNat : Int) - 48 = m ∧ UInt8.ofNat (48 + m) = c := by
  unfold isDig at h
  have h := of_decide_eq_true h
  refine ⟨c.toNat - 48, by omega, by omega, ?_⟩
  apply UInt8.toNat_inj.1
  rw [UInt8.toNat_ofNat']
  omega
/-- The numeral of a run of digits is the run itself, where no nought stands ahead. -/
theorem digits_back : ∀ (n : Nat) (l : List UInt8), l.length = n → l ≠ [] → l.all isDig = true → (l.length = 1 ∨ l.head? ≠ some 48) → ∃ v : Nat, valD 0 l = (v : Int) ∧ Lib.decDigits v = l := by
  intro n
  induction n with
  | zero => intro l hl hne; exact absurd (List.length_eq_zero_iff.1 hl) hne
  | succ n ih =>
    intro l hl hne hd hh
    obtain ⟨t, c, rfl⟩ : ∃ t c, l = t ++ [c] := ⟨l.dropLast, l.getLast hne, (List.dropLast_concat_getLast hne).symm⟩
    rw [List.all_append, Bool.and_eq_true] at hd
    have hc : isDig c = true := by simpa using hd.2
    obtain ⟨m, hm, hv, hb⟩ := digit_val c hc
    by_cases ht : t = []
    · subst ht
      refine ⟨m, by simp [valD, hv], ?_⟩
      rw [Lib.decDigits, dif_pos hm, hb]
      rfl
    · have hhead : t.head? ≠ some 48 := by
        rcases hh with h | h
        · have : t.length ≠ 0 := fun e => ht (List.length_eq_zero_iff.1 e)
          simp only [List.length_append, List.length_cons, List.length_nil] at h
          omega
        · cases t with
          | nil => exact absurd rfl ht
          | cons x t => simpa using h
      obtain ⟨v, h1, h2⟩ := ih t (by rw [List.length_append] at hl; simpa using hl) ht hd.1 (.inr hhead)
      have hv0 : v ≠ 0 := by
        rintro rfl
        rw [Lib.decDigits, dif_pos (by decide)] at h2
        rw [← h2] at hhead
        exact hhead rfl
      refine ⟨10 * v + m, ?_, ?_⟩
      · simp only [valD, List.foldl_append, List.foldl_cons, List.foldl_nil] at h1 ⊢
        rw [h1, hv]
        omega
      · rw [Lib.decDigits, dif_neg (by omega), show (10 * v + m) / 10 = v by omega, show (10 * v + m) % 10 = m by omega, h2, hb]
theorem decDigits_ne (n : Nat) : Lib.decDigits n ≠ [] := by
  rw [Lib.decDigits]
  split
  · simp
  · simp
theorem decDigits_head (n : Nat) (h : 1 ≤ n) : (Lib.decDigits n).head? ≠ some 48 := by
  induction n using Nat.strongRecOn with
  | _ n ih =>
    rw [Lib.decDigits]
    split
    · rename_i h1
      intro e
      simp only [List.head?_cons, Option.some.injEq] at e
      have := congrArg UInt8.toNat e
      rw [UInt8.toNat_ofNat'] at this
      have e48 : (48 : UInt8).toNat = 48 := rfl
      omega
    · rename_i h1
      have := ih (n / 10) (by omega) (by omega)
      cases hc : Lib.decDigits (n / 10) with
      | nil => exact absurd hc (decDigits_ne _)
      | cons x t => rw [hc] at this; simpa using this
theorem valD_nn (l : List UInt8) (h : l.all isDig = true) : ∀ n : Int, 0 ≤ n → 0 ≤ valD n l := by
  induction l with
  | nil => intro n hn; exact hn
  | cons c t ih =>
    intro n hn
    simp only [List.all_cons, Bool.and_eq_true] at h
    obtain ⟨m, hm, hv, _⟩ := digit_val c h.1
    exact ih h.2 (10 * n + ((c.toNat : Int) - 48)) (by omega)
/-- Whether the numeral comes back: no nought ahead of other digits. -/
theorem itoa_val (l : List UInt8) (hne : l ≠ []) (h : l.all isDig = true) : Lib.itoa (valD 0 l) = l ↔ ¬ (1 < l.length ∧ l.head? = some 48) := by
  have hnn := valD_nn l h 0 (Int.le_refl _)
  have e : Lib.itoa (valD 0 l) = Lib.decDigits (valD 0 l).toNat := by unfold Lib.itoa; rw [if_neg (by omega)]
  rw [e]
  constructor
  · rintro h1 ⟨h2, h3⟩
    by_cases h0 : (valD 0 l).toNat = 0
    · rw [h0, Lib.decDigits, dif_pos (by decide)] at h1
      rw [← h1] at h2
      simp at h2
    · have := decDigits_head _ (show 1 ≤ (valD 0 l).toNat by omega)
      rw [h1] at this
      exact this h3
  · intro h1
    obtain ⟨v, h2, h3⟩ := digits_back l.length l rfl hne h (by
      by_cases a : l.length = 1
      · exact .inl a
      · refine .inr (fun e => h1 ⟨?_, e⟩)
        have : l.length ≠ 0 := fun e => hne (List.length_eq_zero_iff.1 e)
        omega)
    rw [h2, Int.toNat_natCast]
    exact h3
theorem digit_of (m : Nat) (h : m < 10) : isDig (UInt8.ofNat (48 + m)) = true ∧ ((UInt8.ofNat (48 + m)).toNat : Int) - 48 = m := by
  have e : (UInt8.ofNat (48 + m)).toNat = 48 + m := by
    rw [UInt8.toNat_ofNat']
    omega
  unfold isDig
  rw [e]
  exact ⟨decide_eq_true (by omega), by omega⟩
theorem valD_snoc (l : List UInt8) (c : UInt8) : ∀ n, valD n (l ++ [c]) = 10 * valD n l + ((c.toNat : Int) - 48) := by
  intro n
  simp only [valD, List.foldl_append, List.foldl_cons, List.foldl_nil]
theorem decDigits_dig (n : Nat) : (Lib.decDigits n).all isDig = true ∧ valD 0 (Lib.decDigits n) = n := by
  induction n using Nat.strongRecOn with
  | _ n ih =>
    rw [Lib.decDigits]
    split
    · rename_i h
      have := digit_of n h
      refine ⟨by simp only [List.all_cons, List.all_nil, this.1, Bool.and_self], ?_⟩
      simp only [valD, List.foldl_cons, List.foldl_nil]
      omega
    · rename_i h
      have h1 := ih (n / 10) (by omega)
      have h2 := digit_of (n % 10) (by omega)
      refine ⟨by rw [List.all_append, h1.1]; simp only [List.all_cons, List.all_nil, h2.1, Bool.and_self], ?_⟩
      rw [valD_snoc, h1.2, h2.2]
      omega
theorem decDigits_len (k : Nat) : ∀ n, n < 10 ^ (k + 1) → (Lib.decDigits n).length ≤ k + 1 := by
  induction k with
  | zero =>
    intro n h
    rw [Lib.decDigits, dif_pos (by simpa using h)]
    simp
  | succ k ih =>
    intro n h
    rw [Lib.decDigits]
    split
    · simp
    · have := ih (n / 10) (by rw [Nat.pow_succ] at h; omega)
      rw [List.length_append]
      simp only [List.length_cons, List.length_nil]
      omega
theorem itoa_pos (m : Int) (h : 0 ≤ m) : Lib.itoa m = Lib.decDigits m.toNat := by unfold Lib.itoa; rw [if_neg (by omega)]
theorem itoa_ne (m : Int) : Lib.itoa m ≠ [] := by
  unfold Lib.itoa
  split
  · simp
  · exact decDigits_ne _
theorem itoa_len (m : Int) (h : -9223372036854775808 ≤ m ∧ m ≤ 9223372036854775807) : 1 ≤ (Lib.itoa m).length ∧ (Lib.itoa m).length ≤ 20 := by
  have h0 : (Lib.itoa m).length ≠ 0 := fun e => itoa_ne m (List.length_eq_zero_iff.1 e)
  refine ⟨by omega, ?_⟩
  have hp : (10 : Nat) ^ (18 + 1) = 10000000000000000000 := by decide
  unfold Lib.itoa
  split
  · have := decDigits_len 18 m.natAbs (by rw [hp]; omega)
    rw [List.length_cons]
    omega
  · have := decDigits_len 18 m.toNat (by rw [hp]; omega)
    omega
/-- A number's numeral, parsed. -/
theorem parsed_itoa (m : Int) : parsed ⟨(Lib.itoa m).toArray⟩ = if 0 ≤ m ∧ m ≤ 1000000000000 then (m, true) else (0, false) := by
  have hsz : (⟨(Lib.itoa m).toArray⟩ : ByteArray).size = (Lib.itoa m).length := rfl
  have hl : (⟨(Lib.itoa m).toArray⟩ : ByteArray).data.toList = Lib.itoa m := rfl
  unfold parsed
  rw [hsz, hl]
  by_cases h0 : 0 ≤ m
  · have e := itoa_pos m h0
    have hd := decDigits_dig m.toNat
    have hne := decDigits_ne m.toNat
    rw [e]
    have hv : valD 0 (Lib.decDigits m.toNat) = m := by rw [hd.2]; omega
    by_cases h1 : m ≤ 1000000000000
    · rw [if_pos (⟨h0, h1⟩ : 0 ≤ m ∧ m ≤ 1000000000000)]
      have hlen := decDigits_len 12 m.toNat (by
        have : (10 : Nat) ^ (12 + 1) = 10000000000000 := by decide
        rw [this]
        omega)
      have h2 : (Lib.decDigits m.toNat).length ≠ 0 := fun e => hne (List.length_eq_zero_iff.1 e)
      have key := (itoa_val _ hne hd.1).1 (by rw [hv]; exact e)
      rw [if_pos ⟨by omega, key, hd.1, by rw [hv]; exact h1⟩, hv]
    · rw [if_neg (fun h => h1 (by have := h.2.2.2; rw [hv] at this; exact this)), if_neg (fun h => h1 h.2)]
  · rw [if_neg (c := 0 ≤ m ∧ m ≤ 1000000000000) (fun h => h0 h.1)]
    have e : Lib.itoa m = 45 :: Lib.decDigits m.natAbs := by unfold Lib.itoa; rw [if_pos (by omega)]
    rw [if_neg]
    rintro ⟨_, _, h, _⟩
    rw [e, List.all_cons] at h
    have : isDig 45 = false := by decide
    rw [this] at h
    cases h
/-- What is parsed is a numeral. -/
theorem parsed_back (s : ByteArray) (h : (parsed s).2 = true) : (⟨(Lib.itoa (parsed s).1).toArray⟩ : ByteArray) = s ∧ 0 ≤ (parsed s).1 ∧ (parsed s).1 ≤ 1000000000000 := by
  have hl : s.data.toList.length = s.size := by rw [Array.length_toList]; rfl
  unfold parsed at h ⊢
  split at h
  · rename_i g
    rw [if_pos g]
    obtain ⟨h1, h2, h3, h4⟩ := g
    have hne : s.data.toList ≠ [] := fun e => by rw [e] at hl; simp at hl; omega
    have key := (itoa_val _ hne h3).2 (by rw [hl]; exact h2)
    refine ⟨?_, valD_nn _ h3 0 (Int.le_refl _), h4⟩
    simp only
    rw [key]
  · cases h

theorem rdN_at {l : List S54} {i : Nat} {x : S54} (h : l[i]? = some x) : rd_T54 l (i : Int) = x := by
  unfold rd_T54
  simp [List.getD, h]
theorem rdLN_at {l : List S56} {i : Nat} {x : S56} (h : l[i]? = some x) : rd_T56 l (i : Int) = x := by
  unfold rd_T56
  simp [List.getD, h]
def n5 (x : S56) : S54 := ⟨x.f0, x.f1, x.f2, x.f3, x.f4⟩
theorem node_ext (x y : S54) : x = y ↔ x.f0 = y.f0 ∧ x.f1 = y.f1 ∧ x.f2 = y.f2 ∧ x.f3 = y.f3 ∧ x.f4 = y.f4 := by
  obtain ⟨a, b, c, d, e⟩ := x
  obtain ⟨a', b', c', d', e'⟩ := y
  simp only [S54.mk.injEq]
instance : DecidableEq S54 := fun x y => decidable_of_iff _ (node_ext x y).symm
theorem szNode (l : List S56) (c : Int) (h : l.length ≤ 9223372036854775807) (hc : 0 ≤ c ∧ c ≤ 1048576) : laws_szNodeS.f l c = some (if c < (l.length : Int) then -1 else c - l.length) := by
  unfold laws_szNodeS.f
  rw [w64 (by omega)]
  split <;> split <;> first | rfl | omega
theorem toNodeS_ev (l : List S56) (h : l.length ≤ 1048576) : Ev (fun k => laws_toNodeS.f k l) (l.map n5) := by
  have H := copy_loop l n5 (fun k s i => laws_toNodeS.l0 k l s i) (fun k s => by simp only [laws_toNodeS.l0, nltc, if_false]) (fun k i x s hx hi hs => by
    simp only [laws_toNodeS.l0, laws_toNode.f, Option.bind_some, ltc hi, nnc, hs, if_true, rdLN_at hx, w64s hi (show l.length ≤ 9223372036854775807 by omega), Int.toNat_natCast, n5]) (List.replicate l.length z54) (by simp)
  obtain ⟨K, hK⟩ := H
  refine ⟨K, fun k hk => ?_⟩
  simp only [laws_toNodeS.f, nnc, if_true, Int.toNat_natCast, show l.length ≤ 7036874417766 from by omega]
  exact hK k hk
theorem eqNode_eq (a b : S54) : laws_eqNode.f a.f0 a.f1 a.f2 a.f3 a.f4 b.f0 b.f1 b.f2 b.f3 b.f4 = some (decide (a = b)) := by
  unfold laws_eqNode.f
  rw [show (decide (a = b)) = decide (a.f0 = b.f0 ∧ a.f1 = b.f1 ∧ a.f2 = b.f2 ∧ a.f3 = b.f3 ∧ a.f4 = b.f4) from by simp only [node_ext]]
  by_cases h0 : a.f0 = b.f0
  · by_cases h1 : a.f1 = b.f1
    · by_cases h2 : a.f2 = b.f2
      · by_cases h3 : a.f3 = b.f3
        · by_cases h4 : a.f4 = b.f4 <;> simp [h0, h1, h2, h3, h4]
        · simp [h0, h1, h2, h3]
      · simp [h0, h1, h2]
    · simp [h0, h1]
  · simp [h0]
theorem eqNodeS_ev (a b : List S54) (h : a.length ≤ 9223372036854775807) : Ev (fun k => laws_eqNodeS.f k a b) (decide (a = b)) := by
  by_cases hl : a.length = b.length
  · have H := eq_loop a b (fun k i => laws_eqNodeS.l0 k a b i) hl (fun k => by simp only [laws_eqNodeS.l0, nltc, if_false]) (fun k i x y hx hy hi hi2 => by
      simp only [laws_eqNodeS.l0, ltc hi, ltc hi2, nnc, if_true, rdN_at hx, rdN_at hy, w64s hi h, eqNode_eq, Option.bind_some, decide_eq_true_eq])
    obtain ⟨K, hK⟩ := H
    refine ⟨K, fun k hk => ?_⟩
    simp only [laws_eqNodeS.f, hl, if_true]
    exact hK k hk
  · refine ⟨0, fun k _ => ?_⟩
    simp only [laws_eqNodeS.f]
    rw [if_neg (by omega)]
    congr 1
    symm
    exact decide_eq_false (fun e => hl (by rw [e]))
theorem eqNodeS_self (a : List S54) (h : a.length ≤ 9223372036854775807) : Ev (fun k => laws_eqNodeS.f k a a) true := Ev.is (eqNodeS_ev a a h) (by simp)
def mNode (c : Int) : S54 := ⟨c, c + 1, c + 2, c + 3, c + 4⟩

def nodeB (x : S54) : List UInt8 := Lib.itoa x.f0 ++ ([60] ++ (Lib.itoa x.f1 ++ ([58] ++ (Lib.itoa x.f2 ++ ([46] ++ (Lib.itoa x.f3 ++ ([64] ++ Lib.itoa x.f4)))))))
def i64n (x : S54) : Prop := (-9223372036854775808 ≤ x.f0 ∧ x.f0 ≤ 9223372036854775807) ∧ (-9223372036854775808 ≤ x.f1 ∧ x.f1 ≤ 9223372036854775807) ∧ (-9223372036854775808 ≤ x.f2 ∧ x.f2 ≤ 9223372036854775807) ∧ (-9223372036854775808 ≤ x.f3 ∧ x.f3 ≤ 9223372036854775807) ∧ (-9223372036854775808 ≤ x.f4 ∧ x.f4 ≤ 9223372036854775807)
theorem nodeB_len (x : S54) (h : i64n x) : 1 ≤ (nodeB x).length ∧ (nodeB x).length ≤ 104 := by
  obtain ⟨h0, h1, h2, h3, h4⟩ := h
  have l0 := itoa_len _ h0
  have l1 := itoa_len _ h1
  have l2 := itoa_len _ h2
  have l3 := itoa_len _ h3
  have l4 := itoa_len _ h4
  unfold nodeB
  simp only [List.length_append, List.length_cons, List.length_nil]
  omega
def joinB (ys : List (List UInt8)) : List UInt8 := if ys = [] then [45] else Lib.join ys [32]
theorem joinTail_len (r : List (List UInt8)) (h : ∀ b ∈ r, b.length ≤ 104) : (Lib.joinTail [32] r).length ≤ 105 * r.length := by
  induction r with
  | nil => simp [Lib.joinTail]
  | cons x t ih =>
    have h1 := h x List.mem_cons_self
    have h2 := ih (fun b hb => h b (List.mem_cons_of_mem _ hb))
    unfold Lib.joinTail at h2 ⊢
    simp only [List.map_cons, List.flatten_cons, List.length_append, List.length_cons, List.length_nil] at h2 ⊢
    omega
theorem join_len (r : List (List UInt8)) (h : ∀ b ∈ r, b.length ≤ 104) : (Lib.join r [32]).length ≤ 105 * r.length := by
  cases r with
  | nil => simp [Lib.join_nil]
  | cons x t =>
    rw [Lib.join_cons]
    have h1 := h x List.mem_cons_self
    have h2 := joinTail_len t (fun b hb => h b (List.mem_cons_of_mem _ hb))
    simp only [List.length_append, List.length_cons]
    omega
theorem joinTail_cons (x : List UInt8) (r : List (List UInt8)) : Lib.joinTail [32] (x :: r) = [32] ++ (x ++ Lib.joinTail [32] r) := by
  simp [Lib.joinTail]
theorem specText_j (l : List S54) (hl : l.length ≤ 4000000) (i : Nat) (x : S54) (hi : i < l.length) (hx : l[i]? = some x) (hn : i64n x) (s : List UInt8) (hs : s.length ≤ 1000000000) (r : ByteArray)
    (h : Ev (fun k => spec_DocumentText.l0 k l ⟨(s ++ nodeB x).toArray⟩ ((i + 1 : Nat) : Int)) r) : Ev (fun k => spec_DocumentText.j1 k l ⟨s.toArray⟩ (i : Int)) r := by
  obtain ⟨h0, h1, h2, h3, h4⟩ := hn
  have l0 := itoa_len _ h0
  have l1 := itoa_len _ h1
  have l2 := itoa_len _ h2
  have l3 := itoa_len _ h3
  have l4 := itoa_len _ h4
  have e0 := specFmt_ev _ h0
  have e1 := specFmt_ev _ h1
  have e2 := specFmt_ev _ h2
  have e3 := specFmt_ev _ h3
  have e4 := specFmt_ev _ h4
  unfold nodeB at h
  refine Ev.step (fun k => by rw [spec_DocumentText.j1]) ?_
  rw [rdN_at hx, w64s hi (by omega)]
  generalize Lib.itoa x.f0 = a0 at *
  generalize Lib.itoa x.f1 = a1 at *
  generalize Lib.itoa x.f2 = a2 at *
  generalize Lib.itoa x.f3 = a3 at *
  generalize Lib.itoa x.f4 = a4 at *
  refine Ev.yes (by omega) (Ev.yes (by omega) (Ev.bind e0 (Ev.yes ?_ (Ev.yes ?_ (Ev.bind e1 (Ev.yes ?_ (Ev.yes ?_ (Ev.bind e2 (Ev.yes ?_ (Ev.yes ?_ (Ev.bind e3 (Ev.yes ?_ (Ev.yes ?_ (Ev.bind e4 (Ev.yes ?_ ?_)))))))))))))))
  all_goals first
    | (simp only [str_append, str_size, List.length_append, List.length_cons, List.length_nil]; omega)
    | (simp only [str_append, List.append_assoc]; exact h)
def docB (l : List S54) : List UInt8 := joinB (l.map nodeB)
theorem specText_ev (l : List S54) (hl : l.length ≤ 4000000) (hn : ∀ x ∈ l, i64n x) : Ev (fun k => spec_DocumentText.f k l) ⟨(docB l).toArray⟩ := by
  have := loop_list0 l (fun k (s : List UInt8) i => spec_DocumentText.l0 k l ⟨s.toArray⟩ i) (fun t s => (⟨(if s = [] then docB t else s ++ Lib.joinTail [32] (t.map nodeB)).toArray⟩ : ByteArray)) (fun i s => (s = [] ↔ i = 0) ∧ s.length ≤ 105 * i) ?_ ?_ [] (by simp)
  · exact this
  · rintro s ⟨hs1, hs2⟩
    refine Ev.step (fun k => by rw [spec_DocumentText.l0]) ?_
    refine Ev.no (nltc _) ?_
    by_cases h0 : l.length = 0
    · refine Ev.yes (by omega) (Ev.is (Ev.now _) ?_)
      rw [if_pos (hs1.2 h0)]
      rfl
    · refine Ev.no (by omega) (Ev.is (Ev.now _) ?_)
      rw [if_neg (fun e => h0 (hs1.1 e))]
      simp [Lib.joinTail]
  · rintro i x t s hi hx ht ⟨hs1, hs2⟩ ih
    have hnx := hn x (List.mem_of_getElem? hx)
    have hb := nodeB_len x hnx
    have hne : nodeB x ≠ [] := fun e => by rw [e] at hb; simp at hb
    refine Ev.step (fun k => by rw [spec_DocumentText.l0]) ?_
    refine Ev.yes (ltc hi) ?_
    by_cases h0 : i = 0
    · have hse := hs1.2 h0
      subst hse
      refine Ev.no (by omega) (specText_j l hl i x hi hx hnx [] (by simp) _ (Ev.is (ih (nodeB x) ⟨by simp [hne], by omega⟩) ?_))
      rw [if_neg hne, if_pos rfl]
      unfold docB joinB
      rw [if_neg (by simp), List.map_cons, Lib.join_cons]
    · have hse : s ≠ [] := fun e => h0 (hs1.1 e)
      refine Ev.yes (by omega) (Ev.yes ?_ ?_)
      · rw [str_size]
        omega
      · rw [str_append]
        refine specText_j l hl i x hi hx hnx (s ++ [32]) (by simp; omega) _ (Ev.is (ih (s ++ [32] ++ nodeB x) ⟨by simp [hne], by simp; omega⟩) ?_)
        rw [if_neg (by simp), if_neg hse, List.map_cons, joinTail_cons]
        simp only [List.append_assoc]
theorem implJoined (ys : List (List UInt8)) (hy : ∀ b ∈ ys, b.length ≤ 104) (hl : ys.length ≤ 4000000) : impl_joined.f (ys.map (fun b => (⟨b.toArray⟩ : ByteArray))) = some ⟨(joinB ys).toArray⟩ := by
  unfold impl_joined.f joinB
  rw [List.length_map]
  cases ys with
  | nil => rfl
  | cons y t =>
    rw [if_neg (by simp; omega), if_neg (by simp)]
    have hm : ((y :: t).map (fun b => (⟨b.toArray⟩ : ByteArray))).map (fun x => x.data.toList) = y :: t := by
      rw [List.map_map]
      exact List.map_id' _
    have hj := join_len (y :: t) hy
    unfold strings_Join.f
    rw [hm, List.length_map, if_pos ⟨hl, by
      show (Lib.join (y :: t) [32]).length ≤ _
      omega⟩]
    rfl
theorem implText_ev (l : List S54) (hl : l.length ≤ 4000000) (hn : ∀ x ∈ l, i64n x) : Ev (fun k => impl_DocumentText.f k l) ⟨(docB l).toArray⟩ := by
  have := loop_list0 l (fun k (s : List (List UInt8)) i => impl_DocumentText.l0 k (s.map (fun b => (⟨b.toArray⟩ : ByteArray))) l (l.length : Int) i) (fun t s => (⟨(joinB (s ++ t.map nodeB)).toArray⟩ : ByteArray)) (fun i s => s.length = i ∧ ∀ b ∈ s, b.length ≤ 104) ?_ ?_ [] (by simp)
  · exact this
  · rintro s ⟨hs1, hs2⟩
    refine Ev.step (fun k => by rw [impl_DocumentText.l0]) ?_
    exact Ev.no (nltc _) (Ev.pure (implJoined s hs2 (by omega)) (Ev.is (Ev.now _) (by simp)))
  · rintro i x t s hi hx ht ⟨hs1, hs2⟩ ih
    have hnx := hn x (List.mem_of_getElem? hx)
    have hb := nodeB_len x hnx
    obtain ⟨h0, h1, h2, h3, h4⟩ := hnx
    have l0 := itoa_len _ h0
    have l1 := itoa_len _ h1
    have l2 := itoa_len _ h2
    have l3 := itoa_len _ h3
    have l4 := itoa_len _ h4
    have e0 := implFmt_ok _ h0
    have e1 := implFmt_ok _ h1
    have e2 := implFmt_ok _ h2
    have e3 := implFmt_ok _ h3
    have e4 := implFmt_ok _ h4
    have h := ih (s ++ [nodeB x]) ⟨by simp; omega, fun b hb' => by
      rcases List.mem_append.1 hb' with hb' | hb'
      · exact hs2 b hb'
      · rw [List.mem_singleton] at hb'
        rw [hb']
        exact hb.2⟩
    rw [List.append_assoc] at h
    rw [List.map_append] at h
    refine Ev.step (fun k => by rw [impl_DocumentText.l0]) ?_
    rw [rdN_at hx, w64s hi (by omega)]
    have hgoal : joinB (s ++ (x :: t).map nodeB) = joinB (s ++ ([nodeB x] ++ t.map nodeB)) := rfl
    rw [hgoal]
    generalize joinB (s ++ ([nodeB x] ++ t.map nodeB)) = res at *
    unfold nodeB at h
    generalize Lib.itoa x.f0 = a0 at *
    generalize Lib.itoa x.f1 = a1 at *
    generalize Lib.itoa x.f2 = a2 at *
    generalize Lib.itoa x.f3 = a3 at *
    generalize Lib.itoa x.f4 = a4 at *
    refine Ev.yes (by omega) (Ev.yes (by omega) (Ev.yes (by omega) (Ev.pure e0 (Ev.yes ?_ (Ev.pure e1 (Ev.yes ?_ (Ev.yes ?_ (Ev.pure e2 (Ev.yes ?_ (Ev.yes ?_ (Ev.pure e3 (Ev.yes ?_ (Ev.yes ?_ (Ev.pure e4 (Ev.yes ?_ (Ev.yes ?_ ?_))))))))))))))))
    all_goals first
      | (simp only [List.length_map]; omega)
      | (simp only [str_append, str_size, List.length_append, List.length_cons, List.length_nil]; omega)
      | (simp only [str_append, List.append_assoc]; exact h)

theorem FnExactDocumentText : FnExactDocumentText_Pure := by
  intro l hl hw
  have hm : maxLen = 9223372036854775807 := by decide
  refine Ev.rounds (g := fun k => laws_FnExactDocumentText.f k l) ?_
  unfold laws_FnExactDocumentText.f
  refine Ev.pure (szNode l 1048576 (by omega) (by decide)) ?_
  by_cases h1 : (1048576 : Int) < l.length
  · exact Ev.yes (by rw [if_pos h1]; decide) (Ev.now _)
  refine Ev.no (by rw [if_neg h1]; omega) ?_
  have e1 := toNodeS_ev l (by omega)
  have hlen : (l.map n5).length = l.length := by simp
  have hn : ∀ x ∈ l.map n5, i64n x := by
    intro x hx
    obtain ⟨y, hy, rfl⟩ := List.mem_map.1 hx
    obtain ⟨w0, w1, w2, w3, w4⟩ := hw y hy
    exact ⟨i64b w0, i64b w1, i64b w2, i64b w3, i64b w4⟩
  generalize l.map n5 = a at e1 hlen hn
  have e3 := specText_ev a (by omega) hn
  have e4 := implText_ev a (by omega) hn
  have e5 := eqNodeS_self a (by omega)
  exact Ev.bind e1 (Ev.bind e3 (Ev.bind e1 (Ev.bind e4 (Ev.yes rfl (Ev.bind e1 (Ev.bind e5 (Ev.yes rfl (Ev.now _))))))))

end Go.Proofs.YtbafockooilcnacDoor.Pure
