import Derived.Test.YtiiibfpijmmbfaaQFnExactEditByHandlex16
namespace Go.Proofs.Ytiiibfpijmmbfaa.Pure
open Go.RowKit Go.Proofs.Ytiiibfpijmmbfaa.QFnExactEditByHandle Go.Proofs.YtiiibfpijmmbfaaW.PrintWords Go.Proofs.YtiiibfpijmmbfaaW.PrintLast Go.Proofs.YtiiibfpijmmbfaaW.PrintMore
set_option linter.unusedVariables false
set_option linter.unusedSimpArgs false
def FnExactEditByHandle_Pure : Prop := ∀ (l0 : List S87) (l1 : List Int) (a2 : Int) (a3 : Int) (a4 : Int) (a5 : Int), l0.length ≤ maxLen → (∀ x ∈ l0, (Lit.int .i64 x.f0).wf = true ∧ (Lit.int .i64 x.f1).wf = true ∧ (Lit.int .i64 x.f2).wf = true ∧ (Lit.int .i64 x.f3).wf = true ∧ (Lit.int .i64 x.f4).wf = true) → l1.length ≤ maxLen → l1.length * 8 ≤ 140737488351232 → (∀ x ∈ l1, (Lit.int .i64 x).wf = true) → (Lit.int .i64 a2).wf = true → (Lit.int .i64 a3).wf = true → (Lit.int .i64 a4).wf = true → (Lit.int .i64 a5).wf = true → ∃ k, laws_FnExactEditByHandle.f k l0 l1 a2 a3 a4 a5 = some true
theorem w64 {n : Int} (h : -9223372036854775808 ≤ n ∧ n ≤ 9223372036854775807) : wrap64 n = n := by unfold wrap64; omega
theorem w64s {i : Nat} {n : Nat} (h : i < n) (hn : n ≤ 9223372036854775807) : wrap64 ((i : Int) + 1) = ((i + 1 : Nat) : Int) := by unfold wrap64; omega
theorem ltc {i n : Nat} (h : i < n) : (i : Int) < (n : Int) := by omega
theorem nnc (i : Nat) : (0 : Int) ≤ (i : Int) := by omega
theorem nltc (n : Nat) : ¬ (n : Int) < (n : Int) := by omega
theorem rd_at {l : List Int} {i : Nat} {x : Int} (h : l[i]? = some x) : rd l (i : Int) = x := by
 unfold rd
 simp [List.getD, h]
theorem ev_succ {α : Type} {g : Nat → Option α} {r : α} (h : ∃ K, ∀ k, K ≤ k → g (k + 1) = some r) : Ev g r := by
 obtain ⟨K, h⟩ := h
 refine ⟨K + 1, fun k hk => ?_⟩
 obtain ⟨m, rfl⟩ : ∃ m, k = m + 1 := ⟨k - 1, by omega⟩
 exact h m (by omega)
theorem loop_list {α σ ρ : Type} (l : List α) (L : Nat → σ → Int → Option ρ) (f : List α → σ → ρ) (I : Nat → σ → Prop)
  (hnil : ∀ s, I l.length s → Ev (fun k => L k s (l.length : Int)) (f [] s))
  (hcons : ∀ (i : Nat) (x : α) (t : List α) (s : σ), i < l.length → l[i]? = some x → l.drop (i + 1) = t → I i s →
   (∀ s', I (i + 1) s' → Ev (fun k => L k s' ((i + 1 : Nat) : Int)) (f t s')) → Ev (fun k => L k s (i : Int)) (f (x :: t) s)) :
  ∀ (i : Nat) (s : σ), i ≤ l.length → I i s → Ev (fun k => L k s (i : Int)) (f (l.drop i) s) := by
 intro i s hi hI
 generalize hd : l.length - i = d
 induction d generalizing i s with
 | zero =>
  have : i = l.length := by omega
  subst this
  rw [List.drop_length]
  exact hnil s hI
 | succ d ih =>
  have hlt : i < l.length := by omega
  rw [List.drop_eq_getElem_cons hlt]
  exact hcons i l[i] _ s hlt (List.getElem?_eq_getElem hlt) rfl hI (fun s' hI' => ih (i + 1) s' (by omega) hI' (by omega))
theorem loop_list0 {α σ ρ : Type} (l : List α) (L : Nat → σ → Int → Option ρ) (f : List α → σ → ρ) (I : Nat → σ → Prop)
  (hnil : ∀ s, I l.length s → Ev (fun k => L k s (l.length : Int)) (f [] s))
  (hcons : ∀ (i : Nat) (x : α) (t : List α) (s : σ), i < l.length → l[i]? = some x → l.drop (i + 1) = t → I i s →
   (∀ s', I (i + 1) s' → Ev (fun k => L k s' ((i + 1 : Nat) : Int)) (f t s')) → Ev (fun k => L k s (i : Int)) (f (x :: t) s))
  (s : σ) (hI : I 0 s) : Ev (fun k => L k s 0) (f l s) := by
 have := loop_list l L f I hnil hcons 0 s (Nat.zero_le _) hI
 simpa using this
theorem Ev.yes {α : Type} {c : Prop} [Decidable c] {f g : Nat → Option α} {r : α} (h : c) (e : Ev f r) : Ev (fun n => if c then f n else g n) r := by
 simp only [if_pos h]
 exact e
theorem Ev.no {α : Type} {c : Prop} [Decidable c] {f g : Nat → Option α} {r : α} (h : ¬ c) (e : Ev g r) : Ev (fun n => if c then f n else g n) r := by
 simp only [if_neg h]
 exact e
theorem Ev.pure {α β : Type} {x : Option α} {f : Nat → α → Option β} {a : α} {r : β} (h : x = some a) (k : Ev (fun n => f n a) r) : Ev (fun n => x.bind (f n)) r := by
 subst h
 exact k
theorem Ev.is {α : Type} {g : Nat → Option α} {r r' : α} (h : Ev g r) (e : r = r') : Ev g r' := e ▸ h
theorem loop_run {σ ρ : Type} (n : Nat) (L : Nat → σ → Int → Option ρ) (I : Nat → σ → Prop) (r : ρ)
  (hdone : ∀ s, I n s → Ev (fun k => L k s (n : Int)) r)
  (hstep : ∀ i s, i < n → I i s → ∃ s', I (i + 1) s' ∧ ∃ K, ∀ k, K ≤ k → L (k + 1) s (i : Int) = L k s' ((i + 1 : Nat) : Int)) :
  ∀ (i : Nat) (s : σ), i ≤ n → I i s → Ev (fun k => L k s (i : Int)) r := by
 intro i s hi hI
 generalize hd : n - i = d
 induction d generalizing i s with
 | zero =>
  have : i = n := by omega
  subst this
  exact hdone s hI
 | succ d ih =>
  obtain ⟨s', hI', K, hK⟩ := hstep i s (by omega) hI
  obtain ⟨K', hK'⟩ := ih (i + 1) s' (by omega) hI' (by omega)
  refine ev_succ ⟨K + K', fun k hk => ?_⟩
  show L (k + 1) s (i : Int) = some r
  rw [hK k (by omega)]
  exact hK' k (by omega)
theorem copy_loop {α β : Type} (l : List α) (g : α → β) (L : Nat → List β → Int → Option (List β))
  (hdone : ∀ k s, L (k + 1) s (l.length : Int) = some s)
  (hstep : ∀ k i x s, l[i]? = some x → i < l.length → s.length = l.length → L (k + 1) s (i : Int) = L k (s.set i (g x)) ((i + 1 : Nat) : Int))
  (s : List β) (hs : s.length = l.length) : Ev (fun k => L k s 0) (l.map g) := by
 refine loop_run l.length L (fun i s => s.length = l.length ∧ ∀ j, j < i → s[j]? = (l.map g)[j]?) _ ?_ ?_ 0 s (Nat.zero_le _) ⟨hs, fun j hj => by omega⟩
 ·rintro s ⟨h1, h2⟩
  have : s = l.map g := by
   apply List.ext_getElem?
   intro j
   by_cases hj : j < l.length
   ·exact h2 j hj
   ·rw [List.getElem?_eq_none (by omega), List.getElem?_eq_none (by simp; omega)]
  subst this
  exact ev_succ ⟨0, fun k _ => hdone k _⟩
 ·rintro i s hi ⟨h1, h2⟩
  have hx := List.getElem?_eq_getElem hi
  refine ⟨s.set i (g l[i]), ⟨by simp [h1], fun j hj => ?_⟩, 0, fun k _ => hstep k i _ s hx hi h1⟩
  by_cases hji : j = i
  ·subst hji
   rw [List.getElem?_set_self (by omega)]
   simp [hi]
  ·rw [List.getElem?_set_ne (by omega)]
   exact h2 j (by omega)
theorem eq_loop {α : Type} [DecidableEq α] (a b : List α) (L : Nat → Int → Option Bool) (hlen : a.length = b.length)
  (hdone : ∀ k, L (k + 1) (a.length : Int) = some true)
  (hstep : ∀ k i x y, a[i]? = some x → b[i]? = some y → i < a.length → i < b.length → L (k + 1) (i : Int) = if x = y then L k ((i + 1 : Nat) : Int) else some false) :
  Ev (fun k => L k 0) (decide (a = b)) := by
 suffices H : ∀ d i, i ≤ a.length → a.length - i = d → Ev (fun k => L k (i : Int)) (decide (a.drop i = b.drop i)) by
  simpa using H _ 0 (Nat.zero_le _) rfl
 intro d
 induction d with
 | zero =>
  intro i hi hd
  have : i = a.length := by omega
  subst this
  refine ev_succ ⟨0, fun k _ => ?_⟩
  rw [List.drop_length, hlen, List.drop_length]
  rw [← hlen, hdone]
  simp
 | succ d ih =>
  intro i hi hd
  have h1 : i < a.length := by omega
  have h2 : i < b.length := by omega
  obtain ⟨K, hK⟩ := ih (i + 1) (by omega) (by omega)
  replace hK : ∀ k, K ≤ k → L k ((i + 1 : Nat) : Int) = some (decide (a.drop (i + 1) = b.drop (i + 1))) := hK
  refine ev_succ ⟨K, fun k hk => ?_⟩
  show L (k + 1) (i : Int) = _
  rw [hstep k i _ _ (List.getElem?_eq_getElem h1) (List.getElem?_eq_getElem h2) h1 h2, List.drop_eq_getElem_cons h1, List.drop_eq_getElem_cons h2]
  by_cases h : a[i] = b[i]
  ·rw [if_pos h, hK k hk, h]
   simp only [List.cons.injEq, true_and]
  ·rw [if_neg h]
   congr 1
   symm
   exact decide_eq_false (fun e => h (List.cons.inj e).1)
def marks {β : Type} (m : Int → β) (w : Int) (c : Int) (n : Nat) : List β := (List.range n).map (fun i : Nat => m (c + w * (i : Int)))
theorem marks_len {β : Type} (m : Int → β) (w c : Int) (n : Nat) : (marks m w c n).length = n := by simp [marks]
theorem marks_at {β : Type} (m : Int → β) (w c : Int) (n i : Nat) (h : i < n) : (marks m w c n)[i]? = some (m (c + w * (i : Int))) := by simp [marks, h]
theorem mark_loop {β : Type} (m : Int → β) (w : Int) (n : Nat) (c0 : Int) (L : Nat → List β → Int → Int → Option (Int × List β))
  (hdone : ∀ k s c, s.length = n → L (k + 1) s c (n : Int) = some (c, s))
  (hstep : ∀ k i s, i < n → s.length = n → L (k + 1) s (c0 + w * (i : Int)) (i : Int) = L k (s.set i (m (c0 + w * (i : Int)))) (c0 + w * ((i + 1 : Nat) : Int)) ((i + 1 : Nat) : Int))
  (s : List β) (hs : s.length = n) : Ev (fun k => L k s c0 0) (c0 + w * (n : Int), marks m w c0 n) := by
 have := loop_run n (fun k (p : List β × Int) i => L k p.1 p.2 i) (fun i p => p.2 = c0 + w * (i : Int) ∧ p.1.length = n ∧ ∀ j, j < i → p.1[j]? = (marks m w c0 n)[j]?) (c0 + w * (n : Int), marks m w c0 n) ?_ ?_ 0 (s, c0) (Nat.zero_le _) ⟨by simp, hs, fun j hj => by omega⟩
 ·exact this
 ·rintro ⟨s, c⟩ ⟨h0, h1, h2⟩
  simp only at h0 h1 h2
  have : s = marks m w c0 n := by
   apply List.ext_getElem?
   intro j
   by_cases hj : j < n
   ·exact h2 j hj
   ·rw [List.getElem?_eq_none (by omega), List.getElem?_eq_none (by rw [marks_len]; omega)]
  subst this
  refine ev_succ ⟨0, fun k _ => ?_⟩
  show L (k + 1) _ c _ = _
  rw [hdone k _ c h1, h0]
 ·rintro i ⟨s, c⟩ hi ⟨h0, h1, h2⟩
  simp only at h0 h1 h2
  refine ⟨(s.set i (m (c0 + w * (i : Int))), c0 + w * ((i + 1 : Nat) : Int)), ⟨rfl, by simp [h1], fun j hj => ?_⟩, 0, fun k _ => ?_⟩
  ·by_cases hji : j = i
   ·subst hji
    simp only
    rw [List.getElem?_set_self (by omega), marks_at _ _ _ _ _ hi]
   ·simp only
    rw [List.getElem?_set_ne (by omega)]
    exact h2 j (by omega)
  ·simp only [h0]
   exact hstep k i s hi h1
theorem held_loop (w : Int) (n : Nat) (c0 : Int) (L : Nat → Int → Int → Option Int)
  (hdone : ∀ k c, L (k + 1) c (n : Int) = some c)
  (hstep : ∀ k i, i < n → L (k + 1) (c0 + w * (i : Int)) (i : Int) = L k (c0 + w * ((i + 1 : Nat) : Int)) ((i + 1 : Nat) : Int)) :
  Ev (fun k => L k c0 0) (c0 + w * (n : Int)) := by
 have := loop_run n L (fun i c => c = c0 + w * (i : Int)) (c0 + w * (n : Int)) ?_ ?_ 0 c0 (Nat.zero_le _) (by simp)
 ·exact this
 ·rintro c h0
  refine ev_succ ⟨0, fun k _ => ?_⟩
  show L (k + 1) c _ = _
  rw [hdone k c, h0]
 ·rintro i c hi h0
  subst h0
  exact ⟨_, rfl, 0, fun k _ => hstep k i hi⟩
theorem loop_ev {σ ρ : Type} (n : Nat) (L : Nat → σ → Int → Option ρ) (I : Nat → σ → Prop) (r : ρ)
  (hdone : ∀ s, I n s → Ev (fun k => L k s (n : Int)) r)
  (hstep : ∀ i s, i < n → I i s → ∃ s', I (i + 1) s' ∧ (Ev (fun k => L k s' ((i + 1 : Nat) : Int)) r → Ev (fun k => L k s (i : Int)) r)) :
  ∀ (i : Nat) (s : σ), i ≤ n → I i s → Ev (fun k => L k s (i : Int)) r := by
 intro i s hi hI
 generalize hd : n - i = d
 induction d generalizing i s with
 | zero =>
  have : i = n := by omega
  subst this
  exact hdone s hI
 | succ d ih =>
  obtain ⟨s', hI', hs⟩ := hstep i s (by omega) hI
  exact hs (ih (i + 1) s' (by omega) hI' (by omega))
theorem rdN_at {l : List S59} {i : Nat} {x : S59} (h : l[i]? = some x) : rd_T59 l (i : Int) = x := by
 unfold rd_T59
 simp [List.getD, h]
theorem rdLN_at {l : List S87} {i : Nat} {x : S87} (h : l[i]? = some x) : rd_T87 l (i : Int) = x := by
 unfold rd_T87
 simp [List.getD, h]
def n5 (x : S87) : S59 := ⟨x.f0, x.f1, x.f2, x.f3, x.f4⟩
theorem node_ext (x y : S59) : x = y ↔ x.f0 = y.f0 ∧ x.f1 = y.f1 ∧ x.f2 = y.f2 ∧ x.f3 = y.f3 ∧ x.f4 = y.f4 := by
 obtain ⟨a, b, c, d, e⟩ := x
 obtain ⟨a', b', c', d', e'⟩ := y
 simp only [S59.mk.injEq]
instance : DecidableEq S59 := fun x y => decidable_of_iff _ (node_ext x y).symm
theorem szNode (l : List S87) (c : Int) (h : l.length ≤ 9223372036854775807) (hc : 0 ≤ c ∧ c ≤ 1048576) : laws_szNodeS.f l c = some (if c < (l.length : Int) then -1 else c - l.length) := by
 unfold laws_szNodeS.f
 rw [w64 (by omega)]
 split <;> split <;> first | rfl | omega
theorem toNodeS_ev (l : List S87) (h : l.length ≤ 1048576) : Ev (fun k => laws_toNodeS.f k l) (l.map n5) := by
 have H := copy_loop l n5 (fun k s i => laws_toNodeS.l0 k l s i) (fun k s => by simp only [laws_toNodeS.l0, nltc, if_false]) (fun k i x s hx hi hs => by
  simp only [laws_toNodeS.l0, laws_toNode.f, Option.bind_some, ltc hi, nnc, hs, if_true, rdLN_at hx, w64s hi (show l.length ≤ 9223372036854775807 by omega), Int.toNat_natCast, n5]) (List.replicate l.length z59) (by simp)
 obtain ⟨K, hK⟩ := H
 refine ⟨K, fun k hk => ?_⟩
 simp only [laws_toNodeS.f, nnc, if_true, Int.toNat_natCast, show l.length ≤ 7036874417766 from by omega]
 exact hK k hk
theorem eqNode_eq (a b : S59) : laws_eqNode.f a.f0 a.f1 a.f2 a.f3 a.f4 b.f0 b.f1 b.f2 b.f3 b.f4 = some (decide (a = b)) := by
 unfold laws_eqNode.f
 rw [show (decide (a = b)) = decide (a.f0 = b.f0 ∧ a.f1 = b.f1 ∧ a.f2 = b.f2 ∧ a.f3 = b.f3 ∧ a.f4 = b.f4) from by simp only [node_ext]]
 by_cases h0 : a.f0 = b.f0
 ·by_cases h1 : a.f1 = b.f1
  ·by_cases h2 : a.f2 = b.f2
   ·by_cases h3 : a.f3 = b.f3
    ·by_cases h4 : a.f4 = b.f4 <;> simp [h0, h1, h2, h3, h4]
    ·simp [h0, h1, h2, h3]
   ·simp [h0, h1, h2]
  ·simp [h0, h1]
 ·simp [h0]
theorem eqNodeS_ev (a b : List S59) (h : a.length ≤ 9223372036854775807) : Ev (fun k => laws_eqNodeS.f k a b) (decide (a = b)) := by
 by_cases hl : a.length = b.length
 ·have H := eq_loop a b (fun k i => laws_eqNodeS.l0 k a b i) hl (fun k => by simp only [laws_eqNodeS.l0, nltc, if_false]) (fun k i x y hx hy hi hi2 => by
   simp only [laws_eqNodeS.l0, ltc hi, ltc hi2, nnc, if_true, rdN_at hx, rdN_at hy, w64s hi h, eqNode_eq, Option.bind_some, decide_eq_true_eq])
  obtain ⟨K, hK⟩ := H
  refine ⟨K, fun k hk => ?_⟩
  simp only [laws_eqNodeS.f, hl, if_true]
  exact hK k hk
 ·refine ⟨0, fun k _ => ?_⟩
  simp only [laws_eqNodeS.f]
  rw [if_neg (by omega)]
  congr 1
  symm
  exact decide_eq_false (fun e => hl (by rw [e]))
theorem eqNodeS_self (a : List S59) (h : a.length ≤ 9223372036854775807) : Ev (fun k => laws_eqNodeS.f k a a) true := Ev.is (eqNodeS_ev a a h) (by simp)
def mNode (c : Int) : S59 := ⟨c, c + 1, c + 2, c + 3, c + 4⟩
def nodeFrom (id : Int) : List S59 → Nat → Int
 | [], _ => -1
 | x :: t, i => if x.f0 = id then (i : Int) else nodeFrom id t (i + 1)
def nodeOf (l : List S59) (id : Int) : Int := nodeFrom id l 0
theorem implNodeOf_ev (l : List S59) (id : Int) (hl : l.length ≤ 9223372036854775807) : Ev (fun k => impl_NodeOf.f k l id) (nodeOf l id) := by
 have := loop_list0 l (fun k (s : Nat) i => impl_NodeOf.l0 k id l (l.length : Int) i) (fun t s => nodeFrom id t s) (fun i s => s = i) ?_ ?_ 0 rfl
 ·exact this
 ·intro s hs
  exact ev_succ ⟨0, fun k _ => by simp only [impl_NodeOf.l0, nltc, if_false, nodeFrom]⟩
 ·intro i x t s hi hx ht hs ih
  subst hs
  obtain ⟨K, hK⟩ := ih (s + 1) rfl
  refine ev_succ ⟨K, fun k hk => ?_⟩
  simp only [impl_NodeOf.l0, ltc hi, nnc, if_true, rdN_at hx, w64s hi hl, nodeFrom]
  split
  ·rfl
  ·exact hK k hk
theorem specNodeOf_ev (l : List S59) (id : Int) (hl : l.length ≤ 9223372036854775807) : Ev (fun k => spec_NodeOf.f k l id) (nodeOf l id) := by
 have := loop_list0 l (fun k (s : Nat) i => spec_NodeOf.l0 k l id i) (fun t s => nodeFrom id t s) (fun i s => s = i) ?_ ?_ 0 rfl
 ·exact this
 ·intro s hs
  exact ev_succ ⟨0, fun k _ => by simp only [spec_NodeOf.l0, nltc, if_false, nodeFrom]⟩
 ·intro i x t s hi hx ht hs ih
  subst hs
  obtain ⟨K, hK⟩ := ih (s + 1) rfl
  refine ev_succ ⟨K, fun k hk => ?_⟩
  simp only [spec_NodeOf.l0, ltc hi, nnc, if_true, rdN_at hx, w64s hi hl, nodeFrom]
  split
  ·rfl
  ·exact hK k hk
theorem all_loop (n : Nat) (P : Nat → Bool) (L : Nat → Int → Option Bool) (hdone : Ev (fun k => L k (n : Int)) true)
  (hno : ∀ i, i < n → P i = false → Ev (fun k => L k (i : Int)) false)
  (hyes : ∀ i, i < n → P i = true → ∀ r, Ev (fun k => L k ((i + 1 : Nat) : Int)) r → Ev (fun k => L k (i : Int)) r) : Ev (fun k => L k 0) ((List.range n).all P) := by
 suffices H : ∀ d i, i + d = n → Ev (fun k => L k (i : Int)) ((List.range' i d).all P) by
  rw [List.range_eq_range']
  exact H n 0 (by omega)
 intro d
 induction d with
 | zero =>
  intro i hi
  have : i = n := by omega
  subst this
  exact hdone
 | succ d ih =>
  intro i hi
  rw [List.range'_succ, List.all_cons]
  cases h : P i with
  | false => exact hno i (by omega) h
  | true => exact hyes i (by omega) h _ (by simpa using ih (i + 1) (by omega))
def okN (x : S59) : Bool := decide ((0 ≤ x.f2 ∧ x.f2 ≤ 9) ∧ (0 ≤ x.f3 ∧ x.f3 ≤ 999) ∧ (0 ≤ x.f4 ∧ x.f4 ≤ 5))
def docAt (l : List S59) (i : Nat) : Bool := okN (rd_T59 l (i : Int)) && (decide (i = 0) || (decide ((rd_T59 l ((i - 1 : Nat) : Int)).f0 < (rd_T59 l (i : Int)).f0) && decide (0 ≤ nodeOf (l.take i) (rd_T59 l (i : Int)).f1)))
def rootOk (l : List S59) : Bool := decide ((rd_T59 l 0).f0 = 0) && decide ((rd_T59 l 0).f1 = -1)
def isDoc (l : List S59) : Bool := decide (1 ≤ l.length ∧ l.length ≤ 16) && (rootOk l && (List.range l.length).all (docAt l))
theorem nodeFrom_cases (id : Int) (l : List S59) : ∀ s : Nat, (nodeFrom id l s = -1 ∧ ∀ x ∈ l, x.f0 ≠ id) ∨ ∃ (j : Nat) (x : S59), l[j]? = some x ∧ x.f0 = id ∧ nodeFrom id l s = ((s + j : Nat) : Int) ∧ ∀ (j' : Nat) (y : S59), j' < j → l[j']? = some y → y.f0 ≠ id := by
 induction l with
 | nil => intro s; exact .inl ⟨rfl, by simp⟩
 | cons x t ih =>
  intro s
  by_cases h : x.f0 = id
  ·refine .inr ⟨0, x, rfl, h, by simp [nodeFrom, h], fun j' y hj => by omega⟩
  ·rcases ih (s + 1) with ⟨h1, h2⟩ | ⟨j, y, h1, h2, h3, h4⟩
   ·refine .inl ⟨by simp only [nodeFrom, h, if_false]; exact h1, ?_⟩
    intro z hz
    rcases List.mem_cons.1 hz with rfl | hz
    ·exact h
    ·exact h2 z hz
   ·refine .inr ⟨j + 1, y, by simpa using h1, h2, ?_, ?_⟩
    ·simp only [nodeFrom, h, if_false]
     rw [h3]
     omega
    ·intro j' z hj hz
     cases j' with
     | zero => simp at hz; subst hz; exact h
     | succ j' => exact h4 j' z (by omega) (by simpa using hz)
theorem nodeOf_cases (id : Int) (l : List S59) : (nodeOf l id = -1 ∧ ∀ x ∈ l, x.f0 ≠ id) ∨ ∃ (j : Nat) (x : S59), l[j]? = some x ∧ x.f0 = id ∧ nodeOf l id = (j : Int) ∧ ∀ (j' : Nat) (y : S59), j' < j → l[j']? = some y → y.f0 ≠ id := by
 have := nodeFrom_cases id l 0
 simpa [nodeOf] using this
theorem nodeOf_lt (id : Int) (l : List S59) : -1 ≤ nodeOf l id ∧ nodeOf l id < l.length := by
 rcases nodeOf_cases id l with ⟨h, _⟩ | ⟨j, x, h1, _, h, _⟩
 ·omega
 ·have := (List.getElem?_eq_some_iff.1 h1).1
  omega
theorem rdN_get (l : List S59) (i : Nat) (h : i < l.length) : l[i]? = some (rd_T59 l (i : Int)) := by
 rw [List.getElem?_eq_getElem h]
 congr 1
 exact (rdN_at (List.getElem?_eq_getElem h)).symm
theorem nodeOf_at (id : Int) (l : List S59) (h : 0 ≤ nodeOf l id) : (rd_T59 l (nodeOf l id)).f0 = id := by
 rcases nodeOf_cases id l with ⟨h', _⟩ | ⟨j, x, h1, h2, h3, _⟩
 ·omega
 ·rw [h3, rdN_at h1, h2]
theorem nodeOf_take (id : Int) (l : List S59) (i : Nat) (h : 0 ≤ nodeOf (l.take i) id) : nodeOf l id = nodeOf (l.take i) id ∧ nodeOf l id < i := by
 rcases nodeOf_cases id (l.take i) with ⟨h', _⟩ | ⟨j, x, h1, h2, h3, h4⟩
 ·omega
 ·have hj : j < i := by
   have := (List.getElem?_eq_some_iff.1 h1).1
   rw [List.length_take] at this
   omega
  rw [List.getElem?_take_of_lt hj] at h1
  rcases nodeOf_cases id l with ⟨_, h6⟩ | ⟨j2, x2, g1, g2, g3, g4⟩
  ·exact absurd h2 (h6 x (List.mem_of_getElem? h1))
  ·have e : j2 = j := by
    by_cases a : j2 < j
    ·exact absurd g2 (h4 j2 x2 a (by rw [List.getElem?_take_of_lt (by omega)]; exact g1))
    ·by_cases b : j < j2
     ·exact absurd h2 (g4 j x b h1)
     ·omega
   rw [g3, h3, e]
   omega
structure Doc (l : List S59) : Prop where
 one : 1 ≤ l.length
 most : l.length ≤ 16
 root : (rd_T59 l 0).f0 = 0
 rootp : (rd_T59 l 0).f1 = -1
 ok : ∀ i : Nat, i < l.length → okN (rd_T59 l (i : Int)) = true
 ord : ∀ i : Nat, 0 < i → i < l.length → (rd_T59 l ((i - 1 : Nat) : Int)).f0 < (rd_T59 l (i : Int)).f0
 par : ∀ i : Nat, 0 < i → i < l.length → 0 ≤ nodeOf (l.take i) (rd_T59 l (i : Int)).f1
theorem isDoc_iff (l : List S59) : isDoc l = true ↔ Doc l := by
 unfold isDoc rootOk docAt
 simp only [Bool.and_eq_true, decide_eq_true_eq, List.all_eq_true, List.mem_range, Bool.or_eq_true]
 constructor
 ·rintro ⟨⟨h1, h2⟩, ⟨h3, h4⟩, h5⟩
  exact ⟨h1, h2, h3, h4, fun i hi => (h5 i hi).1, fun i h0 hi => by
   rcases (h5 i hi).2 with e | e
   ·omega
   ·exact e.1, fun i h0 hi => by
   rcases (h5 i hi).2 with e | e
   ·omega
   ·exact e.2⟩
 ·intro h
  refine ⟨⟨h.one, h.most⟩, ⟨h.root, h.rootp⟩, fun i hi => ⟨h.ok i hi, ?_⟩⟩
  by_cases h0 : i = 0
  ·exact .inl h0
  ·exact .inr ⟨h.ord i (by omega) hi, h.par i (by omega) hi⟩
theorem Doc.ids {l : List S59} (h : Doc l) (i : Nat) (hi : i < l.length) : (i : Int) ≤ (rd_T59 l (i : Int)).f0 := by
 induction i with
 | zero =>
  have h0 : (rd_T59 l ((0 : Nat) : Int)).f0 = 0 := h.root
  omega
 | succ i ih =>
  have h1 := h.ord (i + 1) (by omega) hi
  simp only [Nat.add_sub_cancel] at h1
  have := ih (by omega)
  omega
theorem Doc.up {l : List S59} (h : Doc l) (i : Nat) (h0 : 0 < i) (hi : i < l.length) : 0 ≤ nodeOf l (rd_T59 l (i : Int)).f1 ∧ nodeOf l (rd_T59 l (i : Int)).f1 < (i : Int) := by
 have h1 := h.par i h0 hi
 have := nodeOf_take _ l i h1
 omega
def upTo (l : List S59) (top : Int) : Nat → Int → Bool
 | 0, id => decide (id = top)
 | d + 1, id => if id = top then true else if nodeOf l id ≤ 0 then false else upTo l top d (rd_T59 l (nodeOf l id)).f1
def isUnder (l : List S59) (id top : Int) : Bool := isDoc l && (decide (0 ≤ nodeOf l id) && (decide (0 ≤ nodeOf l top) && upTo l top l.length id))
def okAt (l : List S59) (h : List Int) (b : Int) (i : Nat) : Bool := decide ((rd_T59 l (i : Int)).f4 = b) || !decide ((rd_T59 l (i : Int)).f2 ∈ h)
def vis (l : List S59) (h : List Int) (b : Int) : Nat → Int → Bool
 | 0, _ => true
 | d + 1, k => if k < 0 then true else okAt l h b k.toNat && vis l h b d (nodeOf (l.take k.toNat) (rd_T59 l k).f1)
theorem nodeOf_take_lt (l : List S59) (id : Int) (k : Nat) : nodeOf (l.take k) id < (k : Int) := by
 have := nodeOf_lt id (l.take k)
 rw [List.length_take] at this
 omega
theorem vis_fuel (l : List S59) (h : List Int) (b : Int) : ∀ (d d' : Nat) (k : Int), k < d → k < d' → vis l h b d k = vis l h b d' k := by
 intro d
 induction d with
 | zero =>
  intro d' k h1 h2
  cases d' with
  | zero => rfl
  | succ d' => simp only [vis]; rw [if_pos (by omega)]
 | succ d ih =>
  intro d' k h1 h2
  cases d' with
  | zero => simp only [vis]; rw [if_pos (by omega)]
  | succ d' =>
   simp only [vis]
   by_cases hk : k < 0
   ·rw [if_pos hk, if_pos hk]
   ·rw [if_neg hk, if_neg hk]
    have := nodeOf_take_lt l (rd_T59 l k).f1 k.toNat
    rw [ih d' _ (by omega) (by omega)]
def visible (l : List S59) (h : List Int) (b : Int) (i : Nat) : Bool := vis l h b (i + 1) (i : Int)
theorem visible_zero (l : List S59) (h : List Int) (b : Int) : visible l h b 0 = okAt l h b 0 := by
 unfold visible
 simp [vis]
theorem visible_up (l : List S59) (h : List Int) (b : Int) (hd : Doc l) (i : Nat) (h0 : 0 < i) (hi : i < l.length) : visible l h b i = (okAt l h b i && visible l h b (nodeOf l (rd_T59 l (i : Int)).f1).toNat) := by
 have hp := hd.par i h0 hi
 have ht := nodeOf_take _ l i hp
 have hu := hd.up i h0 hi
 unfold visible
 rw [vis, if_neg (by omega), Int.toNat_natCast, ← ht.1]
 congr 1
 rw [Int.toNat_of_nonneg hu.1]
 exact vis_fuel l h b _ _ _ (by omega) (by omega)
def seenUpTo (l : List S59) (h : List Int) (b : Int) (n : Nat) : List S59 := ((List.range n).filter (visible l h b)).map (fun i : Nat => rd_T59 l (i : Int))
def seenL (l : List S59) (h : List Int) (b : Int) : List S59 := if isDoc l = true then seenUpTo l h b l.length else []
theorem seenUpTo_succ (l : List S59) (h : List Int) (b : Int) (n : Nat) : seenUpTo l h b (n + 1) = seenUpTo l h b n ++ (if visible l h b n = true then [rd_T59 l (n : Int)] else []) := by
 unfold seenUpTo
 rw [List.range_succ, List.filter_append, List.map_append]
 congr 1
 by_cases hv : visible l h b n = true
 ·simp [hv]
 ·simp [hv]
theorem seenUpTo_len (l : List S59) (h : List Int) (b : Int) (n : Nat) : (seenUpTo l h b n).length ≤ n := by
 unfold seenUpTo
 rw [List.length_map]
 have := List.length_filter_le (visible l h b) (List.range n)
 simpa using this
theorem seenL_len (l : List S59) (h : List Int) (b : Int) : (seenL l h b).length ≤ l.length := by
 unfold seenL
 split
 ·exact seenUpTo_len l h b _
 ·simp
theorem l1In (a b c : Int) : spec_l1In.f a b c = some (decide (b ≤ a ∧ a ≤ c)) := by
 unfold spec_l1In.f
 simp only [ge_iff_le]
 by_cases h : b ≤ a
 ·rw [if_pos h]
  simp [h]
 ·rw [if_neg h]
  simp [h]
theorem okS_chain (x : S59) {f : Nat → Option Bool} {r : Bool} (h : okN x = true → Ev f r) (h' : okN x = false → r = false) :
  Ev (fun k => (spec_l1In.f x.f2 0 9).bind fun t => if t = true then ((spec_l1In.f x.f3 0 999).bind fun t => if t = true then ((spec_l1In.f x.f4 0 5).bind fun t => if t = true then f k else some false) else some false) else some false) r := by
 unfold okN at h h'
 refine Ev.pure (l1In _ _ _) ?_
 by_cases a1 : 0 ≤ x.f2 ∧ x.f2 ≤ 9
 ·refine Ev.yes (by simpa using a1) (Ev.pure (l1In _ _ _) ?_)
  by_cases a2 : 0 ≤ x.f3 ∧ x.f3 ≤ 999
  ·refine Ev.yes (by simpa using a2) (Ev.pure (l1In _ _ _) ?_)
   by_cases a3 : 0 ≤ x.f4 ∧ x.f4 ≤ 5
   ·exact Ev.yes (by simpa using a3) (h (by simp only [a1, a2, a3, and_self, decide_true]))
   ·exact Ev.no (by simp only [a3, decide_false]; decide) (Ev.is (Ev.now _) (h' (by simp only [a3, and_false, decide_false])).symm)
  ·exact Ev.no (by simp only [a2, decide_false]; decide) (Ev.is (Ev.now _) (h' (by simp only [a2, and_false, false_and, decide_false])).symm)
 ·exact Ev.no (by simp only [a1, decide_false]; decide) (Ev.is (Ev.now _) (h' (by simp only [a1, false_and, decide_false])).symm)
theorem specDoc_j2 (l : List S59) (i : Nat) (hi : i < l.length) (hl : l.length ≤ 9223372036854775807) {r : Bool} (h : okN (rd_T59 l (i : Int)) = true → Ev (fun k => spec_IsDocument.l0 k l ((i + 1 : Nat) : Int)) r) (h' : okN (rd_T59 l (i : Int)) = false → r = false) : Ev (fun k => spec_IsDocument.j2 k l i false) r := by
 refine Ev.step (fun k => by rw [spec_IsDocument.j2]) ?_
 refine Ev.no (by simp) (Ev.yes (nnc _) (Ev.yes (ltc hi) ?_))
 rw [w64s hi hl]
 exact okS_chain _ h h'
theorem specDoc_at (l : List S59) (i : Nat) (hi : i < l.length) (hl : l.length ≤ 9223372036854775807) {r : Bool} (h : docAt l i = true → Ev (fun k => spec_IsDocument.l0 k l ((i + 1 : Nat) : Int)) r) (h' : docAt l i = false → r = false) : Ev (fun k => spec_IsDocument.l0 k l (i : Int)) r := by
 unfold docAt at h h'
 refine Ev.step (fun k => by rw [spec_IsDocument.l0]) ?_
 refine Ev.yes (ltc hi) ?_
 by_cases h0 : i = 0
 ·subst h0
  refine Ev.no (by simp) (specDoc_j2 l 0 hi hl (fun e => h (by rw [e]; rfl)) (fun e => h' (by rw [e]; rfl)))
 ·have hw : wrap64 ((i : Int) - 1) = ((i - 1 : Nat) : Int) := by rw [w64 (by omega)]; omega
  refine Ev.yes (by omega) ?_
  rw [hw]
  refine Ev.yes (nnc _) (Ev.yes (ltc (by omega)) (Ev.yes (nnc _) ?_))
  have jt : Ev (fun k => spec_IsDocument.j2 k l i true) false := by
   refine Ev.step (fun k => by rw [spec_IsDocument.j2]) ?_
   exact Ev.yes rfl (Ev.now _)
  by_cases h1 : (rd_T59 l ((i - 1 : Nat) : Int)).f0 ≥ (rd_T59 l (i : Int)).f0
  ·refine Ev.yes h1 (Ev.is jt (h' ?_).symm)
   rw [decide_eq_false h0, decide_eq_false (by omega : ¬ (rd_T59 l ((i - 1 : Nat) : Int)).f0 < (rd_T59 l (i : Int)).f0)]
   simp
  ·refine Ev.no h1 (Ev.yes (by omega) ?_)
   have ht := specNodeOf_ev (l.take i) (rd_T59 l (i : Int)).f1 (by simp; omega)
   refine Ev.bind (by simpa using ht) ?_
   by_cases h2 : nodeOf (l.take i) (rd_T59 l (i : Int)).f1 < 0
   ·rw [decide_eq_true h2]
    refine Ev.is jt (h' ?_).symm
    rw [decide_eq_false h0, decide_eq_false (by omega : ¬ 0 ≤ nodeOf (l.take i) (rd_T59 l (i : Int)).f1)]
    simp
   ·rw [decide_eq_false h2]
    have e1 : decide ((rd_T59 l ((i - 1 : Nat) : Int)).f0 < (rd_T59 l (i : Int)).f0) = true := decide_eq_true (by omega)
    have e2 : decide (0 ≤ nodeOf (l.take i) (rd_T59 l (i : Int)).f1) = true := decide_eq_true (by omega)
    rw [e1, e2] at h h'
    exact specDoc_j2 l i hi hl (fun e => h (by simp [e])) (fun e => h' (by simp [e]))
theorem specDoc_ev (l : List S59) (hl : l.length ≤ 9223372036854775807) : Ev (fun k => spec_IsDocument.f k l) (isDoc l) := by
 have hloop : Ev (fun k => spec_IsDocument.l0 k l 0) ((List.range l.length).all (docAt l)) :=
  all_loop l.length (docAt l) (fun k i => spec_IsDocument.l0 k l i) (ev_succ ⟨0, fun k _ => by simp only [spec_IsDocument.l0, nltc, if_false]⟩)
   (fun i hi hP => specDoc_at l i hi hl (fun e => by rw [hP] at e; cases e) (fun _ => rfl)) (fun i hi hP r hr => specDoc_at l i hi hl (fun _ => hr) (fun e => by rw [hP] at e; cases e))
 have jt : Ev (fun k => spec_IsDocument.j0 k l true) false := by
  refine Ev.step (fun k => by rw [spec_IsDocument.j0]) ?_
  exact Ev.yes rfl (Ev.now _)
 have jf : Ev (fun k => spec_IsDocument.j0 k l false) ((List.range l.length).all (docAt l)) := by
  refine Ev.step (fun k => by rw [spec_IsDocument.j0]) ?_
  exact Ev.no (by simp) hloop
 unfold isDoc rootOk spec_IsDocument.f
 refine Ev.pure (l1In _ _ _) ?_
 by_cases h1 : 1 ≤ (l.length : Int) ∧ (l.length : Int) ≤ 16
 ·have h1' : decide (1 ≤ l.length ∧ l.length ≤ 16) = true := decide_eq_true (by omega)
  rw [h1', Bool.true_and]
  refine Ev.yes (by simpa using h1) (Ev.yes (by omega) ?_)
  by_cases h2 : (rd_T59 l 0).f0 = 0
  ·rw [decide_eq_true h2, Bool.true_and]
   refine Ev.yes h2 ?_
   by_cases h3 : (rd_T59 l 0).f1 = -1
   ·rw [decide_eq_true h3, h3]
    exact jf
   ·rw [decide_eq_false h3, show ((rd_T59 l 0).f1 != (-1)) = true from by simpa using h3]
    exact jt
  ·rw [decide_eq_false h2]
   exact Ev.no h2 jt
 ·have h1' : decide (1 ≤ l.length ∧ l.length ≤ 16) = false := decide_eq_false (by omega)
  rw [h1']
  exact Ev.no (by simp only [h1, decide_false]; decide) jt
theorem has_ev (h : List Int) (x : Int) (hl : h.length ≤ 9223372036854775807) : Ev (fun k => spec_l7Has.f k h x) (decide (x ∈ h)) := by
 refine loop_list0 h (fun k (s : Unit) i => spec_l7Has.l0 k h x i) (fun t s => decide (x ∈ t)) (fun _ _ => True) ?_ ?_ () trivial
 ·intro s _
  exact ev_succ ⟨0, fun k _ => by simp only [spec_l7Has.l0, nltc, if_false]; simp⟩
 ·intro i y t s hi hx ht _ ih
  refine Ev.step (fun k => by rw [spec_l7Has.l0]) ?_
  refine Ev.yes (ltc hi) (Ev.yes (nnc _) ?_)
  rw [rd_at hx]
  by_cases e : y = x
  ·exact Ev.yes e (Ev.is (Ev.now _) (by simp [e]))
  ·refine Ev.no e ?_
   rw [w64s hi hl]
   exact Ev.is (ih () trivial) (by simp [Ne.symm e])
theorem sees_ev (l : List S59) (h : List Int) (b : Int) (hl : l.length ≤ 9223372036854775807) (hh : h.length ≤ 9223372036854775807) : ∀ (d : Nat) (k : Int), k < d → k < l.length → Ev (fun n => spec_l7Sees.l0 n l h b k) (vis l h b d k) := by
 intro d
 induction d with
 | zero =>
  intro k h1 h2
  refine Ev.step (fun n => by rw [spec_l7Sees.l0]) ?_
  exact Ev.no (by omega) (Ev.now _)
 | succ d ih =>
  intro k h1 h2
  refine Ev.step (fun n => by rw [spec_l7Sees.l0]) ?_
  rw [vis]
  by_cases hk : k < 0
  ·rw [if_pos hk]
   exact Ev.no (by omega) (Ev.now _)
  ·rw [if_neg hk]
   obtain ⟨n, rfl⟩ := Int.eq_ofNat_of_zero_le (show 0 ≤ k by omega)
   rw [Int.toNat_natCast]
   have hlt := nodeOf_take_lt l (rd_T59 l (n : Int)).f1 n
   have hn := specNodeOf_ev (l.take n) (rd_T59 l (n : Int)).f1 (by simp; omega)
   have rest := ih (nodeOf (l.take n) (rd_T59 l (n : Int)).f1) (by omega) (by omega)
   refine Ev.yes (by omega) (Ev.yes (by omega) (Ev.yes h2 (Ev.bind (has_ev h _ hh) ?_)))
   unfold okAt
   by_cases e : (rd_T59 l (n : Int)).f2 ∈ h
   ·refine Ev.yes (by simp [e]) ?_
    by_cases e2 : (rd_T59 l (n : Int)).f4 = b
    ·exact Ev.yes e2 (Ev.yes (by omega) (Ev.bind hn (Ev.is rest (by simp [e2]))))
    ·exact Ev.no e2 (Ev.is (Ev.now _) (by simp [e, e2]))
   ·exact Ev.no (by simp [e]) (Ev.yes (by omega) (Ev.bind hn (Ev.is rest (by simp [e]))))
theorem specSeen_ev (l : List S59) (h : List Int) (b : Int) (hl : l.length ≤ 1048576) (hh : h.length ≤ 9223372036854775807) : Ev (fun k => spec_SeenBy.f k l h b) (seenL l h b) := by
 unfold spec_SeenBy.f seenL
 cases hd : isDoc l with
 | false =>
  rw [if_neg (by decide)]
  have ej : Ev (fun k => spec_SeenBy.j1 k l h b [] 0 false) [] := by
   refine Ev.step (fun k => by rw [spec_SeenBy.j1]) ?_
   exact Ev.no (by simp) (Ev.now _)
  refine Ev.step (fun k => by rw [spec_SeenBy.l0]) ?_
  by_cases h0 : (0 : Int) < l.length
  ·have := specDoc_ev l (by omega)
   rw [hd] at this
   exact Ev.yes h0 (Ev.bind this ej)
  ·exact Ev.no h0 ej
 | true =>
  rw [if_pos rfl]
  have doc := specDoc_ev l (by omega)
  rw [hd] at doc
  refine loop_ev l.length (fun k s i => spec_SeenBy.l0 k l h b s i) (fun i s => s = seenUpTo l h b i) _ ?_ ?_ 0 [] (Nat.zero_le _) rfl
  ·rintro s rfl
   refine Ev.step (fun k => by rw [spec_SeenBy.l0]) ?_
   refine Ev.no (nltc _) ?_
   refine Ev.step (fun k => by rw [spec_SeenBy.j1]) ?_
   exact Ev.no (by simp) (Ev.now _)
  ·rintro i s hi rfl
   refine ⟨_, rfl, fun rest => ?_⟩
   have e2 := sees_ev l h b (by omega) hh (i + 1) (i : Int) (by omega) (by omega)
   have hlen := seenUpTo_len l h b i
   refine Ev.step (fun k => by rw [spec_SeenBy.l0]) ?_
   refine Ev.yes (ltc hi) (Ev.bind doc ?_)
   refine Ev.step (fun k => by rw [spec_SeenBy.j1]) ?_
   refine Ev.yes rfl ?_
   unfold spec_l7Sees.f
   refine Ev.bind e2 ?_
   rw [seenUpTo_succ] at rest
   rw [w64s hi (by omega)]
   by_cases hv : visible l h b i = true
   ·rw [if_pos hv] at rest
    exact Ev.yes hv (Ev.yes (nnc _) (Ev.yes (ltc hi) (Ev.yes (by omega) rest)))
   ·rw [if_neg hv, List.append_nil] at rest
    exact Ev.no hv rest
theorem inR (a b c : Int) : impl_InRange.f a b c = some (decide (b ≤ a ∧ a ≤ c)) := by
 unfold impl_InRange.f
 by_cases h : b ≤ a
 ·rw [if_pos h]
  simp [h]
 ·rw [if_neg h]
  simp [h]
theorem okI_chain (x : S59) {f : Nat → Bool → Option Bool} {r : Bool} (h : Ev (fun k => f k (!okN x)) r) :
  Ev (fun k => (impl_InRange.f x.f2 0 9).bind fun t => if t = true then ((impl_InRange.f x.f3 0 999).bind fun t => if t = true then ((impl_InRange.f x.f4 0 5).bind fun t => f k (!t)) else f k true) else f k true) r := by
 unfold okN at h
 refine Ev.pure (inR _ _ _) ?_
 by_cases a1 : 0 ≤ x.f2 ∧ x.f2 ≤ 9
 ·refine Ev.yes (by simpa using a1) (Ev.pure (inR _ _ _) ?_)
  by_cases a2 : 0 ≤ x.f3 ∧ x.f3 ≤ 999
  ·refine Ev.yes (by simpa using a2) (Ev.pure (inR _ _ _) ?_)
   simpa only [a1, a2, and_self, true_and] using h
  ·refine Ev.no (by simp only [a2, decide_false]; decide) ?_
   simpa only [a2, and_false, false_and, decide_false, Bool.not_false] using h
 ·refine Ev.no (by simp only [a1, decide_false]; decide) ?_
  simpa only [a1, false_and, decide_false, Bool.not_false] using h
def docAtI (l : List S59) (i : Nat) : Bool := docAt l i && (!decide (i = 0) || rootOk l)
theorem implDoc_at (l : List S59) (i : Nat) (hi : i < l.length) (hl : l.length ≤ 9223372036854775807) {r : Bool} (h : docAtI l i = true → Ev (fun k => impl_IsDocument.l0 k l l (l.length : Int) ((i + 1 : Nat) : Int)) r) (h' : docAtI l i = false → r = false) : Ev (fun k => impl_IsDocument.l0 k l l (l.length : Int) (i : Int)) r := by
 unfold docAtI docAt rootOk at h h'
 refine Ev.step (fun k => by rw [impl_IsDocument.l0]) ?_
 refine Ev.yes (ltc hi) (Ev.yes (nnc _) (Ev.yes (ltc hi) ?_))
 refine okI_chain (rd_T59 l (i : Int)) (f := fun k b => impl_IsDocument.j2 k l (i : Int) l (l.length : Int) (i : Int) b (rd_T59 l (i : Int)).f0 (rd_T59 l (i : Int)).f1 (rd_T59 l (i : Int)).f2 (rd_T59 l (i : Int)).f3 (rd_T59 l (i : Int)).f4) ?_
 refine Ev.step (fun k => by rw [impl_IsDocument.j2]) ?_
 cases hok : okN (rd_T59 l (i : Int)) with
 | false =>
  rw [hok] at h'
  exact Ev.yes rfl (Ev.is (Ev.now _) (h' (by simp)).symm)
 | true =>
  rw [hok] at h h'
  refine Ev.no (by simp) ?_
  rw [w64s hi hl]
  by_cases h0 : i = 0
  ·subst h0
   refine Ev.yes rfl ?_
   by_cases h2 : (rd_T59 l ((0 : Nat) : Int)).f0 = 0
   ·refine Ev.yes h2 ?_
    by_cases h3 : (rd_T59 l ((0 : Nat) : Int)).f1 = -1
    ·refine Ev.yes h3 (h ?_)
     have h2' : (rd_T59 l 0).f0 = 0 := h2
     have h3' : (rd_T59 l 0).f1 = -1 := h3
     simp [h2', h3']
    ·refine Ev.no h3 (Ev.is (Ev.now _) (h' ?_).symm)
     have h3' : ¬ (rd_T59 l 0).f1 = -1 := h3
     simp [h3']
   ·refine Ev.no h2 (Ev.is (Ev.now _) (h' ?_).symm)
    have h2' : ¬ (rd_T59 l 0).f0 = 0 := h2
    simp [h2']
  ·have hw : wrap64 ((i : Int) - 1) = ((i - 1 : Nat) : Int) := by rw [w64 (by omega)]; omega
   refine Ev.no (by omega) ?_
   rw [hw]
   refine Ev.yes (nnc _) (Ev.yes (ltc (by omega)) ?_)
   by_cases h1 : (rd_T59 l (i : Int)).f0 ≤ (rd_T59 l ((i - 1 : Nat) : Int)).f0
   ·refine Ev.yes h1 (Ev.is (Ev.now _) (h' ?_).symm)
    rw [decide_eq_false h0, decide_eq_false (by omega : ¬ (rd_T59 l ((i - 1 : Nat) : Int)).f0 < (rd_T59 l (i : Int)).f0)]
    simp
   ·refine Ev.no h1 (Ev.yes (nnc _) (Ev.yes (by omega) ?_))
    have ht := implNodeOf_ev (l.take i) (rd_T59 l (i : Int)).f1 (by simp; omega)
    refine Ev.bind (by simpa using ht) ?_
    by_cases h2 : nodeOf (l.take i) (rd_T59 l (i : Int)).f1 < 0
    ·refine Ev.yes h2 (Ev.is (Ev.now _) (h' ?_).symm)
     rw [decide_eq_false h0, decide_eq_false (by omega : ¬ 0 ≤ nodeOf (l.take i) (rd_T59 l (i : Int)).f1)]
     simp
    ·refine Ev.no h2 (h ?_)
     rw [decide_eq_false h0, decide_eq_true (by omega : (rd_T59 l ((i - 1 : Nat) : Int)).f0 < (rd_T59 l (i : Int)).f0), decide_eq_true (by omega : 0 ≤ nodeOf (l.take i) (rd_T59 l (i : Int)).f1)]
     simp
theorem docAtI_all (l : List S59) (h : 1 ≤ l.length) : (List.range l.length).all (docAtI l) = (rootOk l && (List.range l.length).all (docAt l)) := by
 rw [Bool.eq_iff_iff]
 simp only [List.all_eq_true, Bool.and_eq_true, List.mem_range, docAtI, Bool.or_eq_true, Bool.not_eq_true', decide_eq_false_iff_not]
 constructor
 ·intro H
  refine ⟨?_, fun i hi => (H i hi).1⟩
  rcases (H 0 (by omega)).2 with h0 | h0
  ·exact absurd rfl h0
  ·exact h0
 ·rintro ⟨h1, h2⟩ i hi
  exact ⟨h2 i hi, .inr h1⟩
theorem implDoc_ev (l : List S59) (hl : l.length ≤ 9223372036854775807) : Ev (fun k => impl_IsDocument.f k l) (isDoc l) := by
 have hloop : Ev (fun k => impl_IsDocument.l0 k l l (l.length : Int) 0) ((List.range l.length).all (docAtI l)) :=
  all_loop l.length (docAtI l) (fun k i => impl_IsDocument.l0 k l l (l.length : Int) i) (ev_succ ⟨0, fun k _ => by simp only [impl_IsDocument.l0, nltc, if_false]⟩)
   (fun i hi hP => implDoc_at l i hi hl (fun e => by rw [hP] at e; cases e) (fun _ => rfl)) (fun i hi hP r hr => implDoc_at l i hi hl (fun _ => hr) (fun e => by rw [hP] at e; cases e))
 have jt : Ev (fun k => impl_IsDocument.j0 k l true) false := by
  refine Ev.step (fun k => by rw [impl_IsDocument.j0]) ?_
  exact Ev.yes rfl (Ev.now _)
 unfold isDoc impl_IsDocument.f
 by_cases h1 : (l.length : Int) < 1
 ·rw [decide_eq_false (by omega : ¬ (1 ≤ l.length ∧ l.length ≤ 16))]
  exact Ev.yes h1 jt
 ·refine Ev.no h1 ?_
  by_cases h2 : (l.length : Int) > 16
  ·rw [decide_eq_true h2, decide_eq_false (by omega : ¬ (1 ≤ l.length ∧ l.length ≤ 16))]
   exact jt
  ·rw [decide_eq_false h2, decide_eq_true (by omega : 1 ≤ l.length ∧ l.length ≤ 16), Bool.true_and, ← docAtI_all l (by omega)]
   refine Ev.step (fun k => by rw [impl_IsDocument.j0]) ?_
   exact Ev.no (by simp) hloop
theorem contains_ev (h : List Int) (x : Int) (hl : h.length ≤ 9223372036854775807) : Ev (fun k => slices_Contains_int_int.f k h x) (decide (x ∈ h)) := by
 have H : ∃ v : Int, Ev (fun k => slices_Index_int_int.f k h x) v ∧ (decide (v ≥ 0) = decide (x ∈ h)) := by
  unfold slices_Index_int_int.f
  suffices H : ∀ (d i : Nat), i + d = h.length → ∃ v : Int, Ev (fun k => slices_Index_int_int.l0 k h x (h.length : Int) i) v ∧ (decide (v ≥ 0) = decide (x ∈ h.drop i)) by
   simpa using H h.length 0 (by omega)
  intro d
  induction d with
  | zero =>
   intro i hi
   have : i = h.length := by omega
   subst this
   refine ⟨-1, ?_, by rw [List.drop_length]; simp⟩
   refine Ev.step (fun k => by rw [slices_Index_int_int.l0]) ?_
   exact Ev.no (nltc _) (Ev.now _)
  | succ d ih =>
   intro i hi
   have hlt : i < h.length := by omega
   rw [List.drop_eq_getElem_cons hlt]
   have hx := rd_at (List.getElem?_eq_getElem hlt)
   obtain ⟨v, e, hv⟩ := ih (i + 1) (by omega)
   by_cases e2 : x = h[i]
   ·refine ⟨(i : Int), ?_, by rw [decide_eq_true (show (i : Int) ≥ 0 by omega), decide_eq_true (show x ∈ h[i] :: h.drop (i + 1) from List.mem_cons.2 (.inl e2))]⟩
    refine Ev.step (fun k => by rw [slices_Index_int_int.l0]) ?_
    rw [hx]
    exact Ev.yes (ltc hlt) (Ev.yes (nnc _) (Ev.yes (ltc hlt) (Ev.yes e2 (Ev.now _))))
   ·refine ⟨v, ?_, by rw [hv]; simp only [List.mem_cons, e2, false_or]⟩
    refine Ev.step (fun k => by rw [slices_Index_int_int.l0]) ?_
    rw [hx, w64s hlt hl]
    exact Ev.yes (ltc hlt) (Ev.yes (nnc _) (Ev.yes (ltc hlt) (Ev.no e2 e)))
 obtain ⟨v, e, hv⟩ := H
 unfold slices_Contains_int_int.f
 exact Ev.bind e (Ev.is (Ev.now _) hv)
theorem rdOf_at {l : List Bool} {i : Nat} {x : Bool} (h : l[i]? = some x) : rdOf false l (i : Int) = x := by
 unfold rdOf
 simp [List.getD, h]
theorem implSeen_ev (l : List S59) (h : List Int) (b : Int) (hl : l.length ≤ 1048576) (hh : h.length ≤ 9223372036854775807) : Ev (fun k => impl_SeenBy.f k l h b) (seenL l h b) := by
 unfold impl_SeenBy.f seenL
 refine Ev.pure (a := []) rfl (Ev.bind (implDoc_ev l (by omega)) ?_)
 cases hd : isDoc l with
 | false => exact Ev.no (by simp) (Ev.is (Ev.now _) (by rw [if_neg (by decide)]))
 | true =>
  have doc := (isDoc_iff l).1 hd
  rw [if_pos rfl]
  refine Ev.yes rfl (Ev.yes (nnc _) (Ev.yes (by rw [Int.toNat_natCast]; omega) ?_))
  rw [Int.toNat_natCast]
  refine loop_ev l.length (fun k (s : List S59 × List Bool) i => impl_SeenBy.l0 k l h b s.1 s.2 l (l.length : Int) i) (fun i s => s.1 = seenUpTo l h b i ∧ s.2.length = l.length ∧ ∀ j, j < i → s.2[j]? = some (visible l h b j)) _ ?_ ?_ 0 ([], List.replicate l.length false) (Nat.zero_le _) ⟨rfl, by simp, fun j hj => by omega⟩
  ·rintro ⟨s, q⟩ ⟨h1, h2, h3⟩
   simp only at h1
   subst h1
   refine Ev.step (fun k => by rw [impl_SeenBy.l0]) ?_
   exact Ev.no (nltc _) (Ev.now _)
  ·rintro i ⟨s, q⟩ hi ⟨h1, h2, h3⟩
   simp only at h1 h2 h3
   subst h1
   refine ⟨(seenUpTo l h b (i + 1), q.set i (visible l h b i)), ⟨rfl, by simp [h2], fun j hj => ?_⟩, fun rest => ?_⟩
   ·simp only
    by_cases e : j = i
    ·subst e
     rw [List.getElem?_set_self (by omega)]
    ·rw [List.getElem?_set_ne (by omega)]
     exact h3 j (by omega)
   ·simp only at rest
    have hlen := seenUpTo_len l h b i
    rw [seenUpTo_succ] at rest
    have fin : ∀ q' : List Bool, q'.length = l.length → q'.set i (visible l h b i) = q.set i (visible l h b i) → q'[i]? = some (visible l h b i) →
      Ev (fun k => if rdOf false q' (i : Int) = true then (if (seenUpTo l h b i).length < 3518437208883 then impl_SeenBy.l0 k l h b (seenUpTo l h b i ++ [(⟨(rd_T59 l (i : Int)).f0, (rd_T59 l (i : Int)).f1, (rd_T59 l (i : Int)).f2, (rd_T59 l (i : Int)).f3, (rd_T59 l (i : Int)).f4⟩ : S59)]) q' l (l.length : Int) ((i + 1 : Nat) : Int) else none) else impl_SeenBy.l0 k l h b (seenUpTo l h b i) q' l (l.length : Int) ((i + 1 : Nat) : Int)) (seenUpTo l h b l.length) := by
     intro q' hq hs hv
     have e : q' = q.set i (visible l h b i) := by
      rw [← hs]
      apply List.ext_getElem?
      intro j
      by_cases e : j = i
      ·subst e; rw [List.getElem?_set_self (by omega), hv]
      ·rw [List.getElem?_set_ne (by omega)]
     rw [rdOf_at hv, e]
     by_cases v : visible l h b i = true
     ·rw [if_pos v] at rest
      exact Ev.yes v (Ev.yes (by omega) rest)
     ·rw [if_neg v, List.append_nil] at rest
      exact Ev.no v rest
    have j1 : Ev (fun k => impl_SeenBy.j1 k l h b (seenUpTo l h b i) (q.set i (okAt l h b i)) (i : Int) l (l.length : Int) (i : Int) (rd_T59 l (i : Int)).f0 (rd_T59 l (i : Int)).f1 (rd_T59 l (i : Int)).f2 (rd_T59 l (i : Int)).f3 (rd_T59 l (i : Int)).f4) (seenUpTo l h b l.length) := by
     refine Ev.step (fun k => by rw [impl_SeenBy.j1]) ?_
     have hself : (q.set i (okAt l h b i))[i]? = some (okAt l h b i) := List.getElem?_set_self (by omega)
     by_cases h0 : i = 0
     ·subst h0
      refine Ev.no (by simp) ?_
      refine Ev.step (fun k => by rw [impl_SeenBy.j2]) ?_
      rw [w64s hi (by omega)]
      have hv := visible_zero l h b
      exact Ev.no (by simp) (Ev.yes (nnc _) (Ev.yes (by simp [h2]; omega) (fin _ (by simp [h2]) (by rw [List.set_set]) (by rw [hself, hv]))))
     ·refine Ev.yes (by omega) (Ev.bind (implNodeOf_ev l _ (by omega)) ?_)
      have hu := doc.up i (by omega) hi
      have hv := visible_up l h b doc i (by omega) hi
      obtain ⟨j, hj⟩ := Int.eq_ofNat_of_zero_le hu.1
      rw [hj] at hu hv ⊢
      rw [Int.toNat_natCast] at hv
      have hjq : (q.set i (okAt l h b i))[j]? = some (visible l h b j) := by
       rw [List.getElem?_set_ne (by omega)]
       exact h3 j (by omega)
      refine Ev.yes (nnc _) (Ev.yes (by simp [h2]; omega) ?_)
      rw [rdOf_at hjq]
      refine Ev.step (fun k => by rw [impl_SeenBy.j2]) ?_
      rw [w64s hi (by omega)]
      cases hvj : visible l h b j with
      | true =>
       rw [hvj, Bool.and_true] at hv
       exact Ev.no (by simp) (Ev.yes (nnc _) (Ev.yes (by simp [h2]; omega) (fin _ (by simp [h2]) (by rw [List.set_set]) (by rw [hself, hv]))))
      | false =>
       rw [hvj, Bool.and_false] at hv
       refine Ev.yes rfl (Ev.yes (nnc _) (Ev.yes (by simp [h2]; omega) (Ev.pure (a := (q.set i (okAt l h b i)).set i false) (by simp) ?_)))
       exact fin _ (by simp [h2]) (by simp) (by rw [hv, List.getElem?_set_self (by simp [h2]; omega)])
    refine Ev.step (fun k => by rw [impl_SeenBy.l0]) ?_
    refine Ev.yes (ltc hi) (Ev.yes (nnc _) (Ev.yes (ltc hi) ?_))
    by_cases e : (rd_T59 l (i : Int)).f4 = b
    ·have : okAt l h b i = true := by simp [okAt, e]
     rw [this] at j1
     exact Ev.yes e (Ev.yes (by simp [h2]; omega) (by simpa using j1))
    ·have : okAt l h b i = !decide ((rd_T59 l (i : Int)).f2 ∈ h) := by simp [okAt, e]
     rw [this] at j1
     exact Ev.no e (Ev.bind (contains_ev h _ hh) (Ev.yes (by simp [h2]; omega) (by simpa using j1)))
theorem specUnder_l (l : List S59) (h : Doc l) (top : Int) : ∀ (d : Nat) (id : Int), 0 ≤ nodeOf l id → nodeOf l id ≤ d → Ev (fun k => spec_IsUnder.l0 k l id top) (upTo l top d id) := by
 intro d
 have hlen : l.length ≤ 9223372036854775807 := by have := h.most; omega
 have key : ∀ id, 0 ≤ nodeOf l id → ¬ id > 0 → nodeOf l id = 0 := by
  intro id h0 h1
  have hr := nodeOf_lt id l
  obtain ⟨i, hi⟩ := Int.eq_ofNat_of_zero_le h0
  have h2 := nodeOf_at id l h0
  rw [hi] at h2
  have h3 := h.ids i (by omega)
  omega
 have key2 : ∀ id, 0 ≤ nodeOf l id → id > 0 → nodeOf l id > 0 := by
  intro id h0 h1
  by_cases e : nodeOf l id = 0
  ·have h2 := nodeOf_at id l h0
   rw [e] at h2
   have := h.root
   omega
  ·omega
 induction d with
 | zero =>
  intro id h0 hd
  refine Ev.step (fun k => by rw [spec_IsUnder.l0]) ?_
  unfold upTo
  by_cases e : id = top
  ·exact Ev.yes e (Ev.is (Ev.now _) (by simp [e]))
  ·refine Ev.no e (Ev.no ?_ (Ev.is (Ev.now _) (by simp [e])))
   intro h1
   have := key2 id h0 h1
   omega
 | succ d ih =>
  intro id h0 hd
  refine Ev.step (fun k => by rw [spec_IsUnder.l0]) ?_
  unfold upTo
  by_cases e : id = top
  ·exact Ev.yes e (Ev.is (Ev.now _) (by rw [if_pos e]; simp [e]))
  ·rw [if_neg e]
   refine Ev.no e ?_
   by_cases e2 : id > 0
   ·have h1 := key2 id h0 e2
    have hr := nodeOf_lt id l
    rw [if_neg (show ¬ nodeOf l id ≤ 0 by omega)]
    refine Ev.yes e2 (Ev.bind (specNodeOf_ev l id hlen) (Ev.yes h0 (Ev.yes hr.2 ?_)))
    obtain ⟨i, hi⟩ := Int.eq_ofNat_of_zero_le h0
    rw [hi]
    have := h.up i (by omega) (by omega)
    exact ih _ (by omega) (by omega)
   ·have h1 := key id h0 e2
    rw [if_pos (show nodeOf l id ≤ 0 by omega)]
    exact Ev.no e2 (Ev.is (Ev.now _) (by simp [e]))
theorem specUnder_ev (l : List S59) (id top : Int) (hl : l.length ≤ 9223372036854775807) : Ev (fun k => spec_IsUnder.f k l id top) (isUnder l id top) := by
 have jt : Ev (fun k => spec_IsUnder.j0 k l id top true) false := by
  refine Ev.step (fun k => by rw [spec_IsUnder.j0]) ?_
  exact Ev.yes rfl (Ev.now _)
 unfold spec_IsUnder.f isUnder
 refine Ev.bind (specDoc_ev l hl) ?_
 cases hd : isDoc l with
 | false => exact Ev.no (by simp) (Ev.is jt (by simp))
 | true =>
  have h := (isDoc_iff l).1 hd
  refine Ev.yes rfl (Ev.bind (specNodeOf_ev l id hl) ?_)
  by_cases h1 : nodeOf l id < 0
  ·exact Ev.yes h1 (Ev.is jt (by rw [decide_eq_false (show ¬ 0 ≤ nodeOf l id by omega)]; simp))
  ·refine Ev.no h1 (Ev.bind (specNodeOf_ev l top hl) ?_)
   rw [decide_eq_true (show 0 ≤ nodeOf l id by omega)]
   by_cases h2 : nodeOf l top < 0
   ·rw [decide_eq_true h2, decide_eq_false (show ¬ 0 ≤ nodeOf l top by omega)]
    exact Ev.is jt (by simp)
   ·rw [decide_eq_false h2, decide_eq_true (show 0 ≤ nodeOf l top by omega)]
    refine Ev.step (fun k => by rw [spec_IsUnder.j0]) ?_
    have := nodeOf_lt id l
    exact Ev.no (by simp) (Ev.is (specUnder_l l h top l.length id (by omega) (by omega)) (by simp))
theorem implAbove_l (l : List S59) (h : Doc l) (top : Int) : ∀ (d : Nat) (id : Int), nodeOf l id ≤ d → Ev (fun k => impl_above.l0 k l id top) (upTo l top d id) := by
 intro d
 have hlen : l.length ≤ 9223372036854775807 := by have := h.most; omega
 induction d with
 | zero =>
  intro id hd
  refine Ev.step (fun k => by rw [impl_above.l0]) ?_
  unfold upTo
  by_cases e : id = top
  ·exact Ev.yes e (Ev.is (Ev.now _) (by simp [e]))
  ·exact Ev.no e (Ev.bind (implNodeOf_ev l id hlen) (Ev.yes (by omega) (Ev.is (Ev.now _) (by simp [e]))))
 | succ d ih =>
  intro id hd
  refine Ev.step (fun k => by rw [impl_above.l0]) ?_
  unfold upTo
  by_cases e : id = top
  ·exact Ev.yes e (Ev.is (Ev.now _) (by rw [if_pos e]))
  ·rw [if_neg e]
   refine Ev.no e (Ev.bind (implNodeOf_ev l id hlen) ?_)
   by_cases e2 : nodeOf l id ≤ 0
   ·rw [if_pos e2]
    exact Ev.yes e2 (Ev.now _)
   ·rw [if_neg e2]
    have hr := nodeOf_lt id l
    refine Ev.no e2 (Ev.yes (by omega) (Ev.yes hr.2 (ih _ ?_)))
    obtain ⟨i, hi⟩ := Int.eq_ofNat_of_zero_le (show 0 ≤ nodeOf l id by omega)
    rw [hi]
    have := h.up i (by omega) (by omega)
    omega
theorem implAbove_ev (l : List S59) (h : Doc l) (id top : Int) : Ev (fun k => impl_above.f k l id top) (upTo l top l.length id) := by
 unfold impl_above.f
 have := nodeOf_lt id l
 exact implAbove_l l h top l.length id (by omega)
theorem implUnder_ev (l : List S59) (id top : Int) (hl : l.length ≤ 9223372036854775807) : Ev (fun k => impl_IsUnder.f k l id top) (isUnder l id top) := by
 unfold impl_IsUnder.f isUnder
 refine Ev.bind (implDoc_ev l hl) ?_
 cases hd : isDoc l with
 | false => exact Ev.no (by simp) (Ev.now _)
 | true =>
  have h := (isDoc_iff l).1 hd
  refine Ev.yes rfl (Ev.bind (implNodeOf_ev l id hl) ?_)
  by_cases h1 : nodeOf l id ≥ 0
  ·refine Ev.yes h1 (Ev.bind (implNodeOf_ev l top hl) ?_)
   by_cases h2 : nodeOf l top ≥ 0
   ·exact Ev.yes h2 (Ev.bind (implAbove_ev l h id top) (Ev.is (Ev.now _) (by rw [decide_eq_true (show 0 ≤ nodeOf l id from h1), decide_eq_true (show 0 ≤ nodeOf l top from h2)]; simp)))
   ·exact Ev.no h2 (Ev.is (Ev.now _) (by rw [decide_eq_false (show ¬ 0 ≤ nodeOf l top from h2)]; simp))
  ·exact Ev.no h1 (Ev.is (Ev.now _) (by rw [decide_eq_false (show ¬ 0 ≤ nodeOf l id from h1)]; simp))
def okEdit (a b c d e f : Int) : Bool := decide ((1 ≤ a ∧ a ≤ 4) ∧ (1 ≤ b ∧ b ≤ 99) ∧ (0 ≤ c ∧ c ≤ 99) ∧ (0 ≤ d ∧ d ≤ 9) ∧ (0 ≤ e ∧ e ≤ 999) ∧ (0 ≤ f ∧ f ≤ 5))
theorem isEditI (a b c d e f : Int) : impl_IsEdit.f a b c d e f = some (okEdit a b c d e f) := by
 unfold impl_IsEdit.f okEdit
 simp only [inR, Option.bind_some]
 by_cases h1 : 1 ≤ a ∧ a ≤ 4
 ·by_cases h2 : 1 ≤ b ∧ b ≤ 99
  ·by_cases h3 : 0 ≤ c ∧ c ≤ 99
   ·by_cases h4 : 0 ≤ d ∧ d ≤ 9
    ·by_cases h5 : 0 ≤ e ∧ e ≤ 999
     ·simp only [h1, h2, h3, h4, h5, and_self, decide_true, if_true, true_and]
     ·simp only [h1, h2, h3, h4, h5, and_self, decide_true, if_true, decide_false, Bool.false_eq_true, if_false, false_and, and_false]
    ·simp only [h1, h2, h3, h4, and_self, decide_true, if_true, decide_false, Bool.false_eq_true, if_false, false_and, and_false]
   ·simp only [h1, h2, h3, and_self, decide_true, if_true, decide_false, Bool.false_eq_true, if_false, false_and, and_false]
  ·simp only [h1, h2, and_self, decide_true, if_true, decide_false, Bool.false_eq_true, if_false, false_and, and_false]
 ·simp only [h1, decide_false, Bool.false_eq_true, if_false, false_and]
theorem isEditS (a b c d e f : Int) : spec_IsEdit.f a b c d e f = some (okEdit a b c d e f) := by
 rw [← isEditI]
 unfold impl_IsEdit.f spec_IsEdit.f
 simp only [inR, l1In]
def sees (l : List S59) (h : List Int) (b id : Int) : Bool := decide (nodeOf (seenL l h b) id ≥ 0)
def allSeen (l : List S59) (h : List Int) (b top : Int) : List S59 → Bool
 | [] => true
 | x :: t => if isUnder l x.f0 top = true then (if sees l h b x.f0 = true then allSeen l h b top t else false) else allSeen l h b top t
def mayEdit (l : List S59) (h : List Int) (o n p q r b : Int) : Bool :=
 if okEdit o n p q r b = true then
  (if nodeOf l n ≥ 0 ∧ sees l h b n = false then false
   else if o = 1 ∨ o = 4 then sees l h b p
   else if o = 2 then allSeen l h b n l
   else true)
 else false
theorem specSees_ev (l : List S59) (h : List Int) (b id : Int) (hl : l.length ≤ 1048576) (hh : h.length ≤ 9223372036854775807) : Ev (fun k => spec_SeesNode.f k l h b id) (sees l h b id) := by
 unfold spec_SeesNode.f sees
 have hr := seenL_len l h b
 exact Ev.bind (specSeen_ev l h b hl hh) (Ev.bind (specNodeOf_ev _ id (by omega)) (Ev.now _))
theorem sees_lt {l : List S59} {h : List Int} {b id : Int} : (nodeOf (seenL l h b) id < 0) ↔ sees l h b id = false := by
 unfold sees
 rw [decide_eq_false_iff_not]
 omega
theorem specMayEdit_ev (l : List S59) (h : List Int) (o n p q r b : Int) (hl : l.length ≤ 1048576) (hh : h.length ≤ 9223372036854775807) : Ev (fun k => spec_MayEdit.f k l h o n p q r b) (mayEdit l h o n p q r b) := by
 have jt : Ev (fun k => spec_MayEdit.j0 k l h true o n p q r b) false := by
  refine Ev.step (fun k => by rw [spec_MayEdit.j0]) ?_
  exact Ev.yes rfl (Ev.now _)
 have j3f : ∀ i, Ev (fun k => spec_MayEdit.j3 k l h i false o n p q r b) true := by
  intro i
  refine Ev.step (fun k => by rw [spec_MayEdit.j3]) ?_
  exact Ev.no (by simp) (Ev.now _)
 have l0 : Ev (fun k => spec_MayEdit.l0 k l h 0 o n p q r b) (if o = 2 then allSeen l h b n l else true) := by
  by_cases ho : o = 2
  ·rw [if_pos ho]
   refine loop_list0 l (fun k (s : Unit) i => spec_MayEdit.l0 k l h i o n p q r b) (fun t s => allSeen l h b n t) (fun _ _ => True) ?_ ?_ () trivial
   ·intro s _
    refine Ev.step (fun k => by rw [spec_MayEdit.l0]) ?_
    exact Ev.no (nltc _) (j3f _)
   ·intro i y t s hi hx ht _ ih
    refine Ev.step (fun k => by rw [spec_MayEdit.l0]) ?_
    refine Ev.yes (ltc hi) ?_
    refine Ev.step (fun k => by rw [spec_MayEdit.j3]) ?_
    rw [rdN_at hx, w64s hi (by omega)]
    refine Ev.yes (by simp [ho]) (Ev.yes (nnc _) (Ev.yes (ltc hi) (Ev.bind (specUnder_ev l y.f0 n (by omega)) ?_)))
    unfold allSeen
    by_cases e : isUnder l y.f0 n = true
    ·rw [if_pos e]
     refine Ev.yes e (Ev.bind (specSees_ev l h b y.f0 hl hh) ?_)
     by_cases e2 : sees l h b y.f0 = true
     ·rw [if_pos e2]
      exact Ev.yes e2 (ih () trivial)
     ·rw [if_neg e2]
      exact Ev.no e2 (Ev.now _)
    ·rw [if_neg e]
     exact Ev.no e (ih () trivial)
  ·rw [if_neg ho]
   refine Ev.step (fun k => by rw [spec_MayEdit.l0]) ?_
   have : (o == 2) = false := by simp [ho]
   rw [this]
   by_cases h0 : (0 : Int) < l.length
   ·exact Ev.yes h0 (j3f _)
   ·exact Ev.no h0 (j3f _)
 have j1 : ∀ s, s = false → Ev (fun k => spec_MayEdit.j1 k l h s o n p q r b) (if o = 2 then allSeen l h b n l else true) := by
  rintro s rfl
  refine Ev.step (fun k => by rw [spec_MayEdit.j1]) ?_
  exact Ev.no (by simp) l0
 have j1t : ∀ s, s = true → Ev (fun k => spec_MayEdit.j1 k l h s o n p q r b) false := by
  rintro s rfl
  refine Ev.step (fun k => by rw [spec_MayEdit.j1]) ?_
  exact Ev.yes rfl (Ev.now _)
 have jp : (o = 1 ∨ o = 4) → Ev (fun k => spec_MayEdit.j1 k l h (!sees l h b p) o n p q r b) (sees l h b p) := by
  intro ho
  cases hs : sees l h b p with
  | true => exact Ev.is (j1 _ rfl) (by rw [if_neg (by omega)])
  | false => exact j1t _ rfl
 have j0 : ∀ s, s = false → Ev (fun k => spec_MayEdit.j0 k l h s o n p q r b) (if o = 1 ∨ o = 4 then sees l h b p else if o = 2 then allSeen l h b n l else true) := by
  rintro s rfl
  refine Ev.step (fun k => by rw [spec_MayEdit.j0]) ?_
  refine Ev.no (by simp) ?_
  by_cases h1 : o = 1
  ·rw [if_pos (Or.inl h1)]
   exact Ev.yes h1 (Ev.bind (specSees_ev l h b p hl hh) (jp (Or.inl h1)))
  refine Ev.no h1 ?_
  by_cases h4 : o = 4
  ·rw [if_pos (Or.inr h4)]
   exact Ev.yes h4 (Ev.bind (specSees_ev l h b p hl hh) (jp (Or.inr h4)))
  rw [if_neg (by omega)]
  exact Ev.no h4 (j1 _ rfl)
 unfold spec_MayEdit.f mayEdit
 refine Ev.pure (isEditS o n p q r b) ?_
 by_cases hk : okEdit o n p q r b = true
 ·rw [if_pos hk]
  refine Ev.yes hk (Ev.bind (specNodeOf_ev l n (by omega)) ?_)
  by_cases hn : nodeOf l n ≥ 0
  ·refine Ev.yes hn (Ev.bind (specSees_ev l h b n hl hh) ?_)
   cases hs : sees l h b n with
   | true =>
    rw [if_neg (by simp)]
    exact j0 _ rfl
   | false =>
    rw [if_pos ⟨hn, rfl⟩]
    exact jt
  ·rw [if_neg (fun x => hn x.1)]
   exact Ev.no hn (j0 _ rfl)
 ·rw [if_neg hk]
  exact Ev.no hk jt
theorem implMayEdit_ev (l : List S59) (h : List Int) (o n p q r b : Int) (hl : l.length ≤ 1048576) (hh : h.length ≤ 9223372036854775807) : Ev (fun k => impl_MayEdit.f k l h o n p q r b) (mayEdit l h o n p q r b) := by
 have hr := seenL_len l h b
 have l0 : Ev (fun k => impl_MayEdit.l0 k l (seenL l h b) l (l.length : Int) 0 o n p q r b) (allSeen l h b n l) := by
  refine loop_list0 l (fun k (s : Unit) i => impl_MayEdit.l0 k l (seenL l h b) l (l.length : Int) i o n p q r b) (fun t s => allSeen l h b n t) (fun _ _ => True) ?_ ?_ () trivial
  ·intro s _
   refine Ev.step (fun k => by rw [impl_MayEdit.l0]) ?_
   exact Ev.no (nltc _) (Ev.now _)
  ·intro i y t s hi hx ht _ ih
   refine Ev.step (fun k => by rw [impl_MayEdit.l0]) ?_
   rw [rdN_at hx, w64s hi (by omega)]
   refine Ev.yes (ltc hi) (Ev.yes (nnc _) (Ev.yes (ltc hi) (Ev.bind (implUnder_ev l y.f0 n (by omega)) ?_)))
   unfold allSeen
   by_cases e : isUnder l y.f0 n = true
   ·rw [if_pos e]
    refine Ev.yes e (Ev.bind (implNodeOf_ev _ y.f0 (by omega)) ?_)
    by_cases e2 : nodeOf (seenL l h b) y.f0 < 0
    ·rw [if_neg (by rw [sees_lt.1 e2]; decide)]
     exact Ev.yes e2 (Ev.now _)
    ·have e3 : sees l h b y.f0 = true := by
      cases hs : sees l h b y.f0 with
      | true => rfl
      | false => exact absurd (sees_lt.2 hs) e2
     rw [if_pos e3]
     exact Ev.no e2 (ih () trivial)
   ·rw [if_neg e]
    exact Ev.no e (ih () trivial)
 have j1 : ∀ s, s = true → Ev (fun k => impl_MayEdit.j1 k l (seenL l h b) o s o n p q r b) (sees l h b p) := by
  rintro s rfl
  refine Ev.step (fun k => by rw [impl_MayEdit.j1]) ?_
  exact Ev.yes rfl (Ev.bind (implNodeOf_ev _ p (by omega)) (Ev.now _))
 have j1f : ∀ s, s = false → Ev (fun k => impl_MayEdit.j1 k l (seenL l h b) o s o n p q r b) (if o = 2 then allSeen l h b n l else true) := by
  rintro s rfl
  refine Ev.step (fun k => by rw [impl_MayEdit.j1]) ?_
  refine Ev.no (by simp) ?_
  by_cases ho : o = 2
  ·rw [if_pos ho]
   exact Ev.yes ho l0
  ·rw [if_neg ho]
   exact Ev.no ho (Ev.now _)
 have j0 : ∀ s, s = false → Ev (fun k => impl_MayEdit.j0 k l (seenL l h b) s o n p q r b) (if o = 1 ∨ o = 4 then sees l h b p else if o = 2 then allSeen l h b n l else true) := by
  rintro s rfl
  refine Ev.step (fun k => by rw [impl_MayEdit.j0]) ?_
  refine Ev.no (by simp) ?_
  by_cases h1 : o = 1
  ·rw [if_pos (Or.inl h1)]
   exact Ev.yes h1 (j1 _ (by simp [h1]))
  refine Ev.no h1 ?_
  by_cases h4 : o = 4
  ·rw [if_pos (Or.inr h4)]
   exact j1 _ (by simp [h4])
  rw [if_neg (by omega)]
  exact j1f _ (by simp [h4])
 unfold impl_MayEdit.f mayEdit
 refine Ev.pure (isEditI o n p q r b) ?_
 by_cases hk : okEdit o n p q r b = true
 ·rw [if_pos hk]
  refine Ev.yes hk (Ev.bind (implSeen_ev l h b hl hh) (Ev.bind (implNodeOf_ev l n (by omega)) ?_))
  by_cases hn : nodeOf l n ≥ 0
  ·refine Ev.yes hn (Ev.bind (implNodeOf_ev _ n (by omega)) ?_)
   by_cases e2 : nodeOf (seenL l h b) n < 0
   ·rw [if_pos ⟨hn, sees_lt.1 e2⟩]
    rw [decide_eq_true e2]
    refine Ev.step (fun k => by rw [impl_MayEdit.j0]) ?_
    exact Ev.yes rfl (Ev.now _)
   ·rw [if_neg (fun x => e2 (sees_lt.2 x.2))]
    exact j0 _ (by simp [e2])
  ·rw [if_neg (fun x => hn x.1)]
   exact Ev.no hn (j0 _ rfl)
 ·rw [if_neg hk]
  exact Ev.no hk (Ev.now _)
structure Tree (l : List S59) : Prop where
 most : l.length ≤ 16
 root : ∃ (x : S59) (t : List S59), l = x :: t ∧ x.f0 = 0 ∧ x.f1 = -1
 ok : ∀ x ∈ l, okN x = true
 up : l.Pairwise (fun x y => x.f0 < y.f0)
 par : ∀ x ∈ l, x.f0 ≠ 0 → ∃ y ∈ l, y.f0 = x.f1 ∧ x.f1 < x.f0
theorem nodeOf_mem (l : List S59) (id : Int) : 0 ≤ nodeOf l id ↔ ∃ x ∈ l, x.f0 = id := by
 rcases nodeOf_cases id l with ⟨h1, h2⟩ | ⟨j, x, h1, h2, h3, h4⟩
 ·constructor
  ·intro h
   omega
  ·rintro ⟨x, hx, e⟩
   exact absurd e (h2 x hx)
 ·constructor
  ·intro _
   exact ⟨x, List.mem_of_getElem? h1, h2⟩
  ·intro _
   omega
theorem Tree.doc {l : List S59} (h : Tree l) : Doc l := by
 obtain ⟨x, t, rfl, hx0, hx1⟩ := h.root
 have e0 : rd_T59 (x :: t) 0 = x := rdN_at (i := 0) rfl
 have hmono : ∀ j i : Nat, i < j → j < (x :: t).length → (rd_T59 (x :: t) (i : Int)).f0 < (rd_T59 (x :: t) (j : Int)).f0 := by
  intro j i hij hj
  rw [rdN_at (List.getElem?_eq_getElem (show i < (x :: t).length by omega)), rdN_at (List.getElem?_eq_getElem hj)]
  exact List.pairwise_iff_getElem.1 h.up i j (by omega) hj hij
 refine ⟨by simp, h.most, by rw [e0]; exact hx0, by rw [e0]; exact hx1, ?_, ?_, ?_⟩
 ·intro i hi
  rw [rdN_at (List.getElem?_eq_getElem hi)]
  exact h.ok _ (List.getElem_mem hi)
 ·intro i h0 hi
  exact hmono i (i - 1) (by omega) hi
 ·intro i h0 hi
  have e := rdN_at (List.getElem?_eq_getElem hi)
  have hne : (rd_T59 (x :: t) (i : Int)).f0 ≠ 0 := by
   have := hmono i 0 h0 hi
   have e0' : rd_T59 (x :: t) ((0 : Nat) : Int) = x := e0
   rw [e0'] at this
   omega
  rw [e] at hne ⊢
  obtain ⟨y, hy, h1, h2⟩ := h.par _ (List.getElem_mem hi) hne
  obtain ⟨j, hj, rfl⟩ := List.mem_iff_getElem.1 hy
  have hji : j < i := by
   by_cases g : j < i
   ·exact g
   ·by_cases g2 : j = i
    ·subst g2
     omega
    ·have := hmono j i (by omega) hj
     rw [e, rdN_at (List.getElem?_eq_getElem hj)] at this
     omega
  refine (nodeOf_mem _ _).2 ⟨(x :: t)[j], ?_, h1⟩
  rw [List.mem_iff_getElem?]
  exact ⟨j, by rw [List.getElem?_take_of_lt hji, List.getElem?_eq_getElem hj]⟩
def insAt (n : Int) : List S59 → Nat
 | [] => 0
 | x :: t => if x.f0 < n then insAt n t + 1 else 0
def insL (l : List S59) (x : S59) : List S59 := l.take (insAt x.f0 l) ++ (x :: l.drop (insAt x.f0 l))
def dropL (l : List S59) (n : Int) : List S59 := l.filter (fun x => !(isUnder l x.f0 n))
def dropL' (l : List S59) (n : Int) (t : List S59) : List S59 := t.filter (fun x => !(isUnder l x.f0 n))
def textOf (x : S59) (r b : Int) : S59 := ⟨x.f0, x.f1, x.f2, r, b⟩
def moveOf (x : S59) (p b : Int) : S59 := ⟨x.f0, p, x.f2, x.f3, b⟩
def nodeAt (l : List S59) (n : Int) : S59 := rd_T59 l (nodeOf l n)
def applyL (l : List S59) (o n p q r b : Int) : List S59 × Bool :=
 if isDoc l = true ∧ okEdit o n p q r b = true then
  (if o = 1 then (if nodeOf l n ≥ 0 ∨ nodeOf l p < 0 ∨ p > n ∨ 16 ≤ l.length then (l, false) else (insL l ⟨n, p, q, r, b⟩, true))
   else if o = 2 then (if nodeOf l n < 0 then (l, false) else (dropL l n, true))
   else if nodeOf l n < 0 then (l, false)
   else if o = 3 then (l.set (nodeOf l n).toNat (textOf (nodeAt l n) r b), true)
   else if nodeOf l p < 0 ∨ p ≥ n then (l, false)
   else (l.set (nodeOf l n).toNat (moveOf (nodeAt l n) p b), true))
 else (l, false)
theorem insAt_le (n : Int) (l : List S59) : insAt n l ≤ l.length := by
 induction l with
 | nil => exact Nat.zero_le _
 | cons x t ih =>
  unfold insAt
  split
  ·simp; omega
  ·exact Nat.zero_le _
theorem insL_len (l : List S59) (x : S59) : (insL l x).length = l.length + 1 := by
 unfold insL
 have := insAt_le x.f0 l
 simp
 omega
theorem dropL_len (l : List S59) (n : Int) : (dropL l n).length ≤ l.length := List.length_filter_le _ _
theorem isDoc_most {l : List S59} (h : isDoc l = true) : 1 ≤ l.length ∧ l.length ≤ 16 := ⟨((isDoc_iff l).1 h).one, ((isDoc_iff l).1 h).most⟩
theorem applyL_len (l : List S59) (o n p q r b : Int) : (applyL l o n p q r b).1.length ≤ l.length ∨ (applyL l o n p q r b).1.length ≤ 16 := by
 unfold applyL
 split
 ·rename_i h
  have hm := isDoc_most h.1
  repeat' split
  all_goals first
   | exact .inl (Nat.le_refl _)
   | (right; simp only [insL_len]; omega)
   | (left; simp only [List.length_set]; omega)
   | (left; exact dropL_len _ _)
 ·exact .inl (Nat.le_refl _)
theorem insAt_get (n : Int) (l : List S59) : (∀ (i : Nat) (x : S59), i < insAt n l → l[i]? = some x → x.f0 < n) ∧ (∀ x : S59, l[insAt n l]? = some x → ¬ x.f0 < n) := by
 induction l with
 | nil => exact ⟨fun i x h => by simp [insAt] at h, fun x h => by simp at h⟩
 | cons y t ih =>
  by_cases h : y.f0 < n
  ·have e : insAt n (y :: t) = insAt n t + 1 := by rw [insAt, if_pos h]
   rw [e]
   refine ⟨fun i x hi hx => ?_, fun x hx => ?_⟩
   ·cases i with
    | zero => simp at hx; subst hx; exact h
    | succ i => exact ih.1 i x (by omega) (by simpa using hx)
   ·exact ih.2 x (by simpa using hx)
  ·have e : insAt n (y :: t) = 0 := by rw [insAt, if_neg h]
   rw [e]
   exact ⟨fun i x hi => by omega, fun x hx => by simp at hx; subst hx; exact h⟩
theorem set_text (l : List S59) (k : Nat) (hk : k < l.length) (r b : Int) :
  ((l.set k ⟨(rd_T59 l (k : Int)).f0, (rd_T59 l (k : Int)).f1, (rd_T59 l (k : Int)).f2, r, (rd_T59 l (k : Int)).f4⟩).set k
   ⟨(rd_T59 (l.set k ⟨(rd_T59 l (k : Int)).f0, (rd_T59 l (k : Int)).f1, (rd_T59 l (k : Int)).f2, r, (rd_T59 l (k : Int)).f4⟩) (k : Int)).f0, (rd_T59 (l.set k ⟨(rd_T59 l (k : Int)).f0, (rd_T59 l (k : Int)).f1, (rd_T59 l (k : Int)).f2, r, (rd_T59 l (k : Int)).f4⟩) (k : Int)).f1, (rd_T59 (l.set k ⟨(rd_T59 l (k : Int)).f0, (rd_T59 l (k : Int)).f1, (rd_T59 l (k : Int)).f2, r, (rd_T59 l (k : Int)).f4⟩) (k : Int)).f2, (rd_T59 (l.set k ⟨(rd_T59 l (k : Int)).f0, (rd_T59 l (k : Int)).f1, (rd_T59 l (k : Int)).f2, r, (rd_T59 l (k : Int)).f4⟩) (k : Int)).f3, b⟩) = l.set k (textOf (rd_T59 l (k : Int)) r b) := by
 have rs : ∀ (x : S59), rd_T59 (l.set k x) (k : Int) = x := fun x => rdN_at (List.getElem?_set_self hk)
 rw [rs, List.set_set]
 rfl
theorem set_move (l : List S59) (k : Nat) (hk : k < l.length) (p b : Int) :
  ((l.set k ⟨(rd_T59 l (k : Int)).f0, p, (rd_T59 l (k : Int)).f2, (rd_T59 l (k : Int)).f3, (rd_T59 l (k : Int)).f4⟩).set k
   ⟨(rd_T59 (l.set k ⟨(rd_T59 l (k : Int)).f0, p, (rd_T59 l (k : Int)).f2, (rd_T59 l (k : Int)).f3, (rd_T59 l (k : Int)).f4⟩) (k : Int)).f0, (rd_T59 (l.set k ⟨(rd_T59 l (k : Int)).f0, p, (rd_T59 l (k : Int)).f2, (rd_T59 l (k : Int)).f3, (rd_T59 l (k : Int)).f4⟩) (k : Int)).f1, (rd_T59 (l.set k ⟨(rd_T59 l (k : Int)).f0, p, (rd_T59 l (k : Int)).f2, (rd_T59 l (k : Int)).f3, (rd_T59 l (k : Int)).f4⟩) (k : Int)).f2, (rd_T59 (l.set k ⟨(rd_T59 l (k : Int)).f0, p, (rd_T59 l (k : Int)).f2, (rd_T59 l (k : Int)).f3, (rd_T59 l (k : Int)).f4⟩) (k : Int)).f3, b⟩) = l.set k (moveOf (rd_T59 l (k : Int)) p b) := by
 have rs : ∀ (x : S59), rd_T59 (l.set k x) (k : Int) = x := fun x => rdN_at (List.getElem?_set_self hk)
 rw [rs, List.set_set]
 rfl
theorem specCopy (l : List S59) (h : l.length < 3518437208883) : spec_l5Copy.f l = some l := by
 unfold spec_l5Copy.f
 simp only [Option.bind_some, List.length_nil, Nat.zero_add, List.nil_append]
 rw [if_pos h]
theorem specAdd_l (l : List S59) (o n p q r b : Int) (hl : l.length ≤ 1048576) : ∀ (d i : Nat), i + d = insAt n l → Ev (fun k => spec_l5Add.l0 k l (i : Int) o n p q r b) (insL l ⟨n, p, q, r, b⟩, true) := by
 have hle := insAt_le n l
 have hget := insAt_get n l
 have fin : ∀ (k0 : Nat), k0 = insAt n l → spec_l5Copy.f (l.take (k0 : Int).toNat) = some (l.take k0) := by
  intro k0 _
  rw [Int.toNat_natCast]
  exact specCopy _ (by rw [List.length_take]; omega)
 intro d
 induction d with
 | zero =>
  intro i hi
  have hi' : i = insAt n l := by omega
  have hil : (i : Int) ≤ (l.length : Int) := by omega
  have tail : Ev (fun _ : Nat => (if (0 : Int) ≤ (i : Int) then (if (i : Int) ≤ (l.length : Int) then ((spec_l5Copy.f (l.take (i : Int).toNat)).bind fun t => ((some (([(⟨n, p, q, r, b⟩ : S59)] : List S59) : List S59)).bind fun y => (if t.length + y.length < 3518437208883 then ((some (t ++ y : List S59)).bind fun z => ((some (l.drop (i : Int).toNat : List S59)).bind fun u => (if z.length + u.length < 3518437208883 then (some ((z ++ u), true)) else (none)))) else (none)))) else (none)) else (none))) (insL l ⟨n, p, q, r, b⟩, true) := by
   refine Ev.yes (by omega) (Ev.yes hil (Ev.pure (fin i hi') (Ev.pure rfl (Ev.yes (by simp; omega) (Ev.pure rfl (Ev.pure rfl (Ev.yes (by simp; omega) (Ev.is (Ev.now _) ?_))))))))
   unfold insL
   rw [Int.toNat_natCast, hi']
   simp
  refine Ev.step (fun k => by rw [spec_l5Add.l0]) ?_
  by_cases h1 : (i : Int) < (l.length : Int)
  ·have hx := rdN_get l i (by omega)
   have h2 := hget.2 (rd_T59 l (i : Int)) (by rw [← hi']; exact hx)
   have t2 := tail
   simp only [if_pos hil, show (0 : Int) ≤ (i : Int) from by omega, if_true] at t2
   refine Ev.yes h1 (Ev.yes (by omega) (Ev.no h2 (Ev.yes hil t2)))
  ·exact Ev.no h1 tail
 | succ d ih =>
  intro i hi
  have hlt : i < l.length := by omega
  refine Ev.step (fun k => by rw [spec_l5Add.l0]) ?_
  refine Ev.yes (ltc hlt) (Ev.yes (nnc _) (Ev.yes (hget.1 i _ (by omega) (rdN_get l i hlt)) ?_))
  rw [w64s hlt (by omega)]
  exact ih (i + 1) (by omega)
theorem specDrop_l (l : List S59) (n : Int) (hl : l.length ≤ 1048576) : Ev (fun k => spec_l5Drop.l0 k l n [] 0) (dropL l n, true) := by
 have := loop_list0 l (fun k s i => spec_l5Drop.l0 k l n s i) (fun t s => (s ++ dropL' l n t, true)) (fun i s => s.length ≤ i) ?_ ?_ [] (by simp)
 ·simpa [dropL', dropL] using this
 ·intro s hs
  refine Ev.step (fun k => by rw [spec_l5Drop.l0]) ?_
  exact Ev.no (nltc _) (Ev.is (Ev.now _) (by simp [dropL']))
 ·intro i y t s hi hx ht hs ih
  refine Ev.step (fun k => by rw [spec_l5Drop.l0]) ?_
  rw [rdN_at hx, w64s hi (by omega)]
  refine Ev.yes (ltc hi) (Ev.yes (nnc _) (Ev.bind (specUnder_ev l y.f0 n (by omega)) ?_))
  by_cases e : isUnder l y.f0 n = true
  ·refine Ev.yes e (Ev.is (ih s (by omega)) ?_)
   simp [dropL', e]
  ·refine Ev.no e (Ev.yes (by omega) (Ev.is (ih (s ++ [y]) (by simp; omega)) ?_))
   simp only [Bool.not_eq_true] at e
   simp [dropL', e]
theorem specApply_ev (l : List S59) (o n p q r b : Int) (hl : l.length ≤ 1048576) : Ev (fun k => spec_ApplyEdit.f k l o n p q r b) (applyL l o n p q r b) := by
 have hcp := specCopy l (by omega)
 have hb9 : l.length ≤ 9223372036854775807 := by omega
 have aj0 : Ev (fun k => spec_l5Add.j0 k l true o n p q r b) (l, false) := by
  refine Ev.step (fun k => by rw [spec_l5Add.j0]) ?_
  exact Ev.yes rfl (Ev.pure hcp (Ev.now _))
 have aj1 : Ev (fun k => spec_l5Add.j0 k l false o n p q r b) (insL l ⟨n, p, q, r, b⟩, true) := by
  refine Ev.step (fun k => by rw [spec_l5Add.j0]) ?_
  exact Ev.no (by simp) (specAdd_l l o n p q r b hl (insAt n l) 0 (by omega))
 have add : Ev (fun k => spec_l5Add.f k l o n p q r b) (if nodeOf l n ≥ 0 ∨ nodeOf l p < 0 ∨ p > n ∨ 16 ≤ l.length then (l, false) else (insL l ⟨n, p, q, r, b⟩, true)) := by
  unfold spec_l5Add.f
  refine Ev.bind (specNodeOf_ev l n hb9) ?_
  by_cases h1 : nodeOf l n ≥ 0
  ·exact Ev.yes h1 (Ev.is aj0 (by rw [if_pos (Or.inl h1)]))
  refine Ev.no h1 (Ev.bind (specNodeOf_ev l p hb9) ?_)
  by_cases h2 : nodeOf l p < 0
  ·exact Ev.yes h2 (Ev.is aj0 (by rw [if_pos (Or.inr (Or.inl h2))]))
  refine Ev.no h2 ?_
  by_cases h3 : p > n
  ·exact Ev.yes h3 (Ev.is aj0 (by rw [if_pos (Or.inr (Or.inr (Or.inl h3)))]))
  refine Ev.no h3 ?_
  by_cases h4 : (l.length : Int) ≥ 16
  ·rw [decide_eq_true h4]
   exact Ev.is aj0 (by rw [if_pos (Or.inr (Or.inr (Or.inr (by omega))))])
  ·rw [decide_eq_false h4]
   exact Ev.is aj1 (by rw [if_neg (by omega)])
 have drp : Ev (fun k => spec_l5Drop.f k l n) (if nodeOf l n < 0 then (l, false) else (dropL l n, true)) := by
  unfold spec_l5Drop.f
  refine Ev.bind (specNodeOf_ev l n hb9) ?_
  by_cases h1 : nodeOf l n < 0
  ·exact Ev.yes h1 (Ev.pure hcp (Ev.is (Ev.now _) (by rw [if_pos h1])))
  ·exact Ev.no h1 (Ev.is (specDrop_l l n hl) (by rw [if_neg h1]))
 have j1t : ∀ t, Ev (fun k => spec_ApplyEdit.j1 k t l true o n p q r b) (l, false) := by
  intro t
  refine Ev.step (fun k => by rw [spec_ApplyEdit.j1]) ?_
  exact Ev.yes rfl (Ev.now _)
 have j1f : 0 ≤ nodeOf l n → Ev (fun k => spec_ApplyEdit.j1 k (nodeOf l n) l false o n p q r b) (if o = 3 then (l.set (nodeOf l n).toNat (textOf (nodeAt l n) r b), true) else (l.set (nodeOf l n).toNat (moveOf (nodeAt l n) p b), true)) := by
  intro h0
  have hr := nodeOf_lt n l
  unfold nodeAt
  obtain ⟨i, hi⟩ := Int.eq_ofNat_of_zero_le h0
  rw [hi] at hr ⊢
  refine Ev.step (fun k => by rw [spec_ApplyEdit.j1]) ?_
  refine Ev.no (by simp) ?_
  rw [Int.toNat_natCast]
  by_cases h3 : o = 3
  ·exact Ev.yes h3 (Ev.yes (nnc _) (Ev.yes hr.2 (Ev.pure rfl (Ev.is (Ev.now _) (by rw [if_pos h3, set_text l i (by omega)])))))
  ·exact Ev.no h3 (Ev.yes (nnc _) (Ev.yes hr.2 (Ev.pure rfl (Ev.is (Ev.now _) (by rw [if_neg h3, set_move l i (by omega)])))))
 have j0t : Ev (fun k => spec_ApplyEdit.j0 k l true o n p q r b) (l, false) := by
  refine Ev.step (fun k => by rw [spec_ApplyEdit.j0]) ?_
  exact Ev.yes rfl (Ev.pure hcp (Ev.now _))
 unfold spec_ApplyEdit.f applyL
 refine Ev.bind (specDoc_ev l hb9) ?_
 cases hd : isDoc l with
 | false => exact Ev.no (by simp) (Ev.is j0t (by simp))
 | true =>
  refine Ev.yes rfl (Ev.pure (isEditS o n p q r b) ?_)
  cases hk : okEdit o n p q r b with
  | false => exact Ev.is j0t (by simp)
  | true =>
   rw [if_pos ⟨rfl, rfl⟩]
   refine Ev.step (fun k => by rw [spec_ApplyEdit.j0]) ?_
   refine Ev.no (by simp) (Ev.bind (specNodeOf_ev l n hb9) (Ev.pure hcp ?_))
   by_cases h1 : o = 1
   ·refine Ev.yes h1 (Ev.bind add (Ev.is (Ev.now _) ?_))
    rw [if_pos h1]
   rw [if_neg h1]
   refine Ev.no h1 ?_
   by_cases h2 : o = 2
   ·refine Ev.yes h2 (Ev.bind drp (Ev.is (Ev.now _) ?_))
    rw [if_pos h2]
   rw [if_neg h2]
   refine Ev.no h2 ?_
   by_cases h3 : nodeOf l n < 0
   ·rw [if_pos h3]
    exact Ev.yes h3 (j1t _)
   rw [if_neg h3]
   refine Ev.no h3 ?_
   by_cases h4 : o = 4
   ·rw [if_neg (by omega)]
    refine Ev.yes h4 (Ev.bind (specNodeOf_ev l p hb9) ?_)
    by_cases h5 : nodeOf l p < 0
    ·rw [if_pos (Or.inl h5)]
     exact Ev.yes h5 (j1t _)
    refine Ev.no h5 ?_
    by_cases h6 : p ≥ n
    ·rw [if_pos (Or.inr h6), decide_eq_true h6]
     exact j1t _
    ·rw [if_neg (by omega), decide_eq_false h6]
     exact Ev.is (j1f (by omega)) (by rw [if_neg (by omega)])
   ·have h5 : o = 3 := by
     unfold okEdit at hk
     have := of_decide_eq_true hk
     omega
    rw [if_pos h5]
    exact Ev.no h4 (Ev.is (j1f (by omega)) (by rw [if_pos h5]))
theorem clone_ok (l : List S59) (h : l.length ≤ 1000000000) : impl_Node_71.f l = some l := by
 unfold impl_Node_71.f
 rw [if_pos h]
theorem insert_ok (l : List S59) (x : S59) (h1 : 1 ≤ l.length) (hm : l.length ≤ 1000000) (i : Nat) (hi : i ≤ l.length) : impl_Node_74.f l (i : Int) [x] = some (l.take i ++ (x :: l.drop i)) := by
 unfold impl_Node_74.f
 rw [if_pos ⟨by omega, by omega, h1, hm, rfl⟩, Int.toNat_natCast]
 rfl
theorem implAdd_l (l : List S59) (o n p q r b : Int) (h1 : 1 ≤ l.length) (hm : l.length ≤ 1000000) : ∀ (d i : Nat), i + d = insAt n l → Ev (fun k => impl_ApplyEdit.l0 k l l (i : Int) o n p q r b) (insL l ⟨n, p, q, r, b⟩, true) := by
 have hle := insAt_le n l
 have hget := insAt_get n l
 intro d
 induction d with
 | zero =>
  intro i hi
  have hi' : i = insAt n l := by omega
  have tail : Ev (fun k => impl_ApplyEdit.j3 k l (i : Int) o n p q r b) (insL l ⟨n, p, q, r, b⟩, true) := by
   refine Ev.step (fun k => by rw [impl_ApplyEdit.j3]) ?_
   refine Ev.pure (insert_ok l _ h1 hm i (by omega)) (Ev.is (Ev.now _) ?_)
   unfold insL
   rw [hi']
  refine Ev.step (fun k => by rw [impl_ApplyEdit.l0]) ?_
  by_cases h2 : (i : Int) < (l.length : Int)
  ·have h3 := hget.2 (rd_T59 l (i : Int)) (by rw [← hi']; exact rdN_get l i (by omega))
   exact Ev.yes h2 (Ev.yes (nnc _) (Ev.no h3 tail))
  ·exact Ev.no h2 tail
 | succ d ih =>
  intro i hi
  have hlt : i < l.length := by omega
  refine Ev.step (fun k => by rw [impl_ApplyEdit.l0]) ?_
  refine Ev.yes (ltc hlt) (Ev.yes (nnc _) (Ev.yes (hget.1 i _ (by omega) (rdN_get l i hlt)) ?_))
  rw [w64s hlt (by omega)]
  exact ih (i + 1) (by omega)
theorem implDrop_l (l : List S59) (hD : Doc l) (o n p q r b : Int) (hn : 0 ≤ nodeOf l n) (hl : l.length ≤ 1048576) : Ev (fun k => impl_ApplyEdit.l1 k l [] l (l.length : Int) 0 o n p q r b) (dropL l n, true) := by
 have hun : ∀ x ∈ l, isUnder l x.f0 n = upTo l n l.length x.f0 := by
  intro x hx
  unfold isUnder
  rw [(isDoc_iff l).2 hD, decide_eq_true hn, decide_eq_true ((nodeOf_mem l x.f0).2 ⟨x, hx, rfl⟩)]
  rfl
 have := loop_list0 l (fun k s i => impl_ApplyEdit.l1 k l s l (l.length : Int) i o n p q r b) (fun t s => (s ++ dropL' l n t, true)) (fun i s => s.length ≤ i) ?_ ?_ [] (by simp)
 ·simpa [dropL', dropL] using this
 ·intro s hs
  refine Ev.step (fun k => by rw [impl_ApplyEdit.l1]) ?_
  exact Ev.no (nltc _) (Ev.is (Ev.now _) (by simp [dropL']))
 ·intro i y t s hi hx ht hs ih
  refine Ev.step (fun k => by rw [impl_ApplyEdit.l1]) ?_
  rw [rdN_at hx, w64s hi (by omega)]
  refine Ev.yes (ltc hi) (Ev.yes (nnc _) (Ev.yes (ltc hi) (Ev.bind (implAbove_ev l hD y.f0 n) ?_)))
  rw [← hun y (List.mem_of_getElem? hx)]
  by_cases e : isUnder l y.f0 n = true
  ·refine Ev.yes e (Ev.is (ih s (by omega)) ?_)
   simp [dropL', e]
  ·refine Ev.no e (Ev.yes (by omega) (Ev.is (ih (s ++ [y]) (by simp; omega)) ?_))
   simp only [Bool.not_eq_true] at e
   simp [dropL', e]
theorem implApply_ev (l : List S59) (o n p q r b : Int) (hl : l.length ≤ 1048576) : Ev (fun k => impl_ApplyEdit.f k l o n p q r b) (applyL l o n p q r b) := by
 have hb9 : l.length ≤ 9223372036854775807 := by omega
 have j0t : Ev (fun k => impl_ApplyEdit.j0 k l l true o n p q r b) (l, false) := by
  refine Ev.step (fun k => by rw [impl_ApplyEdit.j0]) ?_
  exact Ev.yes rfl (Ev.now _)
 have j1t : Ev (fun k => impl_ApplyEdit.j1 k l l true o n p q r b) (l, false) := by
  refine Ev.step (fun k => by rw [impl_ApplyEdit.j1]) ?_
  exact Ev.yes rfl (Ev.now _)
 unfold impl_ApplyEdit.f applyL
 refine Ev.pure (clone_ok l (by omega)) (Ev.bind (implDoc_ev l hb9) ?_)
 cases hd : isDoc l with
 | false => exact Ev.no (by simp) (Ev.is j0t (by simp))
 | true =>
  have hD := (isDoc_iff l).1 hd
  have hone := hD.one
  have hmost := hD.most
  refine Ev.yes rfl (Ev.pure (isEditI o n p q r b) ?_)
  cases hk : okEdit o n p q r b with
  | false => exact Ev.is j0t (by simp)
  | true =>
   rw [if_pos ⟨rfl, rfl⟩]
   have j1f : Ev (fun k => impl_ApplyEdit.j1 k l l false o n p q r b) (insL l ⟨n, p, q, r, b⟩, true) := by
    refine Ev.step (fun k => by rw [impl_ApplyEdit.j1]) ?_
    exact Ev.no (by simp) (implAdd_l l o n p q r b hone (by omega) (insAt n l) 0 (by omega))
   refine Ev.step (fun k => by rw [impl_ApplyEdit.j0]) ?_
   refine Ev.no (by simp) (Ev.bind (implNodeOf_ev l n hb9) ?_)
   by_cases h1 : o = 1
   ·rw [if_pos h1]
    refine Ev.yes h1 ?_
    by_cases h2 : nodeOf l n ≥ 0
    ·exact Ev.yes h2 (Ev.is j1t (by rw [if_pos (Or.inl h2)]))
    refine Ev.no h2 (Ev.bind (implNodeOf_ev l p hb9) ?_)
    by_cases h3 : nodeOf l p < 0
    ·exact Ev.yes h3 (Ev.is j1t (by rw [if_pos (Or.inr (Or.inl h3))]))
    refine Ev.no h3 ?_
    by_cases h4 : p > n
    ·exact Ev.yes h4 (Ev.is j1t (by rw [if_pos (Or.inr (Or.inr (Or.inl h4)))]))
    refine Ev.no h4 ?_
    by_cases h5 : (l.length : Int) ≥ 16
    ·rw [decide_eq_true h5]
     exact Ev.is j1t (by rw [if_pos (Or.inr (Or.inr (Or.inr (by omega))))])
    ·rw [decide_eq_false h5]
     exact Ev.is j1f (by rw [if_neg (by omega)])
   rw [if_neg h1]
   refine Ev.no h1 ?_
   have hr := nodeOf_lt n l
   by_cases h2 : o = 2
   ·rw [if_pos h2]
    refine Ev.yes h2 ?_
    by_cases h3 : nodeOf l n < 0
    ·exact Ev.yes h3 (Ev.is (Ev.now _) (by rw [if_pos h3]))
    ·exact Ev.no h3 (Ev.is (implDrop_l l hD o n p q r b (by omega) hl) (by rw [if_neg h3]))
   rw [if_neg h2]
   refine Ev.no h2 ?_
   by_cases h3 : o = 3
   ·refine Ev.yes h3 ?_
    by_cases h4 : nodeOf l n < 0
    ·exact Ev.yes h4 (Ev.is (Ev.now _) (by rw [if_pos h4]))
    refine Ev.no h4 ?_
    rw [if_neg h4, if_pos h3]
    unfold nodeAt
    obtain ⟨i, hi⟩ := Int.eq_ofNat_of_zero_le (show 0 ≤ nodeOf l n by omega)
    rw [hi] at hr ⊢
    rw [Int.toNat_natCast]
    exact Ev.yes (nnc _) (Ev.yes hr.2 (Ev.pure rfl (Ev.is (Ev.now _) (by rw [set_text l i (by omega)]))))
   ·refine Ev.no h3 ?_
    by_cases h4 : nodeOf l n < 0
    ·exact Ev.yes h4 (Ev.is (Ev.now _) (by rw [if_pos h4]))
    rw [if_neg h4, if_neg h3]
    refine Ev.no h4 (Ev.bind (implNodeOf_ev l p hb9) ?_)
    by_cases h5 : nodeOf l p < 0
    ·exact Ev.yes h5 (Ev.is (Ev.now _) (by rw [if_pos (Or.inl h5)]))
    refine Ev.no h5 ?_
    by_cases h6 : p ≥ n
    ·exact Ev.yes h6 (Ev.is (Ev.now _) (by rw [if_pos (Or.inr h6)]))
    refine Ev.no h6 ?_
    rw [if_neg (show ¬ (nodeOf l p < 0 ∨ p ≥ n) by omega)]
    unfold nodeAt
    obtain ⟨i, hi⟩ := Int.eq_ofNat_of_zero_le (show 0 ≤ nodeOf l n by omega)
    rw [hi] at hr ⊢
    rw [Int.toNat_natCast]
    exact Ev.yes (nnc _) (Ev.yes hr.2 (Ev.pure rfl (Ev.is (Ev.now _) (by rw [set_move l i (by omega)]))))
def guardL (l : List S59) (h : List Int) (o n p q r b : Int) : List S59 × Bool :=
 if mayEdit l h o n p q r b = true then applyL l o n p q r b else (l, false)
theorem guardL_len (l : List S59) (h : List Int) (o n p q r b : Int) : (guardL l h o n p q r b).1.length ≤ l.length ∨ (guardL l h o n p q r b).1.length ≤ 16 := by
 unfold guardL
 split
 ·exact applyL_len l o n p q r b
 ·exact .inl (Nat.le_refl _)
theorem specGuard_ev (l : List S59) (h : List Int) (o n p q r b : Int) (hl : l.length ≤ 1048576) (hh : h.length ≤ 9223372036854775807) : Ev (fun k => spec_GuardEdit.f k l h o n p q r b) (guardL l h o n p q r b) := by
 unfold spec_GuardEdit.f guardL
 refine Ev.bind (specMayEdit_ev l h o n p q r b hl hh) ?_
 by_cases e : mayEdit l h o n p q r b = true
 ·rw [if_pos e]
  exact Ev.yes e (Ev.bind (specApply_ev l o n p q r b hl) (Ev.now _))
 ·rw [if_neg e]
  exact Ev.no e (Ev.pure (specCopy l (by omega)) (Ev.now _))
theorem implGuard_ev (l : List S59) (h : List Int) (o n p q r b : Int) (hl : l.length ≤ 1048576) (hh : h.length ≤ 9223372036854775807) : Ev (fun k => impl_GuardEdit.f k l h o n p q r b) (guardL l h o n p q r b) := by
 unfold impl_GuardEdit.f guardL
 refine Ev.bind (implMayEdit_ev l h o n p q r b hl hh) ?_
 by_cases e : mayEdit l h o n p q r b = true
 ·rw [if_pos e]
  exact Ev.yes e (Ev.bind (implApply_ev l o n p q r b hl) (Ev.now _))
 ·rw [if_neg e]
  exact Ev.no e (Ev.pure (clone_ok l (by omega)) (Ev.now _))
def foldM (a v : Int) : Int := (a * 1000003 + v % 2147483647 + 13) % 2147483647
theorem foldM_b (a v : Int) : 0 ≤ foldM a v ∧ foldM a v < 2147483647 := by unfold foldM; omega
theorem foldl_b (l : List Int) (a : Int) (h : 0 ≤ a ∧ a < 2147483647) : 0 ≤ l.foldl foldM a ∧ l.foldl foldM a < 2147483647 := by
 induction l generalizing a with
 | nil => exact h
 | cons x t ih => exact ih _ (foldM_b a x)
theorem fold_eq (a v : Int) (h : 0 ≤ a ∧ a < 2147483647) : Int.tmod (wrap64 ((wrap64 ((wrap64 (a * 1000003)) + v % 2147483647)) + 13)) 2147483647 = foldM a v := by
 rw [w64 (n := a * 1000003) (by omega), w64 (n := a * 1000003 + v % 2147483647) (by omega), w64 (by omega)]
 exact Int.tmod_eq_emod_of_nonneg (by omega)
def handle (a b c : Int) : Int := if (1 ≤ a ∧ a ≤ 9999) ∧ (0 ≤ b ∧ b ≤ 5) ∧ (0 ≤ c ∧ c ≤ 99) then (List.foldl foldM 11 [a, b, c]) % 100000 + 1 else 0
def resFrom (b c : Int) (w : Int) : List S59 → Int
 | [] => -1
 | x :: t => if handle b c x.f0 = w then x.f0 else resFrom b c w t
def resolveL (l : List S59) (h : List Int) (a b w : Int) : Int := if w ≥ 1 then resFrom a b w (seenL l h b) else -1
theorem modT (p q : Int) (h : 1 ≤ q) : (if Int.tmod p q < 0 then Int.tmod p q + q else Int.tmod p q) = p % q ∧ -q < Int.tmod p q ∧ Int.tmod p q < q := by
 have h1 := Int.tmod_lt_of_pos p (show 0 < q by omega)
 have h2 : -q < Int.tmod p q := by
  have := Int.tmod_lt_of_pos (-p) (show 0 < q by omega)
  rw [Int.neg_tmod] at this
  omega
 have h3 := Int.emod_nonneg p (show q ≠ 0 by omega)
 have h4 := Int.emod_lt_of_pos p (show 0 < q by omega)
 refine ⟨?_, h2, h1⟩
 have h5 : (Int.tmod p q) % q = p % q := by
  rw [Int.tmod_def, Int.sub_eq_add_neg, ← Int.mul_neg, Int.add_mul_emod_self_left]
 split
 ·rw [← h5]
  rw [← Int.add_emod_right, Int.emod_eq_of_lt (by omega) (by omega)]
 ·rw [← h5]
  rw [Int.emod_eq_of_lt (by omega) (by omega)]
theorem modS (p q : Int) : spec_Mod.f p q = some (if 1 ≤ q ∧ q ≤ 1000000000000 then p % q else 0) := by
 unfold spec_Mod.f
 rw [l1In]
 by_cases h : 1 ≤ q ∧ q ≤ 1000000000000
 ·obtain ⟨h1, h2, h3⟩ := modT p q h.1
  simp only [h, Option.bind_some, decide_true, and_self, if_true]
  rw [if_neg (show ¬ q = 0 by omega), w64 (by omega), ← h1]
  congr 1
  split
  ·rw [Int.tmod_eq_emod_of_nonneg (by omega)]
   exact Int.emod_eq_of_lt (by omega) (by omega)
  ·rw [Int.tmod_eq_emod_of_nonneg (by omega)]
   rw [Int.add_emod_right]
   exact Int.emod_eq_of_lt (by omega) (by omega)
 ·simp only [h, Option.bind_some, decide_false, if_false, Bool.false_eq_true]
theorem specHash_ev (l : List Int) (hl : l.length ≤ 9223372036854775807) : Ev (fun k => spec_Hash.f k l) (l.foldl foldM 11) := by
 refine loop_list0 l (fun k s i => spec_Hash.l0 k l s i) (fun t s => t.foldl foldM s) (fun _ s => 0 ≤ s ∧ s < 2147483647) ?_ ?_ 11 (by decide)
 ·intro s hs
  exact ev_succ ⟨0, fun k _ => by simp only [spec_Hash.l0, nltc, if_false, List.foldl_nil]⟩
 ·intro i x t s hi hx ht hs ih
  obtain ⟨K, hK⟩ := ih (foldM s x) (foldM_b s x)
  refine ev_succ ⟨K, fun k hk => ?_⟩
  have e : (1 : Int) ≤ 2147483647 ∧ (2147483647 : Int) ≤ 1000000000000 := by decide
  simp only [spec_Hash.l0, ltc hi, nnc, if_true, rd_at hx, modS, e, and_self, Option.bind_some, w64s hi hl]
  rw [fold_eq s x hs]
  exact hK k hk
theorem specHandle_ev (a b c : Int) : Ev (fun k => spec_HandleOf.f k a b c) (handle a b c) := by
 obtain ⟨K, hK⟩ := specHash_ev [a, b, c] (by simp)
 replace hK : ∀ k, K ≤ k → spec_Hash.f k ([a, b, c] : List Int) = some (List.foldl foldM 11 [a, b, c]) := hK
 have e : (1 : Int) ≤ 100000 ∧ (100000 : Int) ≤ 1000000000000 := by decide
 have hb := foldl_b [a, b, c] 11 (by decide)
 have hw : wrap64 ((List.foldl foldM 11 [a, b, c]) % 100000 + 1) = (List.foldl foldM 11 [a, b, c]) % 100000 + 1 := w64 (by omega)
 refine ev_succ ⟨K, fun k hk => ?_⟩
 simp only [spec_HandleOf.f, l1In, Option.bind_some]
 unfold handle
 by_cases h1 : 1 ≤ a ∧ a ≤ 9999
 ·by_cases h2 : 0 ≤ b ∧ b ≤ 5
  ·by_cases h3 : 0 ≤ c ∧ c ≤ 99
   ·simp only [h1, h2, h3, and_self, decide_true, if_true, spec_HandleOf.j0, Bool.not_true, Bool.false_eq_true, if_false, hK k hk, Option.bind_some, modS, e, hw]
   ·simp only [h1, h2, h3, and_self, and_false, decide_true, decide_false, if_true, spec_HandleOf.j0, Bool.not_false, if_false]
  ·simp only [h1, h2, and_self, and_false, false_and, decide_true, decide_false, if_true, spec_HandleOf.j0, Bool.false_eq_true, if_false]
 ·simp only [h1, false_and, decide_false, if_true, spec_HandleOf.j0, Bool.false_eq_true, if_false]
theorem specResolve_ev (l : List S59) (h : List Int) (a b w : Int) (hl : l.length ≤ 1048576) (hh : h.length ≤ 9223372036854775807) : Ev (fun k => spec_ResolveHandle.f k l h a b w) (resolveL l h a b w) := by
 unfold spec_ResolveHandle.f
 refine Ev.bind (specSeen_ev l h b hl hh) ?_
 have hr := seenL_len l h b
 unfold resolveL
 generalize seenL l h b = r at hr
 have fin : ∀ i, Ev (fun k => spec_ResolveHandle.j1 k a b w r i false) (-1) := by
  intro i
  refine Ev.step (fun k => by rw [spec_ResolveHandle.j1]) ?_
  exact Ev.no (by simp) (Ev.now _)
 by_cases hw : w ≥ 1
 ·rw [if_pos hw]
  refine loop_list0 r (fun k (s : Unit) i => spec_ResolveHandle.l0 k a b w r i) (fun t s => resFrom a b w t) (fun _ _ => True) ?_ ?_ () trivial
  ·intro s _
   refine Ev.step (fun k => by rw [spec_ResolveHandle.l0]) ?_
   exact Ev.no (nltc _) (fin _)
  ·intro i y t s hi hx ht _ ih
   refine Ev.step (fun k => by rw [spec_ResolveHandle.l0]) ?_
   rw [decide_eq_true hw]
   refine Ev.yes (ltc hi) ?_
   refine Ev.step (fun k => by rw [spec_ResolveHandle.j1]) ?_
   rw [rdN_at hx, w64s hi (by omega)]
   refine Ev.yes rfl (Ev.yes (nnc _) (Ev.yes (ltc hi) (Ev.bind (specHandle_ev a b y.f0) ?_)))
   unfold resFrom
   by_cases e : handle a b y.f0 = w
   ·rw [if_pos e]
    exact Ev.yes e (Ev.now _)
   ·rw [if_neg e]
    exact Ev.no e (ih () trivial)
 ·rw [if_neg hw]
  refine Ev.step (fun k => by rw [spec_ResolveHandle.l0]) ?_
  rw [decide_eq_false hw]
  by_cases h0 : (0 : Int) < r.length
  ·exact Ev.yes h0 (fin _)
  ·exact Ev.no h0 (fin _)
theorem modI (p q : Int) : impl_Mod.f p q = some (if 1 ≤ q ∧ q ≤ 1000000000000 then p % q else 0) := by
 unfold impl_Mod.f
 rw [inR]
 by_cases h : 1 ≤ q ∧ q ≤ 1000000000000
 ·obtain ⟨h1, h2, h3⟩ := modT p q h.1
  simp only [h, Option.bind_some, decide_true, and_self, if_true]
  rw [if_neg (show ¬ q = 0 by omega), w64 (by omega), ← h1]
  split <;> rfl
 ·simp only [h, Option.bind_some, decide_false, if_false, Bool.false_eq_true]
theorem foldI (a v : Int) (h : 0 ≤ a ∧ a < 2147483647) : impl_fold.f a v = some (foldM a v) := by
 have e : (1 : Int) ≤ 2147483647 ∧ (2147483647 : Int) ≤ 1000000000000 := by decide
 simp only [impl_fold.f, modI, e, and_self, if_true, Option.bind_some]
 rw [fold_eq a v h]
theorem implHash_ev (l : List Int) (hl : l.length ≤ 9223372036854775807) : Ev (fun k => impl_Hash.f k l) (l.foldl foldM 11) := by
 refine loop_list0 l (fun k s i => impl_Hash.l0 k s l (l.length : Int) i) (fun t s => t.foldl foldM s) (fun _ s => 0 ≤ s ∧ s < 2147483647) ?_ ?_ 11 (by decide)
 ·intro s hs
  exact ev_succ ⟨0, fun k _ => by simp only [impl_Hash.l0, nltc, if_false, List.foldl_nil]⟩
 ·intro i x t s hi hx ht hs ih
  obtain ⟨K, hK⟩ := ih (foldM s x) (foldM_b s x)
  refine ev_succ ⟨K, fun k hk => ?_⟩
  simp only [impl_Hash.l0, ltc hi, nnc, if_true, rd_at hx, foldI s x hs, Option.bind_some, w64s hi hl]
  exact hK k hk
theorem implHandle_ev (a b c : Int) : Ev (fun k => impl_HandleOf.f k a b c) (handle a b c) := by
 obtain ⟨K, hK⟩ := implHash_ev [a, b, c] (by simp)
 replace hK : ∀ k, K ≤ k → impl_Hash.f k ([a, b, c] : List Int) = some (List.foldl foldM 11 [a, b, c]) := hK
 have e : (1 : Int) ≤ 100000 ∧ (100000 : Int) ≤ 1000000000000 := by decide
 have hb := foldl_b [a, b, c] 11 (by decide)
 have hw : wrap64 ((List.foldl foldM 11 [a, b, c]) % 100000 + 1) = (List.foldl foldM 11 [a, b, c]) % 100000 + 1 := w64 (by omega)
 refine ev_succ ⟨K, fun k hk => ?_⟩
 simp only [impl_HandleOf.f, inR, Option.bind_some]
 unfold handle
 by_cases h1 : 1 ≤ a ∧ a ≤ 9999
 ·by_cases h2 : 0 ≤ b ∧ b ≤ 5
  ·by_cases h3 : 0 ≤ c ∧ c ≤ 99
   ·simp only [h1, h2, h3, and_self, decide_true, if_true, impl_HandleOf.j0, Bool.not_true, Bool.false_eq_true, if_false, hK k hk, Option.bind_some, modI, e, hw]
   ·simp only [h1, h2, h3, and_self, and_false, decide_true, decide_false, if_true, impl_HandleOf.j0, Bool.not_false, if_false]
  ·simp only [h1, h2, and_self, and_false, false_and, decide_true, decide_false, if_true, impl_HandleOf.j0, Bool.false_eq_true, if_false]
 ·simp only [h1, false_and, decide_false, if_true, impl_HandleOf.j0, Bool.false_eq_true, if_false]
theorem implResolve_ev (l : List S59) (h : List Int) (a b w : Int) (hl : l.length ≤ 1048576) (hh : h.length ≤ 9223372036854775807) : Ev (fun k => impl_ResolveHandle.f k l h a b w) (resolveL l h a b w) := by
 unfold impl_ResolveHandle.f
 have hr := seenL_len l h b
 unfold resolveL
 by_cases hw : w ≥ 1
 ·rw [if_pos hw]
  refine Ev.no (by omega) (Ev.bind (implSeen_ev l h b hl hh) ?_)
  generalize seenL l h b = r at hr
  refine loop_list0 r (fun k (s : Unit) i => impl_ResolveHandle.l0 k a b w r (r.length : Int) i) (fun t s => resFrom a b w t) (fun _ _ => True) ?_ ?_ () trivial
  ·intro s _
   refine Ev.step (fun k => by rw [impl_ResolveHandle.l0]) ?_
   exact Ev.no (nltc _) (Ev.now _)
  ·intro i y t s hi hx ht _ ih
   refine Ev.step (fun k => by rw [impl_ResolveHandle.l0]) ?_
   rw [rdN_at hx, w64s hi (by omega)]
   refine Ev.yes (ltc hi) (Ev.yes (nnc _) (Ev.yes (ltc hi) (Ev.bind (implHandle_ev a b y.f0) ?_)))
   unfold resFrom
   by_cases e : handle a b y.f0 = w
   ·rw [if_pos e]
    exact Ev.yes e (Ev.now _)
   ·rw [if_neg e]
    exact Ev.no e (ih () trivial)
 ·rw [if_neg hw]
  exact Ev.yes (by omega) (Ev.now _)
theorem markNodeS_ev (l : List S59) (c : Int) (h : 0 ≤ c ∧ c + 5 * l.length ≤ 9223372036854775800) : Ev (fun k => laws_markNodeS.f k l c) (c + 5 * l.length, marks mNode 5 c l.length) := by
 have H := mark_loop mNode 5 l.length c (fun k s c i => laws_markNodeS.l0 k s c i) (fun k s c hs => by simp only [laws_markNodeS.l0, hs, nltc, if_false]) (fun k i s hi hs => by
  have a1 : wrap64 (c + 5 * (i : Int) + 1) = c + 5 * (i : Int) + 1 := w64 (by omega)
  have a2 : wrap64 (c + 5 * (i : Int) + 1 + 1) = c + 5 * (i : Int) + 2 := by rw [w64 (by omega)]; omega
  have a3 : wrap64 (c + 5 * (i : Int) + 2 + 1) = c + 5 * (i : Int) + 3 := by rw [w64 (by omega)]; omega
  have a4 : wrap64 (c + 5 * (i : Int) + 3 + 1) = c + 5 * (i : Int) + 4 := by rw [w64 (by omega)]; omega
  have a5 : wrap64 (c + 5 * (i : Int) + 4 + 1) = c + 5 * ((i + 1 : Nat) : Int) := by rw [w64 (by omega)]; omega
  have rs : ∀ (t : List S59) (x : S59), t.length = l.length → rd_T59 (t.set i x) (i : Int) = x := fun t x ht => rdN_at (List.getElem?_set_self (by omega))
  simp only [laws_markNodeS.l0, hs, ltc hi, nnc, if_true, w64s hi (show l.length ≤ 9223372036854775807 by omega), Int.toNat_natCast, Option.bind_some, a1, a2, a3, a4, a5]
  rw [rs _ _ hs]
  simp only [List.set_set]
  rw [rs _ _ hs]
  simp only [List.set_set]
  rw [rs _ _ hs]
  simp only [List.set_set]
  rw [rs _ _ hs]
  rfl) l rfl
 simpa [laws_markNodeS.f] using H
theorem heldNodeS_ev (c : Int) (n : Nat) (h : 0 ≤ c ∧ c + 5 * n ≤ 9223372036854775800) : Ev (fun k => laws_heldNodeS.f k (marks mNode 5 c n) c) (c + 5 * n) := by
 have H := held_loop 5 n c (fun k c' i => laws_heldNodeS.l0 k (marks mNode 5 c n) c' i) (fun k c' => by simp only [laws_heldNodeS.l0, marks_len, nltc, if_false]) (fun k i hi => by
  have a1 : wrap64 (c + 5 * (i : Int) + 1) = c + 5 * (i : Int) + 1 := w64 (by omega)
  have a2 : wrap64 (c + 5 * (i : Int) + 1 + 1) = c + 5 * (i : Int) + 2 := by rw [w64 (by omega)]; omega
  have a3 : wrap64 (c + 5 * (i : Int) + 2 + 1) = c + 5 * (i : Int) + 3 := by rw [w64 (by omega)]; omega
  have a4 : wrap64 (c + 5 * (i : Int) + 3 + 1) = c + 5 * (i : Int) + 4 := by rw [w64 (by omega)]; omega
  have a5 : wrap64 (c + 5 * (i : Int) + 4 + 1) = c + 5 * ((i + 1 : Nat) : Int) := by rw [w64 (by omega)]; omega
  simp only [laws_heldNodeS.l0, marks_len, ltc hi, nnc, if_true, rdN_at (marks_at mNode 5 c n i hi), mNode, w64s hi (show n ≤ 9223372036854775807 by omega), a1, a2, a3, a4, a5])
 simpa [laws_heldNodeS.f] using H
theorem toIntS_ev (l : List Int) (h : l.length ≤ 35184372088832) : Ev (fun k => laws_toIntS.f k l) l := by
 have H := copy_loop l id (fun k s i => laws_toIntS.l0 k l s i) (fun k s => by simp only [laws_toIntS.l0, nltc, if_false]) (fun k i x s hx hi hs => by
  simp only [laws_toIntS.l0, ltc hi, nnc, hs, if_true, rd_at hx, w64s hi (show l.length ≤ 9223372036854775807 by omega), Int.toNat_natCast, id]) (List.replicate l.length 0) (by simp)
 obtain ⟨K, hK⟩ := H
 refine ⟨K, fun k hk => ?_⟩
 have := hK k hk
 simp only [List.map_id] at this
 simp only [laws_toIntS.f, nnc, if_true, Int.toNat_natCast, show l.length ≤ 35184372088832 from by omega]
 exact this
theorem eqIntS_ev (a b : List Int) (h : a.length ≤ 9223372036854775807) : Ev (fun k => laws_eqIntS.f k a b) (decide (a = b)) := by
 by_cases hl : a.length = b.length
 ·have H := eq_loop a b (fun k i => laws_eqIntS.l0 k a b i) hl (fun k => by simp only [laws_eqIntS.l0, nltc, if_false]) (fun k i x y hx hy hi hi2 => by
   simp only [laws_eqIntS.l0, ltc hi, ltc hi2, nnc, if_true, rd_at hx, rd_at hy, w64s hi h])
  obtain ⟨K, hK⟩ := H
  refine ⟨K, fun k hk => ?_⟩
  simp only [laws_eqIntS.f, hl, if_true]
  exact hK k hk
 ·refine ⟨0, fun k _ => ?_⟩
  simp only [laws_eqIntS.f]
  rw [if_neg (by omega)]
  congr 1
  symm
  exact decide_eq_false (fun e => hl (by rw [e]))
theorem eqIntS_self (a : List Int) (h : a.length ≤ 9223372036854775807) : Ev (fun k => laws_eqIntS.f k a a) true := Ev.is (eqIntS_ev a a h) (by simp)
def mInt (c : Int) : Int := c
theorem markIntS_ev (l : List Int) (c : Int) (h : 0 ≤ c ∧ c + l.length ≤ 9223372036854775807) : Ev (fun k => laws_markIntS.f k l c) (c + l.length, marks mInt 1 c l.length) := by
 have H := mark_loop mInt 1 l.length c (fun k s c i => laws_markIntS.l0 k s c i) (fun k s c hs => by simp only [laws_markIntS.l0, hs, nltc, if_false]) (fun k i s hi hs => by
  simp only [laws_markIntS.l0, hs, ltc hi, nnc, if_true, w64s hi (show l.length ≤ 9223372036854775807 by omega), Int.toNat_natCast]
  rw [w64 (by omega), show c + 1 * (i : Int) + 1 = c + 1 * ((i + 1 : Nat) : Int) by omega]
  rfl) l rfl
 simpa [laws_markIntS.f] using H
def byHandle (l : List S59) (h : List Int) (p w r b : Int) : List S59 × Bool :=
 if resolveL l h p b w < 0 then (l, false) else guardL l h 3 (resolveL l h p b w) 0 0 r b
theorem byHandle_len (l : List S59) (h : List Int) (p w r b : Int) : (byHandle l h p w r b).1.length ≤ l.length ∨ (byHandle l h p w r b).1.length ≤ 16 := by
 unfold byHandle
 split
 ·exact .inl (Nat.le_refl _)
 ·exact guardL_len _ _ _ _ _ _ _ _
theorem specBy_ev (l : List S59) (h : List Int) (p w r b : Int) (hl : l.length ≤ 1048576) (hh : h.length ≤ 1048576) : Ev (fun k => spec_EditByHandle.f k l h p w r b) (byHandle l h p w r b) := by
 unfold spec_EditByHandle.f byHandle
 refine Ev.bind (specResolve_ev l h p b w (by omega) (by omega)) ?_
 by_cases e : resolveL l h p b w < 0
 ·rw [if_pos e]
  exact Ev.yes e (Ev.pure (specCopy l (by omega)) (Ev.now _))
 ·rw [if_neg e]
  exact Ev.no e (Ev.bind (specGuard_ev l h _ _ _ _ _ _ hl (by omega)) (Ev.now _))
theorem implBy_ev (l : List S59) (h : List Int) (p w r b : Int) (hl : l.length ≤ 1048576) (hh : h.length ≤ 1048576) : Ev (fun k => impl_EditByHandle.f k l h p w r b) (byHandle l h p w r b) := by
 unfold impl_EditByHandle.f byHandle
 refine Ev.bind (implResolve_ev l h p b w (by omega) (by omega)) ?_
 by_cases e : resolveL l h p b w < 0
 ·rw [if_pos e]
  exact Ev.yes e (Ev.pure (clone_ok l (by omega)) (Ev.now _))
 ·rw [if_neg e]
  exact Ev.no e (Ev.bind (implGuard_ev l h _ _ _ _ _ _ hl (by omega)) (Ev.now _))
theorem FnExactEditByHandle : FnExactEditByHandle_Pure := by
 intro l h p w r b hl _ hh _ _ _ _ _ _
 have hm : maxLen = 9223372036854775807 := by decide
 refine Ev.rounds (g := fun k => laws_FnExactEditByHandle.f k l h p w r b) ?_
 unfold laws_FnExactEditByHandle.f
 by_cases h0 : (h.length : Int) > 1048576
 ·exact Ev.yes h0 (Ev.now _)
 refine Ev.no h0 (Ev.pure (szNode l 1048576 (by omega) (by decide)) ?_)
 by_cases h1 : (1048576 : Int) < l.length
 ·exact Ev.yes (by rw [if_pos h1]; decide) (Ev.now _)
 refine Ev.no (by rw [if_neg h1]; omega) ?_
 have e1 := toNodeS_ev l (by omega)
 have hlen : (l.map n5).length = l.length := by simp
 generalize l.map n5 = a at e1 hlen
 have e2 := toIntS_ev h (by omega)
 have e3 := specBy_ev a h p w r b (by omega) (by omega)
 have e4 := implBy_ev a h p w r b (by omega) (by omega)
 have hr := byHandle_len a h p w r b
 generalize byHandle a h p w r b = z at e3 e4 hr
 obtain ⟨x, ok⟩ := z
 simp only at hr
 have e5 := eqNodeS_self a (by omega)
 have e5' := eqIntS_self h (by omega)
 have e6 := eqNodeS_self x (by omega)
 have e7 := markNodeS_ev a 1 (by omega)
 have e7' := markIntS_ev h (1 + 5 * (a.length : Int)) (by omega)
 have e8 := markNodeS_ev x 1 (by omega)
 have e9 := heldNodeS_ev 1 x.length (by omega)
 have ej2 : Ev (fun k => laws_FnExactEditByHandle.j2 k (marks mNode 5 1 x.length) (1 + 5 * (x.length : Int)) false) true := by
  refine Ev.step (fun k => by rw [laws_FnExactEditByHandle.j2]) ?_
  exact Ev.no (by simp) (Ev.bind e9 (Ev.no (by omega) (Ev.yes rfl (Ev.now true))))
 have ej1 : Ev (fun k => laws_FnExactEditByHandle.j1 k l h p w r b x ok x false) true := by
  refine Ev.step (fun k => by rw [laws_FnExactEditByHandle.j1]) ?_
  refine Ev.no (by simp) (Ev.bind e8 (Ev.bind e9 (Ev.no (by omega) (Ev.yes rfl (Ev.bind e1 (Ev.bind e2 (Ev.bind e4 (Ev.bind e6 (Ev.yes rfl ?_)))))))))
  simp only [bne_self_eq_false]
  exact ej2
 have ej0 : Ev (fun k => laws_FnExactEditByHandle.j0 k l h p w r b x ok a h x ok false) true := by
  refine Ev.step (fun k => by rw [laws_FnExactEditByHandle.j0]) ?_
  refine Ev.no (by simp) (Ev.bind e1 (Ev.bind e5 (Ev.yes rfl (Ev.bind e2 (Ev.bind e5' (Ev.yes rfl (Ev.bind e7 (Ev.bind e7' (Ev.no (by simp only; omega) (Ev.bind e6 (Ev.yes rfl ?_)))))))))))
  simp only [bne_self_eq_false]
  exact ej1
 refine Ev.bind e1 (Ev.bind e2 (Ev.bind e3 (Ev.bind e1 (Ev.bind e2 (Ev.bind e4 (Ev.bind e6 (Ev.yes rfl ?_)))))))
 simp only [bne_self_eq_false]
 exact ej0
end Go.Proofs.Ytiiibfpijmmbfaa.Pure
