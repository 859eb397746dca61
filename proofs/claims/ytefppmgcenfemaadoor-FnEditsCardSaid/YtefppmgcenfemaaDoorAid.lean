/- Readings opened: a struct of whole numbers, by value or as an element of a slice, as a list of its numbers. -/
import Derived.ChangeSlices
import Derived.ChangeArms
import Derived.Deep.Slices
import Derived.SizedLaws
import Derived.WideShapes
import Derived.ProofKit
import Derived.Test.YtefppmgcenfemaaDoorWWords
namespace Go.Proofs.YtefppmgcenfemaaDoor.Aid
open Go.ChangeShapes Go.WideShapes Go.Deep Go.RowKit Go.Proofs.YtefppmgcenfemaaDoorW.PrintWords

section
variable {H : Type} {enc : TypeId × Value → H} {P : Program} {w : World} {base : Nat} {spare : Nat → Bool} {held : Bool}

/-- Every field is an int of one cell, at its own place. -/
def Flat (P : Program) (fs : Array Field) : Prop := ∀ (i : Nat) (f : Field), fs[i]? = some f → P.underlying f.type = some (.int .i64) ∧ f.offset = i ∧ P.cellsOf f.type = 1

theorem Flat.mk2 {f0 f1 : Field} (h0 : P.underlying f0.type = some (.int .i64) ∧ f0.offset = 0 ∧ P.cellsOf f0.type = 1) (h1 : P.underlying f1.type = some (.int .i64) ∧ f1.offset = 1 ∧ P.cellsOf f1.type = 1) : Flat P #[f0, f1] := by
  intro i f hf
  match i, hf with
  | 0, hf => simp at hf; subst hf; exact h0
  | 1, hf => simp at hf; subst hf; exact h1
  | n + 2, hf => simp at hf

theorem Flat.mk5 {f0 f1 f2 f3 f4 : Field} (h0 : P.underlying f0.type = some (.int .i64) ∧ f0.offset = 0 ∧ P.cellsOf f0.type = 1) (h1 : P.underlying f1.type = some (.int .i64) ∧ f1.offset = 1 ∧ P.cellsOf f1.type = 1)
    (h2 : P.underlying f2.type = some (.int .i64) ∧ f2.offset = 2 ∧ P.cellsOf f2.type = 1) (h3 : P.underlying f3.type = some (.int .i64) ∧ f3.offset = 3 ∧ P.cellsOf f3.type = 1)
    (h4 : P.underlying f4.type = some (.int .i64) ∧ f4.offset = 4 ∧ P.cellsOf f4.type = 1) : Flat P #[f0, f1, f2, f3, f4] := by
  intro i f hf
  match i, hf with
  | 0, hf => simp at hf; subst hf; exact h0
  | 1, hf => simp at hf; subst hf; exact h1
  | 2, hf => simp at hf; subst hf; exact h2
  | 3, hf => simp at hf; subst hf; exact h3
  | 4, hf => simp at hf; subst hf; exact h4
  | n + 5, hf => simp at hf

theorem Flat.mk6 {f0 f1 f2 f3 f4 f5 : Field} (h0 : P.underlying f0.type = some (.int .i64) ∧ f0.offset = 0 ∧ P.cellsOf f0.type = 1) (h1 : P.underlying f1.type = some (.int .i64) ∧ f1.offset = 1 ∧ P.cellsOf f1.type = 1)
    (h2 : P.underlying f2.type = some (.int .i64) ∧ f2.offset = 2 ∧ P.cellsOf f2.type = 1) (h3 : P.underlying f3.type = some (.int .i64) ∧ f3.offset = 3 ∧ P.cellsOf f3.type = 1)
    (h4 : P.underlying f4.type = some (.int .i64) ∧ f4.offset = 4 ∧ P.cellsOf f4.type = 1) (h5 : P.underlying f5.type = some (.int .i64) ∧ f5.offset = 5 ∧ P.cellsOf f5.type = 1) : Flat P #[f0, f1, f2, f3, f4, f5] := by
  intro i f hf
  match i, hf with
  | 0, hf => simp at hf; subst hf; exact h0
  | 1, hf => simp at hf; subst hf; exact h1
  | 2, hf => simp at hf; subst hf; exact h2
  | 3, hf => simp at hf; subst hf; exact h3
  | 4, hf => simp at hf; subst hf; exact h4
  | 5, hf => simp at hf; subst hf; exact h5
  | n + 6, hf => simp at hf

theorem cells_flat {t : TypeId} {fs : Array Field} {fuel : Nat} {cs : List Value} {x : DataW H × List MemPlace} (hs : P.underlying t = some (.struct fs)) (hf : Flat P fs) (hC : P.cellsOf t = fs.size)
    (h : DataW.trod enc P w base spare held fuel t cs = some x) :
    ∃ xs : List Int, cs = xs.map (Value.int .i64) ∧ xs.length = fs.size ∧ ∀ x ∈ xs, (Lit.int .i64 x).wf = true := by
  obtain ⟨ys, n, _, _, hl, hlen, hy⟩ := DataW.trod_struct hs h
  rw [hC] at hl
  obtain ⟨Z, hZ⟩ := choose_lt (α := Int) (n := fs.size) (p := fun i z => cs[i]? = some (.int .i64 z) ∧ (Lit.int .i64 z).wf = true) (fun i hi => by
    obtain ⟨h1, h2, h3⟩ := hf i fs[i] (Array.getElem?_eq_getElem hi)
    have h4 := hy i fs[i] (Array.getElem?_eq_getElem hi)
    rw [h2, h3, List.getElem?_eq_getElem (by omega)] at h4
    obtain ⟨z, hz, _, hw⟩ := DataW.trod_int h1 h4
    refine ⟨z, ?_, hw⟩
    have h5 : ((cs.drop i).take 1)[0]? = some (Value.int .i64 z) := by rw [hz]; rfl
    rw [List.getElem?_take_of_lt (by omega), List.getElem?_drop] at h5
    simpa using h5)
  refine ⟨(List.range fs.size).map Z, ?_, by simp, ?_⟩
  · apply List.ext_getElem?
    intro i
    by_cases hi : i < fs.size
    · rw [(hZ i hi).1]
      simp [hi]
    · rw [List.getElem?_eq_none (by omega), List.getElem?_eq_none (by simp; omega)]
  · intro x hx
    obtain ⟨i, hi, rfl⟩ := List.mem_map.1 hx
    exact (hZ i (by simpa using hi)).2

/-- A struct of whole numbers by value. -/
theorem open_flat {r : Reach} {b0 : Nat} {t : TypeId} {fs : Array Field} {v : Value} {d : DataW H} {p : List MemPlace} (hs : P.underlying t = some (.struct fs)) (hf : Flat P fs) (hC : P.cellsOf t = fs.size)
    (hv : Value.okWide P w r b0 t v) (h : DataW.Trod enc P w base spare held t v d p) :
    ∃ xs : List Int, v = .agg (xs.map (Value.int .i64)).toArray ∧ xs.length = fs.size ∧ ∀ x ∈ xs, (Lit.int .i64 x).wf = true := by
  obtain ⟨cs, rfl, hsz⟩ := okWide_struct hs hv
  obtain ⟨fuel, hh⟩ := h
  obtain ⟨xs, h1, h2, h3⟩ := cells_flat hs hf hC hh
  refine ⟨xs, ?_, h2, h3⟩
  simp only [Value.cells] at h1
  rw [← h1]

theorem list2 {xs : List Int} (h : xs.length = 2) : ∃ a b, xs = [a, b] := by
  match xs, h with
  | [a, b], _ => exact ⟨a, b, rfl⟩
theorem list6 {xs : List Int} (h : xs.length = 6) : ∃ a b c d e f, xs = [a, b, c, d, e, f] := by
  match xs, h with
  | [a, b, c, d, e, f], _ => exact ⟨a, b, c, d, e, f, rfl⟩
theorem list5 {xs : List Int} (h : xs.length = 5) : ∃ a b c d e, xs = [a, b, c, d, e] := by
  match xs, h with
  | [a, b, c, d, e], _ => exact ⟨a, b, c, d, e, rfl⟩

/-- A slice of such structs, as a row of values of one's own. -/
theorem open_rows {α : Type} (mk : List Int → α) (R : α → List Value → Prop) {t e : TypeId} {fs : Array Field} {a : Option Addr} {len cap : Nat} {d : DataW H} {ps : List MemPlace} (hR : ∀ p : List Int, p.length = fs.size → R (mk p) (p.map (Value.int .i64)))
    (ht : P.underlying t = some (.slice e)) (hs : P.underlying e = some (.struct fs)) (hf : Flat P fs) (hC : P.cellsOf e = fs.size)
    (h : DataW.Trod enc P w base spare held t (.slice a len cap) d ps) :
    ∃ l : List α, l.length = len ∧ len ≤ cap ∧ len ≤ maxLen ∧ (∀ x ∈ l, ∃ p : List Int, x = mk p ∧ p.length = fs.size ∧ ∀ y ∈ p, (Lit.int .i64 y).wf = true) ∧ ReadsRow R fs.size w a len l := by
  obtain ⟨fuel, hh⟩ := h
  rcases open_slice ht hh with ⟨hcs, _⟩ | ⟨x, l, c, m, n, D, Pl, hcs, _, hl, hm, hmm, _, hcell⟩
  · simp [Value.cells] at hcs
    obtain ⟨rfl, rfl, rfl⟩ := hcs
    exact ⟨[], rfl, Nat.le_refl _, Nat.zero_le _, fun l hl => by simp at hl, rfl, Nat.zero_le _, fun h0 => by omega⟩
  · simp [Value.cells] at hcs
    obtain ⟨rfl, rfl, rfl⟩ := hcs
    have hlm : len ≤ m := by rw [hmm]; split <;> omega
    obtain ⟨Z, hZ⟩ := choose_lt (α := List Int) (n := len) (p := fun i z => z.length = fs.size ∧ (∀ x ∈ z, (Lit.int .i64 x).wf = true) ∧ ∀ q u, (z.map (Value.int .i64))[q]? = some u → w.cell? (x.add (i * fs.size + q)) = some u) (fun i hi => by
      obtain ⟨cs', h1, h2⟩ := hcell i (by omega)
      obtain ⟨xs, rfl, h4, h5⟩ := cells_flat hs hf hC h2
      refine ⟨xs, h4, h5, fun q u hu => ?_⟩
      obtain ⟨_, hln, hget⟩ := World.cells?_some h1
      have hq : q < fs.size := by
        have := (List.getElem?_eq_some_iff.1 hu).1
        simpa [h4] using this
      have h6 := hget q (by rw [hC]; exact hq)
      rw [hC, Go.Deep.add_add] at h6
      rw [h6]
      exact hu)
    have hml : maxLen ≤ 9223372036854775807 := by decide
    refine ⟨(List.range len).map (fun i => mk (Z i)), by simp, hl, by omega, ?_, by simp, by omega, fun _ => ⟨x, rfl, fun j p hp => ?_⟩⟩
    · intro l hl
      obtain ⟨i, hi, rfl⟩ := List.mem_map.1 hl
      have hi' : i < len := by simpa using hi
      exact ⟨Z i, rfl, (hZ i hi').1, (hZ i hi').2.1⟩
    · have hj : j < len := by
        have := (List.getElem?_eq_some_iff.1 hp).1
        simpa using this
      have : mk (Z j) = p := by
        simp [hj] at hp
        exact hp
      subst this
      exact ⟨_, by simp [(hZ j hj).1], hR _ (hZ j hj).1, (hZ j hj).2.2⟩
end
end Go.Proofs.YtefppmgcenfemaaDoor.Aid
