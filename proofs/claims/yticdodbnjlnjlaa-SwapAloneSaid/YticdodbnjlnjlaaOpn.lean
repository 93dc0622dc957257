import Derived.Test.YticdodbnjlnjlaaWWords
import Derived.Deep.Slices
namespace Go.Proofs.Yticdodbnjlnjlaa.Opn
open Go Go.RowKit Go.Deep Go.ChangeShapes Go.Proofs.YticdodbnjlnjlaaW.PrintWords
/-- What a reading by the form gives in the printed words: some x that lies in these cells, each number of its kind. -/
def Opn {α : Type} (P : Program) (t : TypeId) (k : Kd α) (wf : α → Prop) : Prop :=
  ∀ (H : Type) (enc : TypeId × Value → H) (w : World) (base : Nat) (spare : Nat → Bool) (held : Bool) (fuel : Nat) (cs : List Value) (y : DataW H × List MemPlace),
    DataW.trod enc P w base spare held fuel t cs = some y → ∃ x, k.K w x cs ∧ wf x
theorem opn_int {P : Program} {t : TypeId} {k : IntKind} (ht : P.underlying t = some (.int k)) : Opn P t (Kd.int k) (fun x => (Lit.int k x).wf = true) := by
  intro H enc w base spare held fuel cs y h
  obtain ⟨n, rfl, _, hn⟩ := DataW.trod_int ht h
  exact ⟨n, rfl, hn⟩
theorem opn_bool {P : Program} {t : TypeId} (ht : P.underlying t = some .bool) : Opn P t Kd.bool (fun _ => True) := by
  intro H enc w base spare held fuel cs y h
  obtain ⟨n, rfl, _⟩ := DataW.trod_bool ht h
  exact ⟨n, rfl, trivial⟩
theorem opn_string {P : Program} {t : TypeId} (ht : P.underlying t = some .string) : Opn P t Kd.string (fun s => s.size ≤ 9223372036854775807) := by
  intro H enc w base spare held fuel cs y h
  obtain ⟨n, rfl, _, hl⟩ := DataW.trod_string ht h
  exact ⟨n, rfl, hl⟩
theorem choose_lt' {α : Type} {p : Nat → α → Prop} : ∀ n, (∀ i, i < n → ∃ x, p i x) → ∃ xs : List α, xs.length = n ∧ ∀ i x, xs[i]? = some x → p i x
  | 0, _ => ⟨[], rfl, fun i x h => by simp at h⟩
  | n + 1, h => by
    obtain ⟨xs, hl, hx⟩ := choose_lt' n (fun i hi => h i (by omega))
    obtain ⟨x, hp⟩ := h n (by omega)
    refine ⟨xs ++ [x], by simp [hl], fun i y hy => ?_⟩
    by_cases hi : i < xs.length
    · rw [List.getElem?_append_left hi] at hy
      exact hx i y hy
    · rw [List.getElem?_append_right (by omega)] at hy
      have h0 : i - xs.length = 0 := by
        by_cases h1 : i - xs.length = 0
        · exact h1
        · rw [List.getElem?_eq_none (by simp; omega)] at hy
          cases hy
      rw [h0] at hy
      obtain rfl : x = y := by simpa using hy
      obtain rfl : i = n := by omega
      exact hp
theorem opn_slice {α : Type} {P : Program} {t e : TypeId} {k : Kd α} {wf : α → Prop} (ht : P.underlying t = some (.slice e)) (hk : k.sz = P.cellsOf e) (ho : Opn P e k wf) :
    Opn P t (Kd.slice e k) (fun xs => xs.length ≤ 9223372036854775807 ∧ ∀ x ∈ xs, wf x) := by
  intro H enc w base spare held fuel cs y h
  rcases open_slice ht h with ⟨rfl, _⟩ | ⟨a, len, cap, m, n, D, Pl, rfl, hb, hl, hm, hmm, rfl, hx⟩
  · exact ⟨[], ⟨none, 0, rfl, Nat.le_refl _, rfl, Nat.zero_le _, fun h => absurd h (Nat.lt_irrefl 0)⟩, Nat.zero_le _, fun _ h => by cases h⟩
  have hlm : len ≤ m := by rw [hmm]; split <;> omega
  have hm2 : cap ≤ 9223372036854775807 := hm
  obtain ⟨xs, hlen, hxs⟩ := choose_lt' (α := α) (p := fun i x => wf x ∧ ∃ c, c.length = k.sz ∧ k.K w x c ∧ ∀ j u, c[j]? = some u → w.cell? (a.add (i * k.sz + j)) = some u) len (fun i hi => by
    obtain ⟨cs', h1, h2⟩ := hx i (by omega)
    obtain ⟨_, hl1, hc1⟩ := World.cells?_some h1
    obtain ⟨x, hK, hw⟩ := ho H enc w base spare held n cs' _ h2
    refine ⟨x, hw, cs', k.K_len hK, hK, fun j u hj => ?_⟩
    have hj2 : j < P.cellsOf e := by
      by_cases hjl : j < cs'.length
      · omega
      · rw [List.getElem?_eq_none (by omega)] at hj
        cases hj
    have := hc1 j hj2
    rw [Go.Deep.add_add] at this
    rw [hk, this, hj])
  subst hlen
  refine ⟨xs, ⟨some a, cap, rfl, hl, rfl, by omega, fun _ => ⟨a, rfl, fun j p hj => ?_⟩⟩, by omega, fun x hxm => ?_⟩
  · obtain ⟨_, c, c1, c2, c3⟩ := hxs j p hj
    exact ⟨c, c1, c2, c3⟩
  · obtain ⟨i, hi, rfl⟩ := List.getElem_of_mem hxm
    exact (hxs i _ (List.getElem?_eq_getElem hi)).1
/-- An argument, by what its cells are. -/
theorem opn_arg {α : Type} {P : Program} {t : TypeId} {k : Kd α} {wf : α → Prop} (ho : Opn P t k wf) {H : Type} {enc : TypeId × Value → H} {w : World} {base : Nat} {spare : Nat → Bool} {held : Bool} {v : Value} {d : DataW H} {ps : List MemPlace}
    (h : DataW.Trod enc P w base spare held t v d ps) : ∃ x, k.K w x v.cells.toList ∧ wf x := by
  obtain ⟨fuel, hf⟩ := h
  exact ho H enc w base spare held fuel _ _ hf
/-- A slice that came in. -/
theorem opn_arg_slice {α : Type} {P : Program} {t e : TypeId} {k : Kd α} {wf : List α → Prop} (ho : Opn P t (Kd.slice e k) wf) {H : Type} {enc : TypeId × Value → H} {w : World} {base : Nat} {spare : Nat → Bool} {held : Bool} {A : Option Addr} {n c : Nat} {d : DataW H} {ps : List MemPlace}
    (h : DataW.Trod enc P w base spare held t (.slice A n c) d ps) : ∃ xs : List α, n = xs.length ∧ xs.length ≤ c ∧ k.C w A xs.length xs ∧ wf xs := by
  obtain ⟨xs, ⟨A', c', he, hl, hC⟩, hw⟩ := opn_arg ho h
  simp [Value.cells] at he
  obtain ⟨rfl, rfl, rfl⟩ := he
  exact ⟨xs, rfl, hl, hC, hw⟩
end Go.Proofs.Yticdodbnjlnjlaa.Opn
