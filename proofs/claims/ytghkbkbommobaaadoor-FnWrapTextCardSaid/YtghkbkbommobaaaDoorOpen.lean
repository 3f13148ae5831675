/- Opening what came in: an argument that reads as data of a type reads as a plain Lean value of its kind. No condition; lemmas for the rows of the laws. -/
import Derived.Test.YtghkbkbommobaaaDoorWMore
import Derived.ChangeArms
import Derived.DataReads
import Derived.SizedLaws
namespace Go.Proofs.YtghkbkbommobaaaDoor.Open
open Go.RowKit Go.Proofs.YtghkbkbommobaaaDoorW.PrintWords Go.Proofs.YtghkbkbommobaaaDoorW.PrintLast
set_option linter.unusedVariables false
set_option linter.unusedSimpArgs false
/-- Whatever reads as data of type t are the cells of a value of kind K, of which Q holds. -/
def Opens {α : Type} (P : Program) (K : Kd α) (t : TypeId) (Q : α → Prop) : Prop :=
  ∀ {H : Type} (enc : TypeId × Value → H) (w : World) (base : Nat) (spare : Nat → Bool) (held : Bool) (fuel : Nat) (cs : List Value) (x : DataW H × List MemPlace),
    DataW.trod enc P w base spare held fuel t cs = some x → ∃ a : α, K.K w a cs ∧ Q a
theorem opens_int {P : Program} {t : TypeId} {k : IntKind} (ht : P.underlying t = some (.int k)) : Opens P (Kd.int k) t (fun n => (Lit.int k n).wf = true) := by
  intro H enc w base spare held fuel cs x h
  obtain ⟨n, rfl, _, hw⟩ := DataW.trod_int ht h
  exact ⟨n, rfl, hw⟩
theorem opens_string {P : Program} {t : TypeId} (ht : P.underlying t = some .string) : Opens P Kd.string t (fun s => s.size ≤ 9223372036854775807) := by
  intro H enc w base spare held fuel cs x h
  obtain ⟨s, rfl, _, hw⟩ := DataW.trod_string ht h
  exact ⟨s, rfl, by simpa [maxLen] using hw⟩
theorem opens_bool {P : Program} {t : TypeId} (ht : P.underlying t = some .bool) : Opens P Kd.bool t (fun _ => True) := by
  intro H enc w base spare held fuel cs x h
  obtain ⟨b, rfl, _⟩ := DataW.trod_bool ht h
  exact ⟨b, rfl, trivial⟩
theorem choose_list {α : Type} (n : Nat) (R : Nat → α → Prop) (h : ∀ i, i < n → ∃ a, R i a) : ∃ l : List α, l.length = n ∧ ∀ i a, l[i]? = some a → R i a := by
  induction n with
  | zero => exact ⟨[], rfl, fun i a hi => by simp at hi⟩
  | succ n ih =>
    obtain ⟨l, hl, hr⟩ := ih (fun i hi => h i (by omega))
    obtain ⟨a, ha⟩ := h n (by omega)
    refine ⟨l ++ [a], by simp [hl], fun i b hi => ?_⟩
    rcases Nat.lt_or_ge i l.length with h1 | h1
    · rw [List.getElem?_append_left h1] at hi
      exact hr i b hi
    · rw [List.getElem?_append_right h1] at hi
      have hlt : i - l.length < 1 := by
        rcases Nat.lt_or_ge (i - l.length) 1 with h2 | h2
        · exact h2
        · simp [List.getElem?_eq_none (show [a].length ≤ i - l.length by simpa using h2)] at hi
      have e : i = n := by omega
      subst e
      have e0 : i - l.length = 0 := by omega
      rw [e0] at hi
      simp at hi
      subst hi
      exact ha
/-- What a slice's value reads as: the row of its elements. -/
theorem opens_row {α : Type} {P : Program} {K : Kd α} {t e : TypeId} {Q : α → Prop} (ht : P.underlying t = some (.slice e)) (hc : P.cellsOf e = K.sz) (hK : Opens P K e Q)
    {H : Type} {enc : TypeId × Value → H} {w : World} {base : Nat} {spare : Nat → Bool} {held : Bool} {fuel : Nat} {cs : List Value} {x : DataW H × List MemPlace}
    (h : DataW.trod enc P w base spare held fuel t cs = some x) :
    ∃ (A : Option Addr) (c : Nat) (l : List α), cs = [.slice A l.length c] ∧ l.length ≤ c ∧ Kd.C K w A l.length l ∧ ∀ a ∈ l, Q a := by
  rcases DataW.trod_slice ht h with ⟨rfl, _⟩ | ⟨a, len, cap, elems, rest, n, _, rfl, _, hb, hl, hm, hlen, hel, _, _⟩
  · exact ⟨none, 0, [], rfl, Nat.le_refl _, ⟨rfl, by simp, fun hn => absurd hn (by simp)⟩, fun a ha => by simp at ha⟩
  · have each : ∀ i, i < len → ∃ z : α, ∃ c, K.K w z c ∧ Q z ∧ c.length = K.sz ∧ ∀ j u, c[j]? = some u → w.cell? (a.add (i * K.sz + j)) = some u := by
      intro i hi
      have h1 := hel i hi
      rw [List.getElem?_eq_getElem (show i < elems.length by omega)] at h1
      obtain ⟨c, h2, h3⟩ := Option.bind_eq_some_iff.mp h1
      obtain ⟨z, h4, h5⟩ := hK enc w base spare held n c _ h3
      obtain ⟨_, h6, h7⟩ := World.cells?_some h2
      refine ⟨z, c, h4, h5, by rw [h6, hc], fun j u hj => ?_⟩
      have hjl : j < P.cellsOf e := by
        have := (List.getElem?_eq_some_iff.mp hj).1
        omega
      have h8 := h7 j hjl
      rw [Addr.add_add, hc] at h8
      rw [h8, hj]
    obtain ⟨l, h1, h2⟩ := choose_list len (fun i z => ∃ c, K.K w z c ∧ Q z ∧ c.length = K.sz ∧ ∀ j u, c[j]? = some u → w.cell? (a.add (i * K.sz + j)) = some u) each
    refine ⟨some a, cap, l, by rw [h1], by omega, ⟨rfl, ?_, fun _ => ⟨a, rfl, fun j p hj => ?_⟩⟩, fun z hz => ?_⟩
    · rw [h1]
      simp only [maxLen] at hm
      omega
    · obtain ⟨c, h3, h4, h5, h6⟩ := h2 j p hj
      exact ⟨c, h5, h3, h6⟩
    · obtain ⟨i, hi⟩ := List.getElem?_of_mem hz
      obtain ⟨c, _, h4, _⟩ := h2 i z hi
      exact h4
theorem opens_slice {α : Type} {P : Program} {K : Kd α} {t e : TypeId} {Q : α → Prop} (ht : P.underlying t = some (.slice e)) (hc : P.cellsOf e = K.sz) (hK : Opens P K e Q) : Opens P (Kd.slice e K) t (fun l => ∀ a ∈ l, Q a) := by
  intro H enc w base spare held fuel cs x h
  obtain ⟨A, c, l, rfl, h1, h2, h3⟩ := opens_row ht hc hK h
  exact ⟨l, ⟨A, c, rfl, h1, h2⟩, h3⟩
/-- A struct's field: the cells from its place on. -/
theorem field_of {P : Program} {t : TypeId} {fs : Array Field} (ht : P.underlying t = some (.struct fs)) {H : Type} {enc : TypeId × Value → H} {w : World} {base : Nat} {spare : Nat → Bool} {held : Bool} {fuel : Nat} {cs : List Value} {x : DataW H × List MemPlace}
    (h : DataW.trod enc P w base spare held fuel t cs = some x) : cs.length = P.cellsOf t ∧ ∀ (i : Nat) (f : Field), fs[i]? = some f → ∀ {α : Type} {K : Kd α} {Q : α → Prop}, Opens P K f.type Q → ∃ a, K.K w a ((cs.drop f.offset).take (P.cellsOf f.type)) ∧ Q a := by
  obtain ⟨xs, n, _, _, hl, hx, hf⟩ := DataW.trod_struct ht h
  refine ⟨hl, fun i f hi α K Q hK => ?_⟩
  have h1 := hf i f hi
  have hi' : i < fs.size := (Array.getElem?_eq_some_iff.mp hi).1
  rw [List.getElem?_eq_getElem (show i < xs.length by omega)] at h1
  exact hK enc w base spare held n _ _ h1
theorem field_at {P : Program} {t : TypeId} {fs : Array Field} (ht : P.underlying t = some (.struct fs)) {H : Type} {enc : TypeId × Value → H} {w : World} {base : Nat} {spare : Nat → Bool} {held : Bool} {fuel : Nat} {cs : List Value} {x : DataW H × List MemPlace}
    (h : DataW.trod enc P w base spare held fuel t cs = some x) (i : Nat) (f : Field) (hi : fs[i]? = some f) (o n T : Nat) (ho : f.offset = o) (hT : f.type = T) (hn : P.cellsOf T = n) {α : Type} {K : Kd α} {Q : α → Prop} (hK : Opens P K T Q) : ∃ a, K.K w a ((cs.drop o).take n) ∧ Q a := by
  subst ho hT hn
  exact (field_of ht h).2 i f hi hK
theorem length_at {P : Program} {t : TypeId} {fs : Array Field} (ht : P.underlying t = some (.struct fs)) {H : Type} {enc : TypeId × Value → H} {w : World} {base : Nat} {spare : Nat → Bool} {held : Bool} {fuel : Nat} {cs : List Value} {x : DataW H × List MemPlace}
    (h : DataW.trod enc P w base spare held fuel t cs = some x) (n : Nat) (hn : P.cellsOf t = n) : cs.length = n := (field_of ht h).1.trans hn
end Go.Proofs.YtghkbkbommobaaaDoor.Open
