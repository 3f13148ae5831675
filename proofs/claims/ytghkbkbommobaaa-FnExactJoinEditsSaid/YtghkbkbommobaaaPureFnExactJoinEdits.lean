/- The program's JoinEdits returns what the reference's returns, for all arguments, leaves what it was handed as it was, and its answer does not lie in what it was handed. Conditions: none beyond the given statement's own. -/
import Derived.Test.YtghkbkbommobaaaPx25
namespace Go.Proofs.Ytghkbkbommobaaa.Pure
open Go.RowKit Go.Proofs.Ytghkbkbommobaaa.P Go.Proofs.YtghkbkbommobaaaW.PrintWords Go.Proofs.YtghkbkbommobaaaW.PrintLast
set_option linter.unusedVariables false
set_option linter.unusedSimpArgs false
/-! ## base: rounds, loops, numbers -/
theorem w64 {x : Int} (h0 : -9223372036854775808 ≤ x) (h1 : x ≤ 9223372036854775807) : wrap64 x = x := by unfold wrap64; omega
theorem Ev.pos {α : Type} {c : Prop} [Decidable c] {A B : Nat → Option α} {r : α} (hc : c) (h : Ev A r) : Ev (fun k => if c then A k else B k) r := by simpa only [if_pos hc] using h
theorem Ev.neg {α : Type} {c : Prop} [Decidable c] {A B : Nat → Option α} {r : α} (hc : ¬ c) (h : Ev B r) : Ev (fun k => if c then A k else B k) r := by simpa only [if_neg hc] using h
theorem Ev.ok {α : Type} {r r' : α} (h : r = r') : Ev (fun _ => some r) r' := by subst h; exact Ev.now r
theorem Ev.eqr {α : Type} {g : Nat → Option α} {r r' : α} (h : Ev g r) (e : r = r') : Ev g r' := e ▸ h
theorem Ev.unique {α : Type} {g : Nat → Option α} {r r' : α} (h : Ev g r) (h' : Ev g r') : r = r' := by
  obtain ⟨K, h⟩ := h
  obtain ⟨K', h'⟩ := h'
  have a := h (max K K') (by omega)
  have b := h' (max K K') (by omega)
  rw [a] at b
  exact Option.some.inj b
/-- A loop over 0, 1, .. n-1 that goes on while P holds. -/
theorem ev_scan {α : Type} {L : Nat → Int → Option α} {n : Nat} {r : α} (P : Nat → Prop)
    (hs : ∀ i : Nat, i < n → P i → Ev (fun k => L k (i + 1)) r → Ev (fun k => L k i) r)
    (hf : ∀ i : Nat, i < n → (∀ j, j < i → P j) → ¬ P i → Ev (fun k => L k i) r)
    (he : (∀ j, j < n → P j) → Ev (fun k => L k n) r) : Ev (fun k => L k 0) r := by
  have key : ∀ (d i : Nat), i + d = n → (∀ j, j < i → P j) → Ev (fun k => L k i) r := by
    intro d
    induction d with
    | zero =>
      intro i hi hp
      obtain rfl : i = n := by omega
      exact he hp
    | succ d ih =>
      intro i hi hp
      by_cases h : P i
      · have h' := ih (i + 1) (by omega) (fun j hj => by
          rcases Nat.lt_succ_iff_lt_or_eq.mp hj with h1 | h1
          · exact hp j h1
          · subst h1; exact h)
        exact hs i (by omega) h h'
      · exact hf i (by omega) hp h
  exact key n 0 (by omega) (fun j hj => by omega)
theorem rdOf_nat {α : Type} (d : α) (xs : List α) (i : Nat) (h : i < xs.length) : rdOf d xs (i : Int) = xs[i] := by
  simp [rdOf, List.getD_eq_getElem?_getD, List.getElem?_eq_getElem h]
theorem Ev.up {α : Type} {g : Nat → Option α} {r : α} (h : Ev (fun k => g (k + 1)) r) : Ev g r := Ev.step (fun _ => rfl) h
theorem Ev.const {α : Type} {g : Option α} {r : α} (h : g = some r) : Ev (fun _ => g) r := by subst h; exact Ev.now r
/-- A loop that fills a list, place by place. -/
theorem ev_fill {β γ : Type} {L : Nat → List β → Int → Option γ} {n : Nat} {r : γ} (g : Nat → β)
    (hs : ∀ (i : Nat) (xs : List β), i < n → xs.length = n → Ev (fun k => L k (xs.set i (g i)) (i + 1)) r → Ev (fun k => L k xs i) r)
    (he : Ev (fun k => L k ((List.range n).map g) n) r) (init : List β) (hi : init.length = n) : Ev (fun k => L k init 0) r := by
  have key : ∀ (d i : Nat) (xs : List β), i + d = n → xs.length = n → (∀ j, j < i → xs[j]? = some (g j)) → Ev (fun k => L k xs i) r := by
    intro d
    induction d with
    | zero =>
      intro i xs hid hl hp
      obtain rfl : i = n := by omega
      have : xs = (List.range i).map g := by
        apply List.ext_getElem?
        intro j
        by_cases hj : j < i
        · rw [hp j hj]; simp [hj]
        · rw [List.getElem?_eq_none (by omega), List.getElem?_eq_none (by simp; omega)]
      rw [this]
      exact he
    | succ d ih =>
      intro i xs hid hl hp
      have h' := ih (i + 1) (xs.set i (g i)) (by omega) (by simp [hl]) (fun j hj => by
        rcases Nat.lt_succ_iff_lt_or_eq.mp hj with h1 | h1
        · rw [List.getElem?_set_ne (by omega)]; exact hp j h1
        · subst h1; rw [List.getElem?_set_self (by omega)])
      exact hs i xs (by omega) hl h'
  exact key n 0 init (by omega) hi (fun j hj => by omega)
theorem range_map_get {α : Type} (d : α) (xs : List α) : (List.range xs.length).map (fun i => rdOf d xs (i : Nat)) = xs := by
  apply List.ext_getElem?
  intro j
  by_cases hj : j < xs.length
  · simp [hj, rdOf, List.getD_eq_getElem?_getD]
  · rw [List.getElem?_eq_none (by simp; omega), List.getElem?_eq_none (by omega)]
/-! ## bounds -/
theorem spec_in (a b c : Int) : spec_l1In.f a b c = some (decide (b ≤ a ∧ a ≤ c)) := by
  unfold spec_l1In.f
  by_cases h : a ≥ b
  · rw [if_pos h]; congr 1; exact decide_eq_decide.mpr ⟨fun x => ⟨h, x⟩, fun x => x.2⟩
  · rw [if_neg h]; congr 1; exact (decide_eq_false (fun x => h x.1)).symm
theorem impl_in (a b c : Int) : impl_in.f a b c = some (decide (b ≤ a ∧ a ≤ c)) := by
  unfold impl_in.f
  by_cases h : a ≥ b
  · rw [if_pos h]; congr 1; exact decide_eq_decide.mpr ⟨fun x => ⟨h, x⟩, fun x => x.2⟩
  · rw [if_neg h]; congr 1; exact (decide_eq_false (fun x => h x.1)).symm
theorem wbt (w : ByteArray) (j : Int) : wrap64 (bt w j) = bt w j := by
  have := bt_range w j
  exact w64 (by omega) (by omega)
def sized (ws : List ByteArray) : Prop := ws.length ≤ 1099511627776 ∧ ∀ w ∈ ws, w.size ≤ 140737488355328
/-! ## TextValid -/
def textOk (s : ByteArray) : Prop := s.size ≤ 20000 ∧ ∀ j : Nat, j < s.size → bt s j = 10 ∨ (32 ≤ bt s j ∧ bt s j ≤ 126)
/-! ## TextValid -/
open Classical in
theorem impl_text (s : ByteArray) (hl : s.size ≤ 140737488355328) : Ev (fun k => impl_TextValid.f k s) (decide (textOk s)) := by
  unfold impl_TextValid.f
  refine ev_scan (L := fun k i => impl_TextValid.l0 k s i) (n := s.size) (fun j => bt s j = 10 ∨ (32 ≤ bt s j ∧ bt s j ≤ 126)) ?_ ?_ ?_
  · intro i hi hp hr
    have h1 : wrap64 ((i : Int) + 1) = i + 1 := w64 (by omega) (by omega)
    refine Ev.up ?_
    simp only [impl_TextValid.l0, wbt, h1, impl_in]
    refine Ev.pos (by omega) (Ev.pos (by omega) ?_)
    by_cases h10 : bt s (i : Nat) = 10
    · exact Ev.pos h10 hr
    · refine Ev.neg h10 ?_
      have hq : 32 ≤ bt s (i : Nat) ∧ bt s (i : Nat) ≤ 126 := by omega
      simp only [Option.bind_some, decide_eq_true hq, if_true]
      exact hr
  · intro i hi _ hp
    refine Ev.eqr ?_ (decide_eq_false (fun h : textOk s => hp (h.2 i hi))).symm
    refine Ev.up ?_
    simp only [impl_TextValid.l0, wbt, impl_in]
    refine Ev.pos (by omega) (Ev.pos (by omega) (Ev.neg (by omega) ?_))
    have hq : ¬ (32 ≤ bt s (i : Nat) ∧ bt s (i : Nat) ≤ 126) := by omega
    simp only [Option.bind_some, decide_eq_false hq, Bool.false_eq_true, if_false]
    exact Ev.now _
  · intro hall
    refine Ev.up ?_
    simp only [impl_TextValid.l0]
    refine Ev.neg (by omega) (Ev.ok ?_)
    exact decide_eq_decide.mpr ⟨fun h => ⟨by omega, hall⟩, fun h => by have := h.1; omega⟩
/-! ## TextValid -/
open Classical in
theorem spec_text (s : ByteArray) (hl : s.size ≤ 140737488355328) : Ev (fun k => spec_TextValid.f k s) (decide (textOk s)) := by
  unfold spec_TextValid.f
  refine ev_scan (L := fun k i => spec_TextValid.l0 k s i) (n := s.size) (fun j => bt s j = 10 ∨ (32 ≤ bt s j ∧ bt s j ≤ 126)) ?_ ?_ ?_
  · intro i hi hp hr
    have h1 : wrap64 ((i : Int) + 1) = i + 1 := w64 (by omega) (by omega)
    refine Ev.up ?_
    simp only [spec_TextValid.l0, wbt, h1, spec_in]
    refine Ev.pos (by omega) (Ev.pos (by omega) ?_)
    by_cases h10 : bt s (i : Nat) = 10
    · exact Ev.pos h10 hr
    · refine Ev.neg h10 ?_
      have hq : 32 ≤ bt s (i : Nat) ∧ bt s (i : Nat) ≤ 126 := by omega
      simp only [Option.bind_some, decide_eq_true hq, if_true]
      exact hr
  · intro i hi _ hp
    refine Ev.eqr ?_ (decide_eq_false (fun h : textOk s => hp (h.2 i hi))).symm
    refine Ev.up ?_
    simp only [spec_TextValid.l0, wbt, spec_in]
    refine Ev.pos (by omega) (Ev.pos (by omega) (Ev.neg (by omega) ?_))
    have hq : ¬ (32 ≤ bt s (i : Nat) ∧ bt s (i : Nat) ≤ 126) := by omega
    simp only [Option.bind_some, decide_eq_false hq, Bool.false_eq_true, if_false]
    exact Ev.now _
  · intro hall
    refine Ev.up ?_
    simp only [spec_TextValid.l0]
    refine Ev.neg (by omega) (Ev.ok ?_)
    exact decide_eq_decide.mpr ⟨fun h => ⟨by omega, hall⟩, fun h => by have := h.1; omega⟩
/-! ## EditsValid: both are the same condition -/
def editOk (s : ByteArray) (e : S42) : Prop := (0 ≤ e.f1 ∧ e.f1 ≤ (s.size : Int)) ∧ (0 ≤ e.f0 ∧ e.f0 ≤ e.f1) ∧ textOk e.f2
def apartOk (l : List S42) (i : Nat) : Prop := 0 < i → ¬ (rd_T42 l i).f0 < (rd_T42 l ((i : Int) - 1)).f1 ∧ ¬ (rd_T42 l i).f0 = (rd_T42 l ((i : Int) - 1)).f0
def editsOk (s : ByteArray) (l : List S42) : Prop := textOk s ∧ l.length ≤ 20 ∧ ∀ i : Nat, i < l.length → editOk s (rd_T42 l i) ∧ apartOk l i
def sizedE (l : List S42) : Prop := l.length ≤ 1099511627776 ∧ ∀ e ∈ l, e.f2.size ≤ 140737488355328
theorem rdE (l : List S42) (i : Nat) (h : i < l.length) : rd_T42 l (i : Int) = l[i] := by
  simp [rd_T42, List.getD_eq_getElem?_getD, List.getElem?_eq_getElem h]
open Classical in
theorem spec_edits (s : ByteArray) (l : List S42) (hs : s.size ≤ 140737488355328) (hl : sizedE l) : Ev (fun k => spec_EditsValid.f k s l) (decide (editsOk s l)) := by
  have hlen := hl.1
  unfold spec_EditsValid.f
  refine ev_scan (L := fun k i => spec_EditsValid.l0 k s l i) (n := l.length) (fun i => editOk s (rd_T42 l i) ∧ apartOk l i) ?_ ?_ ?_
  · intro i hi hp hr
    have ht := spec_text (rd_T42 l i).f2 (by rw [rdE _ _ hi]; exact hl.2 _ (List.getElem_mem hi))
    have h1 : wrap64 ((i : Int) + 1) = i + 1 := w64 (by omega) (by have := hl.1; omega)
    refine Ev.up ?_
    simp only [spec_EditsValid.l0, spec_in]
    refine Ev.pos (by omega) (Ev.pos (by omega) ?_)
    simp only [Option.bind_some, decide_eq_true hp.1.1, decide_eq_true hp.1.2.1, if_true]
    refine Ev.bind ht ?_
    simp only [decide_eq_true hp.1.2.2, Bool.not_true]
    refine Ev.up ?_
    simp only [spec_EditsValid.j1, Bool.false_eq_true, if_false, h1]
    by_cases h0 : (i : Int) > 0
    · have h2 : wrap64 ((i : Int) - 1) = i - 1 := w64 (by omega) (by omega)
      have ha := hp.2 (by omega)
      simp only [h2]
      exact Ev.pos h0 (Ev.pos (by omega) (Ev.pos (by omega) (Ev.neg ha.1 (Ev.neg ha.2 hr))))
    · exact Ev.neg h0 hr
  · intro i hi _ hp
    have hno : decide (editsOk s l) = false := decide_eq_false (fun h => hp (h.2.2 i hi))
    rw [hno]
    have ht := spec_text (rd_T42 l i).f2 (by rw [rdE _ _ hi]; exact hl.2 _ (List.getElem_mem hi))
    have hj : Ev (fun k => spec_EditsValid.j1 k s l i true ((rd_T42 l i).f0) ((rd_T42 l i).f1) ((rd_T42 l i).f2)) false := by
      refine Ev.up ?_
      simp only [spec_EditsValid.j1, if_true]
      exact Ev.now _
    refine Ev.up ?_
    simp only [spec_EditsValid.l0, spec_in]
    refine Ev.pos (by omega) (Ev.pos (by omega) ?_)
    by_cases h1 : 0 ≤ (rd_T42 l i).f1 ∧ (rd_T42 l i).f1 ≤ (s.size : Int)
    · by_cases h2 : 0 ≤ (rd_T42 l i).f0 ∧ (rd_T42 l i).f0 ≤ (rd_T42 l i).f1
      · simp only [Option.bind_some, decide_eq_true h1, decide_eq_true h2, if_true]
        refine Ev.bind ht ?_
        by_cases h3 : textOk (rd_T42 l i).f2
        · have ha : ¬ apartOk l i := fun h => hp ⟨⟨h1, h2, h3⟩, h⟩
          simp only [decide_eq_true h3, Bool.not_true]
          refine Ev.up ?_
          simp only [spec_EditsValid.j1, Bool.false_eq_true, if_false]
          by_cases h0 : (i : Int) > 0
          · have h4 : wrap64 ((i : Int) - 1) = i - 1 := w64 (by omega) (by omega)
            simp only [h4]
            refine Ev.pos h0 (Ev.pos (by omega) (Ev.pos (by omega) ?_))
            by_cases ha1 : (rd_T42 l i).f0 < (rd_T42 l ((i : Int) - 1)).f1
            · exact Ev.pos ha1 (Ev.now _)
            · refine Ev.neg ha1 ?_
              by_cases ha2 : (rd_T42 l i).f0 = (rd_T42 l ((i : Int) - 1)).f0
              · exact Ev.pos ha2 (Ev.now _)
              · exact absurd (fun _ => ⟨ha1, ha2⟩) ha
          · exact absurd (fun h => absurd h (by omega)) ha
        · simp only [decide_eq_false h3, Bool.not_false]
          exact hj
      · simp only [Option.bind_some, decide_eq_true h1, decide_eq_false h2, if_true, Bool.false_eq_true, if_false]
        exact hj
    · simp only [Option.bind_some, decide_eq_false h1, Bool.false_eq_true, if_false]
      exact hj
  · intro hall
    refine Ev.up ?_
    simp only [spec_EditsValid.l0]
    refine Ev.neg (by omega) (Ev.bind (spec_text s hs) ?_)
    by_cases ht : textOk s
    · refine Ev.pos (decide_eq_true ht) (Ev.ok ?_)
      exact decide_eq_decide.mpr ⟨fun h => ⟨ht, by omega, hall⟩, fun h => by have := h.2.1; omega⟩
    · exact Ev.neg (by simp [ht]) (Ev.ok (decide_eq_false (fun h : editsOk s l => ht h.1)).symm)
open Classical in
theorem impl_edits (s : ByteArray) (l : List S42) (hs : s.size ≤ 140737488355328) (hl : sizedE l) : Ev (fun k => impl_EditsValid.f k s l) (decide (editsOk s l)) := by
  have hlen := hl.1
  unfold impl_EditsValid.f
  refine Ev.bind (impl_text s hs) ?_
  by_cases ht : textOk s
  · refine Ev.pos (decide_eq_true ht) ?_
    by_cases h20 : (l.length : Int) > 20
    · have hno : decide (editsOk s l) = false := decide_eq_false (fun h => by have := h.2.1; omega)
      rw [hno]
      refine Ev.up ?_
      simp only [impl_EditsValid.j0]
      exact Ev.pos (decide_eq_true h20) (Ev.now _)
    · refine Ev.up ?_
      simp only [impl_EditsValid.j0]
      refine Ev.neg (by simpa using h20) ?_
      refine ev_scan (L := fun k i => impl_EditsValid.l0 k s l l (l.length : Int) i) (n := l.length) (fun i => editOk s (rd_T42 l i) ∧ apartOk l i) ?_ ?_ ?_
      · intro i hi hp hr
        have ht := impl_text (rd_T42 l i).f2 (by rw [rdE _ _ hi]; exact hl.2 _ (List.getElem_mem hi))
        have h1 : wrap64 ((i : Int) + 1) = i + 1 := w64 (by omega) (by have := hl.1; omega)
        refine Ev.up ?_
        simp only [impl_EditsValid.l0, impl_in]
        refine Ev.pos (by omega) (Ev.pos (by omega) (Ev.pos (by omega) ?_))
        simp only [Option.bind_some, decide_eq_true hp.1.1, decide_eq_true hp.1.2.1, if_true]
        refine Ev.bind ht ?_
        simp only [decide_eq_true hp.1.2.2, Bool.not_true]
        refine Ev.up ?_
        simp only [impl_EditsValid.j2, Bool.false_eq_true, if_false, h1]
        by_cases h0 : (i : Int) > 0
        · have h2 : wrap64 ((i : Int) - 1) = i - 1 := w64 (by omega) (by omega)
          have ha := hp.2 (by omega)
          simp only [h2]
          exact Ev.pos h0 (Ev.pos (by omega) (Ev.pos (by omega) (Ev.neg ha.1 (Ev.neg ha.2 hr))))
        · exact Ev.neg h0 hr
      · intro i hi _ hp
        have hno : decide (editsOk s l) = false := decide_eq_false (fun h => hp (h.2.2 i hi))
        rw [hno]
        have ht := impl_text (rd_T42 l i).f2 (by rw [rdE _ _ hi]; exact hl.2 _ (List.getElem_mem hi))
        have hj : Ev (fun k => impl_EditsValid.j2 k s l i l (l.length : Int) i true ((rd_T42 l i).f0) ((rd_T42 l i).f1) ((rd_T42 l i).f2)) false := by
          refine Ev.up ?_
          simp only [impl_EditsValid.j2, if_true]
          exact Ev.now _
        refine Ev.up ?_
        simp only [impl_EditsValid.l0, impl_in]
        refine Ev.pos (by omega) (Ev.pos (by omega) (Ev.pos (by omega) ?_))
        by_cases h1 : 0 ≤ (rd_T42 l i).f1 ∧ (rd_T42 l i).f1 ≤ (s.size : Int)
        · by_cases h2 : 0 ≤ (rd_T42 l i).f0 ∧ (rd_T42 l i).f0 ≤ (rd_T42 l i).f1
          · simp only [Option.bind_some, decide_eq_true h1, decide_eq_true h2, if_true]
            refine Ev.bind ht ?_
            by_cases h3 : textOk (rd_T42 l i).f2
            · have ha : ¬ apartOk l i := fun h => hp ⟨⟨h1, h2, h3⟩, h⟩
              simp only [decide_eq_true h3, Bool.not_true]
              refine Ev.up ?_
              simp only [impl_EditsValid.j2, Bool.false_eq_true, if_false]
              by_cases h0 : (i : Int) > 0
              · have h4 : wrap64 ((i : Int) - 1) = i - 1 := w64 (by omega) (by omega)
                simp only [h4]
                refine Ev.pos h0 (Ev.pos (by omega) (Ev.pos (by omega) ?_))
                by_cases ha1 : (rd_T42 l i).f0 < (rd_T42 l ((i : Int) - 1)).f1
                · exact Ev.pos ha1 (Ev.now _)
                · refine Ev.neg ha1 ?_
                  by_cases ha2 : (rd_T42 l i).f0 = (rd_T42 l ((i : Int) - 1)).f0
                  · exact Ev.pos ha2 (Ev.now _)
                  · exact absurd (fun _ => ⟨ha1, ha2⟩) ha
              · exact absurd (fun h => absurd h (by omega)) ha
            · simp only [decide_eq_false h3, Bool.not_false]
              exact hj
          · simp only [Option.bind_some, decide_eq_true h1, decide_eq_false h2, if_true, Bool.false_eq_true, if_false]
            exact hj
        · simp only [Option.bind_some, decide_eq_false h1, Bool.false_eq_true, if_false]
          exact hj
      · intro hall
        refine Ev.up ?_
        simp only [impl_EditsValid.l0]
        exact Ev.neg (by omega) (Ev.ok (decide_eq_true (show editsOk s l from ⟨ht, by omega, hall⟩)).symm)
  · have hno : decide (editsOk s l) = false := decide_eq_false (fun h => ht h.1)
    rw [hno]
    refine Ev.neg (by simp [ht]) (Ev.up ?_)
    simp only [impl_EditsValid.j0, if_true]
    exact Ev.now _
/-! ## the law's own helpers on []Edit -/
/-- What came in, field by field. -/
def wfLE (e : S67) : Prop := (Lit.int .i64 e.f0).wf = true ∧ (Lit.int .i64 e.f1).wf = true ∧ e.f2.size ≤ 9223372036854775807
def ofL (e : S67) : S42 := ⟨e.f0, e.f1, e.f2⟩
theorem rdLE (l : List S67) (i : Nat) (h : i < l.length) : rd_T67 l (i : Int) = l[i] := by
  simp [rd_T67, List.getD_eq_getElem?_getD, List.getElem?_eq_getElem h]
theorem toEditS_ev (l : List S67) (hl : l.length ≤ 1048576) : Ev (fun k => laws_toEditS.f k l) (l.map ofL) := by
  unfold laws_toEditS.f
  refine Ev.pos (by omega) (Ev.pos (by omega) ?_)
  refine ev_fill (L := fun k xs i => laws_toEditS.l0 k l xs i) (n := l.length) (fun i => ofL (rd_T67 l (i : Nat))) ?_ ?_ _ (by simp)
  · intro i xs hi hx h
    have h1 : wrap64 ((i : Int) + 1) = i + 1 := w64 (by omega) (by omega)
    refine Ev.up ?_
    simp only [laws_toEditS.l0, laws_toEdit.f, Option.bind_some, h1]
    exact Ev.pos (by omega) (Ev.pos (by omega) (Ev.pos (by omega) h))
  · refine Ev.up ?_
    simp only [laws_toEditS.l0]
    refine Ev.neg (by omega) (Ev.ok ?_)
    apply List.ext_getElem?
    intro j
    by_cases hj : j < l.length
    · simp [hj, rdLE _ _ hj]
    · rw [List.getElem?_eq_none (by simp; omega), List.getElem?_eq_none (by simp; omega)]
theorem eqEditS_ev (l : List S42) (hl : l.length ≤ 1048576) : Ev (fun k => laws_eqEditS.f k l l) true := by
  unfold laws_eqEditS.f
  refine Ev.pos rfl ?_
  refine ev_scan (L := fun k i => laws_eqEditS.l0 k l l i) (n := l.length) (fun _ => True) ?_ (fun i _ _ h => absurd trivial h) ?_
  · intro i hi _ h
    have h1 : wrap64 ((i : Int) + 1) = i + 1 := w64 (by omega) (by omega)
    refine Ev.up ?_
    simp only [laws_eqEditS.l0, laws_eqEdit.f, h1, if_true, Option.bind_some]
    exact Ev.pos (by omega) (Ev.pos (by omega) (Ev.pos (by omega) h))
  · intro _
    refine Ev.up ?_
    simp only [laws_eqEditS.l0]
    exact Ev.neg (by omega) (Ev.now _)
theorem szEditS_ev (l : List S67) (left : Int) (hleft : 0 ≤ left ∧ left ≤ 1048576) (hl : l.length ≤ 9223372036854775807) (hw : ∀ e ∈ l, wfLE e) :
    ∃ r, Ev (fun k => laws_szEditS.f k l left) r ∧ r ≤ left ∧ (0 ≤ r → l.length ≤ 1048576 ∧ ∀ e ∈ l, e.f2.size ≤ 1048576) := by
  unfold laws_szEditS.f
  have h0 : wrap64 (left - (l.length : Int)) = left - l.length := w64 (by omega) (by omega)
  rw [h0]
  by_cases hneg : left - (l.length : Int) < 0
  · exact ⟨-1, Ev.pos hneg (Ev.now _), by omega, by omega⟩
  · have key : ∀ (d i : Nat) (x1 : Int), i + d = l.length → 0 ≤ x1 → x1 ≤ left → (∀ j (h : j < i) (h2 : j < l.length), (l[j]).f2.size ≤ 1048576) →
        ∃ r, Ev (fun k => laws_szEditS.l0 k l x1 i) r ∧ r ≤ left ∧ (0 ≤ r → ∀ e ∈ l, e.f2.size ≤ 1048576) := by
      intro d
      induction d with
      | zero =>
        intro i x1 hi h0 h1 hp
        refine ⟨x1, Ev.up ?_, h1, fun _ w hw' => ?_⟩
        · simp only [laws_szEditS.l0]
          exact Ev.neg (by omega) (Ev.now _)
        · obtain ⟨j, hj, rfl⟩ := List.mem_iff_getElem.mp hw'
          exact hp j (by omega) hj
      | succ d ih =>
        intro i x1 hi h0 h1 hp
        have hlt : i < l.length := by omega
        have hs := (hw _ (List.getElem_mem hlt)).2.2
        have h2 : wrap64 ((i : Int) + 1) = i + 1 := w64 (by omega) (by omega)
        have h3 : wrap64 (x1 - ((l[i]).f2.size : Int)) = x1 - (l[i]).f2.size := w64 (by omega) (by omega)
        by_cases hn : x1 - ((l[i]).f2.size : Int) < 0
        · refine ⟨-1, Ev.up ?_, by omega, by omega⟩
          simp only [laws_szEditS.l0, laws_szEdit.f, rdLE _ _ hlt, h3]
          refine Ev.pos (by omega) (Ev.pos (by omega) ?_)
          simp only [if_pos hn, Option.bind_some]
          exact Ev.pos (by omega) (Ev.now _)
        · obtain ⟨r, hr, hr2⟩ := ih (i + 1) (x1 - ((l[i]).f2.size : Int)) (by omega) (by omega) (by omega) (fun j hj hj2 => by
            rcases Nat.lt_succ_iff_lt_or_eq.mp hj with h4 | h4
            · exact hp j h4 hj2
            · subst h4; omega)
          refine ⟨r, Ev.up ?_, hr2⟩
          simp only [laws_szEditS.l0, laws_szEdit.f, rdLE _ _ hlt, h3, h2]
          refine Ev.pos (by omega) (Ev.pos (by omega) ?_)
          simp only [if_neg hn, Option.bind_some]
          exact hr
    obtain ⟨r, hr, hr1, hr2⟩ := key l.length 0 (left - l.length) (by omega) (by omega) (by omega) (fun j hj => by omega)
    exact ⟨r, Ev.neg hneg hr, hr1, fun h => ⟨by omega, hr2 h⟩⟩
/-- What came in and is not too much. -/
theorem sizedE_of (l : List S67) (h1 : l.length ≤ 1048576) (h2 : ∀ e ∈ l, e.f2.size ≤ 1048576) : sizedE (l.map ofL) :=
  ⟨by simp; omega, fun e he => by
    obtain ⟨x, hx, rfl⟩ := List.mem_map.mp he
    have := h2 x hx
    show x.f2.size ≤ _
    omega⟩
/-! ## edits or nothing -/
noncomputable def okp (s : ByteArray) (l : List S42) : List S42 × Bool := open Classical in if editsOk s l then (l, true) else ([], false)
theorem okp_pos {s : ByteArray} {l : List S42} (h : editsOk s l) : okp s l = (l, true) := if_pos h
theorem okp_neg {s : ByteArray} {l : List S42} (h : ¬ editsOk s l) : okp s l = ([], false) := if_neg h
/-! ## JoinEdits -/
theorem S_eta (e : S42) : (⟨e.f0, e.f1, e.f2⟩ : S42) = e := rfl
/-- The program's merging, and the reference's. -/
def mergeI : List S42 → List S42 → List S42
  | [], b => b
  | a, [] => a
  | x :: a, y :: b => if x.f0 ≤ y.f0 then x :: mergeI a (y :: b) else y :: mergeI (x :: a) b
termination_by a b => a.length + b.length
def mergeS : List S42 → List S42 → List S42
  | [], b => b
  | a, [] => a
  | x :: a, y :: b => if x.f0 < y.f0 ∨ (x.f0 = y.f0 ∧ x.f1 ≤ y.f1) then x :: mergeS a (y :: b) else y :: mergeS (x :: a) b
termination_by a b => a.length + b.length
theorem mergeI_nil (a : List S42) : mergeI a [] = a := by cases a <;> simp [mergeI]
theorem mergeS_nil (a : List S42) : mergeS a [] = a := by cases a <;> simp [mergeS]
theorem mergeI_nil' (b : List S42) : mergeI [] b = b := by simp [mergeI]
theorem mergeS_nil' (b : List S42) : mergeS [] b = b := by simp [mergeS]
theorem mergeI_perm : ∀ (n : Nat) (a b : List S42), a.length + b.length = n → (mergeI a b).Perm (a ++ b) := by
  intro n
  induction n with
  | zero => intro a b h; rw [List.eq_nil_of_length_eq_zero (show a.length = 0 by omega), List.eq_nil_of_length_eq_zero (show b.length = 0 by omega)]; simp [mergeI]
  | succ n ih =>
    intro a b h
    cases a with
    | nil => rw [mergeI_nil']; exact List.Perm.refl _
    | cons x a =>
      cases b with
      | nil => rw [mergeI_nil, List.append_nil]
      | cons y b =>
        rw [mergeI]
        simp only [List.length_cons] at h
        split
        · exact (ih a (y :: b) (by simp; omega)).cons x
        · exact ((ih (x :: a) b (by simp; omega)).cons y).trans List.perm_middle.symm
theorem mergeS_perm : ∀ (n : Nat) (a b : List S42), a.length + b.length = n → (mergeS a b).Perm (a ++ b) := by
  intro n
  induction n with
  | zero => intro a b h; rw [List.eq_nil_of_length_eq_zero (show a.length = 0 by omega), List.eq_nil_of_length_eq_zero (show b.length = 0 by omega)]; simp [mergeS]
  | succ n ih =>
    intro a b h
    cases a with
    | nil => rw [mergeS_nil']; exact List.Perm.refl _
    | cons x a =>
      cases b with
      | nil => rw [mergeS_nil, List.append_nil]
      | cons y b =>
        rw [mergeS]
        simp only [List.length_cons] at h
        split
        · exact (ih a (y :: b) (by simp; omega)).cons x
        · exact ((ih (x :: a) b (by simp; omega)).cons y).trans List.perm_middle.symm
def apartNames (a b : List S42) : Prop := ∀ x ∈ a, ∀ y ∈ b, x.f0 ≠ y.f0
theorem merge_same : ∀ (n : Nat) (a b : List S42), a.length + b.length = n → apartNames a b → mergeS a b = mergeI a b ∧ mergeI b a = mergeI a b := by
  intro n
  induction n with
  | zero => intro a b h _; rw [List.eq_nil_of_length_eq_zero (show a.length = 0 by omega), List.eq_nil_of_length_eq_zero (show b.length = 0 by omega)]; simp [mergeI, mergeS]
  | succ n ih =>
    intro a b h ha
    cases a with
    | nil => exact ⟨by rw [mergeI_nil', mergeS_nil'], by rw [mergeI_nil', mergeI_nil]⟩
    | cons x a =>
      cases b with
      | nil => exact ⟨by rw [mergeI_nil, mergeS_nil], by rw [mergeI_nil', mergeI_nil]⟩
      | cons y b =>
        simp only [List.length_cons] at h
        have hne := ha x (List.mem_cons_self) y (List.mem_cons_self)
        have h1 := ih a (y :: b) (by simp; omega) (fun u hu v hv => ha u (List.mem_cons_of_mem _ hu) v hv)
        have h2 := ih (x :: a) b (by simp; omega) (fun u hu v hv => ha u hu v (List.mem_cons_of_mem _ hv))
        have e1 : mergeI (x :: a) (y :: b) = if x.f0 ≤ y.f0 then x :: mergeI a (y :: b) else y :: mergeI (x :: a) b := by rw [mergeI]
        have e2 : mergeS (x :: a) (y :: b) = if x.f0 < y.f0 ∨ (x.f0 = y.f0 ∧ x.f1 ≤ y.f1) then x :: mergeS a (y :: b) else y :: mergeS (x :: a) b := by rw [mergeS]
        have e3 : mergeI (y :: b) (x :: a) = if y.f0 ≤ x.f0 then y :: mergeI b (x :: a) else x :: mergeI (y :: b) a := by rw [mergeI]
        rw [e1, e2, e3]
        by_cases hlt : x.f0 ≤ y.f0
        · rw [if_pos hlt, if_pos (by omega), if_neg (by omega), h1.1, h1.2]
          exact ⟨rfl, rfl⟩
        · rw [if_neg hlt, if_neg (by omega), if_pos (by omega), h2.1, h2.2]
          exact ⟨rfl, rfl⟩
/-- Valid edits begin at different places. -/
theorem editsOk_lt {s : ByteArray} {l : List S42} (h : editsOk s l) : ∀ (i j : Nat) (hi : i < j) (hj : j < l.length), (l[i]).f0 < (l[j]).f0 := by
  intro i j hij hj
  induction j with
  | zero => omega
  | succ j ih =>
    have h1 := (h.2.2 (j + 1) hj).2 (by omega)
    have h2 := (h.2.2 j (by omega)).1
    have e : (((j + 1 : Nat) : Int) - 1) = ((j : Nat) : Int) := by omega
    rw [e, rdE l (j + 1) hj, rdE l j (by omega)] at h1
    rw [rdE l j (by omega)] at h2
    have h3 := h2.2.1
    by_cases hc : i = j
    · subst hc
      omega
    · have := ih (by omega) (by omega)
      omega
theorem editsOk_ne {s : ByteArray} {l : List S42} (h : editsOk s l) : l.Pairwise (fun x y => x.f0 ≠ y.f0) := by
  rw [List.pairwise_iff_getElem]
  intro i j hi hj hij
  have := editsOk_lt h i j hij hj
  omega
theorem not_apart {s : ByteArray} {a b l : List S42} (hp : l.Perm (a ++ b)) (h : editsOk s l) : apartNames a b := by
  have h1 := (hp.pairwise_iff (R := fun x y : S42 => x.f0 ≠ y.f0) (fun hxy => Ne.symm hxy)).mp (editsOk_ne h)
  intro x hx y hy
  exact (List.pairwise_append.mp h1).2.2 x hx y hy
noncomputable def joinM (s : ByteArray) (a b : List S42) : List S42 × Bool := open Classical in if editsOk s a ∧ editsOk s b ∧ editsOk s (mergeI a b) then (mergeI a b, true) else ([], false)
theorem joinM_symm (s : ByteArray) (a b : List S42) : joinM s b a = joinM s a b := by
  unfold joinM
  by_cases h : editsOk s a ∧ editsOk s b ∧ editsOk s (mergeI a b)
  · have hs := merge_same _ a b rfl (not_apart (mergeI_perm _ a b rfl) h.2.2)
    rw [if_pos h, if_pos ⟨h.2.1, h.1, by rw [hs.2]; exact h.2.2⟩, hs.2]
  · rw [if_neg h, if_neg]
    rintro ⟨h1, h2, h3⟩
    have hs := merge_same _ b a rfl (not_apart (mergeI_perm _ b a rfl) h3)
    exact h ⟨h2, h1, by rw [hs.2]; exact h3⟩
theorem mergeS_ok (s : ByteArray) (a b : List S42) : editsOk s (mergeS a b) ↔ editsOk s (mergeI a b) :=
  ⟨fun h => by rw [← (merge_same _ a b rfl (not_apart (mergeS_perm _ a b rfl) h)).1]; exact h, fun h => by rw [(merge_same _ a b rfl (not_apart (mergeI_perm _ a b rfl) h)).1]; exact h⟩
theorem mergeS_eq {s : ByteArray} {a b : List S42} (h : editsOk s (mergeI a b)) : mergeS a b = mergeI a b := (merge_same _ a b rfl (not_apart (mergeI_perm _ a b rfl) h)).1
theorem sizedE_perm {a b l : List S42} (hp : l.Perm (a ++ b)) (ha : sizedE a) (hb : sizedE b) (hla : a.length ≤ 1000) (hlb : b.length ≤ 1000) : sizedE l :=
  ⟨by rw [hp.length_eq, List.length_append]; omega, fun e he => by
    rcases List.mem_append.mp (hp.mem_iff.mp he) with h | h
    · exact ha.2 e h
    · exact hb.2 e h⟩
theorem rd0 (x : S42) (a : List S42) : rd_T42 (x :: a) 0 = x := by
  have := rdE (x :: a) 0 (by simp)
  simpa using this
theorem impl_join_loop (s : ByteArray) (hs : s.size ≤ 140737488355328) (n : Nat) : ∀ (a b acc : List S42), a.length + b.length = n → acc.length + n ≤ 1000 → sizedE (acc ++ mergeI a b) →
    Ev (fun k => impl_JoinEdits.l0 k s a b acc) (okp s (acc ++ mergeI a b)) := by
  induction n with
  | zero =>
    intro a b acc h hl hz
    rw [List.eq_nil_of_length_eq_zero (show a.length = 0 by omega), List.eq_nil_of_length_eq_zero (show b.length = 0 by omega)] at hz ⊢
    rw [mergeI_nil, List.append_nil] at hz ⊢
    have w : wrap64 ((([] : List S42).length : Int) + (([] : List S42).length : Int)) = 0 := by simp [wrap64]
    refine Ev.up ?_
    simp only [impl_JoinEdits.l0, w]
    clear w
    refine Ev.neg (by omega) (Ev.bind (impl_edits s acc hs hz) ?_)
    by_cases h : editsOk s acc
    · rw [okp_pos h]
      refine Ev.pos (by simp [h]) ?_
      have hc : impl_Edit.f acc = some acc := by unfold impl_Edit.f; rw [if_pos (by omega)]
      simp only [hc, Option.bind_some]
      exact Ev.now _
    · rw [okp_neg h]
      exact Ev.neg (by simp [h]) (Ev.now _)
  | succ n ih =>
    intro a b acc h hl hz
    have w : wrap64 ((a.length : Int) + (b.length : Int)) = a.length + b.length := w64 (by omega) (by omega)
    refine Ev.up ?_
    simp only [impl_JoinEdits.l0, w, S_eta]
    clear w
    refine Ev.pos (by omega) ?_
    cases b with
    | nil =>
      cases a with
      | nil => simp at h
      | cons x a =>
        have h1 := ih a [] (acc ++ [x]) (by simp at h ⊢; omega) (by simp; omega) (by rw [mergeI_nil, List.append_assoc]; rwa [mergeI_nil] at hz)
        rw [mergeI_nil, List.append_assoc] at h1
        rw [mergeI_nil]
        refine Ev.pos rfl (Ev.pos (by simp only [List.length_cons]; omega) (Ev.pos (by omega) (Ev.pos (by simp only [List.length_cons]; omega) ?_)))
        rw [rd0]
        exact h1
    | cons y b =>
      refine Ev.neg (by simp; omega) ?_
      cases a with
      | nil =>
        have h1 := ih [] b (acc ++ [y]) (by simp at h ⊢; omega) (by simp; omega) (by rw [mergeI_nil', List.append_assoc]; rwa [mergeI_nil'] at hz)
        rw [mergeI_nil', List.append_assoc] at h1
        rw [mergeI_nil']
        refine Ev.neg (by simp) (Ev.pos (by simp only [List.length_cons]; omega) (Ev.pos (by omega) (Ev.pos (by simp only [List.length_cons]; omega) ?_)))
        rw [rd0]
        exact h1
      | cons x a =>
        have e1 : mergeI (x :: a) (y :: b) = if x.f0 ≤ y.f0 then x :: mergeI a (y :: b) else y :: mergeI (x :: a) b := by rw [mergeI]
        rw [e1] at hz ⊢
        simp only [List.length_cons] at h
        refine Ev.pos (by simp only [List.length_cons]; omega) (Ev.pos (by simp only [List.length_cons]; omega) (Ev.pos (by simp only [List.length_cons]; omega) ?_))
        simp only [rd0, List.drop_succ_cons, List.drop_zero]
        by_cases hle : x.f0 ≤ y.f0
        · rw [if_pos hle] at hz ⊢
          have h1 := ih a (y :: b) (acc ++ [x]) (by simp; omega) (by simp; omega) (by rw [List.append_assoc]; exact hz)
          rw [List.append_assoc] at h1
          exact Ev.pos hle (Ev.pos (by omega) (Ev.pos (by simp; omega) h1))
        · rw [if_neg hle] at hz ⊢
          have h1 := ih (x :: a) b (acc ++ [y]) (by simp; omega) (by simp; omega) (by rw [List.append_assoc]; exact hz)
          rw [List.append_assoc] at h1
          exact Ev.neg hle (Ev.pos (by omega) (Ev.pos (by simp; omega) h1))
open Classical in
theorem impl_join (s : ByteArray) (a b : List S42) (hs : s.size ≤ 140737488355328) (ha : sizedE a) (hb : sizedE b) : Ev (fun k => impl_JoinEdits.f k s a b) (joinM s a b) := by
  unfold impl_JoinEdits.f joinM
  refine Ev.bind (impl_edits s a hs ha) ?_
  have hno : Ev (fun k => impl_JoinEdits.j0 k s a b true) (([], false) : List S42 × Bool) := by
    refine Ev.up ?_
    simp only [impl_JoinEdits.j0, if_true]
    exact Ev.now _
  by_cases h1 : editsOk s a
  · refine Ev.pos (by simp [h1]) (Ev.bind (impl_edits s b hs hb) ?_)
    by_cases h2 : editsOk s b
    · simp only [decide_eq_true h2, Bool.not_true]
      refine Ev.up ?_
      simp only [impl_JoinEdits.j0, Bool.false_eq_true, if_false]
      have hla := h1.2.1
      have hlb := h2.2.1
      have h := impl_join_loop s hs _ a b [] rfl (by simp; omega) (by rw [List.nil_append]; exact sizedE_perm (mergeI_perm _ a b rfl) ha hb (by omega) (by omega))
      rw [List.nil_append] at h
      refine Ev.eqr h ?_
      by_cases h3 : editsOk s (mergeI a b)
      · rw [okp_pos h3, if_pos ⟨h1, h2, h3⟩]
      · rw [okp_neg h3, if_neg (fun x => h3 x.2.2)]
    · simp only [decide_eq_false h2, Bool.not_false]
      rw [if_neg (fun x => h2 x.2.1)]
      exact hno
  · rw [if_neg (fun x => h1 x.1)]
    exact Ev.neg (by simp [h1]) hno
theorem spec_join_loop (s : ByteArray) (hs : s.size ≤ 140737488355328) (A B : List S42) (hA : A.length ≤ 100) (hB : B.length ≤ 100) (n : Nat) : ∀ (i j : Nat) (acc : List S42), i ≤ A.length → j ≤ B.length → (A.length - i) + (B.length - j) = n → acc.length + n ≤ 1000 → sizedE (acc ++ mergeS (A.drop i) (B.drop j)) →
    Ev (fun k => spec_JoinEdits.l0 k s A B acc i j) (okp s (acc ++ mergeS (A.drop i) (B.drop j))) := by
  induction n with
  | zero =>
    intro i j acc hi hj h hl hz
    rw [List.drop_of_length_le (show A.length ≤ i by omega), List.drop_of_length_le (show B.length ≤ j by omega), mergeS_nil, List.append_nil] at hz ⊢
    refine Ev.up ?_
    simp only [spec_JoinEdits.l0]
    have hd : decide ((j : Int) < (B.length : Int)) = false := by simp; omega
    refine Ev.neg (by omega) ?_
    rw [hd]
    refine Ev.up ?_
    simp only [spec_JoinEdits.j2, Bool.false_eq_true, if_false]
    refine Ev.bind (spec_edits s acc hs hz) ?_
    by_cases h : editsOk s acc
    · rw [okp_pos h]
      exact Ev.pos (by simp [h]) (Ev.now _)
    · rw [okp_neg h]
      exact Ev.neg (by simp [h]) (Ev.now _)
  | succ n ih =>
    intro i j acc hi hj h hl hz
    have hgo : Ev (fun k => spec_JoinEdits.j2 k s A B acc i j true) (okp s (acc ++ mergeS (A.drop i) (B.drop j))) := by
      refine Ev.up ?_
      simp only [spec_JoinEdits.j2, if_true, S_eta]
      have wi : ∀ _ : Unit, wrap64 ((i : Int) + 1) = ((i + 1 : Nat) : Int) := fun _ => by rw [w64] <;> omega
      have wj : ∀ _ : Unit, wrap64 ((j : Int) + 1) = ((j + 1 : Nat) : Int) := fun _ => by rw [w64] <;> omega
      by_cases ej : (j : Int) = (B.length : Int)
      · have hia : i < A.length := by omega
        have ed : B.drop j = [] := List.drop_of_length_le (by omega)
        rw [ed, mergeS_nil, List.drop_eq_getElem_cons hia] at hz ⊢
        have h1 := ih (i + 1) j (acc ++ [A[i]]) (by omega) hj (by omega) (by simp; omega) (by rw [ed, mergeS_nil, List.append_assoc]; exact hz)
        rw [ed, mergeS_nil, List.append_assoc] at h1
        refine Ev.pos ej (Ev.pos (by omega) (Ev.pos (by omega) (Ev.pos (by omega) ?_)))
        rw [rdE A i hia, wi ()]
        exact h1
      · have hjb : j < B.length := by omega
        refine Ev.neg ej ?_
        by_cases hia : i < A.length
        · rw [List.drop_eq_getElem_cons hia, List.drop_eq_getElem_cons hjb] at hz ⊢
          have e1 : mergeS (A[i] :: A.drop (i + 1)) (B[j] :: B.drop (j + 1)) = if (A[i]).f0 < (B[j]).f0 ∨ ((A[i]).f0 = (B[j]).f0 ∧ (A[i]).f1 ≤ (B[j]).f1) then A[i] :: mergeS (A.drop (i + 1)) (B[j] :: B.drop (j + 1)) else B[j] :: mergeS (A[i] :: A.drop (i + 1)) (B.drop (j + 1)) := by rw [mergeS]
          rw [e1] at hz ⊢
          refine Ev.pos (by omega) (Ev.pos (by omega) (Ev.pos (by omega) (Ev.pos (by omega) ?_)))
          rw [rdE A i hia, rdE B j hjb, wi (), wj ()]
          have ga : (A[i]).f0 < (B[j]).f0 ∨ ((A[i]).f0 = (B[j]).f0 ∧ (A[i]).f1 ≤ (B[j]).f1) → Ev (fun k => spec_JoinEdits.l0 k s A B (acc ++ [A[i]]) ((i + 1 : Nat) : Int) j) (okp s (acc ++ if (A[i]).f0 < (B[j]).f0 ∨ ((A[i]).f0 = (B[j]).f0 ∧ (A[i]).f1 ≤ (B[j]).f1) then A[i] :: mergeS (A.drop (i + 1)) (B[j] :: B.drop (j + 1)) else B[j] :: mergeS (A[i] :: A.drop (i + 1)) (B.drop (j + 1)))) := by
            intro hc
            rw [if_pos hc] at hz
            have h1 := ih (i + 1) j (acc ++ [A[i]]) (by omega) hj (by omega) (by simp; omega) (by rw [List.append_assoc, List.drop_eq_getElem_cons hjb]; exact hz)
            rw [List.append_assoc, List.drop_eq_getElem_cons hjb] at h1
            simp only [if_pos hc]
            exact h1
          have gb : ¬ ((A[i]).f0 < (B[j]).f0 ∨ ((A[i]).f0 = (B[j]).f0 ∧ (A[i]).f1 ≤ (B[j]).f1)) → Ev (fun k => spec_JoinEdits.l0 k s A B (acc ++ [B[j]]) i ((j + 1 : Nat) : Int)) (okp s (acc ++ if (A[i]).f0 < (B[j]).f0 ∨ ((A[i]).f0 = (B[j]).f0 ∧ (A[i]).f1 ≤ (B[j]).f1) then A[i] :: mergeS (A.drop (i + 1)) (B[j] :: B.drop (j + 1)) else B[j] :: mergeS (A[i] :: A.drop (i + 1)) (B.drop (j + 1)))) := by
            intro hc
            rw [if_neg hc] at hz
            have h1 := ih i (j + 1) (acc ++ [B[j]]) hi (by omega) (by omega) (by simp; omega) (by rw [List.append_assoc, List.drop_eq_getElem_cons hia]; exact hz)
            rw [List.append_assoc, List.drop_eq_getElem_cons hia] at h1
            simp only [if_neg hc]
            exact h1
          by_cases c1 : (A[i]).f0 < (B[j]).f0
          · exact Ev.pos c1 (Ev.pos (by omega) (ga (.inl c1)))
          · refine Ev.neg c1 ?_
            by_cases c2 : (A[i]).f0 = (B[j]).f0
            · refine Ev.pos c2 ?_
              by_cases c3 : (A[i]).f1 ≤ (B[j]).f1
              · exact Ev.pos c3 (Ev.pos (by omega) (ga (.inr ⟨c2, c3⟩)))
              · exact Ev.neg c3 (Ev.pos (by omega) (gb (by omega)))
            · exact Ev.neg c2 (Ev.pos (by omega) (gb (by omega)))
        · have ed : A.drop i = [] := List.drop_of_length_le (by omega)
          rw [ed, mergeS_nil', List.drop_eq_getElem_cons hjb] at hz ⊢
          have h1 := ih i (j + 1) (acc ++ [B[j]]) hi (by omega) (by omega) (by simp; omega) (by rw [ed, mergeS_nil', List.append_assoc]; exact hz)
          rw [ed, mergeS_nil', List.append_assoc] at h1
          refine Ev.neg (by omega) (Ev.pos (by omega) (Ev.pos (by omega) (Ev.pos (by omega) ?_)))
          rw [rdE B j hjb, wj ()]
          exact h1
    refine Ev.up ?_
    simp only [spec_JoinEdits.l0]
    by_cases hia : (i : Int) < (A.length : Int)
    · exact Ev.pos hia hgo
    · have hd : decide ((j : Int) < (B.length : Int)) = true := by simp; omega
      refine Ev.neg hia ?_
      rw [hd]
      exact hgo
open Classical in
theorem spec_join (s : ByteArray) (a b : List S42) (hs : s.size ≤ 140737488355328) (ha : sizedE a) (hb : sizedE b) : Ev (fun k => spec_JoinEdits.f k s a b) (joinM s a b) := by
  unfold spec_JoinEdits.f joinM
  refine Ev.bind (spec_edits s a hs ha) ?_
  have hno : Ev (fun k => spec_JoinEdits.j0 k s a b true) (([], false) : List S42 × Bool) := by
    refine Ev.up ?_
    simp only [spec_JoinEdits.j0, if_true]
    exact Ev.now _
  by_cases h1 : editsOk s a
  · refine Ev.pos (by simp [h1]) (Ev.bind (spec_edits s b hs hb) ?_)
    by_cases h2 : editsOk s b
    · simp only [decide_eq_true h2, Bool.not_true]
      refine Ev.up ?_
      simp only [spec_JoinEdits.j0, Bool.false_eq_true, if_false]
      have hla := h1.2.1
      have hlb := h2.2.1
      have h := spec_join_loop s hs a b (by omega) (by omega) _ 0 0 [] (by omega) (by omega) rfl (by simp; omega) (by rw [List.nil_append, List.drop_zero, List.drop_zero]; exact sizedE_perm (mergeS_perm _ a b rfl) ha hb (by omega) (by omega))
      rw [List.nil_append, List.drop_zero, List.drop_zero] at h
      refine Ev.eqr h ?_
      by_cases h3 : editsOk s (mergeI a b)
      · rw [okp_pos ((mergeS_ok s a b).mpr h3), if_pos ⟨h1, h2, h3⟩, mergeS_eq h3]
      · rw [okp_neg (fun x => h3 ((mergeS_ok s a b).mp x)), if_neg (fun x => h3 x.2.2)]
    · simp only [decide_eq_false h2, Bool.not_false]
      rw [if_neg (fun x => h2 x.2.1)]
      exact hno
  · rw [if_neg (fun x => h1 x.1)]
    exact Ev.neg (by simp [h1]) hno
/-! ## the text of a mark -/
theorem markText_ev (x : Int) (hx : x ≤ 100000000) : ∃ t, Ev (fun k => laws_markText.f k x) t := by
  have key : ∀ (m : Nat) (x : Int) (t : ByteArray), x ≤ m → (t.size : Int) + x ≤ 1000000000 → t.size ≤ 1000000000 → ∃ r, Ev (fun k => laws_markText.l0 k x t) r := by
    intro m
    induction m with
    | zero =>
      intro x t h1 h2 h3
      refine ⟨(⟨#[109]⟩ : ByteArray) ++ t, Ev.up ?_⟩
      simp only [laws_markText.l0]
      exact Ev.neg (by omega) (Ev.pos (by omega) (Ev.now _))
    | succ m ih =>
      intro x t h1 h2 h3
      by_cases hp : x > 0
      · have hd : Int.tdiv x 10 = x / 10 := Int.tdiv_eq_ediv_of_nonneg (by omega)
        have hw : wrap64 (x / 10) = x / 10 := w64 (by omega) (by omega)
        have hs : (strOfNums [(wrap64 (48 + (Int.tmod x 10))) % 256]).size = 1 := by simp [strOfNums, ByteArray.size]
        have hsz : (strOfNums [(wrap64 (48 + (Int.tmod x 10))) % 256] ++ t).size = 1 + t.size := by rw [ByteArray.size_append, hs]
        obtain ⟨r, hr⟩ := ih (x / 10) (strOfNums [(wrap64 (48 + (Int.tmod x 10))) % 256] ++ t) (by omega) (by rw [hsz]; omega) (by rw [hsz]; omega)
        refine ⟨r, Ev.up ?_⟩
        simp only [laws_markText.l0, Option.bind_some, hd, hw, hs]
        exact Ev.pos hp (Ev.pos (by omega) hr)
      · refine ⟨(⟨#[109]⟩ : ByteArray) ++ t, Ev.up ?_⟩
        simp only [laws_markText.l0]
        exact Ev.neg hp (Ev.pos (by omega) (Ev.now _))
  unfold laws_markText.f
  by_cases h : x ≤ 0
  · exact ⟨_, Ev.pos h (Ev.now _)⟩
  · have hz : (⟨#[]⟩ : ByteArray).size = 0 := rfl
    obtain ⟨r, hr⟩ := key x.toNat x (⟨#[]⟩ : ByteArray) (by omega) (by omega) (by omega)
    exact ⟨r, Ev.neg h hr⟩
/-! ## marks in edits -/
noncomputable def markT (x : Int) : ByteArray := open Classical in if h : x ≤ 100000000 then (markText_ev x h).choose else (⟨#[]⟩ : ByteArray)
theorem markT_ev (x : Int) (h : x ≤ 100000000) : Ev (fun k => laws_markText.f k x) (markT x) := by
  unfold markT
  rw [dif_pos h]
  exact (markText_ev x h).choose_spec
theorem rdE_set (xs : List S42) (i : Nat) (v : S42) (h : i < xs.length) : rd_T42 (xs.set i v) (i : Int) = v := by
  rw [rdE _ _ (by simpa using h)]
  simp
noncomputable def markE (c : Int) (i : Nat) : S42 := ⟨c + 3 * (i : Int), c + 3 * (i : Int) + 1, markT (c + 3 * (i : Int) + 1 + 1)⟩
theorem markEditS_ev (l : List S42) (hl : l.length ≤ 1048576) (c : Int) (hc : 0 ≤ c) (hc2 : c ≤ 10000000) : Ev (fun k => laws_markEditS.f k l c) (c + 3 * (l.length : Int), (List.range l.length).map (markE c)) := by
  unfold laws_markEditS.f
  have key := ev_fill (L := fun k xs i => laws_markEditS.l0 k xs (c + 3 * i) i) (n := l.length) (r := (c + 3 * (l.length : Int), (List.range l.length).map (markE c))) (markE c) ?_ ?_ l rfl
  · simpa using key
  · intro i xs hi hx h
    have ht := markT_ev (c + 3 * (i : Int) + 1 + 1) (by omega)
    have hset : ∀ v, rd_T42 (xs.set i v) (i : Int) = v := fun v => rdE_set xs i v (by omega)
    have w1 : ∀ _ : Unit, wrap64 (c + 3 * (i : Int) + 1) = c + 3 * (i : Int) + 1 := fun _ => w64 (by omega) (by omega)
    have w2 : ∀ _ : Unit, wrap64 (c + 3 * (i : Int) + 1 + 1) = c + 3 * (i : Int) + 1 + 1 := fun _ => w64 (by omega) (by omega)
    have w3 : ∀ _ : Unit, wrap64 (c + 3 * (i : Int) + 1 + 1 + 1) = c + 3 * ((i : Int) + 1) := fun _ => by rw [w64] <;> omega
    have w4 : ∀ _ : Unit, wrap64 ((i : Int) + 1) = (i : Int) + 1 := fun _ => w64 (by omega) (by omega)
    refine Ev.up ?_
    simp only [laws_markEditS.l0, Option.bind_some, w1 (), w2 (), w3 (), w4 (), Int.toNat_natCast, List.set_set, hset]
    exact Ev.pos (by omega) (Ev.pos (by omega) (Ev.bind ht h))
  · refine Ev.up ?_
    simp only [laws_markEditS.l0]
    exact Ev.neg (by simp) (Ev.now _)
theorem heldEditS_ev (n : Nat) (hn : n ≤ 1048576) : Ev (fun k => laws_heldEditS.f k ((List.range n).map (markE 1)) 1) (1 + 3 * (n : Int)) := by
  have hl : ((List.range n).map (markE 1)).length = n := by simp
  have key : ∀ (d i : Nat), i + d = n → Ev (fun k => laws_heldEditS.l0 k ((List.range n).map (markE 1)) (1 + 3 * (i : Int)) i) (1 + 3 * (n : Int)) := by
    intro d
    induction d with
    | zero =>
      intro i hi
      refine Ev.up ?_
      simp only [laws_heldEditS.l0, hl]
      exact Ev.neg (by omega) (Ev.ok (by omega))
    | succ d ih =>
      intro i hi
      have hn := ih (i + 1) (by omega)
      have ht := markT_ev (1 + 3 * (i : Int) + 1 + 1) (by omega)
      have hr : rd_T42 ((List.range n).map (markE 1)) (i : Int) = markE 1 i := by
        rw [rdE _ i (by rw [hl]; omega)]
        simp
      have w1 : ∀ _ : Unit, wrap64 (1 + 3 * (i : Int) + 1) = 1 + 3 * (i : Int) + 1 := fun _ => w64 (by omega) (by omega)
      have w2 : ∀ _ : Unit, wrap64 (1 + 3 * (i : Int) + 1 + 1) = 1 + 3 * (i : Int) + 1 + 1 := fun _ => w64 (by omega) (by omega)
      have w3 : ∀ _ : Unit, wrap64 (1 + 3 * (i : Int) + 1 + 1 + 1) = 1 + 3 * ((i + 1 : Nat) : Int) := fun _ => by rw [w64] <;> omega
      have w4 : ∀ _ : Unit, wrap64 ((i : Int) + 1) = ((i + 1 : Nat) : Int) := fun _ => by rw [w64] <;> omega
      refine Ev.up ?_
      simp only [laws_heldEditS.l0, hl, hr, w1 (), w2 (), w3 (), w4 ()]
      refine Ev.pos (by omega) (Ev.pos (by omega) ?_)
      refine Ev.pos rfl ?_
      refine Ev.pos rfl ?_
      refine Ev.bind ht ?_
      have hsame : (markE 1 i).f2.toList = (markT (1 + 3 * (i : Int) + 1 + 1)).toList := by unfold markE; dsimp only
      exact Ev.pos hsame hn
  unfold laws_heldEditS.f
  have := key n 0 (by omega)
  simpa using this
/-! ## the law -/
theorem joinM_length (s : ByteArray) (a b : List S42) : (joinM s a b).1.length ≤ 1000 := by
  unfold joinM
  split
  · rename_i h
    have := h.2.2.2.1
    show (mergeI a b).length ≤ 1000
    omega
  · simp
theorem FnExactJoinEdits (s : ByteArray) (_ : s.size ≤ maxLen) (l : List S67) (hl : l.length ≤ 9223372036854775807) (hw : ∀ e ∈ l, wfLE e) (m : List S67) (hml : m.length ≤ 9223372036854775807) (hmw : ∀ e ∈ m, wfLE e) : ∃ k, laws_FnExactJoinEdits.f k s l m = some true := by
  refine Ev.rounds (g := fun k => laws_FnExactJoinEdits.f k s l m) ?_
  unfold laws_FnExactJoinEdits.f
  by_cases hbig : (s.size : Int) > 1048576
  · exact Ev.pos hbig (Ev.now _)
  obtain ⟨r, hr, hr1, hr2⟩ := szEditS_ev l 1048576 (by omega) hl hw
  refine Ev.neg hbig (Ev.bind hr ?_)
  by_cases hneg : r < 0
  · exact Ev.pos hneg (Ev.now _)
  · obtain ⟨h1, h2⟩ := hr2 (by omega)
    obtain ⟨r', hr', _, hr2'⟩ := szEditS_ev m r (by omega) hml hmw
    refine Ev.neg hneg (Ev.bind hr' ?_)
    by_cases hneg' : r' < 0
    · exact Ev.pos hneg' (Ev.now _)
    obtain ⟨g1, g2⟩ := hr2' (by omega)
    have ht := toEditS_ev l h1
    have gt := toEditS_ev m g1
    have hz := sizedE_of l h1 h2
    have gz := sizedE_of m g1 g2
    have hlm : (l.map ofL).length ≤ 1048576 := by simpa using h1
    have glm : (m.map ofL).length ≤ 1048576 := by simpa using g1
    have hul := joinM_length s (l.map ofL) (m.map ofL)
    have hi := impl_join s (l.map ofL) (m.map ofL) (by omega) hz gz
    have he := eqEditS_ev (joinM s (l.map ofL) (m.map ofL)).1 (by omega)
    have hm := markEditS_ev (l.map ofL) hlm 1 (by omega) (by omega)
    have gm := markEditS_ev (m.map ofL) glm (1 + 3 * ((l.map ofL).length : Int)) (by omega) (by omega)
    have hm2 := markEditS_ev (joinM s (l.map ofL) (m.map ofL)).1 (by omega) 1 (by omega) (by omega)
    have hhe := heldEditS_ev (joinM s (l.map ofL) (m.map ofL)).1.length (by omega)
    refine Ev.neg hneg' (Ev.bind ht (Ev.bind gt (Ev.bind (spec_join s _ _ (by omega) hz gz) (Ev.bind ht (Ev.bind gt (Ev.bind hi (Ev.bind he ?_)))))))
    refine Ev.pos rfl (Ev.up ?_)
    simp only [laws_FnExactJoinEdits.j0, bne_self_eq_false, Bool.false_eq_true, if_false]
    refine Ev.bind ht (Ev.bind (eqEditS_ev _ hlm) ?_)
    refine Ev.pos rfl (Ev.bind gt (Ev.bind (eqEditS_ev _ glm) ?_))
    refine Ev.pos rfl (Ev.bind hm (Ev.bind gm ?_))
    refine Ev.neg (by dsimp only; omega) (Ev.bind he ?_)
    refine Ev.pos rfl (Ev.up ?_)
    simp only [laws_FnExactJoinEdits.j1, Bool.false_eq_true, if_false]
    refine Ev.bind hm2 (Ev.bind hhe ?_)
    refine Ev.neg (by omega) (Ev.pos rfl (Ev.bind ht (Ev.bind gt (Ev.bind hi (Ev.bind he ?_)))))
    refine Ev.pos rfl (Ev.up ?_)
    simp only [laws_FnExactJoinEdits.j2, bne_self_eq_false, Bool.false_eq_true, if_false]
    exact Ev.bind hhe (Ev.neg (by omega) (Ev.pos rfl (Ev.now _)))
end Go.Proofs.Ytghkbkbommobaaa.Pure
