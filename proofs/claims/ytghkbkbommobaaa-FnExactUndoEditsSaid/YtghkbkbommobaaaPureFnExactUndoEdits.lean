/- The program's UndoEdits returns what the reference's returns, for all arguments, leaves what it was handed as it was, and its answer does not lie in what it was handed. Conditions: none beyond the given statement's own. -/
import Derived.Test.YtghkbkbommobaaaPx39
namespace Go.Proofs.Ytghkbkbommobaaa.Pure
open Go.RowKit Go.Proofs.Ytghkbkbommobaaa.P Go.Proofs.YtghkbkbommobaaaW.PrintWords Go.Proofs.YtghkbkbommobaaaW.PrintLast
set_option linter.unusedVariables false
set_option linter.unusedSimpArgs false
/-! ## base: rounds, loops, numbers -/
theorem w64 {x : Int} (h0 : -9223372036854775808 ≤ x) (h1 : x ≤ 9223372036854775807) : wrap64 x = x := by unfold wrap64; omega
theorem Ev.pos {α : Type} {c : Prop} [Decidable c] {A B : Nat → Option α} {r : α} (hc : c) (h : Ev A r) : Ev (fun k => if c then A k else B k) r := by simpa only [if_pos hc] using h
theorem Ev.neg {α : Type} {c : Prop} [Decidable c] {A B : Nat → Option α} {r : α} (hc : ¬ c) (h : Ev B r) : Ev (fun k => if c then A k else B k) r := by simpa only [if_neg hc] using h
theorem Ev.ok {α : Type} {r r' : α} (h : r = r') : Ev (fun _ => some r) r' := by subst h; exact Ev.now r
theorem Ev.eqr {α : Type} {g : Nat → Option α} {r r' : α} (h : Ev g r) (e : r = r') : Ev g r' := e ▸ h
theorem Ev.unique {α : Type} {g : Nat → Option α} {r r' : α} (h : Ev g r) (h' : Ev g r') : r = r' := by
  obtain ⟨K, h⟩ := h
  obtain ⟨K', h'⟩ := h'
  have a := h (max K K') (by omega)
  have b := h' (max K K') (by omega)
  rw [a] at b
  exact Option.some.inj b
/-- A loop over 0, 1, .. n-1 that goes on while P holds. -/
theorem ev_scan {α : Type} {L : Nat → Int → Option α} {n : Nat} {r : α} (P : Nat → Prop)
    (hs : ∀ i : Nat, i < n → P i → Ev (fun k => L k (i + 1)) r → Ev (fun k => L k i) r)
    (hf : ∀ i : Nat, i < n → (∀ j, j < i → P j) → ¬ P i → Ev (fun k => L k i) r)
    (he : (∀ j, j < n → P j) → Ev (fun k => L k n) r) : Ev (fun k => L k 0) r := by
  have key : ∀ (d i : Nat), i + d = n → (∀ j, j < i → P j) → Ev (fun k => L k i) r := by
    intro d
    induction d with
    | zero =>
      intro i hi hp
      obtain rfl : i = n := by omega
      exact he hp
    | succ d ih =>
      intro i hi hp
      by_cases h : P i
      · have h' := ih (i + 1) (by omega) (fun j hj => by
          rcases Nat.lt_succ_iff_lt_or_eq.mp hj with h1 | h1
          · exact hp j h1
          · subst h1; exact h)
        exact hs i (by omega) h h'
      · exact hf i (by omega) hp h
  exact key n 0 (by omega) (fun j hj => by omega)
theorem rdOf_nat {α : Type} (d : α) (xs : List α) (i : Nat) (h : i < xs.length) : rdOf d xs (i : Int) = xs[i] := by
  simp [rdOf, List.getD_eq_getElem?_getD, List.getElem?_eq_getElem h]
theorem Ev.up {α : Type} {g : Nat → Option α} {r : α} (h : Ev (fun k => g (k + 1)) r) : Ev g r := Ev.step (fun _ => rfl) h
theorem Ev.const {α : Type} {g : Option α} {r : α} (h : g = some r) : Ev (fun _ => g) r := by subst h; exact Ev.now r
/-- A loop that fills a list, place by place. -/
theorem ev_fill {β γ : Type} {L : Nat → List β → Int → Option γ} {n : Nat} {r : γ} (g : Nat → β)
    (hs : ∀ (i : Nat) (xs : List β), i < n → xs.length = n → Ev (fun k => L k (xs.set i (g i)) (i + 1)) r → Ev (fun k => L k xs i) r)
    (he : Ev (fun k => L k ((List.range n).map g) n) r) (init : List β) (hi : init.length = n) : Ev (fun k => L k init 0) r := by
  have key : ∀ (d i : Nat) (xs : List β), i + d = n → xs.length = n → (∀ j, j < i → xs[j]? = some (g j)) → Ev (fun k => L k xs i) r := by
    intro d
    induction d with
    | zero =>
      intro i xs hid hl hp
      obtain rfl : i = n := by omega
      have : xs = (List.range i).map g := by
        apply List.ext_getElem?
        intro j
        by_cases hj : j < i
        · rw [hp j hj]; simp [hj]
        · rw [List.getElem?_eq_none (by omega), List.getElem?_eq_none (by simp; omega)]
      rw [this]
      exact he
    | succ d ih =>
      intro i xs hid hl hp
      have h' := ih (i + 1) (xs.set i (g i)) (by omega) (by simp [hl]) (fun j hj => by
        rcases Nat.lt_succ_iff_lt_or_eq.mp hj with h1 | h1
        · rw [List.getElem?_set_ne (by omega)]; exact hp j h1
        · subst h1; rw [List.getElem?_set_self (by omega)])
      exact hs i xs (by omega) hl h'
  exact key n 0 init (by omega) hi (fun j hj => by omega)
theorem range_map_get {α : Type} (d : α) (xs : List α) : (List.range xs.length).map (fun i => rdOf d xs (i : Nat)) = xs := by
  apply List.ext_getElem?
  intro j
  by_cases hj : j < xs.length
  · simp [hj, rdOf, List.getD_eq_getElem?_getD]
  · rw [List.getElem?_eq_none (by simp; omega), List.getElem?_eq_none (by omega)]
/-! ## bounds -/
theorem spec_in (a b c : Int) : spec_l1In.f a b c = some (decide (b ≤ a ∧ a ≤ c)) := by
  unfold spec_l1In.f
  by_cases h : a ≥ b
  · rw [if_pos h]; congr 1; exact decide_eq_decide.mpr ⟨fun x => ⟨h, x⟩, fun x => x.2⟩
  · rw [if_neg h]; congr 1; exact (decide_eq_false (fun x => h x.1)).symm
theorem impl_in (a b c : Int) : impl_in.f a b c = some (decide (b ≤ a ∧ a ≤ c)) := by
  unfold impl_in.f
  by_cases h : a ≥ b
  · rw [if_pos h]; congr 1; exact decide_eq_decide.mpr ⟨fun x => ⟨h, x⟩, fun x => x.2⟩
  · rw [if_neg h]; congr 1; exact (decide_eq_false (fun x => h x.1)).symm
theorem wbt (w : ByteArray) (j : Int) : wrap64 (bt w j) = bt w j := by
  have := bt_range w j
  exact w64 (by omega) (by omega)
def sized (ws : List ByteArray) : Prop := ws.length ≤ 1099511627776 ∧ ∀ w ∈ ws, w.size ≤ 140737488355328
/-! ## TextValid -/
def textOk (s : ByteArray) : Prop := s.size ≤ 20000 ∧ ∀ j : Nat, j < s.size → bt s j = 10 ∨ (32 ≤ bt s j ∧ bt s j ≤ 126)
/-! ## TextValid -/
open Classical in
theorem impl_text (s : ByteArray) (hl : s.size ≤ 140737488355328) : Ev (fun k => impl_TextValid.f k s) (decide (textOk s)) := by
  unfold impl_TextValid.f
  refine ev_scan (L := fun k i => impl_TextValid.l0 k s i) (n := s.size) (fun j => bt s j = 10 ∨ (32 ≤ bt s j ∧ bt s j ≤ 126)) ?_ ?_ ?_
  · intro i hi hp hr
    have h1 : wrap64 ((i : Int) + 1) = i + 1 := w64 (by omega) (by omega)
    refine Ev.up ?_
    simp only [impl_TextValid.l0, wbt, h1, impl_in]
    refine Ev.pos (by omega) (Ev.pos (by omega) ?_)
    by_cases h10 : bt s (i : Nat) = 10
    · exact Ev.pos h10 hr
    · refine Ev.neg h10 ?_
      have hq : 32 ≤ bt s (i : Nat) ∧ bt s (i : Nat) ≤ 126 := by omega
      simp only [Option.bind_some, decide_eq_true hq, if_true]
      exact hr
  · intro i hi _ hp
    refine Ev.eqr ?_ (decide_eq_false (fun h : textOk s => hp (h.2 i hi))).symm
    refine Ev.up ?_
    simp only [impl_TextValid.l0, wbt, impl_in]
    refine Ev.pos (by omega) (Ev.pos (by omega) (Ev.neg (by omega) ?_))
    have hq : ¬ (32 ≤ bt s (i : Nat) ∧ bt s (i : Nat) ≤ 126) := by omega
    simp only [Option.bind_some, decide_eq_false hq, Bool.false_eq_true, if_false]
    exact Ev.now _
  · intro hall
    refine Ev.up ?_
    simp only [impl_TextValid.l0]
    refine Ev.neg (by omega) (Ev.ok ?_)
    exact decide_eq_decide.mpr ⟨fun h => ⟨by omega, hall⟩, fun h => by have := h.1; omega⟩
/-! ## TextValid -/
open Classical in
theorem spec_text (s : ByteArray) (hl : s.size ≤ 140737488355328) : Ev (fun k => spec_TextValid.f k s) (decide (textOk s)) := by
  unfold spec_TextValid.f
  refine ev_scan (L := fun k i => spec_TextValid.l0 k s i) (n := s.size) (fun j => bt s j = 10 ∨ (32 ≤ bt s j ∧ bt s j ≤ 126)) ?_ ?_ ?_
  · intro i hi hp hr
    have h1 : wrap64 ((i : Int) + 1) = i + 1 := w64 (by omega) (by omega)
    refine Ev.up ?_
    simp only [spec_TextValid.l0, wbt, h1, spec_in]
    refine Ev.pos (by omega) (Ev.pos (by omega) ?_)
    by_cases h10 : bt s (i : Nat) = 10
    · exact Ev.pos h10 hr
    · refine Ev.neg h10 ?_
      have hq : 32 ≤ bt s (i : Nat) ∧ bt s (i : Nat) ≤ 126 := by omega
      simp only [Option.bind_some, decide_eq_true hq, if_true]
      exact hr
  · intro i hi _ hp
    refine Ev.eqr ?_ (decide_eq_false (fun h : textOk s => hp (h.2 i hi))).symm
    refine Ev.up ?_
    simp only [spec_TextValid.l0, wbt, spec_in]
    refine Ev.pos (by omega) (Ev.pos (by omega) (Ev.neg (by omega) ?_))
    have hq : ¬ (32 ≤ bt s (i : Nat) ∧ bt s (i : Nat) ≤ 126) := by omega
    simp only [Option.bind_some, decide_eq_false hq, Bool.false_eq_true, if_false]
    exact Ev.now _
  · intro hall
    refine Ev.up ?_
    simp only [spec_TextValid.l0]
    refine Ev.neg (by omega) (Ev.ok ?_)
    exact decide_eq_decide.mpr ⟨fun h => ⟨by omega, hall⟩, fun h => by have := h.1; omega⟩
/-! ## EditsValid: both are the same condition -/
def editOk (s : ByteArray) (e : S42) : Prop := (0 ≤ e.f1 ∧ e.f1 ≤ (s.size : Int)) ∧ (0 ≤ e.f0 ∧ e.f0 ≤ e.f1) ∧ textOk e.f2
def apartOk (l : List S42) (i : Nat) : Prop := 0 < i → ¬ (rd_T42 l i).f0 < (rd_T42 l ((i : Int) - 1)).f1 ∧ ¬ (rd_T42 l i).f0 = (rd_T42 l ((i : Int) - 1)).f0
def editsOk (s : ByteArray) (l : List S42) : Prop := textOk s ∧ l.length ≤ 20 ∧ ∀ i : Nat, i < l.length → editOk s (rd_T42 l i) ∧ apartOk l i
def sizedE (l : List S42) : Prop := l.length ≤ 1099511627776 ∧ ∀ e ∈ l, e.f2.size ≤ 140737488355328
theorem rdE (l : List S42) (i : Nat) (h : i < l.length) : rd_T42 l (i : Int) = l[i] := by
  simp [rd_T42, List.getD_eq_getElem?_getD, List.getElem?_eq_getElem h]
open Classical in
theorem spec_edits (s : ByteArray) (l : List S42) (hs : s.size ≤ 140737488355328) (hl : sizedE l) : Ev (fun k => spec_EditsValid.f k s l) (decide (editsOk s l)) := by
  have hlen := hl.1
  unfold spec_EditsValid.f
  refine ev_scan (L := fun k i => spec_EditsValid.l0 k s l i) (n := l.length) (fun i => editOk s (rd_T42 l i) ∧ apartOk l i) ?_ ?_ ?_
  · intro i hi hp hr
    have ht := spec_text (rd_T42 l i).f2 (by rw [rdE _ _ hi]; exact hl.2 _ (List.getElem_mem hi))
    have h1 : wrap64 ((i : Int) + 1) = i + 1 := w64 (by omega) (by have := hl.1; omega)
    refine Ev.up ?_
    simp only [spec_EditsValid.l0, spec_in]
    refine Ev.pos (by omega) (Ev.pos (by omega) ?_)
    simp only [Option.bind_some, decide_eq_true hp.1.1, decide_eq_true hp.1.2.1, if_true]
    refine Ev.bind ht ?_
    simp only [decide_eq_true hp.1.2.2, Bool.not_true]
    refine Ev.up ?_
    simp only [spec_EditsValid.j1, Bool.false_eq_true, if_false, h1]
    by_cases h0 : (i : Int) > 0
    · have h2 : wrap64 ((i : Int) - 1) = i - 1 := w64 (by omega) (by omega)
      have ha := hp.2 (by omega)
      simp only [h2]
      exact Ev.pos h0 (Ev.pos (by omega) (Ev.pos (by omega) (Ev.neg ha.1 (Ev.neg ha.2 hr))))
    · exact Ev.neg h0 hr
  · intro i hi _ hp
    have hno : decide (editsOk s l) = false := decide_eq_false (fun h => hp (h.2.2 i hi))
    rw [hno]
    have ht := spec_text (rd_T42 l i).f2 (by rw [rdE _ _ hi]; exact hl.2 _ (List.getElem_mem hi))
    have hj : Ev (fun k => spec_EditsValid.j1 k s l i true ((rd_T42 l i).f0) ((rd_T42 l i).f1) ((rd_T42 l i).f2)) false := by
      refine Ev.up ?_
      simp only [spec_EditsValid.j1, if_true]
      exact Ev.now _
    refine Ev.up ?_
    simp only [spec_EditsValid.l0, spec_in]
    refine Ev.pos (by omega) (Ev.pos (by omega) ?_)
    by_cases h1 : 0 ≤ (rd_T42 l i).f1 ∧ (rd_T42 l i).f1 ≤ (s.size : Int)
    · by_cases h2 : 0 ≤ (rd_T42 l i).f0 ∧ (rd_T42 l i).f0 ≤ (rd_T42 l i).f1
      · simp only [Option.bind_some, decide_eq_true h1, decide_eq_true h2, if_true]
        refine Ev.bind ht ?_
        by_cases h3 : textOk (rd_T42 l i).f2
        · have ha : ¬ apartOk l i := fun h => hp ⟨⟨h1, h2, h3⟩, h⟩
          simp only [decide_eq_true h3, Bool.not_true]
          refine Ev.up ?_
          simp only [spec_EditsValid.j1, Bool.false_eq_true, if_false]
          by_cases h0 : (i : Int) > 0
          · have h4 : wrap64 ((i : Int) - 1) = i - 1 := w64 (by omega) (by omega)
            simp only [h4]
            refine Ev.pos h0 (Ev.pos (by omega) (Ev.pos (by omega) ?_))
            by_cases ha1 : (rd_T42 l i).f0 < (rd_T42 l ((i : Int) - 1)).f1
            · exact Ev.pos ha1 (Ev.now _)
            · refine Ev.neg ha1 ?_
              by_cases ha2 : (rd_T42 l i).f0 = (rd_T42 l ((i : Int) - 1)).f0
              · exact Ev.pos ha2 (Ev.now _)
              · exact absurd (fun _ => ⟨ha1, ha2⟩) ha
          · exact absurd (fun h => absurd h (by omega)) ha
        · simp only [decide_eq_false h3, Bool.not_false]
          exact hj
      · simp only [Option.bind_some, decide_eq_true h1, decide_eq_false h2, if_true, Bool.false_eq_true, if_false]
        exact hj
    · simp only [Option.bind_some, decide_eq_false h1, Bool.false_eq_true, if_false]
      exact hj
  · intro hall
    refine Ev.up ?_
    simp only [spec_EditsValid.l0]
    refine Ev.neg (by omega) (Ev.bind (spec_text s hs) ?_)
    by_cases ht : textOk s
    · refine Ev.pos (decide_eq_true ht) (Ev.ok ?_)
      exact decide_eq_decide.mpr ⟨fun h => ⟨ht, by omega, hall⟩, fun h => by have := h.2.1; omega⟩
    · exact Ev.neg (by simp [ht]) (Ev.ok (decide_eq_false (fun h : editsOk s l => ht h.1)).symm)
open Classical in
theorem impl_edits (s : ByteArray) (l : List S42) (hs : s.size ≤ 140737488355328) (hl : sizedE l) : Ev (fun k => impl_EditsValid.f k s l) (decide (editsOk s l)) := by
  have hlen := hl.1
  unfold impl_EditsValid.f
  refine Ev.bind (impl_text s hs) ?_
  by_cases ht : textOk s
  · refine Ev.pos (decide_eq_true ht) ?_
    by_cases h20 : (l.length : Int) > 20
    · have hno : decide (editsOk s l) = false := decide_eq_false (fun h => by have := h.2.1; omega)
      rw [hno]
      refine Ev.up ?_
      simp only [impl_EditsValid.j0]
      exact Ev.pos (decide_eq_true h20) (Ev.now _)
    · refine Ev.up ?_
      simp only [impl_EditsValid.j0]
      refine Ev.neg (by simpa using h20) ?_
      refine ev_scan (L := fun k i => impl_EditsValid.l0 k s l l (l.length : Int) i) (n := l.length) (fun i => editOk s (rd_T42 l i) ∧ apartOk l i) ?_ ?_ ?_
      · intro i hi hp hr
        have ht := impl_text (rd_T42 l i).f2 (by rw [rdE _ _ hi]; exact hl.2 _ (List.getElem_mem hi))
        have h1 : wrap64 ((i : Int) + 1) = i + 1 := w64 (by omega) (by have := hl.1; omega)
        refine Ev.up ?_
        simp only [impl_EditsValid.l0, impl_in]
        refine Ev.pos (by omega) (Ev.pos (by omega) (Ev.pos (by omega) ?_))
        simp only [Option.bind_some, decide_eq_true hp.1.1, decide_eq_true hp.1.2.1, if_true]
        refine Ev.bind ht ?_
        simp only [decide_eq_true hp.1.2.2, Bool.not_true]
        refine Ev.up ?_
        simp only [impl_EditsValid.j2, Bool.false_eq_true, if_false, h1]
        by_cases h0 : (i : Int) > 0
        · have h2 : wrap64 ((i : Int) - 1) = i - 1 := w64 (by omega) (by omega)
          have ha := hp.2 (by omega)
          simp only [h2]
          exact Ev.pos h0 (Ev.pos (by omega) (Ev.pos (by omega) (Ev.neg ha.1 (Ev.neg ha.2 hr))))
        · exact Ev.neg h0 hr
      · intro i hi _ hp
        have hno : decide (editsOk s l) = false := decide_eq_false (fun h => hp (h.2.2 i hi))
        rw [hno]
        have ht := impl_text (rd_T42 l i).f2 (by rw [rdE _ _ hi]; exact hl.2 _ (List.getElem_mem hi))
        have hj : Ev (fun k => impl_EditsValid.j2 k s l i l (l.length : Int) i true ((rd_T42 l i).f0) ((rd_T42 l i).f1) ((rd_T42 l i).f2)) false := by
          refine Ev.up ?_
          simp only [impl_EditsValid.j2, if_true]
          exact Ev.now _
        refine Ev.up ?_
        simp only [impl_EditsValid.l0, impl_in]
        refine Ev.pos (by omega) (Ev.pos (by omega) (Ev.pos (by omega) ?_))
        by_cases h1 : 0 ≤ (rd_T42 l i).f1 ∧ (rd_T42 l i).f1 ≤ (s.size : Int)
        · by_cases h2 : 0 ≤ (rd_T42 l i).f0 ∧ (rd_T42 l i).f0 ≤ (rd_T42 l i).f1
          · simp only [Option.bind_some, decide_eq_true h1, decide_eq_true h2, if_true]
            refine Ev.bind ht ?_
            by_cases h3 : textOk (rd_T42 l i).f2
            · have ha : ¬ apartOk l i := fun h => hp ⟨⟨h1, h2, h3⟩, h⟩
              simp only [decide_eq_true h3, Bool.not_true]
              refine Ev.up ?_
              simp only [impl_EditsValid.j2, Bool.false_eq_true, if_false]
              by_cases h0 : (i : Int) > 0
              · have h4 : wrap64 ((i : Int) - 1) = i - 1 := w64 (by omega) (by omega)
                simp only [h4]
                refine Ev.pos h0 (Ev.pos (by omega) (Ev.pos (by omega) ?_))
                by_cases ha1 : (rd_T42 l i).f0 < (rd_T42 l ((i : Int) - 1)).f1
                · exact Ev.pos ha1 (Ev.now _)
                · refine Ev.neg ha1 ?_
                  by_cases ha2 : (rd_T42 l i).f0 = (rd_T42 l ((i : Int) - 1)).f0
                  · exact Ev.pos ha2 (Ev.now _)
                  · exact absurd (fun _ => ⟨ha1, ha2⟩) ha
              · exact absurd (fun h => absurd h (by omega)) ha
            · simp only [decide_eq_false h3, Bool.not_false]
              exact hj
          · simp only [Option.bind_some, decide_eq_true h1, decide_eq_false h2, if_true, Bool.false_eq_true, if_false]
            exact hj
        · simp only [Option.bind_some, decide_eq_false h1, Bool.false_eq_true, if_false]
          exact hj
      · intro hall
        refine Ev.up ?_
        simp only [impl_EditsValid.l0]
        exact Ev.neg (by omega) (Ev.ok (decide_eq_true (show editsOk s l from ⟨ht, by omega, hall⟩)).symm)
  · have hno : decide (editsOk s l) = false := decide_eq_false (fun h => ht h.1)
    rw [hno]
    refine Ev.neg (by simp [ht]) (Ev.up ?_)
    simp only [impl_EditsValid.j0, if_true]
    exact Ev.now _
/-! ## the law's own helpers on []Edit -/
/-- What came in, field by field. -/
def wfLE (e : S67) : Prop := (Lit.int .i64 e.f0).wf = true ∧ (Lit.int .i64 e.f1).wf = true ∧ e.f2.size ≤ 9223372036854775807
def ofL (e : S67) : S42 := ⟨e.f0, e.f1, e.f2⟩
theorem rdLE (l : List S67) (i : Nat) (h : i < l.length) : rd_T67 l (i : Int) = l[i] := by
  simp [rd_T67, List.getD_eq_getElem?_getD, List.getElem?_eq_getElem h]
theorem toEditS_ev (l : List S67) (hl : l.length ≤ 1048576) : Ev (fun k => laws_toEditS.f k l) (l.map ofL) := by
  unfold laws_toEditS.f
  refine Ev.pos (by omega) (Ev.pos (by omega) ?_)
  refine ev_fill (L := fun k xs i => laws_toEditS.l0 k l xs i) (n := l.length) (fun i => ofL (rd_T67 l (i : Nat))) ?_ ?_ _ (by simp)
  · intro i xs hi hx h
    have h1 : wrap64 ((i : Int) + 1) = i + 1 := w64 (by omega) (by omega)
    refine Ev.up ?_
    simp only [laws_toEditS.l0, laws_toEdit.f, Option.bind_some, h1]
    exact Ev.pos (by omega) (Ev.pos (by omega) (Ev.pos (by omega) h))
  · refine Ev.up ?_
    simp only [laws_toEditS.l0]
    refine Ev.neg (by omega) (Ev.ok ?_)
    apply List.ext_getElem?
    intro j
    by_cases hj : j < l.length
    · simp [hj, rdLE _ _ hj]
    · rw [List.getElem?_eq_none (by simp; omega), List.getElem?_eq_none (by simp; omega)]
theorem eqEditS_ev (l : List S42) (hl : l.length ≤ 1048576) : Ev (fun k => laws_eqEditS.f k l l) true := by
  unfold laws_eqEditS.f
  refine Ev.pos rfl ?_
  refine ev_scan (L := fun k i => laws_eqEditS.l0 k l l i) (n := l.length) (fun _ => True) ?_ (fun i _ _ h => absurd trivial h) ?_
  · intro i hi _ h
    have h1 : wrap64 ((i : Int) + 1) = i + 1 := w64 (by omega) (by omega)
    refine Ev.up ?_
    simp only [laws_eqEditS.l0, laws_eqEdit.f, h1, if_true, Option.bind_some]
    exact Ev.pos (by omega) (Ev.pos (by omega) (Ev.pos (by omega) h))
  · intro _
    refine Ev.up ?_
    simp only [laws_eqEditS.l0]
    exact Ev.neg (by omega) (Ev.now _)
theorem szEditS_ev (l : List S67) (left : Int) (hleft : 0 ≤ left ∧ left ≤ 1048576) (hl : l.length ≤ 9223372036854775807) (hw : ∀ e ∈ l, wfLE e) :
    ∃ r, Ev (fun k => laws_szEditS.f k l left) r ∧ r ≤ left ∧ (0 ≤ r → l.length ≤ 1048576 ∧ ∀ e ∈ l, e.f2.size ≤ 1048576) := by
  unfold laws_szEditS.f
  have h0 : wrap64 (left - (l.length : Int)) = left - l.length := w64 (by omega) (by omega)
  rw [h0]
  by_cases hneg : left - (l.length : Int) < 0
  · exact ⟨-1, Ev.pos hneg (Ev.now _), by omega, by omega⟩
  · have key : ∀ (d i : Nat) (x1 : Int), i + d = l.length → 0 ≤ x1 → x1 ≤ left → (∀ j (h : j < i) (h2 : j < l.length), (l[j]).f2.size ≤ 1048576) →
        ∃ r, Ev (fun k => laws_szEditS.l0 k l x1 i) r ∧ r ≤ left ∧ (0 ≤ r → ∀ e ∈ l, e.f2.size ≤ 1048576) := by
      intro d
      induction d with
      | zero =>
        intro i x1 hi h0 h1 hp
        refine ⟨x1, Ev.up ?_, h1, fun _ w hw' => ?_⟩
        · simp only [laws_szEditS.l0]
          exact Ev.neg (by omega) (Ev.now _)
        · obtain ⟨j, hj, rfl⟩ := List.mem_iff_getElem.mp hw'
          exact hp j (by omega) hj
      | succ d ih =>
        intro i x1 hi h0 h1 hp
        have hlt : i < l.length := by omega
        have hs := (hw _ (List.getElem_mem hlt)).2.2
        have h2 : wrap64 ((i : Int) + 1) = i + 1 := w64 (by omega) (by omega)
        have h3 : wrap64 (x1 - ((l[i]).f2.size : Int)) = x1 - (l[i]).f2.size := w64 (by omega) (by omega)
        by_cases hn : x1 - ((l[i]).f2.size : Int) < 0
        · refine ⟨-1, Ev.up ?_, by omega, by omega⟩
          simp only [laws_szEditS.l0, laws_szEdit.f, rdLE _ _ hlt, h3]
          refine Ev.pos (by omega) (Ev.pos (by omega) ?_)
          simp only [if_pos hn, Option.bind_some]
          exact Ev.pos (by omega) (Ev.now _)
        · obtain ⟨r, hr, hr2⟩ := ih (i + 1) (x1 - ((l[i]).f2.size : Int)) (by omega) (by omega) (by omega) (fun j hj hj2 => by
            rcases Nat.lt_succ_iff_lt_or_eq.mp hj with h4 | h4
            · exact hp j h4 hj2
            · subst h4; omega)
          refine ⟨r, Ev.up ?_, hr2⟩
          simp only [laws_szEditS.l0, laws_szEdit.f, rdLE _ _ hlt, h3, h2]
          refine Ev.pos (by omega) (Ev.pos (by omega) ?_)
          simp only [if_neg hn, Option.bind_some]
          exact hr
    obtain ⟨r, hr, hr1, hr2⟩ := key l.length 0 (left - l.length) (by omega) (by omega) (by omega) (fun j hj => by omega)
    exact ⟨r, Ev.neg hneg hr, hr1, fun h => ⟨by omega, hr2 h⟩⟩
/-- What came in and is not too much. -/
theorem sizedE_of (l : List S67) (h1 : l.length ≤ 1048576) (h2 : ∀ e ∈ l, e.f2.size ≤ 1048576) : sizedE (l.map ofL) :=
  ⟨by simp; omega, fun e he => by
    obtain ⟨x, hx, rfl⟩ := List.mem_map.mp he
    have := h2 x hx
    show x.f2.size ≤ _
    omega⟩
/-! ## ApplyEdits: both are the same text -/
def L (s : ByteArray) : List UInt8 := s.data.toList
def mk (b : List UInt8) : ByteArray := ⟨b.toArray⟩
theorem L_mk (b : List UInt8) : L (mk b) = b := by simp [L, mk]
theorem mk_L (s : ByteArray) : mk (L s) = s := by cases s; simp [L, mk]
theorem L_inj {s t : ByteArray} (h : L s = L t) : s = t := by rw [← mk_L s, h, mk_L]
theorem L_append (s t : ByteArray) : L (s ++ t) = L s ++ L t := by simp [L, ByteArray.data_append]
theorem L_length (s : ByteArray) : (L s).length = s.size := by cases s; simp [L, ByteArray.size]
theorem L_extract (s : ByteArray) (a b : Nat) : L (s.extract a b) = ((L s).take b).drop a := by
  simp [L, ByteArray.data_extract, List.drop_take]
/-- What the edits make of the text from a place on. -/
def appL (s : List UInt8) : List S42 → Nat → List UInt8
  | [], at_ => s.drop at_
  | e :: r, at_ => (s.take e.f0.toNat).drop at_ ++ L e.f2 ++ appL s r e.f1.toNat
/-- Edits that stand one behind the other from a place on. -/
def Chain (n : Nat) : List S42 → Nat → Prop
  | [], at_ => at_ ≤ n
  | e :: r, at_ => (at_ : Int) ≤ e.f0 ∧ e.f0 ≤ e.f1 ∧ e.f1 ≤ (n : Int) ∧ Chain n r e.f1.toNat
theorem chain_drop {s : ByteArray} {l : List S42} (h : editsOk s l) : ∀ (d i : Nat), i + d = l.length → Chain s.size (l.drop i) (if i = 0 then 0 else (rd_T42 l ((i : Int) - 1)).f1.toNat) := by
  intro d
  induction d with
  | zero =>
    intro i hi
    rw [List.drop_of_length_le (by omega)]
    by_cases h0 : i = 0
    · simp [h0, Chain]
    · rw [if_neg h0]
      have e1 : ((i : Int) - 1) = ((i - 1 : Nat) : Int) := by omega
      have hp := (h.2.2 (i - 1) (by omega)).1.1
      rw [e1]
      show (rd_T42 l ((i - 1 : Nat) : Int)).f1.toNat ≤ s.size
      omega
  | succ d ih =>
    intro i hi
    have hlt : i < l.length := by omega
    have h1 := h.2.2 i hlt
    have hn := ih (i + 1) (by omega)
    rw [List.drop_eq_getElem_cons hlt, ← rdE l i hlt]
    have e2 : (((i + 1 : Nat) : Int) - 1) = (i : Int) := by omega
    rw [if_neg (by omega), e2] at hn
    refine ⟨?_, h1.1.2.1.2, h1.1.1.2, hn⟩
    by_cases h0 : i = 0
    · rw [if_pos h0]; exact h1.1.2.1.1
    · rw [if_neg h0]
      have ha := (h1.2 (by omega)).1
      have e1 : ((i : Int) - 1) = ((i - 1 : Nat) : Int) := by omega
      have hp := (h.2.2 (i - 1) (by omega)).1.1.1
      rw [e1] at ha ⊢
      omega
theorem chain_of {s : ByteArray} {l : List S42} (h : editsOk s l) : Chain s.size l 0 := by
  have := chain_drop h l.length 0 (by omega)
  simpa using this
theorem Chain.le {n : Nat} : ∀ {l : List S42} {at_ : Nat}, Chain n l at_ → at_ ≤ n
  | [], _, h => h
  | e :: r, at_, h => by have h1 := h.1; have h2 := h.2.1; have h3 := h.2.2.1; omega
/-- The result and whether it is a text. -/
noncomputable def fin (b : List UInt8) : ByteArray × Bool := open Classical in if textOk (mk b) then (mk b, true) else ((⟨#[]⟩ : ByteArray), false)
noncomputable def applyM (s : ByteArray) (l : List S42) : ByteArray × Bool := open Classical in if editsOk s l then fin (appL (L s) l 0) else ((⟨#[]⟩ : ByteArray), false)
theorem size_of_L {s : ByteArray} {b : List UInt8} (h : L s = b) : s.size = b.length := by rw [← h, L_length]
theorem impl_apply_loop (s : ByteArray) (l : List S42) (hok : editsOk s l) (d : Nat) : ∀ (i : Nat) (acc : ByteArray) (at_ : Nat), i + d = l.length → Chain s.size (l.drop i) at_ → acc.size ≤ i * 50000 →
    Ev (fun k => impl_ApplyEdits.l0 k s l acc at_ i) (fin (L acc ++ appL (L s) (l.drop i) at_)) := by
  have hs : s.size ≤ 20000 := hok.1.1
  have hl : l.length ≤ 20 := hok.2.1
  induction d with
  | zero =>
    intro i acc at_ hi hc ha
    rw [List.drop_of_length_le (by omega)] at hc ⊢
    have hat : at_ ≤ s.size := hc
    have hx : L (acc ++ s.extract at_ s.size) = L acc ++ appL (L s) [] at_ := by
      rw [L_append, L_extract, appL, List.take_of_length_le (by rw [L_length]; exact Nat.le_refl _)]
    have hm : acc ++ s.extract at_ s.size = mk (L acc ++ appL (L s) [] at_) := by rw [← hx, mk_L]
    refine Ev.up ?_
    simp only [impl_ApplyEdits.l0]
    refine Ev.neg (by omega) (Ev.up ?_)
    simp only [impl_ApplyEdits.e0, Int.toNat_natCast]
    refine Ev.pos (by omega) (Ev.pos (by omega) (Ev.pos (by rw [ByteArray.size_extract]; omega) ?_))
    have ht := impl_text (acc ++ s.extract at_ s.size) (by rw [ByteArray.size_append, ByteArray.size_extract]; omega)
    refine Ev.bind ht ?_
    rw [hm]
    unfold fin
    by_cases h : textOk (mk (L acc ++ appL (L s) [] at_))
    · rw [if_pos h]; exact Ev.pos (by simp [h]) (Ev.now _)
    · rw [if_neg h]; exact Ev.neg (by simp [h]) (Ev.now _)
  | succ d ih =>
    intro i acc at_ hi hc ha
    have hlt : i < l.length := by omega
    have h1 := (hok.2.2 i hlt).1
    rw [List.drop_eq_getElem_cons hlt, ← rdE l i hlt] at hc ⊢
    obtain ⟨c1, c2, c3, c4⟩ := hc
    have h2 : wrap64 ((i : Int) + 1) = ((i + 1 : Nat) : Int) := by rw [w64] <;> omega
    have hf2 : (rd_T42 l i).f2.size ≤ 20000 := h1.2.2.1
    have hsz : (acc ++ (s.extract at_ (rd_T42 l i).f0.toNat ++ (rd_T42 l i).f2)).size ≤ (i + 1) * 50000 := by
      rw [ByteArray.size_append, ByteArray.size_append, ByteArray.size_extract]; omega
    have hn := ih (i + 1) (acc ++ (s.extract at_ (rd_T42 l i).f0.toNat ++ (rd_T42 l i).f2)) (rd_T42 l i).f1.toNat (by omega) c4 hsz
    have e1 : L (acc ++ (s.extract at_ (rd_T42 l i).f0.toNat ++ (rd_T42 l i).f2)) ++ appL (L s) (l.drop (i + 1)) (rd_T42 l i).f1.toNat = L acc ++ appL (L s) (rd_T42 l i :: l.drop (i + 1)) at_ := by
      rw [L_append, L_append, L_extract, appL]; simp only [List.append_assoc]
    rw [e1] at hn
    refine Ev.up ?_
    simp only [impl_ApplyEdits.l0, Int.toNat_natCast, h2]
    have e2 : (((rd_T42 l i).f1.toNat : Nat) : Int) = (rd_T42 l i).f1 := by omega
    rw [e2] at hn
    refine Ev.pos (by omega) (Ev.pos (by omega) (Ev.pos (by omega) (Ev.pos c1 (Ev.pos (by omega) (Ev.pos ?_ (Ev.pos ?_ hn))))))
    · rw [ByteArray.size_extract]; omega
    · rw [ByteArray.size_append] at hsz; omega
theorem impl_apply (s : ByteArray) (l : List S42) (hs : s.size ≤ 140737488355328) (hl : sizedE l) : Ev (fun k => impl_ApplyEdits.f k s l) (applyM s l) := by
  unfold impl_ApplyEdits.f applyM
  refine Ev.bind (impl_edits s l hs hl) ?_
  by_cases h : editsOk s l
  · rw [if_pos h]
    have hz : (⟨#[]⟩ : ByteArray).size = 0 := rfl
    have h2 := impl_apply_loop s l h l.length 0 (⟨#[]⟩ : ByteArray) 0 (by omega) (by simpa using chain_of h) (by omega)
    have e : L (⟨#[]⟩ : ByteArray) = [] := rfl
    rw [e] at h2
    simp only [List.drop_zero, List.nil_append] at h2
    exact Ev.pos (by simp [h]) h2
  · rw [if_neg h]
    exact Ev.neg (by simp [h]) (Ev.now _)
theorem spec_apply_loop (s : ByteArray) (l : List S42) (hok : editsOk s l) (d : Nat) : ∀ (i : Nat) (acc : ByteArray) (at_ : Nat), i + d = l.length → Chain s.size (l.drop i) at_ → acc.size ≤ i * 50000 →
    Ev (fun k => spec_ApplyEdits.l0 k s l acc at_ i) (fin (L acc ++ appL (L s) (l.drop i) at_)) := by
  have hs : s.size ≤ 20000 := hok.1.1
  have hl : l.length ≤ 20 := hok.2.1
  induction d with
  | zero =>
    intro i acc at_ hi hc ha
    rw [List.drop_of_length_le (by omega)] at hc ⊢
    have hat : at_ ≤ s.size := hc
    have hx : L (acc ++ s.extract at_ s.size) = L acc ++ appL (L s) [] at_ := by
      rw [L_append, L_extract, appL, List.take_of_length_le (by rw [L_length]; exact Nat.le_refl _)]
    have hm : acc ++ s.extract at_ s.size = mk (L acc ++ appL (L s) [] at_) := by rw [← hx, mk_L]
    refine Ev.up ?_
    simp only [spec_ApplyEdits.l0, Int.toNat_natCast]
    refine Ev.neg (by omega) (Ev.pos (by omega) (Ev.pos (by omega) (Ev.pos (by rw [ByteArray.size_extract]; omega) ?_)))
    have ht := spec_text (acc ++ s.extract at_ s.size) (by rw [ByteArray.size_append, ByteArray.size_extract]; omega)
    refine Ev.bind ht ?_
    rw [hm]
    unfold fin
    by_cases h : textOk (mk (L acc ++ appL (L s) [] at_))
    · rw [if_pos h]; exact Ev.pos (by simp [h]) (Ev.now _)
    · rw [if_neg h]; exact Ev.neg (by simp [h]) (Ev.now _)
  | succ d ih =>
    intro i acc at_ hi hc ha
    have hlt : i < l.length := by omega
    have h1 := (hok.2.2 i hlt).1
    rw [List.drop_eq_getElem_cons hlt, ← rdE l i hlt] at hc ⊢
    obtain ⟨c1, c2, c3, c4⟩ := hc
    have h2 : wrap64 ((i : Int) + 1) = ((i + 1 : Nat) : Int) := by rw [w64] <;> omega
    have hf2 : (rd_T42 l i).f2.size ≤ 20000 := h1.2.2.1
    have hsz : (acc ++ s.extract at_ (rd_T42 l i).f0.toNat ++ (rd_T42 l i).f2).size ≤ (i + 1) * 50000 := by
      rw [ByteArray.size_append, ByteArray.size_append, ByteArray.size_extract]; omega
    have hn := ih (i + 1) (acc ++ s.extract at_ (rd_T42 l i).f0.toNat ++ (rd_T42 l i).f2) (rd_T42 l i).f1.toNat (by omega) c4 hsz
    have e1 : L (acc ++ s.extract at_ (rd_T42 l i).f0.toNat ++ (rd_T42 l i).f2) ++ appL (L s) (l.drop (i + 1)) (rd_T42 l i).f1.toNat = L acc ++ appL (L s) (rd_T42 l i :: l.drop (i + 1)) at_ := by
      rw [L_append, L_append, L_extract, appL]; simp only [List.append_assoc]
    rw [e1] at hn
    refine Ev.up ?_
    simp only [spec_ApplyEdits.l0, Int.toNat_natCast, h2]
    have e2 : (((rd_T42 l i).f1.toNat : Nat) : Int) = (rd_T42 l i).f1 := by omega
    rw [e2] at hn
    refine Ev.pos (by omega) (Ev.pos (by omega) (Ev.pos (by omega) (Ev.pos c1 (Ev.pos (by omega) (Ev.pos ?_ (Ev.pos ?_ hn))))))
    · rw [ByteArray.size_extract]; omega
    · rw [ByteArray.size_append] at hsz; omega
theorem spec_apply (s : ByteArray) (l : List S42) (hs : s.size ≤ 140737488355328) (hl : sizedE l) : Ev (fun k => spec_ApplyEdits.f k s l) (applyM s l) := by
  unfold spec_ApplyEdits.f applyM
  refine Ev.bind (spec_edits s l hs hl) ?_
  by_cases h : editsOk s l
  · rw [if_pos h]
    have hz : (⟨#[]⟩ : ByteArray).size = 0 := rfl
    have h2 := spec_apply_loop s l h l.length 0 (⟨#[]⟩ : ByteArray) 0 (by omega) (by simpa using chain_of h) (by omega)
    have e : L (⟨#[]⟩ : ByteArray) = [] := rfl
    rw [e] at h2
    simp only [List.drop_zero, List.nil_append] at h2
    exact Ev.pos (by simp [h]) h2
  · rw [if_neg h]
    exact Ev.neg (by simp [h]) (Ev.now _)
/-! ## more about what edits make of a text -/
theorem appL_split (s : List UInt8) (n : Nat) (hn : s.length = n) : ∀ (l : List S42) (a m : Nat), Chain n l m → a ≤ m → appL s l a = (s.take m).drop a ++ appL s l m
  | [], a, m, hc, ha => by
    have hm : m ≤ n := hc
    simp only [appL]
    rw [show s.drop m = (s.drop a).drop (m - a) by rw [List.drop_drop]; congr 1; omega, List.drop_take, List.take_append_drop]
  | e :: r, a, m, hc, ha => by
    have h1 := hc.1
    simp only [appL]
    rw [← List.append_assoc, ← List.append_assoc]
    congr 2
    rw [List.drop_take, List.drop_take, List.drop_take, show s.drop m = (s.drop a).drop (m - a) by rw [List.drop_drop]; congr 1; omega]
    rw [show e.f0.toNat - a = (m - a) + (e.f0.toNat - m) by omega, List.take_add]
def more : List S42 → Int
  | [] => 0
  | e :: r => (e.f2.size : Int) - (e.f1 - e.f0) + more r
theorem appL_length (s : List UInt8) (n : Nat) (hn : s.length = n) : ∀ (l : List S42) (a : Nat), Chain n l a → ((appL s l a).length : Int) = n - a + more l
  | [], a, hc => by
    have : a ≤ n := hc
    simp only [appL, more, List.length_drop]
    omega
  | e :: r, a, hc => by
    obtain ⟨h1, h2, h3, h4⟩ := hc
    have ih := appL_length s n hn r e.f1.toNat h4
    simp only [appL, more, List.length_append, List.length_drop, List.length_take, L_length]
    have h5 := h4.le
    omega
theorem applyM_ok {s : ByteArray} {l : List S42} (h : (applyM s l).2 = true) : editsOk s l ∧ textOk (mk (appL (L s) l 0)) ∧ (applyM s l).1 = mk (appL (L s) l 0) := by
  unfold applyM at h ⊢
  by_cases he : editsOk s l
  · rw [if_pos he] at h ⊢
    unfold fin at h ⊢
    by_cases ht : textOk (mk (appL (L s) l 0))
    · rw [if_pos ht]
      exact ⟨he, ht, rfl⟩
    · rw [if_neg ht] at h
      cases h
  · rw [if_neg he] at h
    cases h
theorem applyM_no {s : ByteArray} {l : List S42} (h : (applyM s l).2 = false) : (applyM s l).1 = (⟨#[]⟩ : ByteArray) := by
  unfold applyM at h ⊢
  by_cases he : editsOk s l
  · rw [if_pos he] at h ⊢
    unfold fin at h ⊢
    by_cases ht : textOk (mk (appL (L s) l 0))
    · rw [if_pos ht] at h; cases h
    · rw [if_neg ht]
  · rw [if_neg he]
theorem applyM_yes {s : ByteArray} {l : List S42} (h1 : editsOk s l) (h2 : textOk (mk (appL (L s) l 0))) : applyM s l = (mk (appL (L s) l 0), true) := by
  unfold applyM
  rw [if_pos h1]
  unfold fin
  rw [if_pos h2]
/-- Single edits. -/
theorem rdE_one (e : S42) : rd_T42 [e] ((0 : Nat) : Int) = e := by rw [rdE _ _ (by simp)]; rfl
theorem editsOk_one {s : ByteArray} {e : S42} (ht : textOk s) (h : editOk s e) : editsOk s [e] :=
  ⟨ht, by simp, fun i hi => by
    obtain rfl : i = 0 := by simpa using hi
    rw [rdE_one]
    exact ⟨h, fun h0 => absurd h0 (by omega)⟩⟩
/-- One edit after the later ones: the text after it and them. -/
theorem step_back (s : List UInt8) (n : Nat) (hn : s.length = n) (e : S42) (r : List S42) (hc : Chain n (e :: r) 0) : appL (appL s r 0) [e] 0 = appL s (e :: r) 0 := by
  obtain ⟨h1, h2, h3, h4⟩ := hc
  have hsp := appL_split s n hn r 0 e.f1.toNat h4 (by omega)
  have hle := h4.le
  simp only [appL]
  rw [hsp]
  simp only [List.drop_zero]
  rw [List.take_append_of_le_length (by rw [List.length_take]; omega), List.take_take, Nat.min_eq_left (by omega)]
  congr 1
  rw [List.drop_append, List.drop_of_length_le (by rw [List.length_take]; omega), List.nil_append, List.length_take, show e.f1.toNat - min e.f1.toNat s.length = 0 by omega]
  simp
/-! ## edits or nothing -/
noncomputable def okp (s : ByteArray) (l : List S42) : List S42 × Bool := open Classical in if editsOk s l then (l, true) else ([], false)
theorem okp_pos {s : ByteArray} {l : List S42} (h : editsOk s l) : okp s l = (l, true) := if_pos h
theorem okp_neg {s : ByteArray} {l : List S42} (h : ¬ editsOk s l) : okp s l = ([], false) := if_neg h
/-! ## UndoEdits: both are the same edits -/
def undoL (s : ByteArray) : List S42 → Int → List S42
  | [], _ => []
  | e :: r, m => ⟨e.f0 + m, e.f0 + m + (e.f2.size : Int), s.extract e.f0.toNat e.f1.toNat⟩ :: undoL s r (m + ((e.f2.size : Int) - (e.f1 - e.f0)))
theorem undoL_length (s : ByteArray) : ∀ (l : List S42) (m : Int), (undoL s l m).length = l.length
  | [], _ => rfl
  | e :: r, m => by simp [undoL, undoL_length s r]
theorem undoL_sized (s : ByteArray) (hs : s.size ≤ 20000) : ∀ (l : List S42) (m : Int), ∀ e ∈ undoL s l m, e.f2.size ≤ 20000
  | [], _, e, he => by simp [undoL] at he
  | x :: r, m, e, he => by
    simp only [undoL, List.mem_cons] at he
    rcases he with rfl | he
    · show (s.extract _ _).size ≤ 20000
      rw [ByteArray.size_extract]; omega
    · exact undoL_sized s hs r _ e he
noncomputable def undoM (s : ByteArray) (l : List S42) : List S42 × Bool := open Classical in if (applyM s l).2 = true ∧ editsOk (applyM s l).1 (undoL s l 0) then (undoL s l 0, true) else ([], false)
theorem impl_undo_loop (s t : ByteArray) (ht : t.size ≤ 140737488355328) (l : List S42) (hok : editsOk s l) (d : Nat) : ∀ (i : Nat) (acc : List S42) (m : Int), i + d = l.length → acc.length ≤ 20 - d → sizedE (acc ++ undoL s (l.drop i) m) → -(20000 * (20 - d) : Int) ≤ m → m ≤ 20000 * (20 - d) →
    Ev (fun k => impl_UndoEdits.l0 k s t acc m l (l.length : Int) i) (okp t (acc ++ undoL s (l.drop i) m)) := by
  have hs : s.size ≤ 20000 := hok.1.1
  have hl : l.length ≤ 20 := hok.2.1
  induction d with
  | zero =>
    intro i acc m hi ha hz h1 h2
    rw [List.drop_of_length_le (by omega), undoL, List.append_nil] at hz ⊢
    refine Ev.up ?_
    simp only [impl_UndoEdits.l0]
    refine Ev.neg (by omega) (Ev.bind (impl_edits t acc ht hz) ?_)
    by_cases h : editsOk t acc
    · rw [okp_pos h]
      refine Ev.pos (by simp [h]) ?_
      have hc : impl_Edit.f acc = some acc := by unfold impl_Edit.f; rw [if_pos (by omega)]
      simp only [hc, Option.bind_some]
      exact Ev.now _
    · rw [okp_neg h]
      exact Ev.neg (by simp [h]) (Ev.now _)
  | succ d ih =>
    intro i acc m hi ha hz h1 h2
    have hlt : i < l.length := by omega
    have hf := (hok.2.2 i hlt).1
    have hf2 : (rd_T42 l i).f2.size ≤ 20000 := hf.2.2.1
    obtain ⟨⟨g1, g2⟩, ⟨g3, g4⟩, _⟩ := hf
    rw [List.drop_eq_getElem_cons hlt, ← rdE l i hlt, undoL] at hz ⊢
    have hn := ih (i + 1) (acc ++ [⟨(rd_T42 l i).f0 + m, (rd_T42 l i).f0 + m + ((rd_T42 l i).f2.size : Int), s.extract (rd_T42 l i).f0.toNat (rd_T42 l i).f1.toNat⟩]) (m + (((rd_T42 l i).f2.size : Int) - ((rd_T42 l i).f1 - (rd_T42 l i).f0))) (by omega) (by simp; omega) (by rw [List.append_assoc]; exact hz) (by omega) (by omega)
    rw [List.append_assoc] at hn
    have w1 : ∀ _ : Unit, wrap64 ((rd_T42 l i).f0 + m) = (rd_T42 l i).f0 + m := fun _ => w64 (by omega) (by omega)
    have w2 : ∀ _ : Unit, wrap64 ((rd_T42 l i).f0 + m + ((rd_T42 l i).f2.size : Int)) = (rd_T42 l i).f0 + m + ((rd_T42 l i).f2.size : Int) := fun _ => w64 (by omega) (by omega)
    have w3 : ∀ _ : Unit, wrap64 ((rd_T42 l i).f1 - (rd_T42 l i).f0) = (rd_T42 l i).f1 - (rd_T42 l i).f0 := fun _ => w64 (by omega) (by omega)
    have w4 : ∀ _ : Unit, wrap64 (((rd_T42 l i).f2.size : Int) - ((rd_T42 l i).f1 - (rd_T42 l i).f0)) = ((rd_T42 l i).f2.size : Int) - ((rd_T42 l i).f1 - (rd_T42 l i).f0) := fun _ => w64 (by omega) (by omega)
    have w5 : ∀ _ : Unit, wrap64 (m + (((rd_T42 l i).f2.size : Int) - ((rd_T42 l i).f1 - (rd_T42 l i).f0))) = m + (((rd_T42 l i).f2.size : Int) - ((rd_T42 l i).f1 - (rd_T42 l i).f0)) := fun _ => w64 (by omega) (by omega)
    have w6 : ∀ _ : Unit, wrap64 ((i : Int) + 1) = ((i + 1 : Nat) : Int) := fun _ => by rw [w64] <;> omega
    refine Ev.up ?_
    simp only [impl_UndoEdits.l0, w1 (), w2 (), w3 (), w4 (), w5 (), w6 ()]
    clear w1 w2 w3 w4 w5 w6
    exact Ev.pos (by omega) (Ev.pos (by omega) (Ev.pos (by omega) (Ev.pos g3 (Ev.pos g4 (Ev.pos g2 (Ev.pos (by omega) hn))))))
theorem undo_lo (n : Nat) (h : n ≤ 20) : -(20000 * (20 - (n : Int)) : Int) ≤ 0 := by omega
theorem undo_hi (n : Nat) (h : n ≤ 20) : (0 : Int) ≤ 20000 * (20 - (n : Int)) := by omega
theorem applyM_size {s : ByteArray} {l : List S42} : (applyM s l).1.size ≤ 20000 := by
  by_cases h : (applyM s l).2 = true
  · have := applyM_ok h
    rw [this.2.2]
    exact this.2.1.1
  · rw [applyM_no (by simpa using h)]
    decide
open Classical in
theorem impl_undo (s : ByteArray) (l : List S42) (hs : s.size ≤ 140737488355328) (hl : sizedE l) : Ev (fun k => impl_UndoEdits.f k s l) (undoM s l) := by
  unfold impl_UndoEdits.f undoM
  refine Ev.bind (impl_apply s l hs hl) ?_
  by_cases h : (applyM s l).2 = true
  · have hok := (applyM_ok h).1
    have hlen := hok.2.1
    have hsz : sizedE (undoL s l 0) := ⟨by rw [undoL_length]; omega, fun e he => Nat.le_trans (undoL_sized s hok.1.1 l 0 e he) (by decide)⟩
    have h2 := impl_undo_loop s (applyM s l).1 (Nat.le_trans applyM_size (by decide)) l hok l.length 0 [] 0 (by omega) (by simp) (by rw [List.nil_append, List.drop_zero]; exact hsz) (undo_lo _ hlen) (undo_hi _ hlen)
    simp only [List.nil_append, List.drop_zero] at h2
    refine Ev.pos h (Ev.eqr h2 ?_)
    by_cases h3 : editsOk (applyM s l).1 (undoL s l 0)
    · rw [okp_pos h3, if_pos ⟨h, h3⟩]
    · rw [okp_neg h3, if_neg (fun x => h3 x.2)]
  · rw [if_neg (fun x => h x.1)]
    exact Ev.neg h (Ev.now _)
theorem spec_undo_loop (s t : ByteArray) (ht : t.size ≤ 140737488355328) (l : List S42) (hok : editsOk s l) (d : Nat) : ∀ (i : Nat) (acc : List S42) (m : Int), i + d = l.length → acc.length ≤ 20 - d → sizedE (acc ++ undoL s (l.drop i) m) → -(20000 * (20 - d) : Int) ≤ m → m ≤ 20000 * (20 - d) →
    Ev (fun k => spec_UndoEdits.l0 k s l acc t m i) (okp t (acc ++ undoL s (l.drop i) m)) := by
  have hs : s.size ≤ 20000 := hok.1.1
  have hl : l.length ≤ 20 := hok.2.1
  induction d with
  | zero =>
    intro i acc m hi ha hz h1 h2
    rw [List.drop_of_length_le (by omega), undoL, List.append_nil] at hz ⊢
    refine Ev.up ?_
    simp only [spec_UndoEdits.l0]
    refine Ev.neg (by omega) (Ev.bind (spec_edits t acc ht hz) ?_)
    by_cases h : editsOk t acc
    · rw [okp_pos h]
      exact Ev.pos (by simp [h]) (Ev.now _)
    · rw [okp_neg h]
      exact Ev.neg (by simp [h]) (Ev.now _)
  | succ d ih =>
    intro i acc m hi ha hz h1 h2
    have hlt : i < l.length := by omega
    have hf := (hok.2.2 i hlt).1
    have hf2 : (rd_T42 l i).f2.size ≤ 20000 := hf.2.2.1
    obtain ⟨⟨g1, g2⟩, ⟨g3, g4⟩, _⟩ := hf
    rw [List.drop_eq_getElem_cons hlt, ← rdE l i hlt, undoL] at hz ⊢
    have hn := ih (i + 1) (acc ++ [⟨(rd_T42 l i).f0 + m, (rd_T42 l i).f0 + m + ((rd_T42 l i).f2.size : Int), s.extract (rd_T42 l i).f0.toNat (rd_T42 l i).f1.toNat⟩]) (m + (((rd_T42 l i).f2.size : Int) - ((rd_T42 l i).f1 - (rd_T42 l i).f0))) (by omega) (by simp; omega) (by rw [List.append_assoc]; exact hz) (by omega) (by omega)
    rw [List.append_assoc] at hn
    have w1 : ∀ _ : Unit, wrap64 ((rd_T42 l i).f0 + m) = (rd_T42 l i).f0 + m := fun _ => w64 (by omega) (by omega)
    have w2 : ∀ _ : Unit, wrap64 ((rd_T42 l i).f0 + m + ((rd_T42 l i).f2.size : Int)) = (rd_T42 l i).f0 + m + ((rd_T42 l i).f2.size : Int) := fun _ => w64 (by omega) (by omega)
    have w3 : ∀ _ : Unit, wrap64 ((rd_T42 l i).f1 - (rd_T42 l i).f0) = (rd_T42 l i).f1 - (rd_T42 l i).f0 := fun _ => w64 (by omega) (by omega)
    have w4 : ∀ _ : Unit, wrap64 (m + ((rd_T42 l i).f2.size : Int)) = m + ((rd_T42 l i).f2.size : Int) := fun _ => w64 (by omega) (by omega)
    have w5 : ∀ _ : Unit, wrap64 (m + ((rd_T42 l i).f2.size : Int) - ((rd_T42 l i).f1 - (rd_T42 l i).f0)) = m + (((rd_T42 l i).f2.size : Int) - ((rd_T42 l i).f1 - (rd_T42 l i).f0)) := fun _ => by rw [w64] <;> omega
    have w6 : ∀ _ : Unit, wrap64 ((i : Int) + 1) = ((i + 1 : Nat) : Int) := fun _ => by rw [w64] <;> omega
    refine Ev.up ?_
    simp only [spec_UndoEdits.l0, w1 (), w2 (), w3 (), w4 (), w5 (), w6 ()]
    clear w1 w2 w3 w4 w5 w6
    exact Ev.pos (by omega) (Ev.pos (by omega) (Ev.pos g3 (Ev.pos g4 (Ev.pos g2 (Ev.pos (by omega) hn)))))
open Classical in
theorem spec_undo (s : ByteArray) (l : List S42) (hs : s.size ≤ 140737488355328) (hl : sizedE l) : Ev (fun k => spec_UndoEdits.f k s l) (undoM s l) := by
  unfold spec_UndoEdits.f undoM
  simp only [Option.bind_some]
  refine Ev.bind (spec_apply s l hs hl) ?_
  by_cases h : (applyM s l).2 = true
  · have hok := (applyM_ok h).1
    have hlen := hok.2.1
    have hsz : sizedE (undoL s l 0) := ⟨by rw [undoL_length]; omega, fun e he => Nat.le_trans (undoL_sized s hok.1.1 l 0 e he) (by decide)⟩
    have h2 := spec_undo_loop s (applyM s l).1 (Nat.le_trans applyM_size (by decide)) l hok l.length 0 [] 0 (by omega) (by simp) (by rw [List.nil_append, List.drop_zero]; exact hsz) (undo_lo _ hlen) (undo_hi _ hlen)
    simp only [List.nil_append, List.drop_zero] at h2
    refine Ev.pos h (Ev.eqr h2 ?_)
    by_cases h3 : editsOk (applyM s l).1 (undoL s l 0)
    · rw [okp_pos h3, if_pos ⟨h, h3⟩]
    · rw [okp_neg h3, if_neg (fun x => h3 x.2)]
  · rw [if_neg (fun x => h x.1)]
    exact Ev.neg h (Ev.now _)
/-! ## the text of a mark -/
theorem markText_ev (x : Int) (hx : x ≤ 100000000) : ∃ t, Ev (fun k => laws_markText.f k x) t := by
  have key : ∀ (m : Nat) (x : Int) (t : ByteArray), x ≤ m → (t.size : Int) + x ≤ 1000000000 → t.size ≤ 1000000000 → ∃ r, Ev (fun k => laws_markText.l0 k x t) r := by
    intro m
    induction m with
    | zero =>
      intro x t h1 h2 h3
      refine ⟨(⟨#[109]⟩ : ByteArray) ++ t, Ev.up ?_⟩
      simp only [laws_markText.l0]
      exact Ev.neg (by omega) (Ev.pos (by omega) (Ev.now _))
    | succ m ih =>
      intro x t h1 h2 h3
      by_cases hp : x > 0
      · have hd : Int.tdiv x 10 = x / 10 := Int.tdiv_eq_ediv_of_nonneg (by omega)
        have hw : wrap64 (x / 10) = x / 10 := w64 (by omega) (by omega)
        have hs : (strOfNums [(wrap64 (48 + (Int.tmod x 10))) % 256]).size = 1 := by simp [strOfNums, ByteArray.size]
        have hsz : (strOfNums [(wrap64 (48 + (Int.tmod x 10))) % 256] ++ t).size = 1 + t.size := by rw [ByteArray.size_append, hs]
        obtain ⟨r, hr⟩ := ih (x / 10) (strOfNums [(wrap64 (48 + (Int.tmod x 10))) % 256] ++ t) (by omega) (by rw [hsz]; omega) (by rw [hsz]; omega)
        refine ⟨r, Ev.up ?_⟩
        simp only [laws_markText.l0, Option.bind_some, hd, hw, hs]
        exact Ev.pos hp (Ev.pos (by omega) hr)
      · refine ⟨(⟨#[109]⟩ : ByteArray) ++ t, Ev.up ?_⟩
        simp only [laws_markText.l0]
        exact Ev.neg hp (Ev.pos (by omega) (Ev.now _))
  unfold laws_markText.f
  by_cases h : x ≤ 0
  · exact ⟨_, Ev.pos h (Ev.now _)⟩
  · have hz : (⟨#[]⟩ : ByteArray).size = 0 := rfl
    obtain ⟨r, hr⟩ := key x.toNat x (⟨#[]⟩ : ByteArray) (by omega) (by omega) (by omega)
    exact ⟨r, Ev.neg h hr⟩
/-! ## marks in edits -/
noncomputable def markT (x : Int) : ByteArray := open Classical in if h : x ≤ 100000000 then (markText_ev x h).choose else (⟨#[]⟩ : ByteArray)
theorem markT_ev (x : Int) (h : x ≤ 100000000) : Ev (fun k => laws_markText.f k x) (markT x) := by
  unfold markT
  rw [dif_pos h]
  exact (markText_ev x h).choose_spec
theorem rdE_set (xs : List S42) (i : Nat) (v : S42) (h : i < xs.length) : rd_T42 (xs.set i v) (i : Int) = v := by
  rw [rdE _ _ (by simpa using h)]
  simp
noncomputable def markE (c : Int) (i : Nat) : S42 := ⟨c + 3 * (i : Int), c + 3 * (i : Int) + 1, markT (c + 3 * (i : Int) + 1 + 1)⟩
theorem markEditS_ev (l : List S42) (hl : l.length ≤ 1048576) (c : Int) (hc : 0 ≤ c) (hc2 : c ≤ 10000000) : Ev (fun k => laws_markEditS.f k l c) (c + 3 * (l.length : Int), (List.range l.length).map (markE c)) := by
  unfold laws_markEditS.f
  have key := ev_fill (L := fun k xs i => laws_markEditS.l0 k xs (c + 3 * i) i) (n := l.length) (r := (c + 3 * (l.length : Int), (List.range l.length).map (markE c))) (markE c) ?_ ?_ l rfl
  · simpa using key
  · intro i xs hi hx h
    have ht := markT_ev (c + 3 * (i : Int) + 1 + 1) (by omega)
    have hset : ∀ v, rd_T42 (xs.set i v) (i : Int) = v := fun v => rdE_set xs i v (by omega)
    have w1 : ∀ _ : Unit, wrap64 (c + 3 * (i : Int) + 1) = c + 3 * (i : Int) + 1 := fun _ => w64 (by omega) (by omega)
    have w2 : ∀ _ : Unit, wrap64 (c + 3 * (i : Int) + 1 + 1) = c + 3 * (i : Int) + 1 + 1 := fun _ => w64 (by omega) (by omega)
    have w3 : ∀ _ : Unit, wrap64 (c + 3 * (i : Int) + 1 + 1 + 1) = c + 3 * ((i : Int) + 1) := fun _ => by rw [w64] <;> omega
    have w4 : ∀ _ : Unit, wrap64 ((i : Int) + 1) = (i : Int) + 1 := fun _ => w64 (by omega) (by omega)
    refine Ev.up ?_
    simp only [laws_markEditS.l0, Option.bind_some, w1 (), w2 (), w3 (), w4 (), Int.toNat_natCast, List.set_set, hset]
    exact Ev.pos (by omega) (Ev.pos (by omega) (Ev.bind ht h))
  · refine Ev.up ?_
    simp only [laws_markEditS.l0]
    exact Ev.neg (by simp) (Ev.now _)
theorem heldEditS_ev (n : Nat) (hn : n ≤ 1048576) : Ev (fun k => laws_heldEditS.f k ((List.range n).map (markE 1)) 1) (1 + 3 * (n : Int)) := by
  have hl : ((List.range n).map (markE 1)).length = n := by simp
  have key : ∀ (d i : Nat), i + d = n → Ev (fun k => laws_heldEditS.l0 k ((List.range n).map (markE 1)) (1 + 3 * (i : Int)) i) (1 + 3 * (n : Int)) := by
    intro d
    induction d with
    | zero =>
      intro i hi
      refine Ev.up ?_
      simp only [laws_heldEditS.l0, hl]
      exact Ev.neg (by omega) (Ev.ok (by omega))
    | succ d ih =>
      intro i hi
      have hn := ih (i + 1) (by omega)
      have ht := markT_ev (1 + 3 * (i : Int) + 1 + 1) (by omega)
      have hr : rd_T42 ((List.range n).map (markE 1)) (i : Int) = markE 1 i := by
        rw [rdE _ i (by rw [hl]; omega)]
        simp
      have w1 : ∀ _ : Unit, wrap64 (1 + 3 * (i : Int) + 1) = 1 + 3 * (i : Int) + 1 := fun _ => w64 (by omega) (by omega)
      have w2 : ∀ _ : Unit, wrap64 (1 + 3 * (i : Int) + 1 + 1) = 1 + 3 * (i : Int) + 1 + 1 := fun _ => w64 (by omega) (by omega)
      have w3 : ∀ _ : Unit, wrap64 (1 + 3 * (i : Int) + 1 + 1 + 1) = 1 + 3 * ((i + 1 : Nat) : Int) := fun _ => by rw [w64] <;> omega
      have w4 : ∀ _ : Unit, wrap64 ((i : Int) + 1) = ((i + 1 : Nat) : Int) := fun _ => by rw [w64] <;> omega
      refine Ev.up ?_
      simp only [laws_heldEditS.l0, hl, hr, w1 (), w2 (), w3 (), w4 ()]
      refine Ev.pos (by omega) (Ev.pos (by omega) ?_)
      refine Ev.pos rfl ?_
      refine Ev.pos rfl ?_
      refine Ev.bind ht ?_
      have hsame : (markE 1 i).f2.toList = (markT (1 + 3 * (i : Int) + 1 + 1)).toList := by unfold markE; dsimp only
      exact Ev.pos hsame hn
  unfold laws_heldEditS.f
  have := key n 0 (by omega)
  simpa using this
/-! ## the law -/
theorem undoM_length (s : ByteArray) (l : List S42) : (undoM s l).1.length ≤ 1000 := by
  unfold undoM
  split
  · rename_i h
    have := h.2.2.1
    show (undoL s l 0).length ≤ 1000
    omega
  · simp
theorem FnExactUndoEdits (s : ByteArray) (_ : s.size ≤ maxLen) (l : List S67) (hl : l.length ≤ 9223372036854775807) (hw : ∀ e ∈ l, wfLE e) : ∃ k, laws_FnExactUndoEdits.f k s l = some true := by
  refine Ev.rounds (g := fun k => laws_FnExactUndoEdits.f k s l) ?_
  unfold laws_FnExactUndoEdits.f
  by_cases hbig : (s.size : Int) > 1048576
  · exact Ev.pos hbig (Ev.now _)
  obtain ⟨r, hr, _, hr2⟩ := szEditS_ev l 1048576 (by omega) hl hw
  refine Ev.neg hbig (Ev.bind hr ?_)
  by_cases hneg : r < 0
  · exact Ev.pos hneg (Ev.now _)
  · obtain ⟨h1, h2⟩ := hr2 (by omega)
    have ht := toEditS_ev l h1
    have hz := sizedE_of l h1 h2
    have hlm : (l.map ofL).length ≤ 1048576 := by simpa using h1
    have hul := undoM_length s (l.map ofL)
    have hi := impl_undo s (l.map ofL) (by omega) hz
    have he := eqEditS_ev (undoM s (l.map ofL)).1 (by omega)
    have hm := markEditS_ev (l.map ofL) hlm 1 (by omega) (by omega)
    have hm2 := markEditS_ev (undoM s (l.map ofL)).1 (by omega) 1 (by omega) (by omega)
    have hhe := heldEditS_ev (undoM s (l.map ofL)).1.length (by omega)
    refine Ev.neg hneg (Ev.bind ht (Ev.bind (spec_undo s _ (by omega) hz) (Ev.bind ht (Ev.bind hi (Ev.bind he ?_)))))
    refine Ev.pos rfl (Ev.up ?_)
    simp only [laws_FnExactUndoEdits.j0, bne_self_eq_false, Bool.false_eq_true, if_false]
    refine Ev.bind ht (Ev.bind (eqEditS_ev _ hlm) ?_)
    refine Ev.pos rfl (Ev.bind hm ?_)
    refine Ev.neg (by dsimp only; omega) (Ev.bind he ?_)
    refine Ev.pos rfl (Ev.up ?_)
    simp only [laws_FnExactUndoEdits.j1, Bool.false_eq_true, if_false]
    refine Ev.bind hm2 (Ev.bind hhe ?_)
    refine Ev.neg (by omega) (Ev.pos rfl (Ev.bind ht (Ev.bind hi (Ev.bind he ?_))))
    refine Ev.pos rfl (Ev.up ?_)
    simp only [laws_FnExactUndoEdits.j2, bne_self_eq_false, Bool.false_eq_true, if_false]
    exact Ev.bind hhe (Ev.neg (by omega) (Ev.pos rfl (Ev.now _)))
end Go.Proofs.Ytghkbkbommobaaa.Pure
