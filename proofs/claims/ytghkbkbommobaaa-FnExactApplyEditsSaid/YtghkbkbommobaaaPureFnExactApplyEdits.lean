/- The program's ApplyEdits returns what the reference's returns, for all arguments. Conditions: none beyond the given statement's own. -/
import Derived.Test.YtghkbkbommobaaaPx17
namespace Go.Proofs.Ytghkbkbommobaaa.Pure
open Go.RowKit Go.Proofs.Ytghkbkbommobaaa.P Go.Proofs.YtghkbkbommobaaaW.PrintWords Go.Proofs.YtghkbkbommobaaaW.PrintLast
set_option linter.unusedVariables false
set_option linter.unusedSimpArgs false
/-! ## base: rounds, loops, numbers -/
theorem w64 {x : Int} (h0 : -9223372036854775808 ≤ x) (h1 : x ≤ 9223372036854775807) : wrap64 x = x := by unfold wrap64; omega
theorem Ev.pos {α : Type} {c : Prop} [Decidable c] {A B : Nat → Option α} {r : α} (hc : c) (h : Ev A r) : Ev (fun k => if c then A k else B k) r := by simpa only [if_pos hc] using h
theorem Ev.neg {α : Type} {c : Prop} [Decidable c] {A B : Nat → Option α} {r : α} (hc : ¬ c) (h : Ev B r) : Ev (fun k => if c then A k else B k) r := by simpa only [if_neg hc] using h
theorem Ev.ok {α : Type} {r r' : α} (h : r = r') : Ev (fun _ => some r) r' := by subst h; exact Ev.now r
theorem Ev.eqr {α : Type} {g : Nat → Option α} {r r' : α} (h : Ev g r) (e : r = r') : Ev g r' := e ▸ h
theorem Ev.unique {α : Type} {g : Nat → Option α} {r r' : α} (h : Ev g r) (h' : Ev g r') : r = r' := by
  obtain ⟨K, h⟩ := h
  obtain ⟨K', h'⟩ := h'
  have a := h (max K K') (by omega)
  have b := h' (max K K') (by omega)
  rw [a] at b
  exact Option.some.inj b
/-- A loop over 0, 1, .. n-1 that goes on while P holds. -/
theorem ev_scan {α : Type} {L : Nat → Int → Option α} {n : Nat} {r : α} (P : Nat → Prop)
    (hs : ∀ i : Nat, i < n → P i → Ev (fun k => L k (i + 1)) r → Ev (fun k => L k i) r)
    (hf : ∀ i : Nat, i < n → (∀ j, j < i → P j) → ¬ P i → Ev (fun k => L k i) r)
    (he : (∀ j, j < n → P j) → Ev (fun k => L k n) r) : Ev (fun k => L k 0) r := by
  have key : ∀ (d i : Nat), i + d = n → (∀ j, j < i → P j) → Ev (fun k => L k i) r := by
    intro d
    induction d with
    | zero =>
      intro i hi hp
      obtain rfl : i = n := by omega
      exact he hp
    | succ d ih =>
      intro i hi hp
      by_cases h : P i
      · have h' := ih (i + 1) (by omega) (fun j hj => by
          rcases Nat.lt_succ_iff_lt_or_eq.mp hj with h1 | h1
          · exact hp j h1
          · subst h1; exact h)
        exact hs i (by omega) h h'
      · exact hf i (by omega) hp h
  exact key n 0 (by omega) (fun j hj => by omega)
theorem rdOf_nat {α : Type} (d : α) (xs : List α) (i : Nat) (h : i < xs.length) : rdOf d xs (i : Int) = xs[i] := by
  simp [rdOf, List.getD_eq_getElem?_getD, List.getElem?_eq_getElem h]
theorem Ev.up {α : Type} {g : Nat → Option α} {r : α} (h : Ev (fun k => g (k + 1)) r) : Ev g r := Ev.step (fun _ => rfl) h
theorem Ev.const {α : Type} {g : Option α} {r : α} (h : g = some r) : Ev (fun _ => g) r := by subst h; exact Ev.now r
/-- A loop that fills a list, place by place. -/
theorem ev_fill {β γ : Type} {L : Nat → List β → Int → Option γ} {n : Nat} {r : γ} (g : Nat → β)
    (hs : ∀ (i : Nat) (xs : List β), i < n → xs.length = n → Ev (fun k => L k (xs.set i (g i)) (i + 1)) r → Ev (fun k => L k xs i) r)
    (he : Ev (fun k => L k ((List.range n).map g) n) r) (init : List β) (hi : init.length = n) : Ev (fun k => L k init 0) r := by
  have key : ∀ (d i : Nat) (xs : List β), i + d = n → xs.length = n → (∀ j, j < i → xs[j]? = some (g j)) → Ev (fun k => L k xs i) r := by
    intro d
    induction d with
    | zero =>
      intro i xs hid hl hp
      obtain rfl : i = n := by omega
      have : xs = (List.range i).map g := by
        apply List.ext_getElem?
        intro j
        by_cases hj : j < i
        · rw [hp j hj]; simp [hj]
        · rw [List.getElem?_eq_none (by omega), List.getElem?_eq_none (by simp; omega)]
      rw [this]
      exact he
    | succ d ih =>
      intro i xs hid hl hp
      have h' := ih (i + 1) (xs.set i (g i)) (by omega) (by simp [hl]) (fun j hj => by
        rcases Nat.lt_succ_iff_lt_or_eq.mp hj with h1 | h1
        · rw [List.getElem?_set_ne (by omega)]; exact hp j h1
        · subst h1; rw [List.getElem?_set_self (by omega)])
      exact hs i xs (by omega) hl h'
  exact key n 0 init (by omega) hi (fun j hj => by omega)
theorem range_map_get {α : Type} (d : α) (xs : List α) : (List.range xs.length).map (fun i => rdOf d xs (i : Nat)) = xs := by
  apply List.ext_getElem?
  intro j
  by_cases hj : j < xs.length
  · simp [hj, rdOf, List.getD_eq_getElem?_getD]
  · rw [List.getElem?_eq_none (by simp; omega), List.getElem?_eq_none (by omega)]
/-! ## bounds -/
theorem spec_in (a b c : Int) : spec_l1In.f a b c = some (decide (b ≤ a ∧ a ≤ c)) := by
  unfold spec_l1In.f
  by_cases h : a ≥ b
  · rw [if_pos h]; congr 1; exact decide_eq_decide.mpr ⟨fun x => ⟨h, x⟩, fun x => x.2⟩
  · rw [if_neg h]; congr 1; exact (decide_eq_false (fun x => h x.1)).symm
theorem impl_in (a b c : Int) : impl_in.f a b c = some (decide (b ≤ a ∧ a ≤ c)) := by
  unfold impl_in.f
  by_cases h : a ≥ b
  · rw [if_pos h]; congr 1; exact decide_eq_decide.mpr ⟨fun x => ⟨h, x⟩, fun x => x.2⟩
  · rw [if_neg h]; congr 1; exact (decide_eq_false (fun x => h x.1)).symm
theorem wbt (w : ByteArray) (j : Int) : wrap64 (bt w j) = bt w j := by
  have := bt_range w j
  exact w64 (by omega) (by omega)
def sized (ws : List ByteArray) : Prop := ws.length ≤ 1099511627776 ∧ ∀ w ∈ ws, w.size ≤ 140737488355328
/-! ## TextValid -/
def textOk (s : ByteArray) : Prop := s.size ≤ 20000 ∧ ∀ j : Nat, j < s.size → bt s j = 10 ∨ (32 ≤ bt s j ∧ bt s j ≤ 126)
/-! ## TextValid -/
open Classical in
theorem impl_text (s : ByteArray) (hl : s.size ≤ 140737488355328) : Ev (fun k => impl_TextValid.f k s) (decide (textOk s)) := by
  unfold impl_TextValid.f
  refine ev_scan (L := fun k i => impl_TextValid.l0 k s i) (n := s.size) (fun j => bt s j = 10 ∨ (32 ≤ bt s j ∧ bt s j ≤ 126)) ?_ ?_ ?_
  · intro i hi hp hr
    have h1 : wrap64 ((i : Int) + 1) = i + 1 := w64 (by omega) (by omega)
    refine Ev.up ?_
    simp only [impl_TextValid.l0, wbt, h1, impl_in]
    refine Ev.pos (by omega) (Ev.pos (by omega) ?_)
    by_cases h10 : bt s (i : Nat) = 10
    · exact Ev.pos h10 hr
    · refine Ev.neg h10 ?_
      have hq : 32 ≤ bt s (i : Nat) ∧ bt s (i : Nat) ≤ 126 := by omega
      simp only [Option.bind_some, decide_eq_true hq, if_true]
      exact hr
  · intro i hi _ hp
    refine Ev.eqr ?_ (decide_eq_false (fun h : textOk s => hp (h.2 i hi))).symm
    refine Ev.up ?_
    simp only [impl_TextValid.l0, wbt, impl_in]
    refine Ev.pos (by omega) (Ev.pos (by omega) (Ev.neg (by omega) ?_))
    have hq : ¬ (32 ≤ bt s (i : Nat) ∧ bt s (i : Nat) ≤ 126) := by omega
    simp only [Option.bind_some, decide_eq_false hq, Bool.false_eq_true, if_false]
    exact Ev.now _
  · intro hall
    refine Ev.up ?_
    simp only [impl_TextValid.l0]
    refine Ev.neg (by omega) (Ev.ok ?_)
    exact decide_eq_decide.mpr ⟨fun h => ⟨by omega, hall⟩, fun h => by have := h.1; omega⟩
/-! ## TextValid -/
open Classical in
theorem spec_text (s : ByteArray) (hl : s.size ≤ 140737488355328) : Ev (fun k => spec_TextValid.f k s) (decide (textOk s)) := by
  unfold spec_TextValid.f
  refine ev_scan (L := fun k i => spec_TextValid.l0 k s i) (n := s.size) (fun j => bt s j = 10 ∨ (32 ≤ bt s j ∧ bt s j ≤ 126)) ?_ ?_ ?_
  · intro i hi hp hr
    have h1 : wrap64 ((i : Int) + 1) = i + 1 := w64 (by omega) (by omega)
    refine Ev.up ?_
    simp only [spec_TextValid.l0, wbt, h1, spec_in]
    refine Ev.pos (by omega) (Ev.pos (by omega) ?_)
    by_cases h10 : bt s (i : Nat) = 10
    · exact Ev.pos h10 hr
    · refine Ev.neg h10 ?_
      have hq : 32 ≤ bt s (i : Nat) ∧ bt s (i : Nat) ≤ 126 := by omega
      simp only [Option.bind_some, decide_eq_true hq, if_true]
      exact hr
  · intro i hi _ hp
    refine Ev.eqr ?_ (decide_eq_false (fun h : textOk s => hp (h.2 i hi))).symm
    refine Ev.up ?_
    simp only [spec_TextValid.l0, wbt, spec_in]
    refine Ev.pos (by omega) (Ev.pos (by omega) (Ev.neg (by omega) ?_))
    have hq : ¬ (32 ≤ bt s (i : Nat) ∧ bt s (i : Nat) ≤ 126) := by omega
    simp only [Option.bind_some, decide_eq_false hq, Bool.false_eq_true, if_false]
    exact Ev.now _
  · intro hall
    refine Ev.up ?_
    simp only [spec_TextValid.l0]
    refine Ev.neg (by omega) (Ev.ok ?_)
    exact decide_eq_decide.mpr ⟨fun h => ⟨by omega, hall⟩, fun h => by have := h.1; omega⟩
/-! ## EditsValid: both are the same condition -/
def editOk (s : ByteArray) (e : S42) : Prop := (0 ≤ e.f1 ∧ e.f1 ≤ (s.size : Int)) ∧ (0 ≤ e.f0 ∧ e.f0 ≤ e.f1) ∧ textOk e.f2
def apartOk (l : List S42) (i : Nat) : Prop := 0 < i → ¬ (rd_T42 l i).f0 < (rd_T42 l ((i : Int) - 1)).f1 ∧ ¬ (rd_T42 l i).f0 = (rd_T42 l ((i : Int) - 1)).f0
def editsOk (s : ByteArray) (l : List S42) : Prop := textOk s ∧ l.length ≤ 20 ∧ ∀ i : Nat, i < l.length → editOk s (rd_T42 l i) ∧ apartOk l i
def sizedE (l : List S42) : Prop := l.length ≤ 1099511627776 ∧ ∀ e ∈ l, e.f2.size ≤ 140737488355328
theorem rdE (l : List S42) (i : Nat) (h : i < l.length) : rd_T42 l (i : Int) = l[i] := by
  simp [rd_T42, List.getD_eq_getElem?_getD, List.getElem?_eq_getElem h]
open Classical in
theorem spec_edits (s : ByteArray) (l : List S42) (hs : s.size ≤ 140737488355328) (hl : sizedE l) : Ev (fun k => spec_EditsValid.f k s l) (decide (editsOk s l)) := by
  have hlen := hl.1
  unfold spec_EditsValid.f
  refine ev_scan (L := fun k i => spec_EditsValid.l0 k s l i) (n := l.length) (fun i => editOk s (rd_T42 l i) ∧ apartOk l i) ?_ ?_ ?_
  · intro i hi hp hr
    have ht := spec_text (rd_T42 l i).f2 (by rw [rdE _ _ hi]; exact hl.2 _ (List.getElem_mem hi))
    have h1 : wrap64 ((i : Int) + 1) = i + 1 := w64 (by omega) (by have := hl.1; omega)
    refine Ev.up ?_
    simp only [spec_EditsValid.l0, spec_in]
    refine Ev.pos (by omega) (Ev.pos (by omega) ?_)
    simp only [Option.bind_some, decide_eq_true hp.1.1, decide_eq_true hp.1.2.1, if_true]
    refine Ev.bind ht ?_
    simp only [decide_eq_true hp.1.2.2, Bool.not_true]
    refine Ev.up ?_
    simp only [spec_EditsValid.j1, Bool.false_eq_true, if_false, h1]
    by_cases h0 : (i : Int) > 0
    · have h2 : wrap64 ((i : Int) - 1) = i - 1 := w64 (by omega) (by omega)
      have ha := hp.2 (by omega)
      simp only [h2]
      exact Ev.pos h0 (Ev.pos (by omega) (Ev.pos (by omega) (Ev.neg ha.1 (Ev.neg ha.2 hr))))
    · exact Ev.neg h0 hr
  · intro i hi _ hp
    have hno : decide (editsOk s l) = false := decide_eq_false (fun h => hp (h.2.2 i hi))
    rw [hno]
    have ht := spec_text (rd_T42 l i).f2 (by rw [rdE _ _ hi]; exact hl.2 _ (List.getElem_mem hi))
    have hj : Ev (fun k => spec_EditsValid.j1 k s l i true ((rd_T42 l i).f0) ((rd_T42 l i).f1) ((rd_T42 l i).f2)) false := by
      refine Ev.up ?_
      simp only [spec_EditsValid.j1, if_true]
      exact Ev.now _
    refine Ev.up ?_
    simp only [spec_EditsValid.l0, spec_in]
    refine Ev.pos (by omega) (Ev.pos (by omega) ?_)
    by_cases h1 : 0 ≤ (rd_T42 l i).f1 ∧ (rd_T42 l i).f1 ≤ (s.size : Int)
    · by_cases h2 : 0 ≤ (rd_T42 l i).f0 ∧ (rd_T42 l i).f0 ≤ (rd_T42 l i).f1
      · simp only [Option.bind_some, decide_eq_true h1, decide_eq_true h2, if_true]
        refine Ev.bind ht ?_
        by_cases h3 : textOk (rd_T42 l i).f2
        · have ha : ¬ apartOk l i := fun h => hp ⟨⟨h1, h2, h3⟩, h⟩
          simp only [decide_eq_true h3, Bool.not_true]
          refine Ev.up ?_
          simp only [spec_EditsValid.j1, Bool.false_eq_true, if_false]
          by_cases h0 : (i : Int) > 0
          · have h4 : wrap64 ((i : Int) - 1) = i - 1 := w64 (by omega) (by omega)
            simp only [h4]
            refine Ev.pos h0 (Ev.pos (by omega) (Ev.pos (by omega) ?_))
            by_cases ha1 : (rd_T42 l i).f0 < (rd_T42 l ((i : Int) - 1)).f1
            · exact Ev.pos ha1 (Ev.now _)
            · refine Ev.neg ha1 ?_
              by_cases ha2 : (rd_T42 l i).f0 = (rd_T42 l ((i : Int) - 1)).f0
              · exact Ev.pos ha2 (Ev.now _)
              · exact absurd (fun _ => ⟨ha1, ha2⟩) ha
          · exact absurd (fun h => absurd h (by omega)) ha
        · simp only [decide_eq_false h3, Bool.not_false]
          exact hj
      · simp only [Option.bind_some, decide_eq_true h1, decide_eq_false h2, if_true, Bool.false_eq_true, if_false]
        exact hj
    · simp only [Option.bind_some, decide_eq_false h1, Bool.false_eq_true, if_false]
      exact hj
  · intro hall
    refine Ev.up ?_
    simp only [spec_EditsValid.l0]
    refine Ev.neg (by omega) (Ev.bind (spec_text s hs) ?_)
    by_cases ht : textOk s
    · refine Ev.pos (decide_eq_true ht) (Ev.ok ?_)
      exact decide_eq_decide.mpr ⟨fun h => ⟨ht, by omega, hall⟩, fun h => by have := h.2.1; omega⟩
    · exact Ev.neg (by simp [ht]) (Ev.ok (decide_eq_false (fun h : editsOk s l => ht h.1)).symm)
open Classical in
theorem impl_edits (s : ByteArray) (l : List S42) (hs : s.size ≤ 140737488355328) (hl : sizedE l) : Ev (fun k => impl_EditsValid.f k s l) (decide (editsOk s l)) := by
  have hlen := hl.1
  unfold impl_EditsValid.f
  refine Ev.bind (impl_text s hs) ?_
  by_cases ht : textOk s
  · refine Ev.pos (decide_eq_true ht) ?_
    by_cases h20 : (l.length : Int) > 20
    · have hno : decide (editsOk s l) = false := decide_eq_false (fun h => by have := h.2.1; omega)
      rw [hno]
      refine Ev.up ?_
      simp only [impl_EditsValid.j0]
      exact Ev.pos (decide_eq_true h20) (Ev.now _)
    · refine Ev.up ?_
      simp only [impl_EditsValid.j0]
      refine Ev.neg (by simpa using h20) ?_
      refine ev_scan (L := fun k i => impl_EditsValid.l0 k s l l (l.length : Int) i) (n := l.length) (fun i => editOk s (rd_T42 l i) ∧ apartOk l i) ?_ ?_ ?_
      · intro i hi hp hr
        have ht := impl_text (rd_T42 l i).f2 (by rw [rdE _ _ hi]; exact hl.2 _ (List.getElem_mem hi))
        have h1 : wrap64 ((i : Int) + 1) = i + 1 := w64 (by omega) (by have := hl.1; omega)
        refine Ev.up ?_
        simp only [impl_EditsValid.l0, impl_in]
        refine Ev.pos (by omega) (Ev.pos (by omega) (Ev.pos (by omega) ?_))
        simp only [Option.bind_some, decide_eq_true hp.1.1, decide_eq_true hp.1.2.1, if_true]
        refine Ev.bind ht ?_
        simp only [decide_eq_true hp.1.2.2, Bool.not_true]
        refine Ev.up ?_
        simp only [impl_EditsValid.j2, Bool.false_eq_true, if_false, h1]
        by_cases h0 : (i : Int) > 0
        · have h2 : wrap64 ((i : Int) - 1) = i - 1 := w64 (by omega) (by omega)
          have ha := hp.2 (by omega)
          simp only [h2]
          exact Ev.pos h0 (Ev.pos (by omega) (Ev.pos (by omega) (Ev.neg ha.1 (Ev.neg ha.2 hr))))
        · exact Ev.neg h0 hr
      · intro i hi _ hp
        have hno : decide (editsOk s l) = false := decide_eq_false (fun h => hp (h.2.2 i hi))
        rw [hno]
        have ht := impl_text (rd_T42 l i).f2 (by rw [rdE _ _ hi]; exact hl.2 _ (List.getElem_mem hi))
        have hj : Ev (fun k => impl_EditsValid.j2 k s l i l (l.length : Int) i true ((rd_T42 l i).f0) ((rd_T42 l i).f1) ((rd_T42 l i).f2)) false := by
          refine Ev.up ?_
          simp only [impl_EditsValid.j2, if_true]
          exact Ev.now _
        refine Ev.up ?_
        simp only [impl_EditsValid.l0, impl_in]
        refine Ev.pos (by omega) (Ev.pos (by omega) (Ev.pos (by omega) ?_))
        by_cases h1 : 0 ≤ (rd_T42 l i).f1 ∧ (rd_T42 l i).f1 ≤ (s.size : Int)
        · by_cases h2 : 0 ≤ (rd_T42 l i).f0 ∧ (rd_T42 l i).f0 ≤ (rd_T42 l i).f1
          · simp only [Option.bind_some, decide_eq_true h1, decide_eq_true h2, if_true]
            refine Ev.bind ht ?_
            by_cases h3 : textOk (rd_T42 l i).f2
            · have ha : ¬ apartOk l i := fun h => hp ⟨⟨h1, h2, h3⟩, h⟩
              simp only [decide_eq_true h3, Bool.not_true]
              refine Ev.up ?_
              simp only [impl_EditsValid.j2, Bool.false_eq_true, if_false]
              by_cases h0 : (i : Int) > 0
              · have h4 : wrap64 ((i : Int) - 1) = i - 1 := w64 (by omega) (by omega)
                simp only [h4]
                refine Ev.pos h0 (Ev.pos (by omega) (Ev.pos (by omega) ?_))
                by_cases ha1 : (rd_T42 l i).f0 < (rd_T42 l ((i : Int) - 1)).f1
                · exact Ev.pos ha1 (Ev.now _)
                · refine Ev.neg ha1 ?_
                  by_cases ha2 : (rd_T42 l i).f0 = (rd_T42 l ((i : Int) - 1)).f0
                  · exact Ev.pos ha2 (Ev.now _)
                  · exact absurd (fun _ => ⟨ha1, ha2⟩) ha
              · exact absurd (fun h => absurd h (by omega)) ha
            · simp only [decide_eq_false h3, Bool.not_false]
              exact hj
          · simp only [Option.bind_some, decide_eq_true h1, decide_eq_false h2, if_true, Bool.false_eq_true, if_false]
            exact hj
        · simp only [Option.bind_some, decide_eq_false h1, Bool.false_eq_true, if_false]
          exact hj
      · intro hall
        refine Ev.up ?_
        simp only [impl_EditsValid.l0]
        exact Ev.neg (by omega) (Ev.ok (decide_eq_true (show editsOk s l from ⟨ht, by omega, hall⟩)).symm)
  · have hno : decide (editsOk s l) = false := decide_eq_false (fun h => ht h.1)
    rw [hno]
    refine Ev.neg (by simp [ht]) (Ev.up ?_)
    simp only [impl_EditsValid.j0, if_true]
    exact Ev.now _
/-! ## the law's own helpers on []Edit -/
/-- What came in, field by field. -/
def wfLE (e : S67) : Prop := (Lit.int .i64 e.f0).wf = true ∧ (Lit.int .i64 e.f1).wf = true ∧ e.f2.size ≤ 9223372036854775807
def ofL (e : S67) : S42 := ⟨e.f0, e.f1, e.f2⟩
theorem rdLE (l : List S67) (i : Nat) (h : i < l.length) : rd_T67 l (i : Int) = l[i] := by
  simp [rd_T67, List.getD_eq_getElem?_getD, List.getElem?_eq_getElem h]
theorem toEditS_ev (l : List S67) (hl : l.length ≤ 1048576) : Ev (fun k => laws_toEditS.f k l) (l.map ofL) := by
  unfold laws_toEditS.f
  refine Ev.pos (by omega) (Ev.pos (by omega) ?_)
  refine ev_fill (L := fun k xs i => laws_toEditS.l0 k l xs i) (n := l.length) (fun i => ofL (rd_T67 l (i : Nat))) ?_ ?_ _ (by simp)
  · intro i xs hi hx h
    have h1 : wrap64 ((i : Int) + 1) = i + 1 := w64 (by omega) (by omega)
    refine Ev.up ?_
    simp only [laws_toEditS.l0, laws_toEdit.f, Option.bind_some, h1]
    exact Ev.pos (by omega) (Ev.pos (by omega) (Ev.pos (by omega) h))
  · refine Ev.up ?_
    simp only [laws_toEditS.l0]
    refine Ev.neg (by omega) (Ev.ok ?_)
    apply List.ext_getElem?
    intro j
    by_cases hj : j < l.length
    · simp [hj, rdLE _ _ hj]
    · rw [List.getElem?_eq_none (by simp; omega), List.getElem?_eq_none (by simp; omega)]
theorem eqEditS_ev (l : List S42) (hl : l.length ≤ 1048576) : Ev (fun k => laws_eqEditS.f k l l) true := by
  unfold laws_eqEditS.f
  refine Ev.pos rfl ?_
  refine ev_scan (L := fun k i => laws_eqEditS.l0 k l l i) (n := l.length) (fun _ => True) ?_ (fun i _ _ h => absurd trivial h) ?_
  · intro i hi _ h
    have h1 : wrap64 ((i : Int) + 1) = i + 1 := w64 (by omega) (by omega)
    refine Ev.up ?_
    simp only [laws_eqEditS.l0, laws_eqEdit.f, h1, if_true, Option.bind_some]
    exact Ev.pos (by omega) (Ev.pos (by omega) (Ev.pos (by omega) h))
  · intro _
    refine Ev.up ?_
    simp only [laws_eqEditS.l0]
    exact Ev.neg (by omega) (Ev.now _)
theorem szEditS_ev (l : List S67) (left : Int) (hleft : 0 ≤ left ∧ left ≤ 1048576) (hl : l.length ≤ 9223372036854775807) (hw : ∀ e ∈ l, wfLE e) :
    ∃ r, Ev (fun k => laws_szEditS.f k l left) r ∧ r ≤ left ∧ (0 ≤ r → l.length ≤ 1048576 ∧ ∀ e ∈ l, e.f2.size ≤ 1048576) := by
  unfold laws_szEditS.f
  have h0 : wrap64 (left - (l.length : Int)) = left - l.length := w64 (by omega) (by omega)
  rw [h0]
  by_cases hneg : left - (l.length : Int) < 0
  · exact ⟨-1, Ev.pos hneg (Ev.now _), by omega, by omega⟩
  · have key : ∀ (d i : Nat) (x1 : Int), i + d = l.length → 0 ≤ x1 → x1 ≤ left → (∀ j (h : j < i) (h2 : j < l.length), (l[j]).f2.size ≤ 1048576) →
        ∃ r, Ev (fun k => laws_szEditS.l0 k l x1 i) r ∧ r ≤ left ∧ (0 ≤ r → ∀ e ∈ l, e.f2.size ≤ 1048576) := by
      intro d
      induction d with
      | zero =>
        intro i x1 hi h0 h1 hp
        refine ⟨x1, Ev.up ?_, h1, fun _ w hw' => ?_⟩
        · simp only [laws_szEditS.l0]
          exact Ev.neg (by omega) (Ev.now _)
        · obtain ⟨j, hj, rfl⟩ := List.mem_iff_getElem.mp hw'
          exact hp j (by omega) hj
      | succ d ih =>
        intro i x1 hi h0 h1 hp
        have hlt : i < l.length := by omega
        have hs := (hw _ (List.getElem_mem hlt)).2.2
        have h2 : wrap64 ((i : Int) + 1) = i + 1 := w64 (by omega) (by omega)
        have h3 : wrap64 (x1 - ((l[i]).f2.size : Int)) = x1 - (l[i]).f2.size := w64 (by omega) (by omega)
        by_cases hn : x1 - ((l[i]).f2.size : Int) < 0
        · refine ⟨-1, Ev.up ?_, by omega, by omega⟩
          simp only [laws_szEditS.l0, laws_szEdit.f, rdLE _ _ hlt, h3]
          refine Ev.pos (by omega) (Ev.pos (by omega) ?_)
          simp only [if_pos hn, Option.bind_some]
          exact Ev.pos (by omega) (Ev.now _)
        · obtain ⟨r, hr, hr2⟩ := ih (i + 1) (x1 - ((l[i]).f2.size : Int)) (by omega) (by omega) (by omega) (fun j hj hj2 => by
            rcases Nat.lt_succ_iff_lt_or_eq.mp hj with h4 | h4
            · exact hp j h4 hj2
            · subst h4; omega)
          refine ⟨r, Ev.up ?_, hr2⟩
          simp only [laws_szEditS.l0, laws_szEdit.f, rdLE _ _ hlt, h3, h2]
          refine Ev.pos (by omega) (Ev.pos (by omega) ?_)
          simp only [if_neg hn, Option.bind_some]
          exact hr
    obtain ⟨r, hr, hr1, hr2⟩ := key l.length 0 (left - l.length) (by omega) (by omega) (by omega) (fun j hj => by omega)
    exact ⟨r, Ev.neg hneg hr, hr1, fun h => ⟨by omega, hr2 h⟩⟩
/-- What came in and is not too much. -/
theorem sizedE_of (l : List S67) (h1 : l.length ≤ 1048576) (h2 : ∀ e ∈ l, e.f2.size ≤ 1048576) : sizedE (l.map ofL) :=
  ⟨by simp; omega, fun e he => by
    obtain ⟨x, hx, rfl⟩ := List.mem_map.mp he
    have := h2 x hx
    show x.f2.size ≤ _
    omega⟩
/-! ## ApplyEdits: both are the same text -/
def L (s : ByteArray) : List UInt8 := s.data.toList
def mk (b : List UInt8) : ByteArray := ⟨b.toArray⟩
theorem L_mk (b : List UInt8) : L (mk b) = b := by simp [L, mk]
theorem mk_L (s : ByteArray) : mk (L s) = s := by cases s; simp [L, mk]
theorem L_inj {s t : ByteArray} (h : L s = L t) : s = t := by rw [← mk_L s, h, mk_L]
theorem L_append (s t : ByteArray) : L (s ++ t) = L s ++ L t := by simp [L, ByteArray.data_append]
theorem L_length (s : ByteArray) : (L s).length = s.size := by cases s; simp [L, ByteArray.size]
theorem L_extract (s : ByteArray) (a b : Nat) : L (s.extract a b) = ((L s).take b).drop a := by
  simp [L, ByteArray.data_extract, List.drop_take]
/-- What the edits make of the text from a place on. -/
def appL (s : List UInt8) : List S42 → Nat → List UInt8
  | [], at_ => s.drop at_
  | e :: r, at_ => (s.take e.f0.toNat).drop at_ ++ L e.f2 ++ appL s r e.f1.toNat
/-- Edits that stand one behind the other from a place on. -/
def Chain (n : Nat) : List S42 → Nat → Prop
  | [], at_ => at_ ≤ n
  | e :: r, at_ => (at_ : Int) ≤ e.f0 ∧ e.f0 ≤ e.f1 ∧ e.f1 ≤ (n : Int) ∧ Chain n r e.f1.toNat
theorem chain_drop {s : ByteArray} {l : List S42} (h : editsOk s l) : ∀ (d i : Nat), i + d = l.length → Chain s.size (l.drop i) (if i = 0 then 0 else (rd_T42 l ((i : Int) - 1)).f1.toNat) := by
  intro d
  induction d with
  | zero =>
    intro i hi
    rw [List.drop_of_length_le (by omega)]
    by_cases h0 : i = 0
    · simp [h0, Chain]
    · rw [if_neg h0]
      have e1 : ((i : Int) - 1) = ((i - 1 : Nat) : Int) := by omega
      have hp := (h.2.2 (i - 1) (by omega)).1.1
      rw [e1]
      show (rd_T42 l ((i - 1 : Nat) : Int)).f1.toNat ≤ s.size
      omega
  | succ d ih =>
    intro i hi
    have hlt : i < l.length := by omega
    have h1 := h.2.2 i hlt
    have hn := ih (i + 1) (by omega)
    rw [List.drop_eq_getElem_cons hlt, ← rdE l i hlt]
    have e2 : (((i + 1 : Nat) : Int) - 1) = (i : Int) := by omega
    rw [if_neg (by omega), e2] at hn
    refine ⟨?_, h1.1.2.1.2, h1.1.1.2, hn⟩
    by_cases h0 : i = 0
    · rw [if_pos h0]; exact h1.1.2.1.1
    · rw [if_neg h0]
      have ha := (h1.2 (by omega)).1
      have e1 : ((i : Int) - 1) = ((i - 1 : Nat) : Int) := by omega
      have hp := (h.2.2 (i - 1) (by omega)).1.1.1
      rw [e1] at ha ⊢
      omega
theorem chain_of {s : ByteArray} {l : List S42} (h : editsOk s l) : Chain s.size l 0 := by
  have := chain_drop h l.length 0 (by omega)
  simpa using this
theorem Chain.le {n : Nat} : ∀ {l : List S42} {at_ : Nat}, Chain n l at_ → at_ ≤ n
  | [], _, h => h
  | e :: r, at_, h => by have h1 := h.1; have h2 := h.2.1; have h3 := h.2.2.1; omega
/-- The result and whether it is a text. -/
noncomputable def fin (b : List UInt8) : ByteArray × Bool := open Classical in if textOk (mk b) then (mk b, true) else ((⟨#[]⟩ : ByteArray), false)
noncomputable def applyM (s : ByteArray) (l : List S42) : ByteArray × Bool := open Classical in if editsOk s l then fin (appL (L s) l 0) else ((⟨#[]⟩ : ByteArray), false)
theorem size_of_L {s : ByteArray} {b : List UInt8} (h : L s = b) : s.size = b.length := by rw [← h, L_length]
theorem impl_apply_loop (s : ByteArray) (l : List S42) (hok : editsOk s l) (d : Nat) : ∀ (i : Nat) (acc : ByteArray) (at_ : Nat), i + d = l.length → Chain s.size (l.drop i) at_ → acc.size ≤ i * 50000 →
    Ev (fun k => impl_ApplyEdits.l0 k s l acc at_ i) (fin (L acc ++ appL (L s) (l.drop i) at_)) := by
  have hs : s.size ≤ 20000 := hok.1.1
  have hl : l.length ≤ 20 := hok.2.1
  induction d with
  | zero =>
    intro i acc at_ hi hc ha
    rw [List.drop_of_length_le (by omega)] at hc ⊢
    have hat : at_ ≤ s.size := hc
    have hx : L (acc ++ s.extract at_ s.size) = L acc ++ appL (L s) [] at_ := by
      rw [L_append, L_extract, appL, List.take_of_length_le (by rw [L_length]; exact Nat.le_refl _)]
    have hm : acc ++ s.extract at_ s.size = mk (L acc ++ appL (L s) [] at_) := by rw [← hx, mk_L]
    refine Ev.up ?_
    simp only [impl_ApplyEdits.l0]
    refine Ev.neg (by omega) (Ev.up ?_)
    simp only [impl_ApplyEdits.e0, Int.toNat_natCast]
    refine Ev.pos (by omega) (Ev.pos (by omega) (Ev.pos (by rw [ByteArray.size_extract]; omega) ?_))
    have ht := impl_text (acc ++ s.extract at_ s.size) (by rw [ByteArray.size_append, ByteArray.size_extract]; omega)
    refine Ev.bind ht ?_
    rw [hm]
    unfold fin
    by_cases h : textOk (mk (L acc ++ appL (L s) [] at_))
    · rw [if_pos h]; exact Ev.pos (by simp [h]) (Ev.now _)
    · rw [if_neg h]; exact Ev.neg (by simp [h]) (Ev.now _)
  | succ d ih =>
    intro i acc at_ hi hc ha
    have hlt : i < l.length := by omega
    have h1 := (hok.2.2 i hlt).1
    rw [List.drop_eq_getElem_cons hlt, ← rdE l i hlt] at hc ⊢
    obtain ⟨c1, c2, c3, c4⟩ := hc
    have h2 : wrap64 ((i : Int) + 1) = ((i + 1 : Nat) : Int) := by rw [w64] <;> omega
    have hf2 : (rd_T42 l i).f2.size ≤ 20000 := h1.2.2.1
    have hsz : (acc ++ (s.extract at_ (rd_T42 l i).f0.toNat ++ (rd_T42 l i).f2)).size ≤ (i + 1) * 50000 := by
      rw [ByteArray.size_append, ByteArray.size_append, ByteArray.size_extract]; omega
    have hn := ih (i + 1) (acc ++ (s.extract at_ (rd_T42 l i).f0.toNat ++ (rd_T42 l i).f2)) (rd_T42 l i).f1.toNat (by omega) c4 hsz
    have e1 : L (acc ++ (s.extract at_ (rd_T42 l i).f0.toNat ++ (rd_T42 l i).f2)) ++ appL (L s) (l.drop (i + 1)) (rd_T42 l i).f1.toNat = L acc ++ appL (L s) (rd_T42 l i :: l.drop (i + 1)) at_ := by
      rw [L_append, L_append, L_extract, appL]; simp only [List.append_assoc]
    rw [e1] at hn
    refine Ev.up ?_
    simp only [impl_ApplyEdits.l0, Int.toNat_natCast, h2]
    have e2 : (((rd_T42 l i).f1.toNat : Nat) : Int) = (rd_T42 l i).f1 := by omega
    rw [e2] at hn
    refine Ev.pos (by omega) (Ev.pos (by omega) (Ev.pos (by omega) (Ev.pos c1 (Ev.pos (by omega) (Ev.pos ?_ (Ev.pos ?_ hn))))))
    · rw [ByteArray.size_extract]; omega
    · rw [ByteArray.size_append] at hsz; omega
theorem impl_apply (s : ByteArray) (l : List S42) (hs : s.size ≤ 140737488355328) (hl : sizedE l) : Ev (fun k => impl_ApplyEdits.f k s l) (applyM s l) := by
  unfold impl_ApplyEdits.f applyM
  refine Ev.bind (impl_edits s l hs hl) ?_
  by_cases h : editsOk s l
  · rw [if_pos h]
    have hz : (⟨#[]⟩ : ByteArray).size = 0 := rfl
    have h2 := impl_apply_loop s l h l.length 0 (⟨#[]⟩ : ByteArray) 0 (by omega) (by simpa using chain_of h) (by omega)
    have e : L (⟨#[]⟩ : ByteArray) = [] := rfl
    rw [e] at h2
    simp only [List.drop_zero, List.nil_append] at h2
    exact Ev.pos (by simp [h]) h2
  · rw [if_neg h]
    exact Ev.neg (by simp [h]) (Ev.now _)
theorem spec_apply_loop (s : ByteArray) (l : List S42) (hok : editsOk s l) (d : Nat) : ∀ (i : Nat) (acc : ByteArray) (at_ : Nat), i + d = l.length → Chain s.size (l.drop i) at_ → acc.size ≤ i * 50000 →
    Ev (fun k => spec_ApplyEdits.l0 k s l acc at_ i) (fin (L acc ++ appL (L s) (l.drop i) at_)) := by
  have hs : s.size ≤ 20000 := hok.1.1
  have hl : l.length ≤ 20 := hok.2.1
  induction d with
  | zero =>
    intro i acc at_ hi hc ha
    rw [List.drop_of_length_le (by omega)] at hc ⊢
    have hat : at_ ≤ s.size := hc
    have hx : L (acc ++ s.extract at_ s.size) = L acc ++ appL (L s) [] at_ := by
      rw [L_append, L_extract, appL, List.take_of_length_le (by rw [L_length]; exact Nat.le_refl _)]
    have hm : acc ++ s.extract at_ s.size = mk (L acc ++ appL (L s) [] at_) := by rw [← hx, mk_L]
    refine Ev.up ?_
    simp only [spec_ApplyEdits.l0, Int.toNat_natCast]
    refine Ev.neg (by omega) (Ev.pos (by omega) (Ev.pos (by omega) (Ev.pos (by rw [ByteArray.size_extract]; omega) ?_)))
    have ht := spec_text (acc ++ s.extract at_ s.size) (by rw [ByteArray.size_append, ByteArray.size_extract]; omega)
    refine Ev.bind ht ?_
    rw [hm]
    unfold fin
    by_cases h : textOk (mk (L acc ++ appL (L s) [] at_))
    · rw [if_pos h]; exact Ev.pos (by simp [h]) (Ev.now _)
    · rw [if_neg h]; exact Ev.neg (by simp [h]) (Ev.now _)
  | succ d ih =>
    intro i acc at_ hi hc ha
    have hlt : i < l.length := by omega
    have h1 := (hok.2.2 i hlt).1
    rw [List.drop_eq_getElem_cons hlt, ← rdE l i hlt] at hc ⊢
    obtain ⟨c1, c2, c3, c4⟩ := hc
    have h2 : wrap64 ((i : Int) + 1) = ((i + 1 : Nat) : Int) := by rw [w64] <;> omega
    have hf2 : (rd_T42 l i).f2.size ≤ 20000 := h1.2.2.1
    have hsz : (acc ++ s.extract at_ (rd_T42 l i).f0.toNat ++ (rd_T42 l i).f2).size ≤ (i + 1) * 50000 := by
      rw [ByteArray.size_append, ByteArray.size_append, ByteArray.size_extract]; omega
    have hn := ih (i + 1) (acc ++ s.extract at_ (rd_T42 l i).f0.toNat ++ (rd_T42 l i).f2) (rd_T42 l i).f1.toNat (by omega) c4 hsz
    have e1 : L (acc ++ s.extract at_ (rd_T42 l i).f0.toNat ++ (rd_T42 l i).f2) ++ appL (L s) (l.drop (i + 1)) (rd_T42 l i).f1.toNat = L acc ++ appL (L s) (rd_T42 l i :: l.drop (i + 1)) at_ := by
      rw [L_append, L_append, L_extract, appL]; simp only [List.append_assoc]
    rw [e1] at hn
    refine Ev.up ?_
    simp only [spec_ApplyEdits.l0, Int.toNat_natCast, h2]
    have e2 : (((rd_T42 l i).f1.toNat : Nat) : Int) = (rd_T42 l i).f1 := by omega
    rw [e2] at hn
    refine Ev.pos (by omega) (Ev.pos (by omega) (Ev.pos (by omega) (Ev.pos c1 (Ev.pos (by omega) (Ev.pos ?_ (Ev.pos ?_ hn))))))
    · rw [ByteArray.size_extract]; omega
    · rw [ByteArray.size_append] at hsz; omega
theorem spec_apply (s : ByteArray) (l : List S42) (hs : s.size ≤ 140737488355328) (hl : sizedE l) : Ev (fun k => spec_ApplyEdits.f k s l) (applyM s l) := by
  unfold spec_ApplyEdits.f applyM
  refine Ev.bind (spec_edits s l hs hl) ?_
  by_cases h : editsOk s l
  · rw [if_pos h]
    have hz : (⟨#[]⟩ : ByteArray).size = 0 := rfl
    have h2 := spec_apply_loop s l h l.length 0 (⟨#[]⟩ : ByteArray) 0 (by omega) (by simpa using chain_of h) (by omega)
    have e : L (⟨#[]⟩ : ByteArray) = [] := rfl
    rw [e] at h2
    simp only [List.drop_zero, List.nil_append] at h2
    exact Ev.pos (by simp [h]) h2
  · rw [if_neg h]
    exact Ev.neg (by simp [h]) (Ev.now _)
/-! ## the law -/
theorem FnExactApplyEdits (s : ByteArray) (_ : s.size ≤ maxLen) (l : List S67) (hl : l.length ≤ 9223372036854775807) (hw : ∀ e ∈ l, wfLE e) : ∃ k, laws_FnExactApplyEdits.f k s l = some true := by
  refine Ev.rounds (g := fun k => laws_FnExactApplyEdits.f k s l) ?_
  unfold laws_FnExactApplyEdits.f
  by_cases hbig : (s.size : Int) > 1048576
  · exact Ev.pos hbig (Ev.now _)
  obtain ⟨r, hr, _, hr2⟩ := szEditS_ev l 1048576 (by omega) hl hw
  refine Ev.neg hbig (Ev.bind hr ?_)
  by_cases hneg : r < 0
  · exact Ev.pos hneg (Ev.now _)
  · obtain ⟨h1, h2⟩ := hr2 (by omega)
    have ht := toEditS_ev l h1
    have hz := sizedE_of l h1 h2
    refine Ev.neg hneg (Ev.bind ht (Ev.bind (spec_apply s _ (by omega) hz) (Ev.bind ht (Ev.bind (impl_apply s _ (by omega) hz) ?_))))
    refine Ev.pos rfl (Ev.up ?_)
    simp only [laws_FnExactApplyEdits.j0, bne_self_eq_false, Bool.false_eq_true, if_false]
    exact Ev.bind ht (Ev.bind (eqEditS_ev _ (by simpa using h1)) (Ev.pos rfl (Ev.now _)))
end Go.Proofs.Ytghkbkbommobaaa.Pure
