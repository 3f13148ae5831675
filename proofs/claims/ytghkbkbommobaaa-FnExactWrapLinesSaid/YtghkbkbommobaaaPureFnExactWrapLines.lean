/- The law FnExactWrapLines answers true for all arguments: the program's WrapLines returns what the reference's returns, and in new memory. Conditions: none beyond the given statement's own. -/
import Derived.Test.YtghkbkbommobaaaPx25
namespace Go.Proofs.Ytghkbkbommobaaa.Pure
open Go.RowKit Go.Proofs.Ytghkbkbommobaaa.P Go.Proofs.YtghkbkbommobaaaW.PrintWords Go.Proofs.YtghkbkbommobaaaW.PrintLast
set_option linter.unusedVariables false
set_option linter.unusedSimpArgs false
/-! ## base: rounds, loops, numbers -/
theorem w64 {x : Int} (h0 : -9223372036854775808 ≤ x) (h1 : x ≤ 9223372036854775807) : wrap64 x = x := by unfold wrap64; omega
theorem Ev.pos {α : Type} {c : Prop} [Decidable c] {A B : Nat → Option α} {r : α} (hc : c) (h : Ev A r) : Ev (fun k => if c then A k else B k) r := by simpa only [if_pos hc] using h
theorem Ev.neg {α : Type} {c : Prop} [Decidable c] {A B : Nat → Option α} {r : α} (hc : ¬ c) (h : Ev B r) : Ev (fun k => if c then A k else B k) r := by simpa only [if_neg hc] using h
theorem Ev.ok {α : Type} {r r' : α} (h : r = r') : Ev (fun _ => some r) r' := by subst h; exact Ev.now r
theorem Ev.eqr {α : Type} {g : Nat → Option α} {r r' : α} (h : Ev g r) (e : r = r') : Ev g r' := e ▸ h
theorem Ev.unique {α : Type} {g : Nat → Option α} {r r' : α} (h : Ev g r) (h' : Ev g r') : r = r' := by
  obtain ⟨K, h⟩ := h
  obtain ⟨K', h'⟩ := h'
  have a := h (max K K') (by omega)
  have b := h' (max K K') (by omega)
  rw [a] at b
  exact Option.some.inj b
/-- A loop over 0, 1, .. n-1 that goes on while P holds. -/
theorem ev_scan {α : Type} {L : Nat → Int → Option α} {n : Nat} {r : α} (P : Nat → Prop)
    (hs : ∀ i : Nat, i < n → P i → Ev (fun k => L k (i + 1)) r → Ev (fun k => L k i) r)
    (hf : ∀ i : Nat, i < n → (∀ j, j < i → P j) → ¬ P i → Ev (fun k => L k i) r)
    (he : (∀ j, j < n → P j) → Ev (fun k => L k n) r) : Ev (fun k => L k 0) r := by
  have key : ∀ (d i : Nat), i + d = n → (∀ j, j < i → P j) → Ev (fun k => L k i) r := by
    intro d
    induction d with
    | zero =>
      intro i hi hp
      obtain rfl : i = n := by omega
      exact he hp
    | succ d ih =>
      intro i hi hp
      by_cases h : P i
      · have h' := ih (i + 1) (by omega) (fun j hj => by
          rcases Nat.lt_succ_iff_lt_or_eq.mp hj with h1 | h1
          · exact hp j h1
          · subst h1; exact h)
        exact hs i (by omega) h h'
      · exact hf i (by omega) hp h
  exact key n 0 (by omega) (fun j hj => by omega)
theorem rdOf_nat {α : Type} (d : α) (xs : List α) (i : Nat) (h : i < xs.length) : rdOf d xs (i : Int) = xs[i] := by
  simp [rdOf, List.getD_eq_getElem?_getD, List.getElem?_eq_getElem h]
theorem Ev.up {α : Type} {g : Nat → Option α} {r : α} (h : Ev (fun k => g (k + 1)) r) : Ev g r := Ev.step (fun _ => rfl) h
theorem Ev.const {α : Type} {g : Option α} {r : α} (h : g = some r) : Ev (fun _ => g) r := by subst h; exact Ev.now r
/-- A loop that fills a list, place by place. -/
theorem ev_fill {β γ : Type} {L : Nat → List β → Int → Option γ} {n : Nat} {r : γ} (g : Nat → β)
    (hs : ∀ (i : Nat) (xs : List β), i < n → xs.length = n → Ev (fun k => L k (xs.set i (g i)) (i + 1)) r → Ev (fun k => L k xs i) r)
    (he : Ev (fun k => L k ((List.range n).map g) n) r) (init : List β) (hi : init.length = n) : Ev (fun k => L k init 0) r := by
  have key : ∀ (d i : Nat) (xs : List β), i + d = n → xs.length = n → (∀ j, j < i → xs[j]? = some (g j)) → Ev (fun k => L k xs i) r := by
    intro d
    induction d with
    | zero =>
      intro i xs hid hl hp
      obtain rfl : i = n := by omega
      have : xs = (List.range i).map g := by
        apply List.ext_getElem?
        intro j
        by_cases hj : j < i
        · rw [hp j hj]; simp [hj]
        · rw [List.getElem?_eq_none (by omega), List.getElem?_eq_none (by simp; omega)]
      rw [this]
      exact he
    | succ d ih =>
      intro i xs hid hl hp
      have h' := ih (i + 1) (xs.set i (g i)) (by omega) (by simp [hl]) (fun j hj => by
        rcases Nat.lt_succ_iff_lt_or_eq.mp hj with h1 | h1
        · rw [List.getElem?_set_ne (by omega)]; exact hp j h1
        · subst h1; rw [List.getElem?_set_self (by omega)])
      exact hs i xs (by omega) hl h'
  exact key n 0 init (by omega) hi (fun j hj => by omega)
theorem range_map_get {α : Type} (d : α) (xs : List α) : (List.range xs.length).map (fun i => rdOf d xs (i : Nat)) = xs := by
  apply List.ext_getElem?
  intro j
  by_cases hj : j < xs.length
  · simp [hj, rdOf, List.getD_eq_getElem?_getD]
  · rw [List.getElem?_eq_none (by simp; omega), List.getElem?_eq_none (by omega)]
/-! ## bounds -/
theorem spec_in (a b c : Int) : spec_l1In.f a b c = some (decide (b ≤ a ∧ a ≤ c)) := by
  unfold spec_l1In.f
  by_cases h : a ≥ b
  · rw [if_pos h]; congr 1; exact decide_eq_decide.mpr ⟨fun x => ⟨h, x⟩, fun x => x.2⟩
  · rw [if_neg h]; congr 1; exact (decide_eq_false (fun x => h x.1)).symm
theorem impl_in (a b c : Int) : impl_in.f a b c = some (decide (b ≤ a ∧ a ≤ c)) := by
  unfold impl_in.f
  by_cases h : a ≥ b
  · rw [if_pos h]; congr 1; exact decide_eq_decide.mpr ⟨fun x => ⟨h, x⟩, fun x => x.2⟩
  · rw [if_neg h]; congr 1; exact (decide_eq_false (fun x => h x.1)).symm
theorem wbt (w : ByteArray) (j : Int) : wrap64 (bt w j) = bt w j := by
  have := bt_range w j
  exact w64 (by omega) (by omega)
def sized (ws : List ByteArray) : Prop := ws.length ≤ 1099511627776 ∧ ∀ w ∈ ws, w.size ≤ 140737488355328
/-! ## WordsFit: both are the same condition -/
def wordOk (w : ByteArray) (n : Int) : Prop := (1 ≤ (w.size : Int) ∧ (w.size : Int) ≤ n) ∧ ∀ j : Nat, j < w.size → 33 ≤ bt w j ∧ bt w j ≤ 126
def fit (ws : List ByteArray) (n : Int) : Prop := (1 ≤ n ∧ n ≤ 40) ∧ ws.length ≤ 20 ∧ ∀ w ∈ ws, wordOk w n
theorem fit_iff (ws : List ByteArray) (n : Int) : fit ws n ↔ (1 ≤ n ∧ n ≤ 40) ∧ ws.length ≤ 20 ∧ ∀ i : Nat, i < ws.length → wordOk (rdOf ByteArray.empty ws i) n := by
  unfold fit
  refine and_congr Iff.rfl (and_congr Iff.rfl ⟨fun h i hi => ?_, fun h w hw => ?_⟩)
  · rw [rdOf_nat _ _ _ hi]; exact h _ (List.getElem_mem hi)
  · obtain ⟨i, hi, rfl⟩ := List.mem_iff_getElem.mp hw
    have := h i hi
    rwa [rdOf_nat _ _ _ hi] at this
def byteOk (w : ByteArray) (j : Nat) : Prop := 33 ≤ bt w j ∧ bt w j ≤ 126
open Classical in
theorem spec_fit (ws : List ByteArray) (n : Int) (hl : sized ws) : Ev (fun k => spec_WordsFit.f k ws n) (decide (fit ws n)) := by
  have inner : ∀ (i : Nat) (hi : i < ws.length) (r : Bool),
      (wordOk (rdOf ByteArray.empty ws i) n → Ev (fun k => spec_WordsFit.l0 k ws n (i + 1)) r) → (¬ wordOk (rdOf ByteArray.empty ws i) n → r = false) →
      Ev (fun k => spec_WordsFit.l1 k ws n i 0) r := by
    intro i hi r hgo hno
    have hw : (rdOf ByteArray.empty ws i).size ≤ 140737488355328 := by rw [rdOf_nat _ _ _ hi]; exact hl.2 _ (List.getElem_mem hi)
    have h2 : wrap64 ((i : Int) + 1) = i + 1 := w64 (by omega) (by have := hl.1; omega)
    refine ev_scan (L := fun k j => spec_WordsFit.l1 k ws n i j) (n := (rdOf ByteArray.empty ws i).size) (byteOk (rdOf ByteArray.empty ws i)) ?_ ?_ ?_
    · intro j hj hp hr
      refine Ev.step (f := fun k => spec_WordsFit.l1 k ws n i (j + 1)) (fun k => ?_) hr
      have h1 : wrap64 ((j : Int) + 1) = j + 1 := w64 (by omega) (by omega)
      unfold byteOk at hp
      simp only [spec_WordsFit.l1, wbt, h1, spec_in]
      rw [if_pos (by omega), if_pos (by omega), if_pos (by omega), if_pos (by omega)]
      simp only [Option.bind_some, decide_eq_true hp, if_true]
    · intro j hj _ hp
      rw [hno (fun h => hp (h.2 j hj))]
      refine Ev.step (f := fun k => some false) (fun k => ?_) (Ev.now _)
      unfold byteOk at hp
      simp only [spec_WordsFit.l1, wbt, spec_in]
      rw [if_pos (by omega), if_pos (by omega), if_pos (by omega), if_pos (by omega)]
      simp only [Option.bind_some, decide_eq_false hp, Bool.false_eq_true, if_false]
    · intro hall
      by_cases hs : 1 ≤ ((rdOf ByteArray.empty ws i).size : Int) ∧ ((rdOf ByteArray.empty ws i).size : Int) ≤ n
      · refine Ev.step (f := fun k => spec_WordsFit.l0 k ws n (i + 1)) (fun k => ?_) (hgo ⟨hs, hall⟩)
        simp only [spec_WordsFit.l1, h2, spec_in]
        rw [if_pos (by omega), if_pos (by omega), if_neg (by omega)]
        simp only [Option.bind_some, decide_eq_true hs, if_true]
      · rw [hno (fun h => hs h.1)]
        refine Ev.step (f := fun k => some false) (fun k => ?_) (Ev.now _)
        simp only [spec_WordsFit.l1, spec_in]
        rw [if_pos (by omega), if_pos (by omega), if_neg (by omega)]
        simp only [Option.bind_some, decide_eq_false hs, Bool.false_eq_true, if_false]
  refine ev_scan (L := fun k i => spec_WordsFit.l0 k ws n i) (n := ws.length) (fun i => wordOk (rdOf ByteArray.empty ws i) n) ?_ ?_ ?_
  · intro i hi hp hr
    refine Ev.step (f := fun k => spec_WordsFit.l1 k ws n i 0) (fun k => ?_) (inner i hi _ (fun _ => hr) (fun h => absurd hp h))
    simp only [spec_WordsFit.l0]
    rw [if_pos (by omega)]
  · intro i hi _ hp
    have hno : decide (fit ws n) = false := decide_eq_false (fun h => hp (((fit_iff ws n).mp h).2.2 i hi))
    refine Ev.step (f := fun k => spec_WordsFit.l1 k ws n i 0) (fun k => ?_) (inner i hi _ (fun h => absurd h hp) (fun _ => hno))
    simp only [spec_WordsFit.l0]
    rw [if_pos (by omega)]
  · intro hall
    refine Ev.step (f := fun k => some (decide (fit ws n))) (fun k => ?_) (Ev.now _)
    simp only [spec_WordsFit.l0, spec_in]
    rw [if_neg (by omega)]
    by_cases h20 : (ws.length : Int) ≤ 20
    · rw [if_pos h20]
      simp only [Option.bind_some]
      congr 1
      exact decide_eq_decide.mpr ⟨fun h => (fit_iff ws n).mpr ⟨h, by omega, hall⟩, fun h => h.1⟩
    · rw [if_neg h20]
      congr 1
      exact (decide_eq_false (fun h => h20 (by have := h.2.1; omega))).symm
open Classical in
theorem impl_fit (ws : List ByteArray) (n : Int) (hl : sized ws) : Ev (fun k => impl_WordsFit.f k ws n) (decide (fit ws n)) := by
  have inner : ∀ (i : Nat) (hi : i < ws.length) (r : Bool),
      (wordOk (rdOf ByteArray.empty ws i) n → Ev (fun k => impl_WordsFit.l0 k n ws (ws.length : Int) (i + 1)) r) → (¬ wordOk (rdOf ByteArray.empty ws i) n → r = false) →
      Ev (fun k => impl_WordsFit.l0 k n ws (ws.length : Int) i) r := by
    intro i hi r hgo hno
    have hw : (rdOf ByteArray.empty ws i).size ≤ 140737488355328 := by rw [rdOf_nat _ _ _ hi]; exact hl.2 _ (List.getElem_mem hi)
    have h2 : wrap64 ((i : Int) + 1) = i + 1 := w64 (by omega) (by have := hl.1; omega)
    by_cases hs : 1 ≤ ((rdOf ByteArray.empty ws i).size : Int) ∧ ((rdOf ByteArray.empty ws i).size : Int) ≤ n
    · refine Ev.step (f := fun k => impl_WordsFit.l1 k n (rdOf ByteArray.empty ws i) 0 ws (ws.length : Int) i) (fun k => ?_) ?_
      · simp only [impl_WordsFit.l0, impl_in]
        rw [if_pos (by omega), if_pos (by omega), if_pos (by omega)]
        simp only [Option.bind_some, decide_eq_true hs, if_true]
      · refine ev_scan (L := fun k j => impl_WordsFit.l1 k n (rdOf ByteArray.empty ws i) j ws (ws.length : Int) i) (n := (rdOf ByteArray.empty ws i).size) (byteOk (rdOf ByteArray.empty ws i)) ?_ ?_ ?_
        · intro j hj hp hr
          refine Ev.step (f := fun k => impl_WordsFit.l1 k n (rdOf ByteArray.empty ws i) (j + 1) ws (ws.length : Int) i) (fun k => ?_) hr
          have h1 : wrap64 ((j : Int) + 1) = j + 1 := w64 (by omega) (by omega)
          unfold byteOk at hp
          simp only [impl_WordsFit.l1, wbt, h1, impl_in]
          rw [if_pos (by omega), if_pos (by omega)]
          simp only [Option.bind_some, decide_eq_true hp, if_true]
        · intro j hj _ hp
          rw [hno (fun h => hp (h.2 j hj))]
          refine Ev.step (f := fun k => some false) (fun k => ?_) (Ev.now _)
          unfold byteOk at hp
          simp only [impl_WordsFit.l1, wbt, impl_in]
          rw [if_pos (by omega), if_pos (by omega)]
          simp only [Option.bind_some, decide_eq_false hp, Bool.false_eq_true, if_false]
        · intro hall
          refine Ev.step (f := fun k => impl_WordsFit.l0 k n ws (ws.length : Int) (i + 1)) (fun k => ?_) (hgo ⟨hs, hall⟩)
          simp only [impl_WordsFit.l1, h2]
          rw [if_neg (by omega)]
    · rw [hno (fun h => hs h.1)]
      refine Ev.step (f := fun k => some false) (fun k => ?_) (Ev.now _)
      simp only [impl_WordsFit.l0, impl_in]
      rw [if_pos (by omega), if_pos (by omega), if_pos (by omega)]
      simp only [Option.bind_some, decide_eq_false hs, Bool.false_eq_true, if_false]
  unfold impl_WordsFit.f
  by_cases h0 : 1 ≤ n ∧ n ≤ 40
  · by_cases h20 : (ws.length : Int) > 20
    · have hd : decide (fit ws n) = false := decide_eq_false (fun h => by have := h.2.1; omega)
      rw [hd]
      simp only [impl_in, decide_eq_true h0, Option.bind_some, if_true, decide_eq_true h20]
      refine Ev.step (f := fun k => some false) (fun k => ?_) (Ev.now _)
      simp only [impl_WordsFit.j0, if_true]
    · simp only [impl_in, decide_eq_true h0, Option.bind_some, if_true, decide_eq_false h20]
      refine Ev.step (f := fun k => impl_WordsFit.l0 k n ws (ws.length : Int) 0) (fun k => ?_) ?_
      · simp only [impl_WordsFit.j0, Bool.false_eq_true, if_false]
      · refine ev_scan (L := fun k i => impl_WordsFit.l0 k n ws (ws.length : Int) i) (n := ws.length) (fun i => wordOk (rdOf ByteArray.empty ws i) n) ?_ ?_ ?_
        · intro i hi hp hr
          exact inner i hi _ (fun _ => hr) (fun h => absurd hp h)
        · intro i hi _ hp
          exact inner i hi _ (fun h => absurd h hp) (fun _ => decide_eq_false (fun h => hp (((fit_iff ws n).mp h).2.2 i hi)))
        · intro hall
          refine Ev.step (f := fun k => some true) (fun k => ?_) (Ev.ok (decide_eq_true ((fit_iff ws n).mpr ⟨h0, by omega, hall⟩)).symm)
          simp only [impl_WordsFit.l0]
          rw [if_neg (by omega)]
  · have hd : decide (fit ws n) = false := decide_eq_false (fun h => h0 h.1)
    rw [hd]
    simp only [impl_in, decide_eq_false h0, Option.bind_some, Bool.false_eq_true, if_false]
    refine Ev.step (f := fun k => some false) (fun k => ?_) (Ev.now _)
    simp only [impl_WordsFit.j0, if_true]
/-! ## the law's own helpers on []string -/
theorem toStringS_ev (ws : List ByteArray) (hl : ws.length ≤ 1048576) : Ev (fun k => laws_toStringS.f k ws) ws := by
  unfold laws_toStringS.f
  refine Ev.pos (by omega) (Ev.pos (by omega) ?_)
  refine ev_fill (L := fun k xs i => laws_toStringS.l0 k ws xs i) (n := ws.length) (fun i => rdOf ByteArray.empty ws (i : Nat)) ?_ ?_ _ (by simp)
  · intro i xs hi hx h
    have h1 : wrap64 ((i : Int) + 1) = i + 1 := w64 (by omega) (by omega)
    refine Ev.up ?_
    simp only [laws_toStringS.l0, h1]
    exact Ev.pos (by omega) (Ev.pos (by omega) (Ev.pos (by omega) h))
  · refine Ev.up ?_
    simp only [laws_toStringS.l0]
    refine Ev.neg (by omega) (Ev.ok ?_)
    exact range_map_get ByteArray.empty ws
theorem eqStringS_ev (ws : List ByteArray) (hl : ws.length ≤ 1048576) : Ev (fun k => laws_eqStringS.f k ws ws) true := by
  unfold laws_eqStringS.f
  refine Ev.pos rfl ?_
  refine ev_scan (L := fun k i => laws_eqStringS.l0 k ws ws i) (n := ws.length) (fun _ => True) ?_ (fun i _ _ h => absurd trivial h) ?_
  · intro i hi _ h
    have h1 : wrap64 ((i : Int) + 1) = i + 1 := w64 (by omega) (by omega)
    refine Ev.up ?_
    simp only [laws_eqStringS.l0, h1]
    exact Ev.pos (by omega) (Ev.pos (by omega) (Ev.pos (by omega) (Ev.pos (by simp) h)))
  · intro _
    refine Ev.up ?_
    simp only [laws_eqStringS.l0]
    exact Ev.neg (by omega) (Ev.now _)
theorem szStringS_ev (ws : List ByteArray) (left : Int) (hleft : 0 ≤ left ∧ left ≤ 1048576) (hl : ws.length ≤ 9223372036854775807) (hw : ∀ w ∈ ws, w.size ≤ 9223372036854775807) :
    ∃ r, Ev (fun k => laws_szStringS.f k ws left) r ∧ r ≤ left ∧ (0 ≤ r → ws.length ≤ 1048576 ∧ ∀ w ∈ ws, w.size ≤ 1048576) := by
  unfold laws_szStringS.f
  have h0 : wrap64 (left - (ws.length : Int)) = left - ws.length := w64 (by omega) (by omega)
  rw [h0]
  by_cases hneg : left - (ws.length : Int) < 0
  · exact ⟨-1, Ev.pos hneg (Ev.now _), by omega, by omega⟩
  · have key : ∀ (d i : Nat) (x1 : Int), i + d = ws.length → 0 ≤ x1 → x1 ≤ left → (∀ j (h : j < i) (h2 : j < ws.length), (ws[j]).size ≤ 1048576) →
        ∃ r, Ev (fun k => laws_szStringS.l0 k ws x1 i) r ∧ r ≤ left ∧ (0 ≤ r → ∀ w ∈ ws, w.size ≤ 1048576) := by
      intro d
      induction d with
      | zero =>
        intro i x1 hi h0 h1 hp
        refine ⟨x1, Ev.up ?_, h1, fun _ w hw' => ?_⟩
        · simp only [laws_szStringS.l0]
          exact Ev.neg (by omega) (Ev.now _)
        · obtain ⟨j, hj, rfl⟩ := List.mem_iff_getElem.mp hw'
          exact hp j (by omega) hj
      | succ d ih =>
        intro i x1 hi h0 h1 hp
        have hlt : i < ws.length := by omega
        have hs := hw _ (List.getElem_mem hlt)
        have h2 : wrap64 ((i : Int) + 1) = i + 1 := w64 (by omega) (by omega)
        have h3 : wrap64 (x1 - ((ws[i]).size : Int)) = x1 - (ws[i]).size := w64 (by omega) (by omega)
        by_cases hn : x1 - ((ws[i]).size : Int) < 0
        · refine ⟨-1, Ev.up ?_, by omega, by omega⟩
          simp only [laws_szStringS.l0, rdOf_nat _ _ _ hlt, h3]
          exact Ev.pos (by omega) (Ev.pos (by omega) (Ev.pos hn (Ev.now _)))
        · obtain ⟨r, hr, hr2⟩ := ih (i + 1) (x1 - ((ws[i]).size : Int)) (by omega) (by omega) (by omega) (fun j hj hj2 => by
            rcases Nat.lt_succ_iff_lt_or_eq.mp hj with h4 | h4
            · exact hp j h4 hj2
            · subst h4; omega)
          refine ⟨r, Ev.up ?_, hr2⟩
          simp only [laws_szStringS.l0, rdOf_nat _ _ _ hlt, h3, h2]
          exact Ev.pos (by omega) (Ev.pos (by omega) (Ev.neg hn hr))
    obtain ⟨r, hr, hr1, hr2⟩ := key ws.length 0 (left - ws.length) (by omega) (by omega) (by omega) (fun j hj => by omega)
    exact ⟨r, Ev.neg hneg hr, hr1, fun h => ⟨by omega, hr2 h⟩⟩
/-! ## the length of a line, and the cost of a wrapping -/
theorem rd_at (xs : List Int) (i : Nat) (h : i < xs.length) : rd xs (i : Int) = xs[i] := by
  simp [rd, List.getD_eq_getElem?_getD, List.getElem?_eq_getElem h]
def tot (l : List ByteArray) : Nat := (l.map ByteArray.size).sum
theorem tot_le (m : Nat) : ∀ (l : List ByteArray), (∀ w ∈ l, w.size ≤ m) → tot l ≤ m * l.length
  | [], _ => by simp [tot]
  | x :: l, h => by
    have h1 := h x (List.mem_cons_self)
    have h2 := tot_le m l (fun w hw => h w (List.mem_cons_of_mem _ hw))
    simp only [tot, List.map_cons, List.sum_cons, List.length_cons, Nat.mul_succ] at h2 ⊢
    omega
def len (ws : List ByteArray) (a b : Int) : Int := (tot ((ws.take b.toNat).drop a.toNat) : Int) + (b - a) - 1
theorem seg_cons (ws : List ByteArray) (i b : Nat) (h : i < b) (hb : b ≤ ws.length) : (ws.take b).drop i = ws[i] :: (ws.take b).drop (i + 1) := by
  rw [List.drop_eq_getElem_cons (by simp; omega)]
  simp
theorem join_len (sep : List UInt8) : ∀ (l : List (List UInt8)), l ≠ [] → (Go.Lib.join l sep).length = (l.map List.length).sum + (l.length - 1) * sep.length
  | [], h => absurd rfl h
  | [x], _ => by simp [Go.Lib.join, List.intercalate]
  | x :: y :: r, _ => by
    have ih := join_len sep (y :: r) (by simp)
    have e : Go.Lib.join (x :: y :: r) sep = x ++ (sep ++ Go.Lib.join (y :: r) sep) := by simp [Go.Lib.join, List.intercalate]
    rw [e, List.length_append, List.length_append, ih]
    simp only [List.map_cons, List.sum_cons, List.length_cons, Nat.add_sub_cancel, Nat.succ_mul]
    omega
def narrow (ws : List ByteArray) : Prop := ws.length ≤ 20 ∧ ∀ w ∈ ws, w.size ≤ 40
theorem narrow_of {ws : List ByteArray} {n : Int} (h : fit ws n) : narrow ws := ⟨h.2.1, fun w hw => by have := (h.2.2 w hw).1; have := h.1; omega⟩
theorem seg_tot {ws : List ByteArray} (h : narrow ws) (a b : Nat) : tot ((ws.take b).drop a) ≤ 800 := by
  have h1 := tot_le 40 ((ws.take b).drop a) (fun w hw => h.2 w (List.mem_of_mem_take (List.mem_of_mem_drop hw)))
  have h2 := h.1
  simp only [List.length_drop, List.length_take] at h1
  omega
theorem impl_len {ws : List ByteArray} (h : narrow ws) (a b : Nat) (hab : a < b) (hb : b ≤ ws.length) : impl_lineLen.f ((ws.take b).drop a) = some (len ws a b) := by
  have hlen : ((ws.take b).drop a).length = b - a := by simp; omega
  have hne : ((ws.take b).drop a).map (fun x => x.data.toList) ≠ [] := fun h => by
    have := congrArg List.length h
    rw [List.length_map, hlen] at this
    simp at this
    omega
  have hj := join_len (⟨#[32]⟩ : ByteArray).data.toList _ hne
  have hm : ((((ws.take b).drop a).map (fun x => x.data.toList)).map List.length).sum = tot ((ws.take b).drop a) := by
    unfold tot
    rw [List.map_map]
    rfl
  rw [hm, List.length_map, hlen] at hj
  have h1 : (⟨#[32]⟩ : ByteArray).data.toList.length = 1 := rfl
  rw [h1] at hj
  have ht := seg_tot h a b
  have hw := h.1
  unfold impl_lineLen.f strings_Join.f
  rw [if_pos (by omega), if_pos (by omega), Option.bind_some]
  unfold len
  rw [show ((⟨(Go.Lib.join (((ws.take b).drop a).map (fun x => x.data.toList)) (⟨#[32]⟩ : ByteArray).data.toList).toArray⟩ : ByteArray)).size = (Go.Lib.join (((ws.take b).drop a).map (fun x => x.data.toList)) (⟨#[32]⟩ : ByteArray).data.toList).length from by simp [ByteArray.size], hj, Int.toNat_natCast, Int.toNat_natCast]
  congr 1
  omega
theorem spec_len {ws : List ByteArray} (h : narrow ws) (a b : Nat) (hab : a ≤ b) (hb : b ≤ ws.length) : Ev (fun k => spec_l15Length.f k ws a b) (len ws a b) := by
  have hl := h.1
  have key : ∀ (d i : Nat) (x : Int), i + d = b → -100 ≤ x → x ≤ 100 + 40 * i → Ev (fun k => spec_l15Length.l0 k ws b x i) (x + tot ((ws.take b).drop i)) := by
    intro d
    induction d with
    | zero =>
      intro i x hi h1 h2
      rw [List.drop_of_length_le (by simp; omega)]
      refine Ev.up ?_
      simp only [spec_l15Length.l0]
      exact Ev.neg (by omega) (Ev.ok (by simp [tot]))
    | succ d ih =>
      intro i x hi h1 h2
      have hlt : i < ws.length := by omega
      have hs := h.2 _ (List.getElem_mem hlt)
      have hn := ih (i + 1) (x + ((ws[i]).size : Int)) (by omega) (by omega) (by omega)
      have w1 : wrap64 (x + ((ws[i]).size : Int)) = x + ((ws[i]).size : Int) := w64 (by omega) (by omega)
      have w2 : wrap64 ((i : Int) + 1) = ((i + 1 : Nat) : Int) := by rw [w64] <;> omega
      refine Ev.up ?_
      simp only [spec_l15Length.l0, rdOf_nat _ _ _ hlt, w1, w2]
      clear w1 w2
      refine Ev.pos (by omega) (Ev.pos (by omega) (Ev.pos (by omega) ?_))
      rw [seg_cons ws i b (by omega) hb]
      refine Ev.eqr hn ?_
      simp only [tot, List.map_cons, List.sum_cons]
      omega
  unfold spec_l15Length.f
  have w1 : wrap64 ((b : Int) - a) = (b : Int) - a := w64 (by omega) (by omega)
  have w2 : wrap64 ((b : Int) - a - 1) = (b : Int) - a - 1 := w64 (by omega) (by omega)
  rw [w1, w2]
  refine Ev.eqr (key (b - a) a ((b : Int) - a - 1) (by omega) (by omega) (by omega)) ?_
  unfold len
  rw [Int.toNat_natCast, Int.toNat_natCast]
  omega
theorem len_in {ws : List ByteArray} (h : narrow ws) (a b : Nat) (hab : a < b) (hb : b ≤ ws.length) : 0 ≤ len ws a b ∧ len ws a b ≤ 1000 := by
  have := seg_tot h a b
  have := h.1
  unfold len
  rw [Int.toNat_natCast, Int.toNat_natCast]
  omega
def costL (ws : List ByteArray) (n : Int) : List Int → Int → Int → Int
  | [], a, c => if a = (ws.length : Int) then c else -1
  | e :: r, a, c => if 1 ≤ e ∧ e ≤ (ws.length : Int) - a then (if len ws a (a + e) > n then -1 else if 0 < r.length then costL ws n r (a + e) (c + (n - len ws a (a + e)) * (n - len ws a (a + e))) else costL ws n r (a + e) c) else -1
theorem costL_long (ws : List ByteArray) (n : Int) : ∀ (ls : List Int) (a c : Int), a ≤ ws.length → (ws.length : Int) - a < ls.length → costL ws n ls a c = -1
  | [], a, c, h1, h2 => by simp at h2; omega
  | e :: r, a, c, h1, h2 => by
    rw [costL]
    split
    · rename_i h
      simp only [List.length_cons] at h2
      split
      · rfl
      · split
        · exact costL_long ws n r _ _ (by omega) (by omega)
        · exact costL_long ws n r _ _ (by omega) (by omega)
    · rfl
theorem sq_in (x : Int) (h0 : 0 ≤ x) (h1 : x ≤ 40) : 0 ≤ x * x ∧ x * x ≤ 1600 :=
  ⟨Int.mul_nonneg h0 h0, Int.le_trans (Int.mul_le_mul h1 h1 h0 (by omega)) (by decide)⟩
/-! ## the greedy wrapping -/
def cnt (ws : List ByteArray) (n : Int) (a : Nat) : Nat → Nat → Nat
  | 0, h => h
  | d + 1, h => if len ws a ((a + h + 1 : Nat) : Int) ≤ n then cnt ws n a d (h + 1) else h
theorem cnt_step (ws : List ByteArray) (n : Int) (a d h : Nat) : cnt ws n a (d + 1) h = if len ws a ((a + h + 1 : Nat) : Int) ≤ n then cnt ws n a d (h + 1) else h := rfl
theorem cnt_in (ws : List ByteArray) (n : Int) (a : Nat) : ∀ d h : Nat, h ≤ cnt ws n a d h ∧ cnt ws n a d h ≤ h + d
  | 0, h => by simp [cnt]
  | d + 1, h => by
    have := cnt_in ws n a d (h + 1)
    rw [cnt_step]
    split <;> omega
def gr (ws : List ByteArray) (n : Int) : Nat → Nat → List Int
  | 0, _ => []
  | f + 1, a => if a < ws.length then ((cnt ws n a (ws.length - a - 1) 1 : Nat) : Int) :: gr ws n f (a + cnt ws n a (ws.length - a - 1) 1) else []
theorem gr_length (ws : List ByteArray) (n : Int) : ∀ f a : Nat, (gr ws n f a).length ≤ f
  | 0, _ => by simp [gr]
  | f + 1, a => by
    rw [gr]
    split
    · have := gr_length ws n f (a + cnt ws n a (ws.length - a - 1) 1)
      simp only [List.length_cons]
      omega
    · simp
theorem spec_gr_l1 {ws : List ByteArray} {n : Int} (hw : narrow ws) (acc : List Int) (hacc : acc.length ≤ 1000) (a : Nat) (r : List Int) (d : Nat) : ∀ h : Nat, a + h + d = ws.length → 1 ≤ h →
    Ev (fun k => spec_WrapGreedy.l0 k ws n (acc ++ [((cnt ws n a d h : Nat) : Int)]) ((a + cnt ws n a d h : Nat) : Int)) r → Ev (fun k => spec_WrapGreedy.l1 k ws n acc a h) r := by
  have h20 := hw.1
  induction d with
  | zero =>
    intro h e h1 hr
    have w1 : wrap64 ((a : Int) + h) = ((a + h : Nat) : Int) := by rw [w64] <;> omega
    refine Ev.up ?_
    simp only [spec_WrapGreedy.l1, w1]
    clear w1
    exact Ev.neg (by omega) (Ev.pos (by omega) hr)
  | succ d ih =>
    intro h e h1 hr
    have w1 : wrap64 ((a : Int) + h) = ((a + h : Nat) : Int) := by rw [w64] <;> omega
    have w2 : wrap64 (((a + h : Nat) : Int) + 1) = ((a + h + 1 : Nat) : Int) := by rw [w64] <;> omega
    have w3 : wrap64 ((h : Int) + 1) = ((h + 1 : Nat) : Int) := by rw [w64] <;> omega
    have hL := spec_len hw a (a + h + 1) (by omega) (by omega)
    rw [cnt_step] at hr
    refine Ev.up ?_
    simp only [spec_WrapGreedy.l1, w1, w2, w3]
    clear w1 w2 w3
    refine Ev.pos (by omega) (Ev.bind hL ?_)
    by_cases hc : len ws a ((a + h + 1 : Nat) : Int) ≤ n
    · rw [if_pos hc] at hr
      exact Ev.pos hc (ih (h + 1) (by omega) (by omega) hr)
    · rw [if_neg hc] at hr
      exact Ev.neg hc (Ev.pos (by omega) hr)
theorem sized_of {ws : List ByteArray} (hw : narrow ws) : sized ws := ⟨by have := hw.1; omega, fun w h => by have := hw.2 w h; omega⟩
open Classical in
theorem spec_gr_l0 {ws : List ByteArray} {n : Int} (hf0 : fit ws n) (f : Nat) : ∀ (a : Nat) (acc : List Int), a + f = ws.length ∨ a + f ≥ ws.length → a ≤ ws.length → acc.length ≤ 100 - f →  f ≤ 20 →
    Ev (fun k => spec_WrapGreedy.l0 k ws n acc a) (acc ++ gr ws n f a) := by
  have hw := narrow_of hf0
  have h20 := hw.1
  have stop : ∀ (a : Nat) (acc : List Int), ¬ a < ws.length → Ev (fun k => spec_WrapGreedy.l0 k ws n acc a) acc := by
    intro a acc h
    refine Ev.up ?_
    simp only [spec_WrapGreedy.l0]
    refine Ev.neg (by omega) (Ev.up ?_)
    simp only [spec_WrapGreedy.j1, Bool.false_eq_true, if_false]
    exact Ev.now _
  induction f with
  | zero =>
    intro a acc e ha hl _
    rw [gr, List.append_nil]
    exact stop a acc (by omega)
  | succ f ih =>
    intro a acc e ha hl hf
    rw [gr]
    by_cases hlt : a < ws.length
    · rw [if_pos hlt]
      have hc := cnt_in ws n a (ws.length - a - 1) 1
      refine Ev.up ?_
      simp only [spec_WrapGreedy.l0]
      have hfit := spec_fit ws n (sized_of hw)
      rw [decide_eq_true hf0] at hfit
      refine Ev.pos (by omega) (Ev.bind hfit (Ev.up ?_))
      simp only [spec_WrapGreedy.j1, if_true]
      refine spec_gr_l1 hw acc (by omega) a _ (ws.length - a - 1) 1 (by omega) (by omega) ?_
      have := ih (a + cnt ws n a (ws.length - a - 1) 1) (acc ++ [((cnt ws n a (ws.length - a - 1) 1 : Nat) : Int)]) (by omega) (by omega) (by simp; omega) (by omega)
      rw [List.append_assoc] at this
      exact this
    · rw [if_neg hlt, List.append_nil]
      exact stop a acc hlt
noncomputable def greedyM (ws : List ByteArray) (n : Int) : List Int := open Classical in if fit ws n then gr ws n ws.length 0 else []
theorem greedyM_length (ws : List ByteArray) (n : Int) : (greedyM ws n).length ≤ 20 := by
  unfold greedyM
  split
  · rename_i h
    have := gr_length ws n ws.length 0
    have := h.2.1
    omega
  · simp
open Classical in
theorem spec_greedy (ws : List ByteArray) (n : Int) (hz : sized ws) : Ev (fun k => spec_WrapGreedy.f k ws n) (greedyM ws n) := by
  unfold spec_WrapGreedy.f greedyM
  by_cases h : fit ws n
  · rw [if_pos h]
    have h20 := h.2.1
    exact spec_gr_l0 h ws.length 0 [] (by omega) (by omega) (by simp) (by omega)
  · rw [if_neg h]
    refine Ev.up ?_
    simp only [spec_WrapGreedy.l0]
    have hno : Ev (fun k => spec_WrapGreedy.j1 k ws n ([] : List Int) 0 false) ([] : List Int) := by
      refine Ev.up ?_
      simp only [spec_WrapGreedy.j1, Bool.false_eq_true, if_false]
      exact Ev.now _
    by_cases h0 : (0 : Int) < (ws.length : Int)
    · have hf := spec_fit ws n hz
      rw [decide_eq_false h] at hf
      exact Ev.pos h0 (Ev.bind hf hno)
    · exact Ev.neg h0 hno
/-! ## the program's greedy wrapping -/
theorem impl_gr_l1 {ws : List ByteArray} {n : Int} (hw : narrow ws) (acc : List Int) (hacc : acc.length ≤ 1000) (a : Nat) (r : List Int) (d : Nat) : ∀ h : Nat, a + h + d = ws.length → 1 ≤ h →
    Ev (fun k => impl_WrapGreedy.l0 k ws n (acc ++ [((cnt ws n a d h : Nat) : Int)]) ((a + cnt ws n a d h : Nat) : Int)) r → Ev (fun k => impl_WrapGreedy.l1 k ws n acc a h) r := by
  have h20 := hw.1
  induction d with
  | zero =>
    intro h e h1 hr
    have w1 : wrap64 ((a : Int) + h) = ((a + h : Nat) : Int) := by rw [w64] <;> omega
    refine Ev.up ?_
    simp only [impl_WrapGreedy.l1, w1]
    clear w1
    exact Ev.neg (by omega) (Ev.pos (by omega) hr)
  | succ d ih =>
    intro h e h1 hr
    have w1 : wrap64 ((a : Int) + h) = ((a + h : Nat) : Int) := by rw [w64] <;> omega
    have w2 : wrap64 (((a + h : Nat) : Int) + 1) = ((a + h + 1 : Nat) : Int) := by rw [w64] <;> omega
    have w3 : wrap64 ((h : Int) + 1) = ((h + 1 : Nat) : Int) := by rw [w64] <;> omega
    have hL := impl_len hw a (a + h + 1) (by omega) (by omega)
    rw [cnt_step] at hr
    refine Ev.up ?_
    simp only [impl_WrapGreedy.l1, w1, w2, w3, Int.toNat_natCast, hL, Option.bind_some]
    clear w1 w2 w3
    refine Ev.pos (by omega) (Ev.pos (by omega) (Ev.pos (by omega) (Ev.pos (by omega) ?_)))
    by_cases hc : len ws a ((a + h + 1 : Nat) : Int) ≤ n
    · rw [if_pos hc] at hr
      exact Ev.pos hc (ih (h + 1) (by omega) (by omega) hr)
    · rw [if_neg hc] at hr
      exact Ev.neg hc (Ev.pos (by omega) hr)
theorem impl_gr_l0 {ws : List ByteArray} {n : Int} (hw : narrow ws) (f : Nat) : ∀ (a : Nat) (acc : List Int), a + f = ws.length ∨ a + f ≥ ws.length → a ≤ ws.length → acc.length ≤ 100 - f →  f ≤ 20 →
    Ev (fun k => impl_WrapGreedy.l0 k ws n acc a) (acc ++ gr ws n f a) := by
  have h20 := hw.1
  induction f with
  | zero =>
    intro a acc e ha hl _
    refine Ev.up ?_
    simp only [impl_WrapGreedy.l0, impl_copied_int.f, gr, List.append_nil]
    refine Ev.neg (by omega) ?_
    rw [if_pos (by omega), Option.bind_some]
    exact Ev.now _
  | succ f ih =>
    intro a acc e ha hl hf
    rw [gr]
    refine Ev.up ?_
    simp only [impl_WrapGreedy.l0, impl_copied_int.f]
    by_cases hlt : a < ws.length
    · rw [if_pos hlt]
      have hc := cnt_in ws n a (ws.length - a - 1) 1
      refine Ev.pos (by omega) ?_
      refine impl_gr_l1 hw acc (by omega) a _ (ws.length - a - 1) 1 (by omega) (by omega) ?_
      have := ih (a + cnt ws n a (ws.length - a - 1) 1) (acc ++ [((cnt ws n a (ws.length - a - 1) 1 : Nat) : Int)]) (by omega) (by omega) (by simp; omega) (by omega)
      rw [List.append_assoc] at this
      exact this
    · rw [if_neg hlt, List.append_nil]
      refine Ev.neg (by omega) ?_
      rw [if_pos (by omega), Option.bind_some]
      exact Ev.now _
open Classical in
theorem impl_greedy (ws : List ByteArray) (n : Int) (hz : sized ws) : Ev (fun k => impl_WrapGreedy.f k ws n) (greedyM ws n) := by
  unfold impl_WrapGreedy.f greedyM
  refine Ev.bind (impl_fit ws n hz) ?_
  by_cases h : fit ws n
  · rw [if_pos h]
    have h20 := h.2.1
    have := impl_gr_l0 (n := n) (narrow_of h) ws.length 0 [] (by omega) (by omega) (by simp) (by omega)
    exact Ev.pos (decide_eq_true h) this
  · rw [if_neg h]
    exact Ev.neg (by simp [h]) (Ev.now _)
/-! ## the law's own comparison of []int -/
theorem eqIntS_ev (ws : List Int) (hl : ws.length ≤ 1048576) : Ev (fun k => laws_eqIntS.f k ws ws) true := by
  unfold laws_eqIntS.f
  refine Ev.pos rfl ?_
  refine ev_scan (L := fun k i => laws_eqIntS.l0 k ws ws i) (n := ws.length) (fun _ => True) ?_ (fun i _ _ h => absurd trivial h) ?_
  · intro i hi _ h
    have h1 : wrap64 ((i : Int) + 1) = i + 1 := w64 (by omega) (by omega)
    refine Ev.up ?_
    simp only [laws_eqIntS.l0, h1]
    exact Ev.pos (by omega) (Ev.pos (by omega) (Ev.pos (by omega) (Ev.pos trivial h)))
  · intro _
    refine Ev.up ?_
    simp only [laws_eqIntS.l0]
    exact Ev.neg (by omega) (Ev.now _)
/-! ## marks -/
theorem markIntS_ev (l : List Int) (hl : l.length ≤ 1048576) : Ev (fun k => laws_markIntS.f k l 1) (1 + (l.length : Int), (List.range l.length).map (fun (i : Nat) => 1 + (i : Int))) := by
  unfold laws_markIntS.f
  have key := ev_fill (L := fun k xs i => laws_markIntS.l0 k xs (1 + i) i) (n := l.length) (r := (1 + (l.length : Int), (List.range l.length).map (fun (i : Nat) => 1 + (i : Int)))) (fun i => 1 + (i : Int)) ?_ ?_ l rfl
  · simpa using key
  · intro i xs hi hx h
    have h1 : wrap64 ((i : Int) + 1) = i + 1 := w64 (by omega) (by omega)
    have h2 : wrap64 (1 + (i : Int) + 1) = 1 + (i + 1) := by rw [w64] <;> omega
    refine Ev.up ?_
    simp only [laws_markIntS.l0, h1, h2]
    exact Ev.pos (by omega) (Ev.pos (by omega) h)
  · refine Ev.up ?_
    simp only [laws_markIntS.l0]
    exact Ev.neg (by simp) (Ev.now _)
theorem heldIntS_ev (n : Nat) (hn : n ≤ 1048576) : Ev (fun k => laws_heldIntS.f k ((List.range n).map (fun (i : Nat) => 1 + (i : Int))) 1) (1 + (n : Int)) := by
  have hl : ((List.range n).map (fun (i : Nat) => 1 + (i : Int))).length = n := by simp
  have key : ∀ (d i : Nat), i + d = n → Ev (fun k => laws_heldIntS.l0 k ((List.range n).map (fun (i : Nat) => 1 + (i : Int))) (1 + (i : Int)) i) (1 + (n : Int)) := by
    intro d
    induction d with
    | zero =>
      intro i hi
      refine Ev.up ?_
      simp only [laws_heldIntS.l0, hl]
      exact Ev.neg (by omega) (Ev.ok (by omega))
    | succ d ih =>
      intro i hi
      have hn := ih (i + 1) (by omega)
      have h1 : wrap64 ((i : Int) + 1) = ((i + 1 : Nat) : Int) := by rw [w64] <;> omega
      have h2 : wrap64 (1 + (i : Int) + 1) = 1 + ((i + 1 : Nat) : Int) := by rw [w64] <;> omega
      have hr : rd ((List.range n).map (fun (i : Nat) => 1 + (i : Int))) (i : Int) = 1 + (i : Int) := by
        rw [rd_at _ i (by rw [hl]; omega)]
        simp
      refine Ev.up ?_
      simp only [laws_heldIntS.l0, hl, h1, h2, hr]
      exact Ev.pos (by omega) (Ev.pos (by omega) (Ev.pos trivial hn))
  unfold laws_heldIntS.f
  have := key n 0 (by omega)
  simpa using this
/-! ## the text of a mark -/
theorem markText_ev (x : Int) (hx : x ≤ 100000000) : ∃ t, Ev (fun k => laws_markText.f k x) t := by
  have key : ∀ (m : Nat) (x : Int) (t : ByteArray), x ≤ m → (t.size : Int) + x ≤ 1000000000 → t.size ≤ 1000000000 → ∃ r, Ev (fun k => laws_markText.l0 k x t) r := by
    intro m
    induction m with
    | zero =>
      intro x t h1 h2 h3
      refine ⟨(⟨#[109]⟩ : ByteArray) ++ t, Ev.up ?_⟩
      simp only [laws_markText.l0]
      exact Ev.neg (by omega) (Ev.pos (by omega) (Ev.now _))
    | succ m ih =>
      intro x t h1 h2 h3
      by_cases hp : x > 0
      · have hd : Int.tdiv x 10 = x / 10 := Int.tdiv_eq_ediv_of_nonneg (by omega)
        have hw : wrap64 (x / 10) = x / 10 := w64 (by omega) (by omega)
        have hs : (strOfNums [(wrap64 (48 + (Int.tmod x 10))) % 256]).size = 1 := by simp [strOfNums, ByteArray.size]
        have hsz : (strOfNums [(wrap64 (48 + (Int.tmod x 10))) % 256] ++ t).size = 1 + t.size := by rw [ByteArray.size_append, hs]
        obtain ⟨r, hr⟩ := ih (x / 10) (strOfNums [(wrap64 (48 + (Int.tmod x 10))) % 256] ++ t) (by omega) (by rw [hsz]; omega) (by rw [hsz]; omega)
        refine ⟨r, Ev.up ?_⟩
        simp only [laws_markText.l0, Option.bind_some, hd, hw, hs]
        exact Ev.pos hp (Ev.pos (by omega) hr)
      · refine ⟨(⟨#[109]⟩ : ByteArray) ++ t, Ev.up ?_⟩
        simp only [laws_markText.l0]
        exact Ev.neg hp (Ev.pos (by omega) (Ev.now _))
  unfold laws_markText.f
  by_cases h : x ≤ 0
  · exact ⟨_, Ev.pos h (Ev.now _)⟩
  · have hz : (⟨#[]⟩ : ByteArray).size = 0 := rfl
    obtain ⟨r, hr⟩ := key x.toNat x (⟨#[]⟩ : ByteArray) (by omega) (by omega) (by omega)
    exact ⟨r, Ev.neg h hr⟩
theorem markStringS_ev (l : List ByteArray) (hl : l.length ≤ 1048576) : ∃ l', Ev (fun k => laws_markStringS.f k l 1) (1 + (l.length : Int), l') := by
  have key : ∀ (d i : Nat) (xs : List ByteArray), xs.length = l.length → i + d = l.length → ∃ l', Ev (fun k => laws_markStringS.l0 k xs (1 + (i : Int)) i) (1 + (l.length : Int), l') := by
    intro d
    induction d with
    | zero =>
      intro i xs hx hi
      refine ⟨xs, Ev.up ?_⟩
      simp only [laws_markStringS.l0]
      exact Ev.neg (by omega) (Ev.ok (by rw [show (1 + (i : Int)) = 1 + (l.length : Int) by omega]))
    | succ d ih =>
      intro i xs hx hi
      obtain ⟨t, ht⟩ := markText_ev (1 + (i : Int)) (by omega)
      obtain ⟨l', h⟩ := ih (i + 1) (xs.set (i : Int).toNat t) (by simpa using hx) (by omega)
      have h1 : wrap64 ((i : Int) + 1) = ((i + 1 : Nat) : Int) := by rw [w64] <;> omega
      have h2 : wrap64 (1 + (i : Int) + 1) = 1 + ((i + 1 : Nat) : Int) := by rw [w64] <;> omega
      refine ⟨l', Ev.up ?_⟩
      simp only [laws_markStringS.l0, h1, h2]
      exact Ev.pos (by omega) (Ev.bind ht (Ev.pos (by omega) h))
  unfold laws_markStringS.f
  obtain ⟨l', h⟩ := key l.length 0 l rfl (by omega)
  exact ⟨l', by simpa using h⟩
/-! ## more about greedy lines -/
theorem sameInts_ev (ws : List Int) (hl : ws.length ≤ 1048576) : Ev (fun k => laws_eqIntS.f k ws ws) true := by
  unfold laws_eqIntS.f
  refine Ev.pos rfl ?_
  refine ev_scan (L := fun k i => laws_eqIntS.l0 k ws ws i) (n := ws.length) (fun _ => True) ?_ (fun i _ _ h => absurd trivial h) ?_
  · intro i hi _ h
    have h1 : wrap64 ((i : Int) + 1) = i + 1 := w64 (by omega) (by omega)
    refine Ev.up ?_
    simp only [laws_eqIntS.l0, h1]
    exact Ev.pos (by omega) (Ev.pos (by omega) (Ev.pos (by omega) (Ev.pos trivial h)))
  · intro _
    refine Ev.up ?_
    simp only [laws_eqIntS.l0]
    exact Ev.neg (by omega) (Ev.now _)
theorem len_snoc (ws : List ByteArray) (a j : Nat) (h : a ≤ j) (hj : j < ws.length) : len ws a ((j + 1 : Nat) : Int) = len ws a (j : Int) + ((ws[j]).size : Int) + 1 := by
  unfold len
  rw [Int.toNat_natCast, Int.toNat_natCast, Int.toNat_natCast, List.take_succ_eq_append_getElem hj, List.drop_append_of_le_length (by simp; omega)]
  simp only [tot, List.map_append, List.map_cons, List.map_nil, List.sum_append, List.sum_cons, List.sum_nil]
  omega
theorem cnt_fit (ws : List ByteArray) (n : Int) (a : Nat) : ∀ d h : Nat, a + h + d = ws.length → len ws a ((a + h : Nat) : Int) ≤ n →
    len ws a ((a + cnt ws n a d h : Nat) : Int) ≤ n ∧ (a + cnt ws n a d h < ws.length → n < len ws a ((a + cnt ws n a d h + 1 : Nat) : Int))
  | 0, h => fun e hl => ⟨hl, fun x => by rw [cnt] at x; omega⟩
  | d + 1, h => fun e hl => by
    rw [cnt_step]
    split
    · rename_i hc
      exact cnt_fit ws n a d (h + 1) (by omega) hc
    · rename_i hc
      exact ⟨hl, fun _ => by omega⟩
theorem gr_step {ws : List ByteArray} {n : Int} (hf : fit ws n) (a : Nat) (ha : a < ws.length) :
    len ws a ((a + cnt ws n a (ws.length - a - 1) 1 : Nat) : Int) ≤ n ∧ (a + cnt ws n a (ws.length - a - 1) 1 < ws.length → n < len ws a ((a + cnt ws n a (ws.length - a - 1) 1 + 1 : Nat) : Int)) := by
  refine cnt_fit ws n a _ 1 (by omega) ?_
  rw [len_snoc ws a a (Nat.le_refl _) ha]
  have h1 := (hf.2.2 _ (List.getElem_mem ha)).1
  have h2 : len ws a (a : Int) = -1 := by
    unfold len
    rw [Int.toNat_natCast, List.drop_of_length_le (by simp; omega)]
    simp [tot]
  omega
theorem cost_gr {ws : List ByteArray} {n : Int} (hf : fit ws n) : ∀ (f a : Nat) (c : Int), 0 ≤ c → a ≤ ws.length → ws.length ≤ a + f → 0 ≤ costL ws n (gr ws n f a) a c
  | 0, a, c => fun h0 h1 h2 => by
    rw [gr, costL, if_pos (by omega)]
    exact h0
  | f + 1, a, c => fun h0 h1 h2 => by
    rw [gr]
    by_cases ha : a < ws.length
    · rw [if_pos ha, costL]
      have hc := cnt_in ws n a (ws.length - a - 1) 1
      have hs := (gr_step hf a ha).1
      have e : (a : Int) + ((cnt ws n a (ws.length - a - 1) 1 : Nat) : Int) = ((a + cnt ws n a (ws.length - a - 1) 1 : Nat) : Int) := by omega
      rw [e, if_pos (by omega), if_neg (by omega)]
      split
      · refine cost_gr hf f _ _ ?_ (by omega) (by omega)
        have : 0 ≤ (n - len ws a ((a + cnt ws n a (ws.length - a - 1) 1 : Nat) : Int)) * (n - len ws a ((a + cnt ws n a (ws.length - a - 1) 1 : Nat) : Int)) := Int.mul_nonneg (by omega) (by omega)
        omega
      · exact cost_gr hf f _ _ h0 (by omega) (by omega)
    · rw [if_neg ha, costL, if_pos (by omega)]
      exact h0
/-! ## lines of least cost, in plain terms -/
theorem len_cons (ws : List ByteArray) (a b : Nat) (h : a < b) (hb : b ≤ ws.length) : len ws (a : Int) (b : Int) = len ws ((a + 1 : Nat) : Int) (b : Int) + ((ws[a]).size : Int) + 1 := by
  unfold len
  rw [Int.toNat_natCast, Int.toNat_natCast, Int.toNat_natCast, seg_cons ws a b h hb]
  simp only [tot, List.map_cons, List.sum_cons]
  omega
theorem len_right (ws : List ByteArray) (a b : Nat) (hab : a ≤ b) (d : Nat) : b + d ≤ ws.length → len ws (a : Int) (b : Int) ≤ len ws (a : Int) ((b + d : Nat) : Int) := by
  induction d with
  | zero => intro _; exact Int.le_refl _
  | succ d ih =>
    intro h
    have h1 := len_snoc ws a (b + d) (by omega) (by omega)
    have h2 := ih (by omega)
    rw [show b + (d + 1) = b + d + 1 by omega, h1]
    omega
theorem len_left (ws : List ByteArray) (b : Nat) (hb : b ≤ ws.length) (d : Nat) : ∀ a : Nat, a + d ≤ b → len ws ((a + d : Nat) : Int) (b : Int) ≤ len ws (a : Int) (b : Int) := by
  induction d with
  | zero => intro a _; exact Int.le_refl _
  | succ d ih =>
    intro a h
    have h1 := len_cons ws a b (by omega) hb
    have h2 := ih (a + 1) (by omega)
    rw [show a + (d + 1) = a + 1 + d by omega, h1]
    omega
def cand (ws : List ByteArray) (w : Int) (B : Nat → Int) (a m : Nat) : Int :=
  if a + m = ws.length then 0 else (w - len ws (a : Int) ((a + m : Nat) : Int)) * (w - len ws (a : Int) ((a + m : Nat) : Int)) + B (a + m)
def scan (ws : List ByteArray) (w : Int) (B : Nat → Int) (a : Nat) : Nat → Nat → Int × Int → Int × Int
  | 0, _, s => s
  | d + 1, m, s => if len ws (a : Int) ((a + m : Nat) : Int) ≤ w then scan ws w B a d (m + 1) (if s.1 < 0 ∨ cand ws w B a m ≤ s.1 then (cand ws w B a m, ((m : Nat) : Int)) else s) else s
theorem scan_step (ws : List ByteArray) (w : Int) (B : Nat → Int) (a d m : Nat) (s : Int × Int) : scan ws w B a (d + 1) m s = if len ws (a : Int) ((a + m : Nat) : Int) ≤ w then scan ws w B a d (m + 1) (if s.1 < 0 ∨ cand ws w B a m ≤ s.1 then (cand ws w B a m, ((m : Nat) : Int)) else s) else s := rfl
def tab (ws : List ByteArray) (w : Int) : Nat → Nat → Int × Int
  | 0 => fun _ => (0, 0)
  | d + 1 => fun j => if j + (d + 1) = ws.length then scan ws w (fun j => (tab ws w d j).1) j (d + 1) 1 (-1, 0) else tab ws w d j
theorem tab_step (ws : List ByteArray) (w : Int) (d j : Nat) : tab ws w (d + 1) j = if j + (d + 1) = ws.length then scan ws w (fun j => (tab ws w d j).1) j (d + 1) 1 (-1, 0) else tab ws w d j := rfl
theorem tab_low (ws : List ByteArray) (w : Int) (j : Nat) (d : Nat) : j + d < ws.length → tab ws w d j = (0, 0) := by
  induction d with
  | zero => intro _; rfl
  | succ d ih => intro h; rw [tab_step, if_neg (by omega)]; exact ih (by omega)
theorem tab_end (ws : List ByteArray) (w : Int) (j : Nat) (h : ws.length ≤ j) (d : Nat) : tab ws w d j = (0, 0) := by
  induction d with
  | zero => rfl
  | succ d ih => rw [tab_step, if_neg (by omega)]; exact ih
theorem tab_up (ws : List ByteArray) (w : Int) (j d : Nat) (h : ws.length ≤ j + d) (e : Nat) : tab ws w (d + e) j = tab ws w d j := by
  induction e with
  | zero => rfl
  | succ e ih =>
    rw [show d + (e + 1) = d + e + 1 by omega, tab_step, if_neg (by omega)]
    exact ih
def good (ws : List ByteArray) (w : Int) (B : Nat → Int) (a : Nat) (r : Int × Int) : Prop :=
  ∃ m : Nat, 1 ≤ m ∧ a + m ≤ ws.length ∧ r.2 = ((m : Nat) : Int) ∧ len ws (a : Int) ((a + m : Nat) : Int) ≤ w ∧ r.1 = cand ws w B a m
def topB (ws : List ByteArray) (B : Nat → Int) (a : Nat) : Prop := ∀ j : Nat, a < j → j ≤ ws.length → 0 ≤ B j ∧ B j ≤ 1600 * ((ws.length : Int) - j)
theorem cand_in {ws : List ByteArray} {w : Int} (hf : fit ws w) {B : Nat → Int} {a : Nat} (hB : topB ws B a) (m : Nat) (h1 : 1 ≤ m) (h2 : a + m ≤ ws.length) (h3 : len ws (a : Int) ((a + m : Nat) : Int) ≤ w) :
    0 ≤ cand ws w B a m ∧ cand ws w B a m ≤ 1600 * ((ws.length : Int) - a) := by
  have hw := hf.1
  have hl := len_in (narrow_of hf) a (a + m) (by omega) h2
  have hsq := sq_in (w - len ws (a : Int) ((a + m : Nat) : Int)) (by omega) (by omega)
  have hb := hB (a + m) (by omega) h2
  unfold cand
  split
  · omega
  · omega
theorem scan_min {ws : List ByteArray} {w : Int} (hf : fit ws w) {B : Nat → Int} {a : Nat} (hB : topB ws B a) (d : Nat) : ∀ (m : Nat) (s : Int × Int), a + m + d = ws.length + 1 → 1 ≤ m →
    (∀ m' : Nat, 1 ≤ m' → m' < m → len ws (a : Int) ((a + m' : Nat) : Int) ≤ w → 0 ≤ s.1 ∧ s.1 ≤ cand ws w B a m') →
    (∀ m' : Nat, 1 ≤ m' → a + m' ≤ ws.length → len ws (a : Int) ((a + m' : Nat) : Int) ≤ w → 0 ≤ (scan ws w B a d m s).1 ∧ (scan ws w B a d m s).1 ≤ cand ws w B a m') ∧
    (scan ws w B a d m s = s ∨ good ws w B a (scan ws w B a d m s)) := by
  induction d with
  | zero =>
    intro m s hd hm hlow
    exact ⟨fun m' h1 h2 h3 => hlow m' h1 (by omega) h3, .inl rfl⟩
  | succ d ih =>
    intro m s hd hm hlow
    rw [scan_step]
    by_cases hc : len ws (a : Int) ((a + m : Nat) : Int) ≤ w
    · rw [if_pos hc]
      have hin := cand_in hf hB m hm (by omega) hc
      by_cases hu : s.1 < 0 ∨ cand ws w B a m ≤ s.1
      · rw [if_pos hu]
        have h := ih (m + 1) (cand ws w B a m, ((m : Nat) : Int)) (by omega) (by omega) (fun m' h1 h2 h3 => by
          refine ⟨hin.1, ?_⟩
          dsimp only
          by_cases e : m' = m
          · subst e; exact Int.le_refl _
          · have := hlow m' h1 (by omega) h3
            omega)
        refine ⟨h.1, .inr ?_⟩
        rcases h.2 with e | e
        · rw [e]
          exact ⟨m, hm, by omega, rfl, hc, rfl⟩
        · exact e
      · rw [if_neg hu]
        refine ih (m + 1) s (by omega) (by omega) (fun m' h1 h2 h3 => ?_)
        by_cases e : m' = m
        · subst e; omega
        · exact hlow m' h1 (by omega) h3
    · rw [if_neg hc]
      refine ⟨fun m' h1 h2 h3 => ?_, .inl rfl⟩
      by_cases e : m' < m
      · exact hlow m' h1 e h3
      · have := len_right ws a (a + m) (by omega) (m' - m) (by omega)
        rw [show a + m + (m' - m) = a + m' by omega] at this
        omega
theorem one_fits {ws : List ByteArray} {w : Int} (hf : fit ws w) (a : Nat) (ha : a < ws.length) : len ws (a : Int) ((a + 1 : Nat) : Int) ≤ w := by
  rw [len_snoc ws a a (Nat.le_refl _) ha]
  have h1 := (hf.2.2 _ (List.getElem_mem ha)).1
  have h2 : len ws a (a : Int) = -1 := by
    unfold len
    rw [Int.toNat_natCast, List.drop_of_length_le (by simp; omega)]
    simp [tot]
  omega
theorem scan_good {ws : List ByteArray} {w : Int} (hf : fit ws w) {B : Nat → Int} {a : Nat} (ha : a < ws.length) (hB : topB ws B a) (d : Nat) (hd : a + d = ws.length) :
    good ws w B a (scan ws w B a d 1 (-1, 0)) ∧ ∀ m' : Nat, 1 ≤ m' → a + m' ≤ ws.length → len ws (a : Int) ((a + m' : Nat) : Int) ≤ w → (scan ws w B a d 1 (-1, 0)).1 ≤ cand ws w B a m' := by
  have h := scan_min hf hB d 1 (-1, 0) (by omega) (by omega) (fun m' h1 h2 _ => by omega)
  refine ⟨?_, fun m' h1 h2 h3 => (h.1 m' h1 h2 h3).2⟩
  rcases h.2 with e | e
  · have := (h.1 1 (by omega) (by omega) (one_fits hf a ha)).1
    rw [e] at this
    exact absurd this (by decide)
  · exact e
theorem tab_in {ws : List ByteArray} {w : Int} (hf : fit ws w) (d : Nat) : ∀ j : Nat, ws.length ≤ j + d → j ≤ ws.length → 0 ≤ (tab ws w d j).1 ∧ (tab ws w d j).1 ≤ 1600 * ((ws.length : Int) - j) := by
  induction d with
  | zero =>
    intro j h1 h2
    rw [tab_end ws w j (by omega)]
    dsimp only
    omega
  | succ d ih =>
    intro j h1 h2
    rw [tab_step]
    split
    · rename_i e
      have hB : topB ws (fun j => (tab ws w d j).1) j := fun i hi hi2 => ih i (by omega) hi2
      obtain ⟨⟨m, hm1, hm2, hm3, hm4, hm5⟩, _⟩ := scan_good hf (a := j) (by omega) hB (d + 1) (by omega)
      rw [hm5]
      exact cand_in hf hB m hm1 hm2 hm4
    · exact ih j (by omega) h2
theorem cand_congr (ws : List ByteArray) (w : Int) (B C : Nat → Int) (a m : Nat) (h : B (a + m) = C (a + m)) : cand ws w B a m = cand ws w C a m := by
  unfold cand
  rw [h]
def bestB (ws : List ByteArray) (w : Int) (a : Nat) : Int := (tab ws w ws.length a).1
def bestT (ws : List ByteArray) (w : Int) (a : Nat) : Int := (tab ws w ws.length a).2
theorem best_in {ws : List ByteArray} {w : Int} (hf : fit ws w) (a : Nat) (ha : a ≤ ws.length) : 0 ≤ bestB ws w a ∧ bestB ws w a ≤ 1600 * ((ws.length : Int) - a) := tab_in hf ws.length a (by omega) ha
theorem best_end (ws : List ByteArray) (w : Int) : bestB ws w ws.length = 0 := by
  unfold bestB
  rw [tab_end ws w ws.length (Nat.le_refl _)]
theorem best_good {ws : List ByteArray} {w : Int} (hf : fit ws w) (a : Nat) (ha : a < ws.length) :
    (∃ m : Nat, 1 ≤ m ∧ a + m ≤ ws.length ∧ bestT ws w a = ((m : Nat) : Int) ∧ len ws (a : Int) ((a + m : Nat) : Int) ≤ w ∧ bestB ws w a = cand ws w (bestB ws w) a m) ∧
    ∀ m' : Nat, 1 ≤ m' → a + m' ≤ ws.length → len ws (a : Int) ((a + m' : Nat) : Int) ≤ w → bestB ws w a ≤ cand ws w (bestB ws w) a m' := by
  obtain ⟨d, hd⟩ : ∃ d, a + (d + 1) = ws.length := ⟨ws.length - a - 1, by omega⟩
  have e1 : tab ws w ws.length a = scan ws w (fun j => (tab ws w d j).1) a (d + 1) 1 (-1, 0) := by
    have := tab_up ws w a (d + 1) (by omega) a
    rw [show d + 1 + a = ws.length by omega] at this
    rw [this, tab_step, if_pos hd]
  have e2 : ∀ m : Nat, 1 ≤ m → a + m ≤ ws.length → (tab ws w d (a + m)).1 = bestB ws w (a + m) := fun m h1 h2 => by
    have := tab_up ws w (a + m) d (by omega) (ws.length - d)
    rw [show d + (ws.length - d) = ws.length by omega] at this
    unfold bestB
    rw [this]
  have e3 : ∀ m : Nat, 1 ≤ m → a + m ≤ ws.length → cand ws w (fun j => (tab ws w d j).1) a m = cand ws w (bestB ws w) a m := fun m h1 h2 => cand_congr _ _ _ _ _ _ (e2 m h1 h2)
  have hB : topB ws (fun j => (tab ws w d j).1) a := fun i hi hi2 => tab_in hf d i (by omega) hi2
  obtain ⟨⟨m, hm1, hm2, hm3, hm4, hm5⟩, hmin⟩ := scan_good hf ha hB (d + 1) hd
  rw [← e1] at hm3 hm5 hmin
  refine ⟨⟨m, hm1, hm2, hm3, hm4, ?_⟩, fun m' h1 h2 h3 => ?_⟩
  · rw [← e3 m hm1 hm2]; exact hm5
  · rw [← e3 m' h1 h2]; exact hmin m' h1 h2 h3
def outL (ws : List ByteArray) (w : Int) : Nat → Nat → List Int
  | 0, _ => []
  | f + 1, a => if a < ws.length then bestT ws w a :: outL ws w f (a + (bestT ws w a).toNat) else []
theorem outL_step (ws : List ByteArray) (w : Int) (f a : Nat) : outL ws w (f + 1) a = if a < ws.length then bestT ws w a :: outL ws w f (a + (bestT ws w a).toNat) else [] := rfl
theorem outL_length (ws : List ByteArray) (w : Int) : ∀ f a : Nat, (outL ws w f a).length ≤ f
  | 0, _ => by simp [outL]
  | f + 1, a => by
    rw [outL_step]
    split
    · have := outL_length ws w f (a + (bestT ws w a).toNat)
      simp only [List.length_cons]
      omega
    · simp
theorem outL_pos {ws : List ByteArray} {w : Int} (f a : Nat) (h : a < ws.length) : 0 < (outL ws w (f + 1) a).length := by
  rw [outL_step, if_pos h]
  simp
theorem cost_out {ws : List ByteArray} {w : Int} (hf : fit ws w) (f : Nat) : ∀ (a : Nat) (c : Int), a ≤ ws.length → ws.length ≤ a + f → costL ws w (outL ws w f a) a c = c + bestB ws w a := by
  induction f with
  | zero =>
    intro a c h1 h2
    obtain rfl : a = ws.length := by omega
    rw [outL, costL, if_pos rfl, best_end]
    omega
  | succ f ih =>
    intro a c h1 h2
    rw [outL_step]
    by_cases ha : a < ws.length
    · rw [if_pos ha, costL]
      obtain ⟨⟨m, hm1, hm2, hm3, hm4, hm5⟩, _⟩ := best_good hf a ha
      rw [hm3, Int.toNat_natCast, if_pos (by omega), show (a : Int) + (m : Int) = ((a + m : Nat) : Int) by omega, if_neg (by omega), hm5]
      unfold cand
      by_cases he : a + m = ws.length
      · rw [if_pos he]
        have hnil : outL ws w f (a + m) = [] := by
          cases f with
          | zero => rfl
          | succ f => rw [outL_step, if_neg (by omega)]
        rw [hnil, if_neg (by simp), costL, if_pos (by omega)]
        omega
      · rw [if_neg he]
        have hp : 0 < (outL ws w f (a + m)).length := by
          cases f with
          | zero => omega
          | succ f => exact outL_pos f (a + m) (by omega)
        rw [if_pos hp, ih (a + m) _ hm2 (by omega)]
        omega
    · obtain rfl : a = ws.length := by omega
      rw [if_neg ha, costL, if_pos rfl, best_end]
      omega
theorem cost_min {ws : List ByteArray} {w : Int} (hf : fit ws w) : ∀ (ls : List Int) (a : Nat) (c : Int), a ≤ ws.length → costL ws w ls a c ≠ -1 → c + bestB ws w a ≤ costL ws w ls a c
  | [], a, c => fun ha h => by
    rw [costL] at h ⊢
    by_cases e : (a : Int) = (ws.length : Int)
    · obtain rfl : a = ws.length := by omega
      rw [if_pos e, best_end]
      omega
    · rw [if_neg e] at h
      exact absurd rfl h
  | x :: r, a, c => fun ha h => by
    rw [costL] at h ⊢
    by_cases hx : 1 ≤ x ∧ x ≤ (ws.length : Int) - a
    · rw [if_pos hx] at h ⊢
      obtain ⟨m, rfl⟩ := Int.eq_ofNat_of_zero_le (show 0 ≤ x by omega)
      have e : (a : Int) + (m : Int) = ((a + m : Nat) : Int) := by omega
      rw [e] at h ⊢
      by_cases hl : len ws (a : Int) ((a + m : Nat) : Int) > w
      · rw [if_pos hl] at h
        exact absurd rfl h
      · rw [if_neg hl] at h ⊢
        have hm := (best_good hf a (by omega)).2 m (by omega) (by omega) (by omega)
        have hq : 0 ≤ (w - len ws (a : Int) ((a + m : Nat) : Int)) * (w - len ws (a : Int) ((a + m : Nat) : Int)) := Int.mul_nonneg (by omega) (by omega)
        unfold cand at hm
        generalize (w - len ws (a : Int) ((a + m : Nat) : Int)) * (w - len ws (a : Int) ((a + m : Nat) : Int)) = q at h hm hq ⊢
        by_cases hr : 0 < r.length
        · rw [if_pos hr] at h ⊢
          have ih := cost_min hf r (a + m) (c + q) (by omega) h
          by_cases he : a + m = ws.length
          · rw [if_pos he] at hm
            have h0 : bestB ws w (a + m) = 0 := by rw [he, best_end]
            omega
          · rw [if_neg he] at hm
            omega
        · rw [if_neg hr] at h ⊢
          have ih := cost_min hf r (a + m) c (by omega) h
          obtain rfl : r = [] := List.eq_nil_of_length_eq_zero (by omega)
          rw [costL] at h ih ⊢
          by_cases he : ((a + m : Nat) : Int) = (ws.length : Int)
          · rw [if_pos (by omega)] at hm
            rw [if_pos he]
            omega
          · rw [if_neg he] at h
            exact absurd rfl h
    · rw [if_neg hx] at h
      exact absurd rfl h
noncomputable def linesM (ws : List ByteArray) (n : Int) : List Int := open Classical in if fit ws n then outL ws n ws.length 0 else []
theorem linesM_length (ws : List ByteArray) (n : Int) : (linesM ws n).length ≤ 20 := by
  unfold linesM
  split
  · rename_i h
    have := outL_length ws n ws.length 0
    have := h.2.1
    omega
  · simp
/-! ## WrapLines: the tables of the program and of the reference -/
theorem rd_set_self (b : List Int) (a : Nat) (c : Int) (h : a < b.length) : rd (b.set a c) (a : Int) = c := by
  rw [rd_at _ _ (by simpa using h)]
  simp
theorem rd_set_ne (b : List Int) (a i : Nat) (c : Int) (hi : i < b.length) (h : a ≠ i) : rd (b.set a c) (i : Int) = rd b (i : Int) := by
  rw [rd_at _ _ (by simpa using hi), rd_at _ _ hi]
  simp [List.getElem_set_ne h]
theorem cand_at (ws : List ByteArray) (w : Int) (B : Nat → Int) (a m : Nat) : cand ws w B a m = if a + m = ws.length then 0 else (w - len ws (a : Int) ((a + m : Nat) : Int)) * (w - len ws (a : Int) ((a + m : Nat) : Int)) + B (a + m) := rfl
theorem impl_wl_in {ws : List ByteArray} {w : Int} (hf : fit ws w) (b t : List Int) (hb : b.length = ws.length + 1) (ht : t.length = ws.length + 1) (a : Nat) (ha : a < ws.length) (hB : topB ws (fun j => rd b (j : Int)) a) (r : List Int) (d : Nat) :
    ∀ (m : Nat) (s : Int × Int), a + m + d = ws.length + 1 → 1 ≤ m →
    Ev (fun k => impl_WrapLines.l0 k ws w (b.set a (scan ws w (fun j => rd b (j : Int)) a d m s).1) (t.set a (scan ws w (fun j => rd b (j : Int)) a d m s).2) ((a : Int) - 1)) r →
    Ev (fun k => impl_WrapLines.l1 k ws w (b.set a s.1) (t.set a s.2) a m) r := by
  have hw := narrow_of hf
  have h20 := hf.2.1
  have hn := hf.1
  have wm : ∀ _ : Unit, wrap64 ((a : Int) - 1) = (a : Int) - 1 := fun _ => w64 (by omega) (by omega)
  induction d with
  | zero =>
    intro m s hd hm hr
    have w1 : wrap64 ((a : Int) + m) = ((a + m : Nat) : Int) := by rw [w64] <;> omega
    refine Ev.up ?_
    simp only [impl_WrapLines.l1, w1]
    clear w1
    refine Ev.neg (by omega) (Ev.up ?_)
    simp only [impl_WrapLines.j2, Bool.false_eq_true, if_false, wm ()]
    exact hr
  | succ d ih =>
    intro m s hd hm hr
    have w1 : ∀ _ : Unit, wrap64 ((a : Int) + m) = ((a + m : Nat) : Int) := fun _ => by rw [w64] <;> omega
    have w2 : ∀ _ : Unit, wrap64 ((m : Int) + 1) = ((m + 1 : Nat) : Int) := fun _ => by rw [w64] <;> omega
    have hL := impl_len hw a (a + m) (by omega) (by omega)
    have hLi := len_in hw a (a + m) (by omega) (by omega)
    rw [scan_step] at hr
    refine Ev.up ?_
    simp only [impl_WrapLines.l1, w1 (), Int.toNat_natCast, hL, Option.bind_some]
    refine Ev.pos (by omega) (Ev.pos (by omega) (Ev.pos (by omega) ?_))
    by_cases hc : len ws (a : Int) ((a + m : Nat) : Int) ≤ w
    · rw [if_pos hc] at hr
      have hb0 := hB (a + m) (by omega) (by omega)
      have hsq := sq_in (w - len ws (a : Int) ((a + m : Nat) : Int)) (by omega) (by omega)
      have w3 : ∀ _ : Unit, wrap64 (w - len ws (a : Int) ((a + m : Nat) : Int)) = w - len ws (a : Int) ((a + m : Nat) : Int) := fun _ => w64 (by omega) (by omega)
      have hra : rd (b.set a s.1) (a : Int) = s.1 := rd_set_self b a s.1 (by omega)
      have hrm : rd (b.set a s.1) ((a + m : Nat) : Int) = rd b ((a + m : Nat) : Int) := rd_set_ne b a (a + m) s.1 (by omega) (by omega)
      have next : ∀ s' : Int × Int, (if s.1 < 0 ∨ cand ws w (fun j => rd b (j : Int)) a m ≤ s.1 then (cand ws w (fun j => rd b (j : Int)) a m, ((m : Nat) : Int)) else s) = s' →
          Ev (fun k => impl_WrapLines.l1 k ws w (b.set a s'.1) (t.set a s'.2) a ((m + 1 : Nat) : Int)) r := by
        intro s' e
        rw [e] at hr
        exact ih (m + 1) s' (by omega) (by omega) hr
      have yes : s.1 < 0 ∨ cand ws w (fun j => rd b (j : Int)) a m ≤ s.1 → Ev (fun k => impl_WrapLines.l1 k ws w (b.set a (cand ws w (fun j => rd b (j : Int)) a m)) (t.set a ((m : Nat) : Int)) a ((m + 1 : Nat) : Int)) r := fun h => next _ (if_pos h)
      have no : ¬ (s.1 < 0 ∨ cand ws w (fun j => rd b (j : Int)) a m ≤ s.1) → Ev (fun k => impl_WrapLines.l1 k ws w (b.set a s.1) (t.set a s.2) a ((m + 1 : Nat) : Int)) r := fun h => next _ (if_neg h)
      clear next hr ih
      rw [cand_at] at yes no
      refine Ev.up ?_
      simp only [impl_WrapLines.j2, decide_eq_true hc, if_true, w1 (), w2 (), Int.toNat_natCast, hL, Option.bind_some, w3 (), hra, hrm, List.set_set, List.length_set]
      generalize (w - len ws (a : Int) ((a + m : Nat) : Int)) * (w - len ws (a : Int) ((a + m : Nat) : Int)) = q at hsq yes no ⊢
      have w4 : ∀ _ : Unit, wrap64 q = q := fun _ => w64 (by omega) (by omega)
      have w5 : ∀ _ : Unit, wrap64 (q + rd b ((a + m : Nat) : Int)) = q + rd b ((a + m : Nat) : Int) := fun _ => w64 (by dsimp only at hb0; omega) (by dsimp only at hb0; omega)
      simp only [w4 (), w5 ()]
      refine Ev.pos (by omega) (Ev.pos (by omega) (Ev.pos (by omega) (Ev.pos (by omega) (Ev.pos (by omega) ?_))))
      by_cases he : a + m = ws.length
      · rw [if_pos he] at yes no
        refine Ev.pos (by omega) (Ev.pos (by omega) ?_)
        by_cases c1 : s.1 < 0
        · exact Ev.pos c1 (Ev.pos (by omega) (yes (.inl c1)))
        · refine Ev.neg c1 ?_
          by_cases c2 : 0 ≤ s.1
          · exact Ev.pos c2 (Ev.pos (by omega) (yes (.inr c2)))
          · exact absurd c1 (by omega)
      · rw [if_neg he] at yes no
        refine Ev.neg (by omega) (Ev.pos (by omega) ?_)
        by_cases c1 : s.1 < 0
        · exact Ev.pos c1 (Ev.pos (by omega) (yes (.inl c1)))
        · refine Ev.neg c1 ?_
          by_cases c2 : q + rd b ((a + m : Nat) : Int) ≤ s.1
          · exact Ev.pos c2 (Ev.pos (by omega) (yes (.inr c2)))
          · exact Ev.neg c2 (no (fun h => h.elim c1 c2))
    · rw [if_neg hc] at hr
      refine Ev.up ?_
      simp only [impl_WrapLines.j2, decide_eq_false hc, Bool.false_eq_true, if_false, wm ()]
      exact hr
def tb (ws : List ByteArray) (w : Int) (d : Nat) : List Int := (List.range (ws.length + 1)).map fun j => (tab ws w d j).1
def tt (ws : List ByteArray) (w : Int) (d : Nat) : List Int := (List.range (ws.length + 1)).map fun j => (tab ws w d j).2
theorem tb_length (ws : List ByteArray) (w : Int) (d : Nat) : (tb ws w d).length = ws.length + 1 := by simp [tb]
theorem tt_length (ws : List ByteArray) (w : Int) (d : Nat) : (tt ws w d).length = ws.length + 1 := by simp [tt]
theorem rd_tb (ws : List ByteArray) (w : Int) (d j : Nat) : rd (tb ws w d) (j : Int) = (tab ws w d j).1 := by
  by_cases hj : j < ws.length + 1
  · rw [rd_at _ _ (by rw [tb_length]; exact hj)]
    simp [tb]
  · rw [tab_end ws w j (by omega)]
    simp [rd, tb, hj, List.getD_eq_getElem?_getD]
theorem rd_tt (ws : List ByteArray) (w : Int) (d j : Nat) (hj : j < ws.length + 1) : rd (tt ws w d) (j : Int) = (tab ws w d j).2 := by
  rw [rd_at _ _ (by rw [tt_length]; exact hj)]
  simp [tt]
theorem tb_zero (ws : List ByteArray) (w : Int) : List.replicate (ws.length + 1) 0 = tb ws w 0 := by
  apply List.ext_getElem (by simp [tb])
  intro i h1 h2
  simp [tb, tab]
theorem tt_zero (ws : List ByteArray) (w : Int) : List.replicate (ws.length + 1) 0 = tt ws w 0 := by
  apply List.ext_getElem (by simp [tt])
  intro i h1 h2
  simp [tt, tab]
theorem tb_step (ws : List ByteArray) (w : Int) (d a : Nat) (h : a + (d + 1) = ws.length) : (tb ws w d).set a (scan ws w (fun j => (tab ws w d j).1) a (d + 1) 1 (-1, 0)).1 = tb ws w (d + 1) := by
  apply List.ext_getElem (by simp [tb])
  intro i h1 h2
  rw [List.getElem_set]
  split
  · rename_i e
    subst e
    simp [tb, tab_step, h]
  · rename_i e
    simp only [tb, List.getElem_map, List.getElem_range, tab_step]
    rw [if_neg (by omega)]
theorem tt_step (ws : List ByteArray) (w : Int) (d a : Nat) (h : a + (d + 1) = ws.length) : (tt ws w d).set a (scan ws w (fun j => (tab ws w d j).1) a (d + 1) 1 (-1, 0)).2 = tt ws w (d + 1) := by
  apply List.ext_getElem (by simp [tt])
  intro i h1 h2
  rw [List.getElem_set]
  split
  · rename_i e
    subst e
    simp [tt, tab_step, h]
  · rename_i e
    simp only [tt, List.getElem_map, List.getElem_range, tab_step]
    rw [if_neg (by omega)]
theorem tt_low (ws : List ByteArray) (w : Int) (d a : Nat) (h : a + (d + 1) = ws.length) : (tt ws w d).set a 0 = tt ws w d := by
  apply List.ext_getElem (by simp)
  intro i h1 h2
  rw [List.getElem_set]
  split
  · rename_i e
    subst e
    simp [tt, tab_low ws w a d (by omega)]
  · rfl
theorem impl_wl_out {ws : List ByteArray} {w : Int} (hf : fit ws w) (f : Nat) : ∀ (a : Nat) (acc : List Int), a ≤ ws.length → ws.length ≤ a + f → acc.length ≤ 100 - f → f ≤ 20 →
    Ev (fun k => impl_WrapLines.l2 k ws (tt ws w ws.length) acc a) (acc ++ outL ws w f a) := by
  have h20 := hf.2.1
  have stop : ∀ (a : Nat) (acc : List Int), a = ws.length → acc.length ≤ 1000 → Ev (fun k => impl_WrapLines.l2 k ws (tt ws w ws.length) acc a) acc := by
    intro a acc h hl
    refine Ev.up ?_
    simp only [impl_WrapLines.l2, impl_copied_int.f]
    refine Ev.neg (by omega) ?_
    rw [if_pos (by omega), Option.bind_some]
    exact Ev.now _
  induction f with
  | zero =>
    intro a acc ha h2 hl _
    rw [outL, List.append_nil]
    exact stop a acc (by omega) (by omega)
  | succ f ih =>
    intro a acc ha h2 hl hf20
    rw [outL_step]
    by_cases hlt : a < ws.length
    · rw [if_pos hlt]
      obtain ⟨⟨m, hm1, hm2, hm3, _, _⟩, _⟩ := best_good hf a hlt
      have hrd : rd (tt ws w ws.length) (a : Int) = bestT ws w a := rd_tt ws w ws.length a (by omega)
      have wa : ∀ _ : Unit, wrap64 ((a : Int) + (m : Int)) = ((a + m : Nat) : Int) := fun _ => by rw [w64] <;> omega
      have h1 := ih (a + m) (acc ++ [bestT ws w a]) hm2 (by omega) (by simp; omega) (by omega)
      rw [List.append_assoc] at h1
      have e : (bestT ws w a).toNat = m := by rw [hm3, Int.toNat_natCast]
      rw [e]
      rw [hm3] at h1 hrd ⊢
      refine Ev.up ?_
      simp only [impl_WrapLines.l2, hrd, wa (), tt_length]
      exact Ev.pos (by omega) (Ev.pos (by omega) (Ev.pos (by omega) (Ev.pos (by omega) h1)))
    · rw [if_neg hlt, List.append_nil]
      exact stop a acc (by omega) (by omega)
theorem impl_wl_outer {ws : List ByteArray} {w : Int} (hf : fit ws w) (a : Nat) : ∀ d : Nat, a + d = ws.length →
    Ev (fun k => impl_WrapLines.l0 k ws w (tb ws w d) (tt ws w d) ((a : Int) - 1)) (outL ws w ws.length 0) := by
  have h20 := hf.2.1
  induction a with
  | zero =>
    intro d hd
    obtain rfl : d = ws.length := by omega
    have h := impl_wl_out hf ws.length 0 [] (by omega) (by omega) (by simp) (by omega)
    rw [List.nil_append] at h
    refine Ev.up ?_
    simp only [impl_WrapLines.l0]
    exact Ev.neg (by omega) h
  | succ a ih =>
    intro d hd
    have h := ih (d + 1) (by omega)
    have hB : topB ws (fun j => rd (tb ws w d) (j : Int)) a := fun j h1 h2 => by
      dsimp only
      rw [rd_tb]
      exact tab_in hf d j (by omega) h2
    have e : (fun j : Nat => rd (tb ws w d) (j : Int)) = fun j => (tab ws w d j).1 := funext fun j => rd_tb ws w d j
    have hin := impl_wl_in hf (tb ws w d) (tt ws w d) (tb_length ws w d) (tt_length ws w d) a (by omega) hB (outL ws w ws.length 0) (d + 1) 1 (-1, 0) (by omega) (by omega)
    rw [e, tb_step ws w d a (by omega), tt_step ws w d a (by omega)] at hin
    dsimp only at hin
    rw [tt_low ws w d a (by omega)] at hin
    have e1 : ((a + 1 : Nat) : Int) - 1 = (a : Int) := by omega
    rw [e1]
    refine Ev.up ?_
    simp only [impl_WrapLines.l0, tb_length, Int.toNat_natCast]
    exact Ev.pos (by omega) (Ev.pos (by omega) (Ev.pos (by omega) (hin h)))
open Classical in
theorem impl_lines (ws : List ByteArray) (n : Int) (hz : sized ws) : Ev (fun k => impl_WrapLines.f k ws n) (linesM ws n) := by
  unfold impl_WrapLines.f linesM
  refine Ev.bind (impl_fit ws n hz) ?_
  by_cases h : fit ws n
  · rw [if_pos h]
    have h20 := h.2.1
    have w1 : ∀ _ : Unit, wrap64 ((ws.length : Int) + 1) = ((ws.length + 1 : Nat) : Int) := fun _ => by rw [w64] <;> omega
    have w2 : ∀ _ : Unit, wrap64 ((ws.length : Int) - 1) = (ws.length : Int) - 1 := fun _ => w64 (by omega) (by omega)
    have := impl_wl_outer h ws.length 0 (by omega)
    rw [← tb_zero, ← tt_zero] at this
    refine Ev.pos (decide_eq_true h) ?_
    simp only [w1 (), w2 (), Int.toNat_natCast]
    exact Ev.pos (by omega) (Ev.pos (by omega) this)
  · rw [if_neg h]
    exact Ev.neg (by simp [h]) (Ev.now _)
/-! ## WrapLines: the reference -/
theorem spec_wl_in {ws : List ByteArray} {w : Int} (hf : fit ws w) (b t : List Int) (hb : b.length = ws.length + 1) (ht : t.length = ws.length + 1) (hend : rd b (ws.length : Int) = 0) (a : Nat) (ha : a < ws.length) (hB : topB ws (fun j => rd b (j : Int)) a) (r : List Int) (d : Nat) :
    ∀ (m : Nat) (s : Int × Int), a + m + d = ws.length + 1 → 1 ≤ m →
    Ev (fun k => spec_WrapLines.l0 k ws w ([] : List Int) (ws.length : Int) (b.set a (scan ws w (fun j => rd b (j : Int)) a d m s).1) (t.set a (scan ws w (fun j => rd b (j : Int)) a d m s).2) ((a : Int) - 1)) r →
    Ev (fun k => spec_WrapLines.l1 k ws w ([] : List Int) (ws.length : Int) (b.set a s.1) (t.set a s.2) a m) r := by
  have hw := narrow_of hf
  have h20 := hf.2.1
  have hn := hf.1
  have wm : ∀ _ : Unit, wrap64 ((a : Int) - 1) = (a : Int) - 1 := fun _ => w64 (by omega) (by omega)
  induction d with
  | zero =>
    intro m s hd hm hr
    have w1 : wrap64 ((a : Int) + m) = ((a + m : Nat) : Int) := by rw [w64] <;> omega
    refine Ev.up ?_
    simp only [spec_WrapLines.l1, w1]
    clear w1
    refine Ev.neg (by omega) (Ev.up ?_)
    simp only [spec_WrapLines.j2, Bool.false_eq_true, if_false, wm ()]
    exact hr
  | succ d ih =>
    intro m s hd hm hr
    have w1 : ∀ _ : Unit, wrap64 ((a : Int) + m) = ((a + m : Nat) : Int) := fun _ => by rw [w64] <;> omega
    have w2 : ∀ _ : Unit, wrap64 ((m : Int) + 1) = ((m + 1 : Nat) : Int) := fun _ => by rw [w64] <;> omega
    have hL := spec_len hw a (a + m) (by omega) (by omega)
    have hLi := len_in hw a (a + m) (by omega) (by omega)
    rw [scan_step] at hr
    refine Ev.up ?_
    simp only [spec_WrapLines.l1, w1 ()]
    refine Ev.pos (by omega) (Ev.bind hL ?_)
    by_cases hc : len ws (a : Int) ((a + m : Nat) : Int) ≤ w
    · rw [if_pos hc] at hr
      have hb0 := hB (a + m) (by omega) (by omega)
      have hsq := sq_in (w - len ws (a : Int) ((a + m : Nat) : Int)) (by omega) (by omega)
      have w3 : ∀ _ : Unit, wrap64 (w - len ws (a : Int) ((a + m : Nat) : Int)) = w - len ws (a : Int) ((a + m : Nat) : Int) := fun _ => w64 (by omega) (by omega)
      have hra : rd (b.set a s.1) (a : Int) = s.1 := rd_set_self b a s.1 (by omega)
      have hrm : rd (b.set a s.1) ((a + m : Nat) : Int) = rd b ((a + m : Nat) : Int) := rd_set_ne b a (a + m) s.1 (by omega) (by omega)
      have next : ∀ s' : Int × Int, (if s.1 < 0 ∨ cand ws w (fun j => rd b (j : Int)) a m ≤ s.1 then (cand ws w (fun j => rd b (j : Int)) a m, ((m : Nat) : Int)) else s) = s' →
          Ev (fun k => spec_WrapLines.l1 k ws w ([] : List Int) (ws.length : Int) (b.set a s'.1) (t.set a s'.2) a ((m + 1 : Nat) : Int)) r := by
        intro s' e
        rw [e] at hr
        exact ih (m + 1) s' (by omega) (by omega) hr
      have yes : s.1 < 0 ∨ cand ws w (fun j => rd b (j : Int)) a m ≤ s.1 → Ev (fun k => spec_WrapLines.l1 k ws w ([] : List Int) (ws.length : Int) (b.set a (cand ws w (fun j => rd b (j : Int)) a m)) (t.set a ((m : Nat) : Int)) a ((m + 1 : Nat) : Int)) r := fun h => next _ (if_pos h)
      have no : ¬ (s.1 < 0 ∨ cand ws w (fun j => rd b (j : Int)) a m ≤ s.1) → Ev (fun k => spec_WrapLines.l1 k ws w ([] : List Int) (ws.length : Int) (b.set a s.1) (t.set a s.2) a ((m + 1 : Nat) : Int)) r := fun h => next _ (if_neg h)
      clear next hr ih
      rw [cand_at] at yes no
      refine Ev.up ?_
      simp only [spec_WrapLines.j2, decide_eq_true hc, if_true, w1 (), w2 ()]
      refine Ev.bind hL ?_
      simp only [w3 (), hra, hrm, List.set_set, List.length_set, Int.toNat_natCast]
      generalize (w - len ws (a : Int) ((a + m : Nat) : Int)) * (w - len ws (a : Int) ((a + m : Nat) : Int)) = q at hsq yes no ⊢
      have w4 : ∀ _ : Unit, wrap64 q = q := fun _ => w64 (by omega) (by omega)
      have w5 : ∀ _ : Unit, wrap64 (rd b ((a + m : Nat) : Int) + q) = q + rd b ((a + m : Nat) : Int) := fun _ => by rw [w64 (by dsimp only at hb0; omega) (by dsimp only at hb0; omega)]; omega
      simp only [w4 (), w5 ()]
      refine Ev.pos (by omega) (Ev.pos (by omega) ?_)
      by_cases he : a + m = ws.length
      · rw [if_pos he] at yes no
        have hz : rd b ((a + m : Nat) : Int) = 0 := by rw [he]; exact hend
        rw [hz]
        refine Ev.neg (by omega) (Ev.pos (by omega) (Ev.pos (by omega) ?_))
        by_cases c1 : s.1 < 0
        · exact Ev.pos c1 (Ev.pos (by omega) (yes (.inl c1)))
        · refine Ev.neg c1 ?_
          by_cases c2 : 0 ≤ s.1
          · exact Ev.pos c2 (Ev.pos (by omega) (yes (.inr c2)))
          · exact absurd c1 (by omega)
      · rw [if_neg he] at yes no
        refine Ev.pos (by omega) (Ev.pos (by omega) (Ev.pos (by omega) ?_))
        by_cases c1 : s.1 < 0
        · exact Ev.pos c1 (Ev.pos (by omega) (yes (.inl c1)))
        · refine Ev.neg c1 ?_
          by_cases c2 : q + rd b ((a + m : Nat) : Int) ≤ s.1
          · exact Ev.pos c2 (Ev.pos (by omega) (yes (.inr c2)))
          · exact Ev.neg c2 (no (fun h => h.elim c1 c2))
    · rw [if_neg hc] at hr
      rw [decide_eq_false hc]
      refine Ev.up ?_
      simp only [spec_WrapLines.j2, Bool.false_eq_true, if_false, wm ()]
      exact hr
theorem spec_wl_out {ws : List ByteArray} {w : Int} (hf : fit ws w) (f : Nat) : ∀ (a : Nat) (acc : List Int), a ≤ ws.length → ws.length ≤ a + f → acc.length ≤ 100 - f → f ≤ 20 →
    Ev (fun k => spec_WrapLines.l2 k acc (ws.length : Int) (tt ws w ws.length) a) (acc ++ outL ws w f a) := by
  have h20 := hf.2.1
  have stop : ∀ (a : Nat) (acc : List Int), a = ws.length → acc.length ≤ 1000 → Ev (fun k => spec_WrapLines.l2 k acc (ws.length : Int) (tt ws w ws.length) a) acc := by
    intro a acc h hl
    refine Ev.up ?_
    simp only [spec_WrapLines.l2]
    exact Ev.neg (by omega) (Ev.now _)
  induction f with
  | zero =>
    intro a acc ha h2 hl _
    rw [outL, List.append_nil]
    exact stop a acc (by omega) (by omega)
  | succ f ih =>
    intro a acc ha h2 hl hf20
    rw [outL_step]
    by_cases hlt : a < ws.length
    · rw [if_pos hlt]
      obtain ⟨⟨m, hm1, hm2, hm3, _, _⟩, _⟩ := best_good hf a hlt
      have hrd : rd (tt ws w ws.length) (a : Int) = bestT ws w a := rd_tt ws w ws.length a (by omega)
      have wa : ∀ _ : Unit, wrap64 ((a : Int) + (m : Int)) = ((a + m : Nat) : Int) := fun _ => by rw [w64] <;> omega
      have h1 := ih (a + m) (acc ++ [bestT ws w a]) hm2 (by omega) (by simp; omega) (by omega)
      rw [List.append_assoc] at h1
      have e : (bestT ws w a).toNat = m := by rw [hm3, Int.toNat_natCast]
      rw [e]
      rw [hm3] at h1 hrd ⊢
      refine Ev.up ?_
      simp only [spec_WrapLines.l2, hrd, wa (), tt_length]
      exact Ev.pos (by omega) (Ev.pos (by omega) (Ev.pos (by omega) (Ev.pos (by omega) h1)))
    · rw [if_neg hlt, List.append_nil]
      exact stop a acc (by omega) (by omega)
theorem spec_wl_outer {ws : List ByteArray} {w : Int} (hf : fit ws w) (a : Nat) : ∀ d : Nat, a + d = ws.length →
    Ev (fun k => spec_WrapLines.l0 k ws w ([] : List Int) (ws.length : Int) (tb ws w d) (tt ws w d) ((a : Int) - 1)) (outL ws w ws.length 0) := by
  have h20 := hf.2.1
  induction a with
  | zero =>
    intro d hd
    obtain rfl : d = ws.length := by omega
    have h := spec_wl_out hf ws.length 0 [] (by omega) (by omega) (by simp) (by omega)
    rw [List.nil_append] at h
    refine Ev.up ?_
    simp only [spec_WrapLines.l0]
    exact Ev.neg (by omega) h
  | succ a ih =>
    intro d hd
    have h := ih (d + 1) (by omega)
    have hB : topB ws (fun j => rd (tb ws w d) (j : Int)) a := fun j h1 h2 => by
      dsimp only
      rw [rd_tb]
      exact tab_in hf d j (by omega) h2
    have e : (fun j : Nat => rd (tb ws w d) (j : Int)) = fun j => (tab ws w d j).1 := funext fun j => rd_tb ws w d j
    have hend : rd (tb ws w d) (ws.length : Int) = 0 := by rw [rd_tb, tab_end ws w ws.length (Nat.le_refl _)]
    have hin := spec_wl_in hf (tb ws w d) (tt ws w d) (tb_length ws w d) (tt_length ws w d) hend a (by omega) hB (outL ws w ws.length 0) (d + 1) 1 (-1, 0) (by omega) (by omega)
    rw [e, tb_step ws w d a (by omega), tt_step ws w d a (by omega)] at hin
    dsimp only at hin
    rw [tt_low ws w d a (by omega)] at hin
    have e1 : ((a + 1 : Nat) : Int) - 1 = (a : Int) := by omega
    rw [e1]
    refine Ev.up ?_
    simp only [spec_WrapLines.l0, tb_length, Int.toNat_natCast]
    exact Ev.pos (by omega) (Ev.pos (by omega) (Ev.pos (by omega) (hin h)))
open Classical in
theorem spec_lines (ws : List ByteArray) (n : Int) (hz : sized ws) : Ev (fun k => spec_WrapLines.f k ws n) (linesM ws n) := by
  unfold spec_WrapLines.f linesM
  simp only [Option.bind_some]
  refine Ev.bind (spec_fit ws n hz) ?_
  by_cases h : fit ws n
  · rw [if_pos h]
    have h20 := h.2.1
    have w1 : ∀ _ : Unit, wrap64 ((ws.length : Int) + 1) = ((ws.length + 1 : Nat) : Int) := fun _ => by rw [w64] <;> omega
    have w2 : ∀ _ : Unit, wrap64 ((ws.length : Int) - 1) = (ws.length : Int) - 1 := fun _ => w64 (by omega) (by omega)
    have := spec_wl_outer h ws.length 0 (by omega)
    rw [← tb_zero, ← tt_zero] at this
    refine Ev.pos (decide_eq_true h) ?_
    simp only [w1 (), w2 (), Int.toNat_natCast]
    exact Ev.pos (by omega) (Ev.pos (by omega) this)
  · rw [if_neg h]
    exact Ev.neg (by simp [h]) (Ev.now _)
/-! ## the law -/
theorem FnExactWrapLines (ws : List ByteArray) (hl : ws.length ≤ 9223372036854775807) (hw : ∀ a ∈ ws, a.size ≤ 9223372036854775807) (n : Int) (_ : (Lit.int .i64 n).wf = true) : ∃ k, laws_FnExactWrapLines.f k ws n = some true := by
  refine Ev.rounds (g := fun k => laws_FnExactWrapLines.f k ws n) ?_
  unfold laws_FnExactWrapLines.f
  obtain ⟨r, hr, _, hr2⟩ := szStringS_ev ws 1048576 (by omega) hl hw
  refine Ev.bind hr ?_
  by_cases hneg : r < 0
  · exact Ev.pos hneg (Ev.now _)
  · obtain ⟨h1, h2⟩ := hr2 (by omega)
    have hz : sized ws := ⟨by omega, fun w hw => by have := h2 w hw; omega⟩
    have ht := toStringS_ev ws h1
    have hg := linesM_length ws n
    have he := eqIntS_ev (linesM ws n) (by omega)
    obtain ⟨l', hm⟩ := markStringS_ev ws h1
    have hmi := markIntS_ev (linesM ws n) (by omega)
    have hhe := heldIntS_ev (linesM ws n).length (by omega)
    refine Ev.neg hneg (Ev.bind ht (Ev.bind (spec_lines ws n hz) (Ev.bind ht (Ev.bind (impl_lines ws n hz) (Ev.bind he ?_)))))
    refine Ev.pos rfl ?_
    refine Ev.bind ht (Ev.bind (eqStringS_ev ws h1) ?_)
    refine Ev.pos rfl ?_
    refine Ev.bind hm (Ev.neg (by dsimp only; omega) (Ev.bind he (Ev.up ?_)))
    simp only [laws_FnExactWrapLines.j0, Bool.not_true, Bool.false_eq_true, if_false]
    refine Ev.bind hmi (Ev.bind hhe ?_)
    refine Ev.neg (by omega) (Ev.pos rfl (Ev.bind ht (Ev.bind (impl_lines ws n hz) (Ev.bind he ?_))))
    refine Ev.pos rfl (Ev.bind hhe ?_)
    exact Ev.neg (by omega) (Ev.pos rfl (Ev.now _))
end Go.Proofs.Ytghkbkbommobaaa.Pure
