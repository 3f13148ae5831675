/- The law FnWrapText answers true on every drawn input: program and reference find the same lines; each is as long as the width at most, none is empty, and together they have all bytes of the note that are no spaces. Conditions: none beyond the given statement's own; the listed tables of Go's library are as the program's text lays them (the card). -/
import Derived.Test.YtghkbkbommobaaaDoorPx15
namespace Go.Proofs.YtghkbkbommobaaaDoor.Pure
open Go.RowKit Go.Proofs.YtghkbkbommobaaaDoor.P Go.Proofs.YtghkbkbommobaaaDoorW.PrintWords Go.Proofs.YtghkbkbommobaaaDoorW.PrintLast
set_option linter.unusedVariables false
set_option linter.unusedSimpArgs false
/-! ## base: rounds, loops, numbers -/
theorem w64 {x : Int} (h0 : -9223372036854775808 ≤ x) (h1 : x ≤ 9223372036854775807) : wrap64 x = x := by unfold wrap64; omega
theorem Ev.pos {α : Type} {c : Prop} [Decidable c] {A B : Nat → Option α} {r : α} (hc : c) (h : Ev A r) : Ev (fun k => if c then A k else B k) r := by simpa only [if_pos hc] using h
theorem Ev.neg {α : Type} {c : Prop} [Decidable c] {A B : Nat → Option α} {r : α} (hc : ¬ c) (h : Ev B r) : Ev (fun k => if c then A k else B k) r := by simpa only [if_neg hc] using h
theorem Ev.ok {α : Type} {r r' : α} (h : r = r') : Ev (fun _ => some r) r' := by subst h; exact Ev.now r
theorem Ev.eqr {α : Type} {g : Nat → Option α} {r r' : α} (h : Ev g r) (e : r = r') : Ev g r' := e ▸ h
theorem Ev.unique {α : Type} {g : Nat → Option α} {r r' : α} (h : Ev g r) (h' : Ev g r') : r = r' := by
  obtain ⟨K, h⟩ := h
  obtain ⟨K', h'⟩ := h'
  have a := h (max K K') (by omega)
  have b := h' (max K K') (by omega)
  rw [a] at b
  exact Option.some.inj b
/-- A loop over 0, 1, .. n-1 that goes on while P holds. -/
theorem ev_scan {α : Type} {L : Nat → Int → Option α} {n : Nat} {r : α} (P : Nat → Prop)
    (hs : ∀ i : Nat, i < n → P i → Ev (fun k => L k (i + 1)) r → Ev (fun k => L k i) r)
    (hf : ∀ i : Nat, i < n → (∀ j, j < i → P j) → ¬ P i → Ev (fun k => L k i) r)
    (he : (∀ j, j < n → P j) → Ev (fun k => L k n) r) : Ev (fun k => L k 0) r := by
  have key : ∀ (d i : Nat), i + d = n → (∀ j, j < i → P j) → Ev (fun k => L k i) r := by
    intro d
    induction d with
    | zero =>
      intro i hi hp
      obtain rfl : i = n := by omega
      exact he hp
    | succ d ih =>
      intro i hi hp
      by_cases h : P i
      · have h' := ih (i + 1) (by omega) (fun j hj => by
          rcases Nat.lt_succ_iff_lt_or_eq.mp hj with h1 | h1
          · exact hp j h1
          · subst h1; exact h)
        exact hs i (by omega) h h'
      · exact hf i (by omega) hp h
  exact key n 0 (by omega) (fun j hj => by omega)
theorem rdOf_nat {α : Type} (d : α) (xs : List α) (i : Nat) (h : i < xs.length) : rdOf d xs (i : Int) = xs[i] := by
  simp [rdOf, List.getD_eq_getElem?_getD, List.getElem?_eq_getElem h]
theorem Ev.up {α : Type} {g : Nat → Option α} {r : α} (h : Ev (fun k => g (k + 1)) r) : Ev g r := Ev.step (fun _ => rfl) h
theorem Ev.const {α : Type} {g : Option α} {r : α} (h : g = some r) : Ev (fun _ => g) r := by subst h; exact Ev.now r
/-- A loop that fills a list, place by place. -/
theorem ev_fill {β γ : Type} {L : Nat → List β → Int → Option γ} {n : Nat} {r : γ} (g : Nat → β)
    (hs : ∀ (i : Nat) (xs : List β), i < n → xs.length = n → Ev (fun k => L k (xs.set i (g i)) (i + 1)) r → Ev (fun k => L k xs i) r)
    (he : Ev (fun k => L k ((List.range n).map g) n) r) (init : List β) (hi : init.length = n) : Ev (fun k => L k init 0) r := by
  have key : ∀ (d i : Nat) (xs : List β), i + d = n → xs.length = n → (∀ j, j < i → xs[j]? = some (g j)) → Ev (fun k => L k xs i) r := by
    intro d
    induction d with
    | zero =>
      intro i xs hid hl hp
      obtain rfl : i = n := by omega
      have : xs = (List.range i).map g := by
        apply List.ext_getElem?
        intro j
        by_cases hj : j < i
        · rw [hp j hj]; simp [hj]
        · rw [List.getElem?_eq_none (by omega), List.getElem?_eq_none (by simp; omega)]
      rw [this]
      exact he
    | succ d ih =>
      intro i xs hid hl hp
      have h' := ih (i + 1) (xs.set i (g i)) (by omega) (by simp [hl]) (fun j hj => by
        rcases Nat.lt_succ_iff_lt_or_eq.mp hj with h1 | h1
        · rw [List.getElem?_set_ne (by omega)]; exact hp j h1
        · subst h1; rw [List.getElem?_set_self (by omega)])
      exact hs i xs (by omega) hl h'
  exact key n 0 init (by omega) hi (fun j hj => by omega)
theorem range_map_get {α : Type} (d : α) (xs : List α) : (List.range xs.length).map (fun i => rdOf d xs (i : Nat)) = xs := by
  apply List.ext_getElem?
  intro j
  by_cases hj : j < xs.length
  · simp [hj, rdOf, List.getD_eq_getElem?_getD]
  · rw [List.getElem?_eq_none (by simp; omega), List.getElem?_eq_none (by omega)]
/-! ## bounds -/
theorem spec_in (a b c : Int) : spec_l1In.f a b c = some (decide (b ≤ a ∧ a ≤ c)) := by
  unfold spec_l1In.f
  by_cases h : a ≥ b
  · rw [if_pos h]; congr 1; exact decide_eq_decide.mpr ⟨fun x => ⟨h, x⟩, fun x => x.2⟩
  · rw [if_neg h]; congr 1; exact (decide_eq_false (fun x => h x.1)).symm
theorem impl_in (a b c : Int) : impl_in.f a b c = some (decide (b ≤ a ∧ a ≤ c)) := by
  unfold impl_in.f
  by_cases h : a ≥ b
  · rw [if_pos h]; congr 1; exact decide_eq_decide.mpr ⟨fun x => ⟨h, x⟩, fun x => x.2⟩
  · rw [if_neg h]; congr 1; exact (decide_eq_false (fun x => h x.1)).symm
theorem wbt (w : ByteArray) (j : Int) : wrap64 (bt w j) = bt w j := by
  have := bt_range w j
  exact w64 (by omega) (by omega)
def sized (ws : List ByteArray) : Prop := ws.length ≤ 1099511627776 ∧ ∀ w ∈ ws, w.size ≤ 140737488355328
/-! ## the reader of a code: pick and odd -/
theorem xor_nat (a b : Nat) (ha : a < 4611686018427387904) (hb : b < 4611686018427387904) : Go.bits .xor .i64 (a : Int) (b : Int) = ((a ^^^ b : Nat) : Int) := by
  have hx : a ^^^ b < 2 ^ 62 := Nat.xor_lt_two_pow (by omega) (by omega)
  have h1 : (BitVec.ofInt 64 (a : Int)).toNat = a := by
    rw [BitVec.ofInt_natCast, BitVec.toNat_ofNat]; exact Nat.mod_eq_of_lt (by omega)
  have h2 : (BitVec.ofInt 64 (b : Int)).toNat = b := by
    rw [BitVec.ofInt_natCast, BitVec.toNat_ofNat]; exact Nat.mod_eq_of_lt (by omega)
  show IntKind.i64.wrap ((BitVec.ofInt 64 (a : Int) ^^^ BitVec.ofInt 64 (b : Int)).toNat : Int) = _
  rw [BitVec.toNat_xor, h1, h2]
  simp only [IntKind.wrap, IntKind.bits, IntKind.signed]
  simp
  omega
theorem xor_ge (a b : Int) (h0 : 0 ≤ a) (h1 : a < 4611686018427387904) (h2 : 0 ≤ b) (h3 : b < 4611686018427387904) : 0 ≤ Go.bits .xor .i64 a b := by
  obtain ⟨n, rfl⟩ := Int.eq_ofNat_of_zero_le h0
  obtain ⟨m, rfl⟩ := Int.eq_ofNat_of_zero_le h2
  rw [xor_nat n m (by omega) (by omega)]
  omega
theorem tmod_in (a n : Int) (h : 0 ≤ a) (hn : 1 ≤ n) : 0 ≤ Int.tmod a n ∧ Int.tmod a n < n := by
  rw [Int.tmod_eq_emod_of_nonneg h]
  exact ⟨Int.emod_nonneg _ (by omega), Int.emod_lt_of_pos _ (by omega)⟩
def codeOk (s : List Int) : Prop := ∀ x ∈ s, 0 ≤ x ∧ x ≤ 255
theorem rd_in {s : List Int} (hs : codeOk s) (i : Int) : 0 ≤ rd s i ∧ rd s i ≤ 255 := by
  unfold rd
  by_cases h : i.toNat < s.length
  · rw [List.getD_eq_getElem?_getD, List.getElem?_eq_getElem h]
    exact hs _ (List.getElem_mem h)
  · rw [List.getD_eq_getElem?_getD, List.getElem?_eq_none (by omega)]
    simp
theorem pick_ev (s : List Int) (hs : codeOk s) (p n : Int) (hp : 0 ≤ p) (hp2 : p ≤ 1099511627776) (hl : s.length ≤ 140737488355328) :
    ∃ r, Ev (fun k => spec_l20Rd_pick.f k s p n) (r, p + 1) ∧ 0 ≤ r ∧ (1 ≤ n → r < n) := by
  have h1 : wrap64 (p + 1) = p + 1 := w64 (by omega) (by omega)
  have h2 : wrap64 (p + 1 - 1) = p := by rw [w64] <;> omega
  unfold spec_l20Rd_pick.f
  by_cases hn : n < 1
  · refine ⟨0, ?_, by omega, by omega⟩
    refine Ev.pos hn ?_
    refine Ev.step (f := fun k => some (0, p + 1)) (fun k => ?_) (Ev.now _)
    simp only [spec_l20Rd_pick.j0, if_true, h1]
  · by_cases he : (s.length : Int) = 0
    · refine ⟨0, ?_, by omega, by omega⟩
      refine Ev.neg hn ?_
      refine Ev.step (f := fun k => some (0, p + 1)) (fun k => ?_) (Ev.now _)
      simp only [spec_l20Rd_pick.j0, h1, he, beq_self_eq_true, if_true]
    · have hb : ((s.length : Int) == 0) = false := by simpa using he
      have hn1 : ¬ n = 0 := by omega
      by_cases hlt : p < (s.length : Int)
      · have hr := rd_in hs p
        have hw : wrap64 (rd s p) = rd s p := w64 (by omega) (by omega)
        have ht := tmod_in (rd s p) n hr.1 (by omega)
        refine ⟨Int.tmod (rd s p) n, ?_, ht.1, fun _ => ht.2⟩
        refine Ev.neg hn ?_
        refine Ev.step (f := fun k => some (Int.tmod (rd s p) n, p + 1)) (fun k => ?_) (Ev.now _)
        simp only [spec_l20Rd_pick.j0, h1, h2, hb, hw, if_pos hlt, if_pos hp, if_neg hn1]
        rfl
      · have hlp : 1 ≤ (s.length : Int) := by omega
        have m1 := tmod_in p (s.length : Int) hp hlp
        have h7 : wrap64 (wrap64 (p * 7) + 3) = p * 7 + 3 := by
          rw [w64 (x := p * 7) (by omega) (by omega), w64 (by omega) (by omega)]
        have m2 := tmod_in (p * 7 + 3) (s.length : Int) (by omega) hlp
        have b1 := rd_in hs (Int.tmod p (s.length : Int))
        have b2 := rd_in hs (Int.tmod (p * 7 + 3) (s.length : Int))
        have hd : 0 ≤ Int.tdiv p (s.length : Int) ∧ Int.tdiv p (s.length : Int) ≤ p := by
          rw [Int.tdiv_eq_ediv_of_nonneg hp]
          exact ⟨Int.ediv_nonneg hp (by omega), Int.ediv_le_self _ hp⟩
        generalize e1 : rd s (Int.tmod p (s.length : Int)) = B1 at *
        generalize e2 : rd s (Int.tmod (p * 7 + 3) (s.length : Int)) = B2 at *
        generalize e3 : Int.tdiv p (s.length : Int) = D at *
        obtain ⟨X, hX⟩ : ∃ X, X = wrap64 (wrap64 (wrap64 (wrap64 (wrap64 B1 * 131) + wrap64 (wrap64 B2 * 1117)) + wrap64 (p * 29)) + wrap64 (wrap64 D * 53)) := ⟨_, rfl⟩
        have hXv : X = B1 * 131 + B2 * 1117 + p * 29 + D * 53 := by
          rw [hX, w64 (x := B1) (by omega) (by omega), w64 (x := B1 * 131) (by omega) (by omega), w64 (x := B2) (by omega) (by omega), w64 (x := B2 * 1117) (by omega) (by omega), w64 (x := p * 29) (by omega) (by omega), w64 (x := D) (by omega) (by omega), w64 (x := D * 53) (by omega) (by omega), w64 (x := B1 * 131 + B2 * 1117) (by omega) (by omega), w64 (x := B1 * 131 + B2 * 1117 + p * 29) (by omega) (by omega), w64 (by omega) (by omega)]
        have hX0 : 0 ≤ X := by omega
        have hX1 : X < 4611686018427387904 := by omega
        have hY : 0 ≤ wrap64 (Int.tdiv X 64) ∧ wrap64 (Int.tdiv X 64) < 4611686018427387904 := by
          rw [Int.tdiv_eq_ediv_of_nonneg hX0, w64 (by omega) (by omega)]
          omega
        have hx := xor_ge X (wrap64 (Int.tdiv X 64)) hX0 hX1 hY.1 hY.2
        have ht := tmod_in _ n hx (by omega)
        refine ⟨_, ?_, ht.1, fun _ => ht.2⟩
        refine Ev.neg hn ?_
        refine Ev.step (f := fun k => some (Int.tmod (Go.bits .xor .i64 X (wrap64 (Int.tdiv X 64))) n, p + 1)) (fun k => ?_) (Ev.now _)
        simp only [spec_l20Rd_pick.j0, h1, h2, hb, h7, e1, e2, e3, if_neg hlt, if_neg he, if_pos m1.1, if_pos m1.2, if_pos m2.1, if_pos m2.2, if_neg hn1, ← hX]
        rfl
theorem odd_ev (s : List Int) (hs : codeOk s) (p n : Int) (hp : 0 ≤ p) (hp2 : p ≤ 1099511627776) (hl : s.length ≤ 140737488355328) :
    ∃ r q, Ev (fun k => spec_l20Rd_odd.f k s p n) (r, q) ∧ p ≤ q ∧ q ≤ p + 1 := by
  unfold spec_l20Rd_odd.f
  by_cases hn : n > 0
  · obtain ⟨r, hr, _, _⟩ := pick_ev s hs p n hp hp2 hl
    exact ⟨_, _, Ev.pos hn (Ev.bind hr (Ev.now _)), by omega, by omega⟩
  · exact ⟨_, _, Ev.neg hn (Ev.now _), by omega, by omega⟩
theorem open_ev (l : List Int) (hs : codeOk l) (hl : l.length ≤ 1048576) : ∃ s, spec_l20Open.f l = some (s, 0) ∧ codeOk s ∧ s.length ≤ 2000 := by
  unfold spec_l20Open.f
  by_cases h : (l.length : Int) > 2000
  · rw [if_pos h, if_pos (by omega)]
    exact ⟨_, rfl, fun x hx => hs x (List.mem_of_mem_take hx), by simp; omega⟩
  · rw [if_neg h]
    exact ⟨_, rfl, hs, by omega⟩
theorem codeOk_wf {l : List Int} (h : ∀ x ∈ l, (Lit.int .u8 x).wf = true) : codeOk l := fun x hx => by
  have := h x hx
  simp [Lit.wf, IntKind.min, IntKind.max, IntKind.bits, IntKind.signed] at this
  omega
/-! ## WordsFit: both are the same condition -/
def wordOk (w : ByteArray) (n : Int) : Prop := (1 ≤ (w.size : Int) ∧ (w.size : Int) ≤ n) ∧ ∀ j : Nat, j < w.size → 33 ≤ bt w j ∧ bt w j ≤ 126
def fit (ws : List ByteArray) (n : Int) : Prop := (1 ≤ n ∧ n ≤ 40) ∧ ws.length ≤ 20 ∧ ∀ w ∈ ws, wordOk w n
theorem fit_iff (ws : List ByteArray) (n : Int) : fit ws n ↔ (1 ≤ n ∧ n ≤ 40) ∧ ws.length ≤ 20 ∧ ∀ i : Nat, i < ws.length → wordOk (rdOf ByteArray.empty ws i) n := by
  unfold fit
  refine and_congr Iff.rfl (and_congr Iff.rfl ⟨fun h i hi => ?_, fun h w hw => ?_⟩)
  · rw [rdOf_nat _ _ _ hi]; exact h _ (List.getElem_mem hi)
  · obtain ⟨i, hi, rfl⟩ := List.mem_iff_getElem.mp hw
    have := h i hi
    rwa [rdOf_nat _ _ _ hi] at this
def byteOk (w : ByteArray) (j : Nat) : Prop := 33 ≤ bt w j ∧ bt w j ≤ 126
open Classical in
theorem spec_fit (ws : List ByteArray) (n : Int) (hl : sized ws) : Ev (fun k => spec_WordsFit.f k ws n) (decide (fit ws n)) := by
  have inner : ∀ (i : Nat) (hi : i < ws.length) (r : Bool),
      (wordOk (rdOf ByteArray.empty ws i) n → Ev (fun k => spec_WordsFit.l0 k ws n (i + 1)) r) → (¬ wordOk (rdOf ByteArray.empty ws i) n → r = false) →
      Ev (fun k => spec_WordsFit.l1 k ws n i 0) r := by
    intro i hi r hgo hno
    have hw : (rdOf ByteArray.empty ws i).size ≤ 140737488355328 := by rw [rdOf_nat _ _ _ hi]; exact hl.2 _ (List.getElem_mem hi)
    have h2 : wrap64 ((i : Int) + 1) = i + 1 := w64 (by omega) (by have := hl.1; omega)
    refine ev_scan (L := fun k j => spec_WordsFit.l1 k ws n i j) (n := (rdOf ByteArray.empty ws i).size) (byteOk (rdOf ByteArray.empty ws i)) ?_ ?_ ?_
    · intro j hj hp hr
      refine Ev.step (f := fun k => spec_WordsFit.l1 k ws n i (j + 1)) (fun k => ?_) hr
      have h1 : wrap64 ((j : Int) + 1) = j + 1 := w64 (by omega) (by omega)
      unfold byteOk at hp
      simp only [spec_WordsFit.l1, wbt, h1, spec_in]
      rw [if_pos (by omega), if_pos (by omega), if_pos (by omega), if_pos (by omega)]
      simp only [Option.bind_some, decide_eq_true hp, if_true]
    · intro j hj _ hp
      rw [hno (fun h => hp (h.2 j hj))]
      refine Ev.step (f := fun k => some false) (fun k => ?_) (Ev.now _)
      unfold byteOk at hp
      simp only [spec_WordsFit.l1, wbt, spec_in]
      rw [if_pos (by omega), if_pos (by omega), if_pos (by omega), if_pos (by omega)]
      simp only [Option.bind_some, decide_eq_false hp, Bool.false_eq_true, if_false]
    · intro hall
      by_cases hs : 1 ≤ ((rdOf ByteArray.empty ws i).size : Int) ∧ ((rdOf ByteArray.empty ws i).size : Int) ≤ n
      · refine Ev.step (f := fun k => spec_WordsFit.l0 k ws n (i + 1)) (fun k => ?_) (hgo ⟨hs, hall⟩)
        simp only [spec_WordsFit.l1, h2, spec_in]
        rw [if_pos (by omega), if_pos (by omega), if_neg (by omega)]
        simp only [Option.bind_some, decide_eq_true hs, if_true]
      · rw [hno (fun h => hs h.1)]
        refine Ev.step (f := fun k => some false) (fun k => ?_) (Ev.now _)
        simp only [spec_WordsFit.l1, spec_in]
        rw [if_pos (by omega), if_pos (by omega), if_neg (by omega)]
        simp only [Option.bind_some, decide_eq_false hs, Bool.false_eq_true, if_false]
  refine ev_scan (L := fun k i => spec_WordsFit.l0 k ws n i) (n := ws.length) (fun i => wordOk (rdOf ByteArray.empty ws i) n) ?_ ?_ ?_
  · intro i hi hp hr
    refine Ev.step (f := fun k => spec_WordsFit.l1 k ws n i 0) (fun k => ?_) (inner i hi _ (fun _ => hr) (fun h => absurd hp h))
    simp only [spec_WordsFit.l0]
    rw [if_pos (by omega)]
  · intro i hi _ hp
    have hno : decide (fit ws n) = false := decide_eq_false (fun h => hp (((fit_iff ws n).mp h).2.2 i hi))
    refine Ev.step (f := fun k => spec_WordsFit.l1 k ws n i 0) (fun k => ?_) (inner i hi _ (fun h => absurd h hp) (fun _ => hno))
    simp only [spec_WordsFit.l0]
    rw [if_pos (by omega)]
  · intro hall
    refine Ev.step (f := fun k => some (decide (fit ws n))) (fun k => ?_) (Ev.now _)
    simp only [spec_WordsFit.l0, spec_in]
    rw [if_neg (by omega)]
    by_cases h20 : (ws.length : Int) ≤ 20
    · rw [if_pos h20]
      simp only [Option.bind_some]
      congr 1
      exact decide_eq_decide.mpr ⟨fun h => (fit_iff ws n).mpr ⟨h, by omega, hall⟩, fun h => h.1⟩
    · rw [if_neg h20]
      congr 1
      exact (decide_eq_false (fun h => h20 (by have := h.2.1; omega))).symm
open Classical in
theorem impl_fit (ws : List ByteArray) (n : Int) (hl : sized ws) : Ev (fun k => impl_WordsFit.f k ws n) (decide (fit ws n)) := by
  have inner : ∀ (i : Nat) (hi : i < ws.length) (r : Bool),
      (wordOk (rdOf ByteArray.empty ws i) n → Ev (fun k => impl_WordsFit.l0 k n ws (ws.length : Int) (i + 1)) r) → (¬ wordOk (rdOf ByteArray.empty ws i) n → r = false) →
      Ev (fun k => impl_WordsFit.l0 k n ws (ws.length : Int) i) r := by
    intro i hi r hgo hno
    have hw : (rdOf ByteArray.empty ws i).size ≤ 140737488355328 := by rw [rdOf_nat _ _ _ hi]; exact hl.2 _ (List.getElem_mem hi)
    have h2 : wrap64 ((i : Int) + 1) = i + 1 := w64 (by omega) (by have := hl.1; omega)
    by_cases hs : 1 ≤ ((rdOf ByteArray.empty ws i).size : Int) ∧ ((rdOf ByteArray.empty ws i).size : Int) ≤ n
    · refine Ev.step (f := fun k => impl_WordsFit.l1 k n (rdOf ByteArray.empty ws i) 0 ws (ws.length : Int) i) (fun k => ?_) ?_
      · simp only [impl_WordsFit.l0, impl_in]
        rw [if_pos (by omega), if_pos (by omega), if_pos (by omega)]
        simp only [Option.bind_some, decide_eq_true hs, if_true]
      · refine ev_scan (L := fun k j => impl_WordsFit.l1 k n (rdOf ByteArray.empty ws i) j ws (ws.length : Int) i) (n := (rdOf ByteArray.empty ws i).size) (byteOk (rdOf ByteArray.empty ws i)) ?_ ?_ ?_
        · intro j hj hp hr
          refine Ev.step (f := fun k => impl_WordsFit.l1 k n (rdOf ByteArray.empty ws i) (j + 1) ws (ws.length : Int) i) (fun k => ?_) hr
          have h1 : wrap64 ((j : Int) + 1) = j + 1 := w64 (by omega) (by omega)
          unfold byteOk at hp
          simp only [impl_WordsFit.l1, wbt, h1, impl_in]
          rw [if_pos (by omega), if_pos (by omega)]
          simp only [Option.bind_some, decide_eq_true hp, if_true]
        · intro j hj _ hp
          rw [hno (fun h => hp (h.2 j hj))]
          refine Ev.step (f := fun k => some false) (fun k => ?_) (Ev.now _)
          unfold byteOk at hp
          simp only [impl_WordsFit.l1, wbt, impl_in]
          rw [if_pos (by omega), if_pos (by omega)]
          simp only [Option.bind_some, decide_eq_false hp, Bool.false_eq_true, if_false]
        · intro hall
          refine Ev.step (f := fun k => impl_WordsFit.l0 k n ws (ws.length : Int) (i + 1)) (fun k => ?_) (hgo ⟨hs, hall⟩)
          simp only [impl_WordsFit.l1, h2]
          rw [if_neg (by omega)]
    · rw [hno (fun h => hs h.1)]
      refine Ev.step (f := fun k => some false) (fun k => ?_) (Ev.now _)
      simp only [impl_WordsFit.l0, impl_in]
      rw [if_pos (by omega), if_pos (by omega), if_pos (by omega)]
      simp only [Option.bind_some, decide_eq_false hs, Bool.false_eq_true, if_false]
  unfold impl_WordsFit.f
  by_cases h0 : 1 ≤ n ∧ n ≤ 40
  · by_cases h20 : (ws.length : Int) > 20
    · have hd : decide (fit ws n) = false := decide_eq_false (fun h => by have := h.2.1; omega)
      rw [hd]
      simp only [impl_in, decide_eq_true h0, Option.bind_some, if_true, decide_eq_true h20]
      refine Ev.step (f := fun k => some false) (fun k => ?_) (Ev.now _)
      simp only [impl_WordsFit.j0, if_true]
    · simp only [impl_in, decide_eq_true h0, Option.bind_some, if_true, decide_eq_false h20]
      refine Ev.step (f := fun k => impl_WordsFit.l0 k n ws (ws.length : Int) 0) (fun k => ?_) ?_
      · simp only [impl_WordsFit.j0, Bool.false_eq_true, if_false]
      · refine ev_scan (L := fun k i => impl_WordsFit.l0 k n ws (ws.length : Int) i) (n := ws.length) (fun i => wordOk (rdOf ByteArray.empty ws i) n) ?_ ?_ ?_
        · intro i hi hp hr
          exact inner i hi _ (fun _ => hr) (fun h => absurd hp h)
        · intro i hi _ hp
          exact inner i hi _ (fun h => absurd h hp) (fun _ => decide_eq_false (fun h => hp (((fit_iff ws n).mp h).2.2 i hi)))
        · intro hall
          refine Ev.step (f := fun k => some true) (fun k => ?_) (Ev.ok (decide_eq_true ((fit_iff ws n).mpr ⟨h0, by omega, hall⟩)).symm)
          simp only [impl_WordsFit.l0]
          rw [if_neg (by omega)]
  · have hd : decide (fit ws n) = false := decide_eq_false (fun h => h0 h.1)
    rw [hd]
    simp only [impl_in, decide_eq_false h0, Option.bind_some, Bool.false_eq_true, if_false]
    refine Ev.step (f := fun k => some false) (fun k => ?_) (Ev.now _)
    simp only [impl_WordsFit.j0, if_true]
/-! ## TextValid -/
def textOk (s : ByteArray) : Prop := s.size ≤ 20000 ∧ ∀ j : Nat, j < s.size → bt s j = 10 ∨ (32 ≤ bt s j ∧ bt s j ≤ 126)
/-! ## TextValid -/
open Classical in
theorem impl_text (s : ByteArray) (hl : s.size ≤ 140737488355328) : Ev (fun k => impl_TextValid.f k s) (decide (textOk s)) := by
  unfold impl_TextValid.f
  refine ev_scan (L := fun k i => impl_TextValid.l0 k s i) (n := s.size) (fun j => bt s j = 10 ∨ (32 ≤ bt s j ∧ bt s j ≤ 126)) ?_ ?_ ?_
  · intro i hi hp hr
    have h1 : wrap64 ((i : Int) + 1) = i + 1 := w64 (by omega) (by omega)
    refine Ev.up ?_
    simp only [impl_TextValid.l0, wbt, h1, impl_in]
    refine Ev.pos (by omega) (Ev.pos (by omega) ?_)
    by_cases h10 : bt s (i : Nat) = 10
    · exact Ev.pos h10 hr
    · refine Ev.neg h10 ?_
      have hq : 32 ≤ bt s (i : Nat) ∧ bt s (i : Nat) ≤ 126 := by omega
      simp only [Option.bind_some, decide_eq_true hq, if_true]
      exact hr
  · intro i hi _ hp
    refine Ev.eqr ?_ (decide_eq_false (fun h : textOk s => hp (h.2 i hi))).symm
    refine Ev.up ?_
    simp only [impl_TextValid.l0, wbt, impl_in]
    refine Ev.pos (by omega) (Ev.pos (by omega) (Ev.neg (by omega) ?_))
    have hq : ¬ (32 ≤ bt s (i : Nat) ∧ bt s (i : Nat) ≤ 126) := by omega
    simp only [Option.bind_some, decide_eq_false hq, Bool.false_eq_true, if_false]
    exact Ev.now _
  · intro hall
    refine Ev.up ?_
    simp only [impl_TextValid.l0]
    refine Ev.neg (by omega) (Ev.ok ?_)
    exact decide_eq_decide.mpr ⟨fun h => ⟨by omega, hall⟩, fun h => by have := h.1; omega⟩
/-! ## TextValid -/
open Classical in
theorem spec_text (s : ByteArray) (hl : s.size ≤ 140737488355328) : Ev (fun k => spec_TextValid.f k s) (decide (textOk s)) := by
  unfold spec_TextValid.f
  refine ev_scan (L := fun k i => spec_TextValid.l0 k s i) (n := s.size) (fun j => bt s j = 10 ∨ (32 ≤ bt s j ∧ bt s j ≤ 126)) ?_ ?_ ?_
  · intro i hi hp hr
    have h1 : wrap64 ((i : Int) + 1) = i + 1 := w64 (by omega) (by omega)
    refine Ev.up ?_
    simp only [spec_TextValid.l0, wbt, h1, spec_in]
    refine Ev.pos (by omega) (Ev.pos (by omega) ?_)
    by_cases h10 : bt s (i : Nat) = 10
    · exact Ev.pos h10 hr
    · refine Ev.neg h10 ?_
      have hq : 32 ≤ bt s (i : Nat) ∧ bt s (i : Nat) ≤ 126 := by omega
      simp only [Option.bind_some, decide_eq_true hq, if_true]
      exact hr
  · intro i hi _ hp
    refine Ev.eqr ?_ (decide_eq_false (fun h : textOk s => hp (h.2 i hi))).symm
    refine Ev.up ?_
    simp only [spec_TextValid.l0, wbt, spec_in]
    refine Ev.pos (by omega) (Ev.pos (by omega) (Ev.neg (by omega) ?_))
    have hq : ¬ (32 ≤ bt s (i : Nat) ∧ bt s (i : Nat) ≤ 126) := by omega
    simp only [Option.bind_some, decide_eq_false hq, Bool.false_eq_true, if_false]
    exact Ev.now _
  · intro hall
    refine Ev.up ?_
    simp only [spec_TextValid.l0]
    refine Ev.neg (by omega) (Ev.ok ?_)
    exact decide_eq_decide.mpr ⟨fun h => ⟨by omega, hall⟩, fun h => by have := h.1; omega⟩
open Classical in
theorem alive_ev : Ev (fun k => laws_alive.f k) true := by
  have h := impl_text (⟨#[97]⟩ : ByteArray) (by decide)
  have ht : textOk (⟨#[97]⟩ : ByteArray) := ⟨by decide, fun j hj => by
    have hz : (⟨#[97]⟩ : ByteArray).size = 1 := rfl
    obtain rfl : j = 0 := by omega
    exact .inr (by decide)⟩
  rw [decide_eq_true ht] at h
  exact Ev.bind h (Ev.now _)
/-! ## the drawn words -/
def small (ws : List ByteArray) (n : Nat) : Prop := ws.length ≤ n ∧ ∀ w ∈ ws, w.size ≤ 21
theorem small.snoc {ws : List ByteArray} {n : Nat} (h : small ws n) (w : ByteArray) (hw : w.size ≤ 21) : small (ws ++ [w]) (n + 1) :=
  ⟨by have := h.1; simp; omega, fun x hx => by
    rcases List.mem_append.mp hx with h1 | h1
    · exact h.2 x h1
    · rw [List.mem_singleton.mp h1]; exact hw⟩
theorem small.mono {ws : List ByteArray} {n m : Nat} (h : small ws n) (hm : n ≤ m) : small ws m := ⟨Nat.le_trans h.1 hm, h.2⟩
theorem small.sized {ws : List ByteArray} {n : Nat} (h : small ws n) (hn : n ≤ 1000) : sized ws := ⟨by have := h.1; omega, fun w hw => by have := h.2 w hw; omega⟩
theorem rdOf_mem {α : Type} (d : α) (xs : List α) (i : Int) (h0 : 0 ≤ i) (h : i < (xs.length : Int)) : rdOf d xs i ∈ xs := by
  obtain ⟨n, rfl⟩ := Int.eq_ofNat_of_zero_le h0
  rw [rdOf_nat _ _ _ (by omega)]
  exact List.getElem_mem _
theorem wrapped_l1 (s : List Int) (x8 p : Int) (d : Nat) : ∀ ws : List ByteArray, (∀ w ∈ ws, w.size ≤ 21) → ws.length ≤ 100 → 21 ≤ ws.length + d →
    ∃ ws', Ev (fun k => spec_l20Wrapped.l1 k ws x8 s p) (ws', x8, p) ∧ small ws' 100 := by
  induction d with
  | zero =>
    intro ws hw hl h21
    refine ⟨ws, Ev.up ?_, hl, hw⟩
    simp only [spec_l20Wrapped.l1]
    exact Ev.neg (by omega) (Ev.now _)
  | succ d ih =>
    intro ws hw hl h21
    by_cases h : (ws.length : Int) ≤ 20
    · have hs := (show small ws 20 from ⟨by omega, hw⟩).snoc (⟨#[97]⟩ : ByteArray) (by decide)
      obtain ⟨ws', h1, h2⟩ := ih (ws ++ [(⟨#[97]⟩ : ByteArray)]) hs.2 (by simp; omega) (by simp; omega)
      refine ⟨ws', Ev.up ?_, h2⟩
      simp only [spec_l20Wrapped.l1]
      exact Ev.pos h (Ev.pos (by omega) h1)
    · refine ⟨ws, Ev.up ?_, hl, hw⟩
      simp only [spec_l20Wrapped.l1]
      exact Ev.neg h (Ev.now _)
theorem wrapped_l0 (s : List Int) (hs : codeOk s) (hl : s.length ≤ 2000) (x1 : Int) (d : Nat) : ∀ (ws : List ByteArray) (x7 p : Int), x7 = d → 0 ≤ p → p + d ≤ 1000 → small ws (10 - d) → d ≤ 10 →
    ∃ ws' n q, Ev (fun k => spec_l20Wrapped.l0 k x1 ws x7 s p) (ws', n, q) ∧ small ws' 100 ∧ 0 ≤ n ∧ n ≤ 41 ∧ 0 ≤ q ∧ q ≤ 200000000 := by
  induction d with
  | zero =>
    intro ws x7 p hx hp hp2 hw hd
    obtain ⟨r1, h1, h1a, h1b⟩ := pick_ev s hs p 8 hp (by omega) (by omega)
    obtain ⟨b, q, h2, h2a, h2b⟩ := odd_ev s hs (p + 1) x1 (by omega) (by omega) (by omega)
    have hn : wrap64 (6 + r1) = 6 + r1 := w64 (by omega) (by omega)
    cases b with
    | false =>
      refine ⟨ws, 6 + r1, q, Ev.up ?_, hw.mono (by omega), by omega, by omega, by omega, by omega⟩
      simp only [spec_l20Wrapped.l0]
      refine Ev.neg (by omega) (Ev.bind h1 (Ev.bind h2 ?_))
      simp only [Bool.false_eq_true, if_false, hn]
      exact Ev.now _
    | true =>
      obtain ⟨r3, h3, h3a, h3b⟩ := pick_ev s hs q 4 (by omega) (by omega) (by omega)
      obtain ⟨r4, h4, h4a, h4b⟩ := pick_ev s hs (q + 1) 3 (by omega) (by omega) (by omega)
      have h4c := h4b (by omega)
      by_cases e0 : r3 = 0
      · have hm := rdOf_mem (0 : Int) [0, 41, 3] r4 h4a (by simp; omega)
        refine ⟨ws, rd [0, 41, 3] r4, q + 1 + 1, Ev.up ?_, hw.mono (by omega), ?_, ?_, by omega, by omega⟩
        · simp only [spec_l20Wrapped.l0]
          refine Ev.neg (by omega) (Ev.bind h1 (Ev.bind h2 ?_))
          simp only [if_true]
          refine Ev.bind h3 (Ev.pos e0 ?_)
          simp only [Option.bind_some]
          refine Ev.bind h4 (Ev.pos h4a (Ev.pos (by simp; omega) (Ev.now _)))
        · have hm' : rd [0, 41, 3] r4 ∈ ([0, 41, 3] : List Int) := hm
          simp at hm'
          omega
        · have hm' : rd [0, 41, 3] r4 ∈ ([0, 41, 3] : List Int) := hm
          simp at hm'
          omega
      by_cases e1 : r3 = 1
      · have hm := rdOf_mem ByteArray.empty [(⟨#[]⟩ : ByteArray), (⟨#[97, 32, 98]⟩ : ByteArray), (⟨#[10]⟩ : ByteArray)] r4 h4a (by simp; omega)
        have hsz : (rdOf ByteArray.empty [(⟨#[]⟩ : ByteArray), (⟨#[97, 32, 98]⟩ : ByteArray), (⟨#[10]⟩ : ByteArray)] r4).size ≤ 21 := by
          simp only [List.mem_cons, List.not_mem_nil, or_false] at hm
          rcases hm with h | h | h <;> rw [h] <;> decide
        refine ⟨_, 6 + r1, q + 1 + 1, Ev.up ?_, (hw.snoc _ hsz).mono (by omega), by omega, by omega, by omega, by omega⟩
        simp only [spec_l20Wrapped.l0]
        refine Ev.neg (by omega) (Ev.bind h1 (Ev.bind h2 ?_))
        simp only [if_true]
        refine Ev.bind h3 (Ev.neg e0 (Ev.pos e1 ?_))
        simp only [Option.bind_some, hn]
        exact Ev.bind h4 (Ev.pos h4a (Ev.pos (by simp; omega) (Ev.pos (by have := hw.1; omega) (Ev.now _))))
      by_cases e2 : r3 = 2
      · refine ⟨_, 6 + r1, q + 1, Ev.up ?_, (hw.snoc (⟨#[97, 118, 101, 114, 121, 118, 101, 114, 121, 118, 101, 114, 121, 108, 111, 110, 103, 119, 111, 114, 100]⟩ : ByteArray) (by decide)).mono (by omega), by omega, by omega, by omega, by omega⟩
        simp only [spec_l20Wrapped.l0]
        refine Ev.neg (by omega) (Ev.bind h1 (Ev.bind h2 ?_))
        simp only [if_true]
        refine Ev.bind h3 (Ev.neg e0 (Ev.neg e1 (Ev.pos e2 ?_)))
        simp only [hn]
        exact Ev.pos (by have := hw.1; omega) (Ev.now _)
      · obtain ⟨ws', h5, h6⟩ := wrapped_l1 s (6 + r1) (q + 1) 21 ws hw.2 (by have := hw.1; omega) (by omega)
        refine ⟨ws', 6 + r1, q + 1, Ev.up ?_, h6, by omega, by omega, by omega, by omega⟩
        simp only [spec_l20Wrapped.l0]
        refine Ev.neg (by omega) (Ev.bind h1 (Ev.bind h2 ?_))
        simp only [if_true]
        refine Ev.bind h3 (Ev.neg e0 (Ev.neg e1 (Ev.neg e2 ?_)))
        simp only [hn]
        exact h5
  | succ d ih =>
    intro ws x7 p hx hp hp2 hw hd
    obtain ⟨r1, h1, h1a, h1b⟩ := pick_ev s hs p 6 hp (by omega) (by omega)
    have h1c := h1b (by omega)
    have hm := rdOf_mem ByteArray.empty [(⟨#[97]⟩ : ByteArray), (⟨#[116, 111]⟩ : ByteArray), (⟨#[116, 104, 101]⟩ : ByteArray), (⟨#[119, 111, 114, 100]⟩ : ByteArray), (⟨#[108, 105, 110, 101, 115]⟩ : ByteArray), (⟨#[98, 101, 116, 116, 101, 114]⟩ : ByteArray)] r1 h1a (by simp; omega)
    have hsz := hm
    simp only [List.mem_cons, List.not_mem_nil, or_false] at hsz
    have hsz2 : (rdOf ByteArray.empty [(⟨#[97]⟩ : ByteArray), (⟨#[116, 111]⟩ : ByteArray), (⟨#[116, 104, 101]⟩ : ByteArray), (⟨#[119, 111, 114, 100]⟩ : ByteArray), (⟨#[108, 105, 110, 101, 115]⟩ : ByteArray), (⟨#[98, 101, 116, 116, 101, 114]⟩ : ByteArray)] r1).size ≤ 21 := by
      rcases hsz with h | h | h | h | h | h <;> rw [h] <;> decide
    obtain ⟨ws', n, q, h2, h3⟩ := ih _ (wrap64 (x7 - 1)) (p + 1) (by rw [w64] <;> omega) (by omega) (by omega) ((hw.snoc _ hsz2).mono (by omega)) (by omega)
    refine ⟨ws', n, q, Ev.up ?_, h3⟩
    simp only [spec_l20Wrapped.l0]
    refine Ev.pos (by omega) ?_
    simp only [Option.bind_some]
    exact Ev.bind h1 (Ev.pos h1a (Ev.pos (by simp; omega) (Ev.pos (by have := hw.1; omega) h2)))
theorem wrapped_ev (s : List Int) (hs : codeOk s) (hl : s.length ≤ 2000) (x1 : Int) :
    ∃ ws n q, Ev (fun k => spec_l20Wrapped.f k s 0 x1) (ws, n, q) ∧ small ws 100 ∧ 0 ≤ n ∧ n ≤ 41 ∧ 0 ≤ q ∧ q ≤ 200000000 := by
  unfold spec_l20Wrapped.f
  obtain ⟨r1, h1, h1a, h1b⟩ := pick_ev s hs 0 8 (by omega) (by omega) (by omega)
  obtain ⟨d, rfl⟩ := Int.eq_ofNat_of_zero_le h1a
  have h1c := h1b (by omega)
  obtain ⟨ws, n, q, h2, h3⟩ := wrapped_l0 s hs hl x1 d [] d 1 rfl (by omega) (by omega) ⟨by simp, by simp⟩ (by omega)
  exact ⟨ws, n, q, Ev.bind h1 h2, h3⟩
/-! ## the length of a line, and the cost of a wrapping -/
theorem rd_at (xs : List Int) (i : Nat) (h : i < xs.length) : rd xs (i : Int) = xs[i] := by
  simp [rd, List.getD_eq_getElem?_getD, List.getElem?_eq_getElem h]
def tot (l : List ByteArray) : Nat := (l.map ByteArray.size).sum
theorem tot_le (m : Nat) : ∀ (l : List ByteArray), (∀ w ∈ l, w.size ≤ m) → tot l ≤ m * l.length
  | [], _ => by simp [tot]
  | x :: l, h => by
    have h1 := h x (List.mem_cons_self)
    have h2 := tot_le m l (fun w hw => h w (List.mem_cons_of_mem _ hw))
    simp only [tot, List.map_cons, List.sum_cons, List.length_cons, Nat.mul_succ] at h2 ⊢
    omega
def len (ws : List ByteArray) (a b : Int) : Int := (tot ((ws.take b.toNat).drop a.toNat) : Int) + (b - a) - 1
theorem seg_cons (ws : List ByteArray) (i b : Nat) (h : i < b) (hb : b ≤ ws.length) : (ws.take b).drop i = ws[i] :: (ws.take b).drop (i + 1) := by
  rw [List.drop_eq_getElem_cons (by simp; omega)]
  simp
theorem join_len (sep : List UInt8) : ∀ (l : List (List UInt8)), l ≠ [] → (Go.Lib.join l sep).length = (l.map List.length).sum + (l.length - 1) * sep.length
  | [], h => absurd rfl h
  | [x], _ => by simp [Go.Lib.join, List.intercalate]
  | x :: y :: r, _ => by
    have ih := join_len sep (y :: r) (by simp)
    have e : Go.Lib.join (x :: y :: r) sep = x ++ (sep ++ Go.Lib.join (y :: r) sep) := by simp [Go.Lib.join, List.intercalate]
    rw [e, List.length_append, List.length_append, ih]
    simp only [List.map_cons, List.sum_cons, List.length_cons, Nat.add_sub_cancel, Nat.succ_mul]
    omega
def narrow (ws : List ByteArray) : Prop := ws.length ≤ 20 ∧ ∀ w ∈ ws, w.size ≤ 40
theorem narrow_of {ws : List ByteArray} {n : Int} (h : fit ws n) : narrow ws := ⟨h.2.1, fun w hw => by have := (h.2.2 w hw).1; have := h.1; omega⟩
theorem seg_tot {ws : List ByteArray} (h : narrow ws) (a b : Nat) : tot ((ws.take b).drop a) ≤ 800 := by
  have h1 := tot_le 40 ((ws.take b).drop a) (fun w hw => h.2 w (List.mem_of_mem_take (List.mem_of_mem_drop hw)))
  have h2 := h.1
  simp only [List.length_drop, List.length_take] at h1
  omega
theorem impl_len {ws : List ByteArray} (h : narrow ws) (a b : Nat) (hab : a < b) (hb : b ≤ ws.length) : impl_lineLen.f ((ws.take b).drop a) = some (len ws a b) := by
  have hlen : ((ws.take b).drop a).length = b - a := by simp; omega
  have hne : ((ws.take b).drop a).map (fun x => x.data.toList) ≠ [] := fun h => by
    have := congrArg List.length h
    rw [List.length_map, hlen] at this
    simp at this
    omega
  have hj := join_len (⟨#[32]⟩ : ByteArray).data.toList _ hne
  have hm : ((((ws.take b).drop a).map (fun x => x.data.toList)).map List.length).sum = tot ((ws.take b).drop a) := by
    unfold tot
    rw [List.map_map]
    rfl
  rw [hm, List.length_map, hlen] at hj
  have h1 : (⟨#[32]⟩ : ByteArray).data.toList.length = 1 := rfl
  rw [h1] at hj
  have ht := seg_tot h a b
  have hw := h.1
  unfold impl_lineLen.f strings_Join.f
  rw [if_pos (by omega), if_pos (by omega), Option.bind_some]
  unfold len
  rw [show ((⟨(Go.Lib.join (((ws.take b).drop a).map (fun x => x.data.toList)) (⟨#[32]⟩ : ByteArray).data.toList).toArray⟩ : ByteArray)).size = (Go.Lib.join (((ws.take b).drop a).map (fun x => x.data.toList)) (⟨#[32]⟩ : ByteArray).data.toList).length from by simp [ByteArray.size], hj, Int.toNat_natCast, Int.toNat_natCast]
  congr 1
  omega
theorem spec_len {ws : List ByteArray} (h : narrow ws) (a b : Nat) (hab : a ≤ b) (hb : b ≤ ws.length) : Ev (fun k => spec_l15Length.f k ws a b) (len ws a b) := by
  have hl := h.1
  have key : ∀ (d i : Nat) (x : Int), i + d = b → -100 ≤ x → x ≤ 100 + 40 * i → Ev (fun k => spec_l15Length.l0 k ws b x i) (x + tot ((ws.take b).drop i)) := by
    intro d
    induction d with
    | zero =>
      intro i x hi h1 h2
      rw [List.drop_of_length_le (by simp; omega)]
      refine Ev.up ?_
      simp only [spec_l15Length.l0]
      exact Ev.neg (by omega) (Ev.ok (by simp [tot]))
    | succ d ih =>
      intro i x hi h1 h2
      have hlt : i < ws.length := by omega
      have hs := h.2 _ (List.getElem_mem hlt)
      have hn := ih (i + 1) (x + ((ws[i]).size : Int)) (by omega) (by omega) (by omega)
      have w1 : wrap64 (x + ((ws[i]).size : Int)) = x + ((ws[i]).size : Int) := w64 (by omega) (by omega)
      have w2 : wrap64 ((i : Int) + 1) = ((i + 1 : Nat) : Int) := by rw [w64] <;> omega
      refine Ev.up ?_
      simp only [spec_l15Length.l0, rdOf_nat _ _ _ hlt, w1, w2]
      clear w1 w2
      refine Ev.pos (by omega) (Ev.pos (by omega) (Ev.pos (by omega) ?_))
      rw [seg_cons ws i b (by omega) hb]
      refine Ev.eqr hn ?_
      simp only [tot, List.map_cons, List.sum_cons]
      omega
  unfold spec_l15Length.f
  have w1 : wrap64 ((b : Int) - a) = (b : Int) - a := w64 (by omega) (by omega)
  have w2 : wrap64 ((b : Int) - a - 1) = (b : Int) - a - 1 := w64 (by omega) (by omega)
  rw [w1, w2]
  refine Ev.eqr (key (b - a) a ((b : Int) - a - 1) (by omega) (by omega) (by omega)) ?_
  unfold len
  rw [Int.toNat_natCast, Int.toNat_natCast]
  omega
theorem len_in {ws : List ByteArray} (h : narrow ws) (a b : Nat) (hab : a < b) (hb : b ≤ ws.length) : 0 ≤ len ws a b ∧ len ws a b ≤ 1000 := by
  have := seg_tot h a b
  have := h.1
  unfold len
  rw [Int.toNat_natCast, Int.toNat_natCast]
  omega
def costL (ws : List ByteArray) (n : Int) : List Int → Int → Int → Int
  | [], a, c => if a = (ws.length : Int) then c else -1
  | e :: r, a, c => if 1 ≤ e ∧ e ≤ (ws.length : Int) - a then (if len ws a (a + e) > n then -1 else if 0 < r.length then costL ws n r (a + e) (c + (n - len ws a (a + e)) * (n - len ws a (a + e))) else costL ws n r (a + e) c) else -1
theorem costL_long (ws : List ByteArray) (n : Int) : ∀ (ls : List Int) (a c : Int), a ≤ ws.length → (ws.length : Int) - a < ls.length → costL ws n ls a c = -1
  | [], a, c, h1, h2 => by simp at h2; omega
  | e :: r, a, c, h1, h2 => by
    rw [costL]
    split
    · rename_i h
      simp only [List.length_cons] at h2
      split
      · rfl
      · split
        · exact costL_long ws n r _ _ (by omega) (by omega)
        · exact costL_long ws n r _ _ (by omega) (by omega)
    · rfl
theorem sq_in (x : Int) (h0 : 0 ≤ x) (h1 : x ≤ 40) : 0 ≤ x * x ∧ x * x ≤ 1600 :=
  ⟨Int.mul_nonneg h0 h0, Int.le_trans (Int.mul_le_mul h1 h1 h0 (by omega)) (by decide)⟩
/-! ## a line with a word more -/
theorem len_snoc (ws : List ByteArray) (a j : Nat) (h : a ≤ j) (hj : j < ws.length) : len ws a ((j + 1 : Nat) : Int) = len ws a (j : Int) + ((ws[j]).size : Int) + 1 := by
  unfold len
  rw [Int.toNat_natCast, Int.toNat_natCast, Int.toNat_natCast, List.take_succ_eq_append_getElem hj, List.drop_append_of_le_length (by simp; omega)]
  simp only [tot, List.map_append, List.map_cons, List.map_nil, List.sum_append, List.sum_cons, List.sum_nil]
  omega
/-! ## lines of least cost, in plain terms -/
theorem len_cons (ws : List ByteArray) (a b : Nat) (h : a < b) (hb : b ≤ ws.length) : len ws (a : Int) (b : Int) = len ws ((a + 1 : Nat) : Int) (b : Int) + ((ws[a]).size : Int) + 1 := by
  unfold len
  rw [Int.toNat_natCast, Int.toNat_natCast, Int.toNat_natCast, seg_cons ws a b h hb]
  simp only [tot, List.map_cons, List.sum_cons]
  omega
theorem len_right (ws : List ByteArray) (a b : Nat) (hab : a ≤ b) (d : Nat) : b + d ≤ ws.length → len ws (a : Int) (b : Int) ≤ len ws (a : Int) ((b + d : Nat) : Int) := by
  induction d with
  | zero => intro _; exact Int.le_refl _
  | succ d ih =>
    intro h
    have h1 := len_snoc ws a (b + d) (by omega) (by omega)
    have h2 := ih (by omega)
    rw [show b + (d + 1) = b + d + 1 by omega, h1]
    omega
theorem len_left (ws : List ByteArray) (b : Nat) (hb : b ≤ ws.length) (d : Nat) : ∀ a : Nat, a + d ≤ b → len ws ((a + d : Nat) : Int) (b : Int) ≤ len ws (a : Int) (b : Int) := by
  induction d with
  | zero => intro a _; exact Int.le_refl _
  | succ d ih =>
    intro a h
    have h1 := len_cons ws a b (by omega) hb
    have h2 := ih (a + 1) (by omega)
    rw [show a + (d + 1) = a + 1 + d by omega, h1]
    omega
def cand (ws : List ByteArray) (w : Int) (B : Nat → Int) (a m : Nat) : Int :=
  if a + m = ws.length then 0 else (w - len ws (a : Int) ((a + m : Nat) : Int)) * (w - len ws (a : Int) ((a + m : Nat) : Int)) + B (a + m)
def scan (ws : List ByteArray) (w : Int) (B : Nat → Int) (a : Nat) : Nat → Nat → Int × Int → Int × Int
  | 0, _, s => s
  | d + 1, m, s => if len ws (a : Int) ((a + m : Nat) : Int) ≤ w then scan ws w B a d (m + 1) (if s.1 < 0 ∨ cand ws w B a m ≤ s.1 then (cand ws w B a m, ((m : Nat) : Int)) else s) else s
theorem scan_step (ws : List ByteArray) (w : Int) (B : Nat → Int) (a d m : Nat) (s : Int × Int) : scan ws w B a (d + 1) m s = if len ws (a : Int) ((a + m : Nat) : Int) ≤ w then scan ws w B a d (m + 1) (if s.1 < 0 ∨ cand ws w B a m ≤ s.1 then (cand ws w B a m, ((m : Nat) : Int)) else s) else s := rfl
def tab (ws : List ByteArray) (w : Int) : Nat → Nat → Int × Int
  | 0 => fun _ => (0, 0)
  | d + 1 => fun j => if j + (d + 1) = ws.length then scan ws w (fun j => (tab ws w d j).1) j (d + 1) 1 (-1, 0) else tab ws w d j
theorem tab_step (ws : List ByteArray) (w : Int) (d j : Nat) : tab ws w (d + 1) j = if j + (d + 1) = ws.length then scan ws w (fun j => (tab ws w d j).1) j (d + 1) 1 (-1, 0) else tab ws w d j := rfl
theorem tab_low (ws : List ByteArray) (w : Int) (j : Nat) (d : Nat) : j + d < ws.length → tab ws w d j = (0, 0) := by
  induction d with
  | zero => intro _; rfl
  | succ d ih => intro h; rw [tab_step, if_neg (by omega)]; exact ih (by omega)
theorem tab_end (ws : List ByteArray) (w : Int) (j : Nat) (h : ws.length ≤ j) (d : Nat) : tab ws w d j = (0, 0) := by
  induction d with
  | zero => rfl
  | succ d ih => rw [tab_step, if_neg (by omega)]; exact ih
theorem tab_up (ws : List ByteArray) (w : Int) (j d : Nat) (h : ws.length ≤ j + d) (e : Nat) : tab ws w (d + e) j = tab ws w d j := by
  induction e with
  | zero => rfl
  | succ e ih =>
    rw [show d + (e + 1) = d + e + 1 by omega, tab_step, if_neg (by omega)]
    exact ih
def good (ws : List ByteArray) (w : Int) (B : Nat → Int) (a : Nat) (r : Int × Int) : Prop :=
  ∃ m : Nat, 1 ≤ m ∧ a + m ≤ ws.length ∧ r.2 = ((m : Nat) : Int) ∧ len ws (a : Int) ((a + m : Nat) : Int) ≤ w ∧ r.1 = cand ws w B a m
def topB (ws : List ByteArray) (B : Nat → Int) (a : Nat) : Prop := ∀ j : Nat, a < j → j ≤ ws.length → 0 ≤ B j ∧ B j ≤ 1600 * ((ws.length : Int) - j)
theorem cand_in {ws : List ByteArray} {w : Int} (hf : fit ws w) {B : Nat → Int} {a : Nat} (hB : topB ws B a) (m : Nat) (h1 : 1 ≤ m) (h2 : a + m ≤ ws.length) (h3 : len ws (a : Int) ((a + m : Nat) : Int) ≤ w) :
    0 ≤ cand ws w B a m ∧ cand ws w B a m ≤ 1600 * ((ws.length : Int) - a) := by
  have hw := hf.1
  have hl := len_in (narrow_of hf) a (a + m) (by omega) h2
  have hsq := sq_in (w - len ws (a : Int) ((a + m : Nat) : Int)) (by omega) (by omega)
  have hb := hB (a + m) (by omega) h2
  unfold cand
  split
  · omega
  · omega
theorem scan_min {ws : List ByteArray} {w : Int} (hf : fit ws w) {B : Nat → Int} {a : Nat} (hB : topB ws B a) (d : Nat) : ∀ (m : Nat) (s : Int × Int), a + m + d = ws.length + 1 → 1 ≤ m →
    (∀ m' : Nat, 1 ≤ m' → m' < m → len ws (a : Int) ((a + m' : Nat) : Int) ≤ w → 0 ≤ s.1 ∧ s.1 ≤ cand ws w B a m') →
    (∀ m' : Nat, 1 ≤ m' → a + m' ≤ ws.length → len ws (a : Int) ((a + m' : Nat) : Int) ≤ w → 0 ≤ (scan ws w B a d m s).1 ∧ (scan ws w B a d m s).1 ≤ cand ws w B a m') ∧
    (scan ws w B a d m s = s ∨ good ws w B a (scan ws w B a d m s)) := by
  induction d with
  | zero =>
    intro m s hd hm hlow
    exact ⟨fun m' h1 h2 h3 => hlow m' h1 (by omega) h3, .inl rfl⟩
  | succ d ih =>
    intro m s hd hm hlow
    rw [scan_step]
    by_cases hc : len ws (a : Int) ((a + m : Nat) : Int) ≤ w
    · rw [if_pos hc]
      have hin := cand_in hf hB m hm (by omega) hc
      by_cases hu : s.1 < 0 ∨ cand ws w B a m ≤ s.1
      · rw [if_pos hu]
        have h := ih (m + 1) (cand ws w B a m, ((m : Nat) : Int)) (by omega) (by omega) (fun m' h1 h2 h3 => by
          refine ⟨hin.1, ?_⟩
          dsimp only
          by_cases e : m' = m
          · subst e; exact Int.le_refl _
          · have := hlow m' h1 (by omega) h3
            omega)
        refine ⟨h.1, .inr ?_⟩
        rcases h.2 with e | e
        · rw [e]
          exact ⟨m, hm, by omega, rfl, hc, rfl⟩
        · exact e
      · rw [if_neg hu]
        refine ih (m + 1) s (by omega) (by omega) (fun m' h1 h2 h3 => ?_)
        by_cases e : m' = m
        · subst e; omega
        · exact hlow m' h1 (by omega) h3
    · rw [if_neg hc]
      refine ⟨fun m' h1 h2 h3 => ?_, .inl rfl⟩
      by_cases e : m' < m
      · exact hlow m' h1 e h3
      · have := len_right ws a (a + m) (by omega) (m' - m) (by omega)
        rw [show a + m + (m' - m) = a + m' by omega] at this
        omega
theorem one_fits {ws : List ByteArray} {w : Int} (hf : fit ws w) (a : Nat) (ha : a < ws.length) : len ws (a : Int) ((a + 1 : Nat) : Int) ≤ w := by
  rw [len_snoc ws a a (Nat.le_refl _) ha]
  have h1 := (hf.2.2 _ (List.getElem_mem ha)).1
  have h2 : len ws a (a : Int) = -1 := by
    unfold len
    rw [Int.toNat_natCast, List.drop_of_length_le (by simp; omega)]
    simp [tot]
  omega
theorem scan_good {ws : List ByteArray} {w : Int} (hf : fit ws w) {B : Nat → Int} {a : Nat} (ha : a < ws.length) (hB : topB ws B a) (d : Nat) (hd : a + d = ws.length) :
    good ws w B a (scan ws w B a d 1 (-1, 0)) ∧ ∀ m' : Nat, 1 ≤ m' → a + m' ≤ ws.length → len ws (a : Int) ((a + m' : Nat) : Int) ≤ w → (scan ws w B a d 1 (-1, 0)).1 ≤ cand ws w B a m' := by
  have h := scan_min hf hB d 1 (-1, 0) (by omega) (by omega) (fun m' h1 h2 _ => by omega)
  refine ⟨?_, fun m' h1 h2 h3 => (h.1 m' h1 h2 h3).2⟩
  rcases h.2 with e | e
  · have := (h.1 1 (by omega) (by omega) (one_fits hf a ha)).1
    rw [e] at this
    exact absurd this (by decide)
  · exact e
theorem tab_in {ws : List ByteArray} {w : Int} (hf : fit ws w) (d : Nat) : ∀ j : Nat, ws.length ≤ j + d → j ≤ ws.length → 0 ≤ (tab ws w d j).1 ∧ (tab ws w d j).1 ≤ 1600 * ((ws.length : Int) - j) := by
  induction d with
  | zero =>
    intro j h1 h2
    rw [tab_end ws w j (by omega)]
    dsimp only
    omega
  | succ d ih =>
    intro j h1 h2
    rw [tab_step]
    split
    · rename_i e
      have hB : topB ws (fun j => (tab ws w d j).1) j := fun i hi hi2 => ih i (by omega) hi2
      obtain ⟨⟨m, hm1, hm2, hm3, hm4, hm5⟩, _⟩ := scan_good hf (a := j) (by omega) hB (d + 1) (by omega)
      rw [hm5]
      exact cand_in hf hB m hm1 hm2 hm4
    · exact ih j (by omega) h2
theorem cand_congr (ws : List ByteArray) (w : Int) (B C : Nat → Int) (a m : Nat) (h : B (a + m) = C (a + m)) : cand ws w B a m = cand ws w C a m := by
  unfold cand
  rw [h]
def bestB (ws : List ByteArray) (w : Int) (a : Nat) : Int := (tab ws w ws.length a).1
def bestT (ws : List ByteArray) (w : Int) (a : Nat) : Int := (tab ws w ws.length a).2
theorem best_in {ws : List ByteArray} {w : Int} (hf : fit ws w) (a : Nat) (ha : a ≤ ws.length) : 0 ≤ bestB ws w a ∧ bestB ws w a ≤ 1600 * ((ws.length : Int) - a) := tab_in hf ws.length a (by omega) ha
theorem best_end (ws : List ByteArray) (w : Int) : bestB ws w ws.length = 0 := by
  unfold bestB
  rw [tab_end ws w ws.length (Nat.le_refl _)]
theorem best_good {ws : List ByteArray} {w : Int} (hf : fit ws w) (a : Nat) (ha : a < ws.length) :
    (∃ m : Nat, 1 ≤ m ∧ a + m ≤ ws.length ∧ bestT ws w a = ((m : Nat) : Int) ∧ len ws (a : Int) ((a + m : Nat) : Int) ≤ w ∧ bestB ws w a = cand ws w (bestB ws w) a m) ∧
    ∀ m' : Nat, 1 ≤ m' → a + m' ≤ ws.length → len ws (a : Int) ((a + m' : Nat) : Int) ≤ w → bestB ws w a ≤ cand ws w (bestB ws w) a m' := by
  obtain ⟨d, hd⟩ : ∃ d, a + (d + 1) = ws.length := ⟨ws.length - a - 1, by omega⟩
  have e1 : tab ws w ws.length a = scan ws w (fun j => (tab ws w d j).1) a (d + 1) 1 (-1, 0) := by
    have := tab_up ws w a (d + 1) (by omega) a
    rw [show d + 1 + a = ws.length by omega] at this
    rw [this, tab_step, if_pos hd]
  have e2 : ∀ m : Nat, 1 ≤ m → a + m ≤ ws.length → (tab ws w d (a + m)).1 = bestB ws w (a + m) := fun m h1 h2 => by
    have := tab_up ws w (a + m) d (by omega) (ws.length - d)
    rw [show d + (ws.length - d) = ws.length by omega] at this
    unfold bestB
    rw [this]
  have e3 : ∀ m : Nat, 1 ≤ m → a + m ≤ ws.length → cand ws w (fun j => (tab ws w d j).1) a m = cand ws w (bestB ws w) a m := fun m h1 h2 => cand_congr _ _ _ _ _ _ (e2 m h1 h2)
  have hB : topB ws (fun j => (tab ws w d j).1) a := fun i hi hi2 => tab_in hf d i (by omega) hi2
  obtain ⟨⟨m, hm1, hm2, hm3, hm4, hm5⟩, hmin⟩ := scan_good hf ha hB (d + 1) hd
  rw [← e1] at hm3 hm5 hmin
  refine ⟨⟨m, hm1, hm2, hm3, hm4, ?_⟩, fun m' h1 h2 h3 => ?_⟩
  · rw [← e3 m hm1 hm2]; exact hm5
  · rw [← e3 m' h1 h2]; exact hmin m' h1 h2 h3
def outL (ws : List ByteArray) (w : Int) : Nat → Nat → List Int
  | 0, _ => []
  | f + 1, a => if a < ws.length then bestT ws w a :: outL ws w f (a + (bestT ws w a).toNat) else []
theorem outL_step (ws : List ByteArray) (w : Int) (f a : Nat) : outL ws w (f + 1) a = if a < ws.length then bestT ws w a :: outL ws w f (a + (bestT ws w a).toNat) else [] := rfl
theorem outL_length (ws : List ByteArray) (w : Int) : ∀ f a : Nat, (outL ws w f a).length ≤ f
  | 0, _ => by simp [outL]
  | f + 1, a => by
    rw [outL_step]
    split
    · have := outL_length ws w f (a + (bestT ws w a).toNat)
      simp only [List.length_cons]
      omega
    · simp
theorem outL_pos {ws : List ByteArray} {w : Int} (f a : Nat) (h : a < ws.length) : 0 < (outL ws w (f + 1) a).length := by
  rw [outL_step, if_pos h]
  simp
theorem cost_out {ws : List ByteArray} {w : Int} (hf : fit ws w) (f : Nat) : ∀ (a : Nat) (c : Int), a ≤ ws.length → ws.length ≤ a + f → costL ws w (outL ws w f a) a c = c + bestB ws w a := by
  induction f with
  | zero =>
    intro a c h1 h2
    obtain rfl : a = ws.length := by omega
    rw [outL, costL, if_pos rfl, best_end]
    omega
  | succ f ih =>
    intro a c h1 h2
    rw [outL_step]
    by_cases ha : a < ws.length
    · rw [if_pos ha, costL]
      obtain ⟨⟨m, hm1, hm2, hm3, hm4, hm5⟩, _⟩ := best_good hf a ha
      rw [hm3, Int.toNat_natCast, if_pos (by omega), show (a : Int) + (m : Int) = ((a + m : Nat) : Int) by omega, if_neg (by omega), hm5]
      unfold cand
      by_cases he : a + m = ws.length
      · rw [if_pos he]
        have hnil : outL ws w f (a + m) = [] := by
          cases f with
          | zero => rfl
          | succ f => rw [outL_step, if_neg (by omega)]
        rw [hnil, if_neg (by simp), costL, if_pos (by omega)]
        omega
      · rw [if_neg he]
        have hp : 0 < (outL ws w f (a + m)).length := by
          cases f with
          | zero => omega
          | succ f => exact outL_pos f (a + m) (by omega)
        rw [if_pos hp, ih (a + m) _ hm2 (by omega)]
        omega
    · obtain rfl : a = ws.length := by omega
      rw [if_neg ha, costL, if_pos rfl, best_end]
      omega
theorem cost_min {ws : List ByteArray} {w : Int} (hf : fit ws w) : ∀ (ls : List Int) (a : Nat) (c : Int), a ≤ ws.length → costL ws w ls a c ≠ -1 → c + bestB ws w a ≤ costL ws w ls a c
  | [], a, c => fun ha h => by
    rw [costL] at h ⊢
    by_cases e : (a : Int) = (ws.length : Int)
    · obtain rfl : a = ws.length := by omega
      rw [if_pos e, best_end]
      omega
    · rw [if_neg e] at h
      exact absurd rfl h
  | x :: r, a, c => fun ha h => by
    rw [costL] at h ⊢
    by_cases hx : 1 ≤ x ∧ x ≤ (ws.length : Int) - a
    · rw [if_pos hx] at h ⊢
      obtain ⟨m, rfl⟩ := Int.eq_ofNat_of_zero_le (show 0 ≤ x by omega)
      have e : (a : Int) + (m : Int) = ((a + m : Nat) : Int) := by omega
      rw [e] at h ⊢
      by_cases hl : len ws (a : Int) ((a + m : Nat) : Int) > w
      · rw [if_pos hl] at h
        exact absurd rfl h
      · rw [if_neg hl] at h ⊢
        have hm := (best_good hf a (by omega)).2 m (by omega) (by omega) (by omega)
        have hq : 0 ≤ (w - len ws (a : Int) ((a + m : Nat) : Int)) * (w - len ws (a : Int) ((a + m : Nat) : Int)) := Int.mul_nonneg (by omega) (by omega)
        unfold cand at hm
        generalize (w - len ws (a : Int) ((a + m : Nat) : Int)) * (w - len ws (a : Int) ((a + m : Nat) : Int)) = q at h hm hq ⊢
        by_cases hr : 0 < r.length
        · rw [if_pos hr] at h ⊢
          have ih := cost_min hf r (a + m) (c + q) (by omega) h
          by_cases he : a + m = ws.length
          · rw [if_pos he] at hm
            have h0 : bestB ws w (a + m) = 0 := by rw [he, best_end]
            omega
          · rw [if_neg he] at hm
            omega
        · rw [if_neg hr] at h ⊢
          have ih := cost_min hf r (a + m) c (by omega) h
          obtain rfl : r = [] := List.eq_nil_of_length_eq_zero (by omega)
          rw [costL] at h ih ⊢
          by_cases he : ((a + m : Nat) : Int) = (ws.length : Int)
          · rw [if_pos (by omega)] at hm
            rw [if_pos he]
            omega
          · rw [if_neg he] at h
            exact absurd rfl h
    · rw [if_neg hx] at h
      exact absurd rfl h
noncomputable def linesM (ws : List ByteArray) (n : Int) : List Int := open Classical in if fit ws n then outL ws n ws.length 0 else []
theorem linesM_length (ws : List ByteArray) (n : Int) : (linesM ws n).length ≤ 20 := by
  unfold linesM
  split
  · rename_i h
    have := outL_length ws n ws.length 0
    have := h.2.1
    omega
  · simp
/-! ## WrapLines: the tables of the program and of the reference -/
theorem rd_set_self (b : List Int) (a : Nat) (c : Int) (h : a < b.length) : rd (b.set a c) (a : Int) = c := by
  rw [rd_at _ _ (by simpa using h)]
  simp
theorem rd_set_ne (b : List Int) (a i : Nat) (c : Int) (hi : i < b.length) (h : a ≠ i) : rd (b.set a c) (i : Int) = rd b (i : Int) := by
  rw [rd_at _ _ (by simpa using hi), rd_at _ _ hi]
  simp [List.getElem_set_ne h]
theorem cand_at (ws : List ByteArray) (w : Int) (B : Nat → Int) (a m : Nat) : cand ws w B a m = if a + m = ws.length then 0 else (w - len ws (a : Int) ((a + m : Nat) : Int)) * (w - len ws (a : Int) ((a + m : Nat) : Int)) + B (a + m) := rfl
theorem impl_wl_in {ws : List ByteArray} {w : Int} (hf : fit ws w) (b t : List Int) (hb : b.length = ws.length + 1) (ht : t.length = ws.length + 1) (a : Nat) (ha : a < ws.length) (hB : topB ws (fun j => rd b (j : Int)) a) (r : List Int) (d : Nat) :
    ∀ (m : Nat) (s : Int × Int), a + m + d = ws.length + 1 → 1 ≤ m →
    Ev (fun k => impl_WrapLines.l0 k ws w (b.set a (scan ws w (fun j => rd b (j : Int)) a d m s).1) (t.set a (scan ws w (fun j => rd b (j : Int)) a d m s).2) ((a : Int) - 1)) r →
    Ev (fun k => impl_WrapLines.l1 k ws w (b.set a s.1) (t.set a s.2) a m) r := by
  have hw := narrow_of hf
  have h20 := hf.2.1
  have hn := hf.1
  have wm : ∀ _ : Unit, wrap64 ((a : Int) - 1) = (a : Int) - 1 := fun _ => w64 (by omega) (by omega)
  induction d with
  | zero =>
    intro m s hd hm hr
    have w1 : wrap64 ((a : Int) + m) = ((a + m : Nat) : Int) := by rw [w64] <;> omega
    refine Ev.up ?_
    simp only [impl_WrapLines.l1, w1]
    clear w1
    refine Ev.neg (by omega) (Ev.up ?_)
    simp only [impl_WrapLines.j2, Bool.false_eq_true, if_false, wm ()]
    exact hr
  | succ d ih =>
    intro m s hd hm hr
    have w1 : ∀ _ : Unit, wrap64 ((a : Int) + m) = ((a + m : Nat) : Int) := fun _ => by rw [w64] <;> omega
    have w2 : ∀ _ : Unit, wrap64 ((m : Int) + 1) = ((m + 1 : Nat) : Int) := fun _ => by rw [w64] <;> omega
    have hL := impl_len hw a (a + m) (by omega) (by omega)
    have hLi := len_in hw a (a + m) (by omega) (by omega)
    rw [scan_step] at hr
    refine Ev.up ?_
    simp only [impl_WrapLines.l1, w1 (), Int.toNat_natCast, hL, Option.bind_some]
    refine Ev.pos (by omega) (Ev.pos (by omega) (Ev.pos (by omega) ?_))
    by_cases hc : len ws (a : Int) ((a + m : Nat) : Int) ≤ w
    · rw [if_pos hc] at hr
      have hb0 := hB (a + m) (by omega) (by omega)
      have hsq := sq_in (w - len ws (a : Int) ((a + m : Nat) : Int)) (by omega) (by omega)
      have w3 : ∀ _ : Unit, wrap64 (w - len ws (a : Int) ((a + m : Nat) : Int)) = w - len ws (a : Int) ((a + m : Nat) : Int) := fun _ => w64 (by omega) (by omega)
      have hra : rd (b.set a s.1) (a : Int) = s.1 := rd_set_self b a s.1 (by omega)
      have hrm : rd (b.set a s.1) ((a + m : Nat) : Int) = rd b ((a + m : Nat) : Int) := rd_set_ne b a (a + m) s.1 (by omega) (by omega)
      have next : ∀ s' : Int × Int, (if s.1 < 0 ∨ cand ws w (fun j => rd b (j : Int)) a m ≤ s.1 then (cand ws w (fun j => rd b (j : Int)) a m, ((m : Nat) : Int)) else s) = s' →
          Ev (fun k => impl_WrapLines.l1 k ws w (b.set a s'.1) (t.set a s'.2) a ((m + 1 : Nat) : Int)) r := by
        intro s' e
        rw [e] at hr
        exact ih (m + 1) s' (by omega) (by omega) hr
      have yes : s.1 < 0 ∨ cand ws w (fun j => rd b (j : Int)) a m ≤ s.1 → Ev (fun k => impl_WrapLines.l1 k ws w (b.set a (cand ws w (fun j => rd b (j : Int)) a m)) (t.set a ((m : Nat) : Int)) a ((m + 1 : Nat) : Int)) r := fun h => next _ (if_pos h)
      have no : ¬ (s.1 < 0 ∨ cand ws w (fun j => rd b (j : Int)) a m ≤ s.1) → Ev (fun k => impl_WrapLines.l1 k ws w (b.set a s.1) (t.set a s.2) a ((m + 1 : Nat) : Int)) r := fun h => next _ (if_neg h)
      clear next hr ih
      rw [cand_at] at yes no
      refine Ev.up ?_
      simp only [impl_WrapLines.j2, decide_eq_true hc, if_true, w1 (), w2 (), Int.toNat_natCast, hL, Option.bind_some, w3 (), hra, hrm, List.set_set, List.length_set]
      generalize (w - len ws (a : Int) ((a + m : Nat) : Int)) * (w - len ws (a : Int) ((a + m : Nat) : Int)) = q at hsq yes no ⊢
      have w4 : ∀ _ : Unit, wrap64 q = q := fun _ => w64 (by omega) (by omega)
      have w5 : ∀ _ : Unit, wrap64 (q + rd b ((a + m : Nat) : Int)) = q + rd b ((a + m : Nat) : Int) := fun _ => w64 (by dsimp only at hb0; omega) (by dsimp only at hb0; omega)
      simp only [w4 (), w5 ()]
      refine Ev.pos (by omega) (Ev.pos (by omega) (Ev.pos (by omega) (Ev.pos (by omega) (Ev.pos (by omega) ?_))))
      by_cases he : a + m = ws.length
      · rw [if_pos he] at yes no
        refine Ev.pos (by omega) (Ev.pos (by omega) ?_)
        by_cases c1 : s.1 < 0
        · exact Ev.pos c1 (Ev.pos (by omega) (yes (.inl c1)))
        · refine Ev.neg c1 ?_
          by_cases c2 : 0 ≤ s.1
          · exact Ev.pos c2 (Ev.pos (by omega) (yes (.inr c2)))
          · exact absurd c1 (by omega)
      · rw [if_neg he] at yes no
        refine Ev.neg (by omega) (Ev.pos (by omega) ?_)
        by_cases c1 : s.1 < 0
        · exact Ev.pos c1 (Ev.pos (by omega) (yes (.inl c1)))
        · refine Ev.neg c1 ?_
          by_cases c2 : q + rd b ((a + m : Nat) : Int) ≤ s.1
          · exact Ev.pos c2 (Ev.pos (by omega) (yes (.inr c2)))
          · exact Ev.neg c2 (no (fun h => h.elim c1 c2))
    · rw [if_neg hc] at hr
      refine Ev.up ?_
      simp only [impl_WrapLines.j2, decide_eq_false hc, Bool.false_eq_true, if_false, wm ()]
      exact hr
def tb (ws : List ByteArray) (w : Int) (d : Nat) : List Int := (List.range (ws.length + 1)).map fun j => (tab ws w d j).1
def tt (ws : List ByteArray) (w : Int) (d : Nat) : List Int := (List.range (ws.length + 1)).map fun j => (tab ws w d j).2
theorem tb_length (ws : List ByteArray) (w : Int) (d : Nat) : (tb ws w d).length = ws.length + 1 := by simp [tb]
theorem tt_length (ws : List ByteArray) (w : Int) (d : Nat) : (tt ws w d).length = ws.length + 1 := by simp [tt]
theorem rd_tb (ws : List ByteArray) (w : Int) (d j : Nat) : rd (tb ws w d) (j : Int) = (tab ws w d j).1 := by
  by_cases hj : j < ws.length + 1
  · rw [rd_at _ _ (by rw [tb_length]; exact hj)]
    simp [tb]
  · rw [tab_end ws w j (by omega)]
    simp [rd, tb, hj, List.getD_eq_getElem?_getD]
theorem rd_tt (ws : List ByteArray) (w : Int) (d j : Nat) (hj : j < ws.length + 1) : rd (tt ws w d) (j : Int) = (tab ws w d j).2 := by
  rw [rd_at _ _ (by rw [tt_length]; exact hj)]
  simp [tt]
theorem tb_zero (ws : List ByteArray) (w : Int) : List.replicate (ws.length + 1) 0 = tb ws w 0 := by
  apply List.ext_getElem (by simp [tb])
  intro i h1 h2
  simp [tb, tab]
theorem tt_zero (ws : List ByteArray) (w : Int) : List.replicate (ws.length + 1) 0 = tt ws w 0 := by
  apply List.ext_getElem (by simp [tt])
  intro i h1 h2
  simp [tt, tab]
theorem tb_step (ws : List ByteArray) (w : Int) (d a : Nat) (h : a + (d + 1) = ws.length) : (tb ws w d).set a (scan ws w (fun j => (tab ws w d j).1) a (d + 1) 1 (-1, 0)).1 = tb ws w (d + 1) := by
  apply List.ext_getElem (by simp [tb])
  intro i h1 h2
  rw [List.getElem_set]
  split
  · rename_i e
    subst e
    simp [tb, tab_step, h]
  · rename_i e
    simp only [tb, List.getElem_map, List.getElem_range, tab_step]
    rw [if_neg (by omega)]
theorem tt_step (ws : List ByteArray) (w : Int) (d a : Nat) (h : a + (d + 1) = ws.length) : (tt ws w d).set a (scan ws w (fun j => (tab ws w d j).1) a (d + 1) 1 (-1, 0)).2 = tt ws w (d + 1) := by
  apply List.ext_getElem (by simp [tt])
  intro i h1 h2
  rw [List.getElem_set]
  split
  · rename_i e
    subst e
    simp [tt, tab_step, h]
  · rename_i e
    simp only [tt, List.getElem_map, List.getElem_range, tab_step]
    rw [if_neg (by omega)]
theorem tt_low (ws : List ByteArray) (w : Int) (d a : Nat) (h : a + (d + 1) = ws.length) : (tt ws w d).set a 0 = tt ws w d := by
  apply List.ext_getElem (by simp)
  intro i h1 h2
  rw [List.getElem_set]
  split
  · rename_i e
    subst e
    simp [tt, tab_low ws w a d (by omega)]
  · rfl
theorem impl_wl_out {ws : List ByteArray} {w : Int} (hf : fit ws w) (f : Nat) : ∀ (a : Nat) (acc : List Int), a ≤ ws.length → ws.length ≤ a + f → acc.length ≤ 100 - f → f ≤ 20 →
    Ev (fun k => impl_WrapLines.l2 k ws (tt ws w ws.length) acc a) (acc ++ outL ws w f a) := by
  have h20 := hf.2.1
  have stop : ∀ (a : Nat) (acc : List Int), a = ws.length → acc.length ≤ 1000 → Ev (fun k => impl_WrapLines.l2 k ws (tt ws w ws.length) acc a) acc := by
    intro a acc h hl
    refine Ev.up ?_
    simp only [impl_WrapLines.l2, impl_copied_int.f]
    refine Ev.neg (by omega) ?_
    rw [if_pos (by omega), Option.bind_some]
    exact Ev.now _
  induction f with
  | zero =>
    intro a acc ha h2 hl _
    rw [outL, List.append_nil]
    exact stop a acc (by omega) (by omega)
  | succ f ih =>
    intro a acc ha h2 hl hf20
    rw [outL_step]
    by_cases hlt : a < ws.length
    · rw [if_pos hlt]
      obtain ⟨⟨m, hm1, hm2, hm3, _, _⟩, _⟩ := best_good hf a hlt
      have hrd : rd (tt ws w ws.length) (a : Int) = bestT ws w a := rd_tt ws w ws.length a (by omega)
      have wa : ∀ _ : Unit, wrap64 ((a : Int) + (m : Int)) = ((a + m : Nat) : Int) := fun _ => by rw [w64] <;> omega
      have h1 := ih (a + m) (acc ++ [bestT ws w a]) hm2 (by omega) (by simp; omega) (by omega)
      rw [List.append_assoc] at h1
      have e : (bestT ws w a).toNat = m := by rw [hm3, Int.toNat_natCast]
      rw [e]
      rw [hm3] at h1 hrd ⊢
      refine Ev.up ?_
      simp only [impl_WrapLines.l2, hrd, wa (), tt_length]
      exact Ev.pos (by omega) (Ev.pos (by omega) (Ev.pos (by omega) (Ev.pos (by omega) h1)))
    · rw [if_neg hlt, List.append_nil]
      exact stop a acc (by omega) (by omega)
theorem impl_wl_outer {ws : List ByteArray} {w : Int} (hf : fit ws w) (a : Nat) : ∀ d : Nat, a + d = ws.length →
    Ev (fun k => impl_WrapLines.l0 k ws w (tb ws w d) (tt ws w d) ((a : Int) - 1)) (outL ws w ws.length 0) := by
  have h20 := hf.2.1
  induction a with
  | zero =>
    intro d hd
    obtain rfl : d = ws.length := by omega
    have h := impl_wl_out hf ws.length 0 [] (by omega) (by omega) (by simp) (by omega)
    rw [List.nil_append] at h
    refine Ev.up ?_
    simp only [impl_WrapLines.l0]
    exact Ev.neg (by omega) h
  | succ a ih =>
    intro d hd
    have h := ih (d + 1) (by omega)
    have hB : topB ws (fun j => rd (tb ws w d) (j : Int)) a := fun j h1 h2 => by
      dsimp only
      rw [rd_tb]
      exact tab_in hf d j (by omega) h2
    have e : (fun j : Nat => rd (tb ws w d) (j : Int)) = fun j => (tab ws w d j).1 := funext fun j => rd_tb ws w d j
    have hin := impl_wl_in hf (tb ws w d) (tt ws w d) (tb_length ws w d) (tt_length ws w d) a (by omega) hB (outL ws w ws.length 0) (d + 1) 1 (-1, 0) (by omega) (by omega)
    rw [e, tb_step ws w d a (by omega), tt_step ws w d a (by omega)] at hin
    dsimp only at hin
    rw [tt_low ws w d a (by omega)] at hin
    have e1 : ((a + 1 : Nat) : Int) - 1 = (a : Int) := by omega
    rw [e1]
    refine Ev.up ?_
    simp only [impl_WrapLines.l0, tb_length, Int.toNat_natCast]
    exact Ev.pos (by omega) (Ev.pos (by omega) (Ev.pos (by omega) (hin h)))
open Classical in
theorem impl_lines (ws : List ByteArray) (n : Int) (hz : sized ws) : Ev (fun k => impl_WrapLines.f k ws n) (linesM ws n) := by
  unfold impl_WrapLines.f linesM
  refine Ev.bind (impl_fit ws n hz) ?_
  by_cases h : fit ws n
  · rw [if_pos h]
    have h20 := h.2.1
    have w1 : ∀ _ : Unit, wrap64 ((ws.length : Int) + 1) = ((ws.length + 1 : Nat) : Int) := fun _ => by rw [w64] <;> omega
    have w2 : ∀ _ : Unit, wrap64 ((ws.length : Int) - 1) = (ws.length : Int) - 1 := fun _ => w64 (by omega) (by omega)
    have := impl_wl_outer h ws.length 0 (by omega)
    rw [← tb_zero, ← tt_zero] at this
    refine Ev.pos (decide_eq_true h) ?_
    simp only [w1 (), w2 (), Int.toNat_natCast]
    exact Ev.pos (by omega) (Ev.pos (by omega) this)
  · rw [if_neg h]
    exact Ev.neg (by simp [h]) (Ev.now _)
/-! ## WrapLines: the reference -/
theorem spec_wl_in {ws : List ByteArray} {w : Int} (hf : fit ws w) (b t : List Int) (hb : b.length = ws.length + 1) (ht : t.length = ws.length + 1) (hend : rd b (ws.length : Int) = 0) (a : Nat) (ha : a < ws.length) (hB : topB ws (fun j => rd b (j : Int)) a) (r : List Int) (d : Nat) :
    ∀ (m : Nat) (s : Int × Int), a + m + d = ws.length + 1 → 1 ≤ m →
    Ev (fun k => spec_WrapLines.l0 k ws w ([] : List Int) (ws.length : Int) (b.set a (scan ws w (fun j => rd b (j : Int)) a d m s).1) (t.set a (scan ws w (fun j => rd b (j : Int)) a d m s).2) ((a : Int) - 1)) r →
    Ev (fun k => spec_WrapLines.l1 k ws w ([] : List Int) (ws.length : Int) (b.set a s.1) (t.set a s.2) a m) r := by
  have hw := narrow_of hf
  have h20 := hf.2.1
  have hn := hf.1
  have wm : ∀ _ : Unit, wrap64 ((a : Int) - 1) = (a : Int) - 1 := fun _ => w64 (by omega) (by omega)
  induction d with
  | zero =>
    intro m s hd hm hr
    have w1 : wrap64 ((a : Int) + m) = ((a + m : Nat) : Int) := by rw [w64] <;> omega
    refine Ev.up ?_
    simp only [spec_WrapLines.l1, w1]
    clear w1
    refine Ev.neg (by omega) (Ev.up ?_)
    simp only [spec_WrapLines.j2, Bool.false_eq_true, if_false, wm ()]
    exact hr
  | succ d ih =>
    intro m s hd hm hr
    have w1 : ∀ _ : Unit, wrap64 ((a : Int) + m) = ((a + m : Nat) : Int) := fun _ => by rw [w64] <;> omega
    have w2 : ∀ _ : Unit, wrap64 ((m : Int) + 1) = ((m + 1 : Nat) : Int) := fun _ => by rw [w64] <;> omega
    have hL := spec_len hw a (a + m) (by omega) (by omega)
    have hLi := len_in hw a (a + m) (by omega) (by omega)
    rw [scan_step] at hr
    refine Ev.up ?_
    simp only [spec_WrapLines.l1, w1 ()]
    refine Ev.pos (by omega) (Ev.bind hL ?_)
    by_cases hc : len ws (a : Int) ((a + m : Nat) : Int) ≤ w
    · rw [if_pos hc] at hr
      have hb0 := hB (a + m) (by omega) (by omega)
      have hsq := sq_in (w - len ws (a : Int) ((a + m : Nat) : Int)) (by omega) (by omega)
      have w3 : ∀ _ : Unit, wrap64 (w - len ws (a : Int) ((a + m : Nat) : Int)) = w - len ws (a : Int) ((a + m : Nat) : Int) := fun _ => w64 (by omega) (by omega)
      have hra : rd (b.set a s.1) (a : Int) = s.1 := rd_set_self b a s.1 (by omega)
      have hrm : rd (b.set a s.1) ((a + m : Nat) : Int) = rd b ((a + m : Nat) : Int) := rd_set_ne b a (a + m) s.1 (by omega) (by omega)
      have next : ∀ s' : Int × Int, (if s.1 < 0 ∨ cand ws w (fun j => rd b (j : Int)) a m ≤ s.1 then (cand ws w (fun j => rd b (j : Int)) a m, ((m : Nat) : Int)) else s) = s' →
          Ev (fun k => spec_WrapLines.l1 k ws w ([] : List Int) (ws.length : Int) (b.set a s'.1) (t.set a s'.2) a ((m + 1 : Nat) : Int)) r := by
        intro s' e
        rw [e] at hr
        exact ih (m + 1) s' (by omega) (by omega) hr
      have yes : s.1 < 0 ∨ cand ws w (fun j => rd b (j : Int)) a m ≤ s.1 → Ev (fun k => spec_WrapLines.l1 k ws w ([] : List Int) (ws.length : Int) (b.set a (cand ws w (fun j => rd b (j : Int)) a m)) (t.set a ((m : Nat) : Int)) a ((m + 1 : Nat) : Int)) r := fun h => next _ (if_pos h)
      have no : ¬ (s.1 < 0 ∨ cand ws w (fun j => rd b (j : Int)) a m ≤ s.1) → Ev (fun k => spec_WrapLines.l1 k ws w ([] : List Int) (ws.length : Int) (b.set a s.1) (t.set a s.2) a ((m + 1 : Nat) : Int)) r := fun h => next _ (if_neg h)
      clear next hr ih
      rw [cand_at] at yes no
      refine Ev.up ?_
      simp only [spec_WrapLines.j2, decide_eq_true hc, if_true, w1 (), w2 ()]
      refine Ev.bind hL ?_
      simp only [w3 (), hra, hrm, List.set_set, List.length_set, Int.toNat_natCast]
      generalize (w - len ws (a : Int) ((a + m : Nat) : Int)) * (w - len ws (a : Int) ((a + m : Nat) : Int)) = q at hsq yes no ⊢
      have w4 : ∀ _ : Unit, wrap64 q = q := fun _ => w64 (by omega) (by omega)
      have w5 : ∀ _ : Unit, wrap64 (rd b ((a + m : Nat) : Int) + q) = q + rd b ((a + m : Nat) : Int) := fun _ => by rw [w64 (by dsimp only at hb0; omega) (by dsimp only at hb0; omega)]; omega
      simp only [w4 (), w5 ()]
      refine Ev.pos (by omega) (Ev.pos (by omega) ?_)
      by_cases he : a + m = ws.length
      · rw [if_pos he] at yes no
        have hz : rd b ((a + m : Nat) : Int) = 0 := by rw [he]; exact hend
        rw [hz]
        refine Ev.neg (by omega) (Ev.pos (by omega) (Ev.pos (by omega) ?_))
        by_cases c1 : s.1 < 0
        · exact Ev.pos c1 (Ev.pos (by omega) (yes (.inl c1)))
        · refine Ev.neg c1 ?_
          by_cases c2 : 0 ≤ s.1
          · exact Ev.pos c2 (Ev.pos (by omega) (yes (.inr c2)))
          · exact absurd c1 (by omega)
      · rw [if_neg he] at yes no
        refine Ev.pos (by omega) (Ev.pos (by omega) (Ev.pos (by omega) ?_))
        by_cases c1 : s.1 < 0
        · exact Ev.pos c1 (Ev.pos (by omega) (yes (.inl c1)))
        · refine Ev.neg c1 ?_
          by_cases c2 : q + rd b ((a + m : Nat) : Int) ≤ s.1
          · exact Ev.pos c2 (Ev.pos (by omega) (yes (.inr c2)))
          · exact Ev.neg c2 (no (fun h => h.elim c1 c2))
    · rw [if_neg hc] at hr
      rw [decide_eq_false hc]
      refine Ev.up ?_
      simp only [spec_WrapLines.j2, Bool.false_eq_true, if_false, wm ()]
      exact hr
theorem spec_wl_out {ws : List ByteArray} {w : Int} (hf : fit ws w) (f : Nat) : ∀ (a : Nat) (acc : List Int), a ≤ ws.length → ws.length ≤ a + f → acc.length ≤ 100 - f → f ≤ 20 →
    Ev (fun k => spec_WrapLines.l2 k acc (ws.length : Int) (tt ws w ws.length) a) (acc ++ outL ws w f a) := by
  have h20 := hf.2.1
  have stop : ∀ (a : Nat) (acc : List Int), a = ws.length → acc.length ≤ 1000 → Ev (fun k => spec_WrapLines.l2 k acc (ws.length : Int) (tt ws w ws.length) a) acc := by
    intro a acc h hl
    refine Ev.up ?_
    simp only [spec_WrapLines.l2]
    exact Ev.neg (by omega) (Ev.now _)
  induction f with
  | zero =>
    intro a acc ha h2 hl _
    rw [outL, List.append_nil]
    exact stop a acc (by omega) (by omega)
  | succ f ih =>
    intro a acc ha h2 hl hf20
    rw [outL_step]
    by_cases hlt : a < ws.length
    · rw [if_pos hlt]
      obtain ⟨⟨m, hm1, hm2, hm3, _, _⟩, _⟩ := best_good hf a hlt
      have hrd : rd (tt ws w ws.length) (a : Int) = bestT ws w a := rd_tt ws w ws.length a (by omega)
      have wa : ∀ _ : Unit, wrap64 ((a : Int) + (m : Int)) = ((a + m : Nat) : Int) := fun _ => by rw [w64] <;> omega
      have h1 := ih (a + m) (acc ++ [bestT ws w a]) hm2 (by omega) (by simp; omega) (by omega)
      rw [List.append_assoc] at h1
      have e : (bestT ws w a).toNat = m := by rw [hm3, Int.toNat_natCast]
      rw [e]
      rw [hm3] at h1 hrd ⊢
      refine Ev.up ?_
      simp only [spec_WrapLines.l2, hrd, wa (), tt_length]
      exact Ev.pos (by omega) (Ev.pos (by omega) (Ev.pos (by omega) (Ev.pos (by omega) h1)))
    · rw [if_neg hlt, List.append_nil]
      exact stop a acc (by omega) (by omega)
theorem spec_wl_outer {ws : List ByteArray} {w : Int} (hf : fit ws w) (a : Nat) : ∀ d : Nat, a + d = ws.length →
    Ev (fun k => spec_WrapLines.l0 k ws w ([] : List Int) (ws.length : Int) (tb ws w d) (tt ws w d) ((a : Int) - 1)) (outL ws w ws.length 0) := by
  have h20 := hf.2.1
  induction a with
  | zero =>
    intro d hd
    obtain rfl : d = ws.length := by omega
    have h := spec_wl_out hf ws.length 0 [] (by omega) (by omega) (by simp) (by omega)
    rw [List.nil_append] at h
    refine Ev.up ?_
    simp only [spec_WrapLines.l0]
    exact Ev.neg (by omega) h
  | succ a ih =>
    intro d hd
    have h := ih (d + 1) (by omega)
    have hB : topB ws (fun j => rd (tb ws w d) (j : Int)) a := fun j h1 h2 => by
      dsimp only
      rw [rd_tb]
      exact tab_in hf d j (by omega) h2
    have e : (fun j : Nat => rd (tb ws w d) (j : Int)) = fun j => (tab ws w d j).1 := funext fun j => rd_tb ws w d j
    have hend : rd (tb ws w d) (ws.length : Int) = 0 := by rw [rd_tb, tab_end ws w ws.length (Nat.le_refl _)]
    have hin := spec_wl_in hf (tb ws w d) (tt ws w d) (tb_length ws w d) (tt_length ws w d) hend a (by omega) hB (outL ws w ws.length 0) (d + 1) 1 (-1, 0) (by omega) (by omega)
    rw [e, tb_step ws w d a (by omega), tt_step ws w d a (by omega)] at hin
    dsimp only at hin
    rw [tt_low ws w d a (by omega)] at hin
    have e1 : ((a + 1 : Nat) : Int) - 1 = (a : Int) := by omega
    rw [e1]
    refine Ev.up ?_
    simp only [spec_WrapLines.l0, tb_length, Int.toNat_natCast]
    exact Ev.pos (by omega) (Ev.pos (by omega) (Ev.pos (by omega) (hin h)))
open Classical in
theorem spec_lines (ws : List ByteArray) (n : Int) (hz : sized ws) : Ev (fun k => spec_WrapLines.f k ws n) (linesM ws n) := by
  unfold spec_WrapLines.f linesM
  simp only [Option.bind_some]
  refine Ev.bind (spec_fit ws n hz) ?_
  by_cases h : fit ws n
  · rw [if_pos h]
    have h20 := h.2.1
    have w1 : ∀ _ : Unit, wrap64 ((ws.length : Int) + 1) = ((ws.length + 1 : Nat) : Int) := fun _ => by rw [w64] <;> omega
    have w2 : ∀ _ : Unit, wrap64 ((ws.length : Int) - 1) = (ws.length : Int) - 1 := fun _ => w64 (by omega) (by omega)
    have := spec_wl_outer h ws.length 0 (by omega)
    rw [← tb_zero, ← tt_zero] at this
    refine Ev.pos (decide_eq_true h) ?_
    simp only [w1 (), w2 (), Int.toNat_natCast]
    exact Ev.pos (by omega) (Ev.pos (by omega) this)
  · rw [if_neg h]
    exact Ev.neg (by simp [h]) (Ev.now _)
/-! ## texts as bytes -/
def L (s : ByteArray) : List UInt8 := s.data.toList
def mk (b : List UInt8) : ByteArray := ⟨b.toArray⟩
theorem L_mk (b : List UInt8) : L (mk b) = b := by simp [L, mk]
theorem mk_L (s : ByteArray) : mk (L s) = s := by cases s; simp [L, mk]
theorem L_inj {s t : ByteArray} (h : L s = L t) : s = t := by rw [← mk_L s, h, mk_L]
theorem L_append (s t : ByteArray) : L (s ++ t) = L s ++ L t := by simp [L, ByteArray.data_append]
theorem L_length (s : ByteArray) : (L s).length = s.size := by cases s; simp [L, ByteArray.size]
theorem L_extract (s : ByteArray) (a b : Nat) : L (s.extract a b) = ((L s).take b).drop a := by
  simp [L, ByteArray.data_extract, List.drop_take]
/-! ## texts in parts -/
def pk (c : UInt8) : List UInt8 → List UInt8 → List (List UInt8) × List UInt8
  | acc, [] => ([], acc)
  | acc, b :: l => if b = c then (acc :: (pk c [] l).1, (pk c [] l).2) else pk c (acc ++ [b]) l
theorem pk_nil (c : UInt8) (acc : List UInt8) : pk c acc [] = ([], acc) := rfl
theorem pk_cons (c : UInt8) (acc : List UInt8) (b : UInt8) (l : List UInt8) : pk c acc (b :: l) = if b = c then (acc :: (pk c [] l).1, (pk c [] l).2) else pk c (acc ++ [b]) l := rfl
theorem index_here (c : UInt8) (l : List UInt8) : ∀ acc : List UInt8, (∀ b ∈ acc, b ≠ c) → Go.Lib.index (acc ++ c :: l) [c] = (acc.length : Int)
  | [], _ => by
    rw [Go.Lib.index_one]
    simp [Go.Lib.indexByte]
  | a :: acc, h => by
    have ih := index_here c l acc (fun b hb => h b (List.mem_cons_of_mem _ hb))
    rw [Go.Lib.index_one] at ih ⊢
    have ha : (a == c) = false := beq_eq_false_iff_ne.mpr (h a (List.mem_cons_self))
    have hn : ((acc.length : Int) == -1) = false := beq_eq_false_iff_ne.mpr (by omega)
    rw [List.cons_append, Go.Lib.indexByte, ha, ih, hn]
    simp
theorem splitK_pk (c : UInt8) (sv : Nat) (hsv : sv ≤ 1) : ∀ (l acc : List UInt8), (∀ b ∈ acc, b ≠ c) → Go.Lib.splitK [c] sv (l.count c) (acc ++ l) = (pk c acc l).1.map (fun u => u ++ ([c].take sv)) ++ [(pk c acc l).2]
  | [], acc, h => by simp [Go.Lib.splitK, pk_nil]
  | b :: l, acc, h => by
    rw [pk_cons]
    by_cases e : b = c
    · subst e
      have hi := index_here b l acc h
      have hn : ((acc.length : Int) == -1) = false := beq_eq_false_iff_ne.mpr (by omega)
      have ih := splitK_pk b sv hsv l [] (by simp)
      rw [if_pos rfl, List.count_cons_self, Go.Lib.splitK, hi, hn]
      rw [List.nil_append] at ih
      simp only [Bool.false_eq_true, if_false, Int.toNat_natCast, List.length_singleton, List.map_cons, List.cons_append]
      rw [show (acc ++ b :: l).drop (acc.length + 1) = l by rw [List.drop_append]; simp, ih]
      congr 1
      rw [List.take_append, List.take_of_length_le (by omega)]
      congr 1
      have : sv = 0 ∨ sv = 1 := by omega
      rcases this with rfl | rfl <;> simp
    · rw [if_neg e, List.count_cons_of_ne (by simpa using e), ← splitK_pk c sv hsv l (acc ++ [b]) (fun x hx => by
        rcases List.mem_append.mp hx with h1 | h1
        · exact h x h1
        · rw [List.mem_singleton.mp h1]; exact e), List.append_assoc]
      rfl
theorem map_mk_L (ws : List ByteArray) : (ws.map L).map mk = ws := by
  rw [List.map_map]
  conv => rhs; rw [← List.map_id ws]
  exact List.map_congr_left (fun w _ => mk_L w)
theorem splitB_pk (c : UInt8) (sv : Nat) (hsv : sv ≤ 1) (s : ByteArray) : Go.Lib.splitB ⟨#[c]⟩ sv (Go.Lib.countB s ⟨#[c]⟩) s = (pk c [] (L s)).1.map (fun u => mk (u ++ ([c].take sv))) ++ [mk (pk c [] (L s)).2] := by
  have h1 := Go.Lib.splitB_data ⟨#[c]⟩ sv (Go.Lib.countB s ⟨#[c]⟩) s
  have h2 : Go.Lib.countB s ⟨#[c]⟩ = (L s).count c := Go.Lib.count_one c (L s)
  have h3 := splitK_pk c sv hsv (L s) [] (by simp)
  rw [List.nil_append] at h3
  rw [h2] at h1 ⊢
  have h4 : (Go.Lib.splitB ⟨#[c]⟩ sv ((L s).count c) s).map L = (pk c [] (L s)).1.map (fun u => u ++ ([c].take sv)) ++ [(pk c [] (L s)).2] := h1.trans h3
  have h5 := congrArg (List.map mk) h4
  rw [map_mk_L] at h5
  rw [h5]
  simp
theorem pk_no (c : UInt8) : ∀ (l acc : List UInt8), (∀ b ∈ acc, b ≠ c) → (∀ u ∈ (pk c acc l).1, ∀ b ∈ u, b ≠ c) ∧ (∀ b ∈ (pk c acc l).2, b ≠ c)
  | [], acc, h => by
    rw [pk_nil]
    exact ⟨fun u hu => by simp at hu, h⟩
  | b :: l, acc, h => by
    rw [pk_cons]
    by_cases e : b = c
    · have ih := pk_no c l [] (by simp)
      rw [if_pos e]
      refine ⟨fun u hu => ?_, ih.2⟩
      rcases List.mem_cons.mp hu with rfl | hu
      · exact h
      · exact ih.1 u hu
    · rw [if_neg e]
      exact pk_no c l (acc ++ [b]) (fun x hx => by
        rcases List.mem_append.mp hx with h1 | h1
        · exact h x h1
        · rw [List.mem_singleton.mp h1]; exact e)
theorem pk_flat (c : UInt8) : ∀ (l acc : List UInt8), ((pk c acc l).1.map (fun u => u ++ [c])).flatten ++ (pk c acc l).2 = acc ++ l
  | [], acc => by simp [pk_nil]
  | b :: l, acc => by
    rw [pk_cons]
    by_cases e : b = c
    · have ih := pk_flat c l []
      rw [List.nil_append] at ih
      rw [if_pos e, List.map_cons, List.flatten_cons, List.append_assoc, ih, e]
      simp
    · have ih := pk_flat c l (acc ++ [b])
      rw [if_neg e, ih]
      simp
theorem join_none (ws : List (List UInt8)) : Go.Lib.join ws [] = ws.flatten := by
  unfold Go.Lib.join
  induction ws with
  | nil => rfl
  | cons w r ih =>
    cases r with
    | nil => simp [List.intercalate]
    | cons x r =>
      have e : List.intercalate [] (w :: x :: r) = w ++ ([] ++ List.intercalate [] (x :: r)) := by simp [List.intercalate]
      rw [e, ih]
      simp
theorem toList_L (s : ByteArray) : s.toList = L s := Go.Lib.toList_data s
theorem toList_eq_iff (s t : ByteArray) : s.toList = t.toList ↔ s = t := by
  rw [toList_L, toList_L]
  exact ⟨L_inj, fun h => by rw [h]⟩
/-! ## a byte of a text -/
theorem bt_L (s : ByteArray) (i : Nat) (h : i < (L s).length) : bt s (i : Int) = (((L s)[i]).toNat : Int) := by
  have h' : i < s.size := by rw [← L_length]; exact h
  simp [bt, L, h']
  rfl
/-! ## texts put together -/
def cat (ws : List ByteArray) : List UInt8 := (ws.map L).flatten
theorem cat_nil : cat [] = [] := rfl
theorem cat_cons (w : ByteArray) (ws : List ByteArray) : cat (w :: ws) = L w ++ cat ws := by simp [cat]
theorem cat_append (a b : List ByteArray) : cat (a ++ b) = cat a ++ cat b := by simp [cat]
theorem cat_one (w : ByteArray) : cat [w] = L w := by simp [cat]
/-! ## NoteValid -/
def hasB (s : ByteArray) (c : UInt8) : Prop := c ∈ L s
theorem spec_has (s : ByteArray) (hs : s.size ≤ 140737488355328) (c : UInt8) : Ev (fun k => spec_l1Has.f k s (c.toNat : Int)) (decide (c ∈ L s)) := by
  have hl := L_length s
  unfold spec_l1Has.f
  have key : ∀ (d i : Nat), i + d = s.size → (∀ j (h : j < i) (h2 : j < (L s).length), (L s)[j] ≠ c) → Ev (fun k => spec_l1Has.l0 k s (c.toNat : Int) i) (decide (c ∈ L s)) := by
    intro d
    induction d with
    | zero =>
      intro i hi hno
      refine Ev.up ?_
      simp only [spec_l1Has.l0]
      refine Ev.neg (by omega) (Ev.ok ?_)
      refine (decide_eq_false (fun h => ?_)).symm
      obtain ⟨j, hj, e⟩ := List.mem_iff_getElem.mp h
      exact hno j (by omega) hj e
    | succ d ih =>
      intro i hi hno
      have hlt : i < (L s).length := by omega
      have hb := bt_L s i hlt
      have w1 : ∀ _ : Unit, wrap64 ((i : Int) + 1) = ((i + 1 : Nat) : Int) := fun _ => by rw [w64] <;> omega
      refine Ev.up ?_
      simp only [spec_l1Has.l0, w1 ()]
      refine Ev.pos (by omega) (Ev.pos (by omega) ?_)
      by_cases e : (L s)[i] = c
      · refine Ev.pos (by rw [hb, e]) (Ev.ok ?_)
        exact (decide_eq_true (by rw [← e]; exact List.getElem_mem hlt)).symm
      · refine Ev.neg (fun h => e ?_) (ih (i + 1) (by omega) (fun j h h2 => ?_))
        · apply UInt8.toNat_inj.mp
          rw [hb] at h
          omega
        · rcases Nat.lt_succ_iff_lt_or_eq.mp h with h3 | h3
          · exact hno j h3 h2
          · subst h3; exact e
  exact key s.size 0 (by omega) (fun j h => by omega)
theorem index_mem (c : UInt8) : ∀ l : List UInt8, decide (0 ≤ Go.Lib.index l [c]) = decide (c ∈ l)
  | [] => by
    rw [Go.Lib.index_one]
    simp [Go.Lib.indexByte]
  | b :: l => by
    have ih := index_mem c l
    rw [Go.Lib.index_one] at ih ⊢
    have hge := Go.Lib.indexByte_ge l c
    have ih' := decide_eq_decide.mp ih
    rw [Go.Lib.indexByte]
    by_cases h : b = c
    · subst h
      simp
    · have hb : (b == c) = false := beq_eq_false_iff_ne.mpr h
      rw [hb]
      apply decide_eq_decide.mpr
      rw [List.mem_cons, ← ih']
      simp only [Bool.false_eq_true, if_false]
      by_cases h1 : Go.Lib.indexByte l c = -1
      · rw [h1]
        simp only [BEq.rfl, if_true]
        constructor
        · intro h2; omega
        · rintro (h2 | h2)
          · exact absurd h2.symm h
          · omega
      · have hb1 : (Go.Lib.indexByte l c == -1) = false := beq_eq_false_iff_ne.mpr h1
        rw [hb1]
        simp only [Bool.false_eq_true, if_false]
        constructor
        · intro h2; exact .inr (by omega)
        · rintro (h2 | h2)
          · exact absurd h2.symm h
          · omega
theorem impl_has (s : ByteArray) : impl_hasLineEnd.f s = some (decide ((10 : UInt8) ∈ L s)) := by
  unfold impl_hasLineEnd.f strings_Contains.f
  rw [if_pos (show (⟨#[10]⟩ : ByteArray).size = 1 from rfl)]
  have e : decide (0 ≤ Go.Lib.index s.data.toList (⟨#[10]⟩ : ByteArray).data.toList) = decide ((10 : UInt8) ∈ L s) := index_mem 10 (L s)
  rw [e]
  rfl
def restN (s : ByteArray) : Bool := if s.toList = ([] : List UInt8) then true else if bt s 0 = 32 then false else (bt s ((s.size : Int) - 1) != 32)
noncomputable def noteB (s : ByteArray) : Bool := open Classical in if textOk s ∧ s.size ≤ 60 ∧ (10 : UInt8) ∉ L s then restN s else false
theorem noteB_yes {s : ByteArray} (h : textOk s ∧ s.size ≤ 60 ∧ (10 : UInt8) ∉ L s) : noteB s = restN s := if_pos h
theorem noteB_no {s : ByteArray} (h : ¬ (textOk s ∧ s.size ≤ 60 ∧ (10 : UInt8) ∉ L s)) : noteB s = false := if_neg h
theorem rest_ev (s : ByteArray) (hs : s.size ≤ 60) : (if s.toList = ([] : List UInt8) then (some true) else (if 0 < (s.size : Int) then (if (bt s 0) = 32 then (some false) else (if 0 ≤ (wrap64 ((s.size : Int) - 1)) then (if (wrap64 ((s.size : Int) - 1)) < (s.size : Int) then (some ((bt s (wrap64 ((s.size : Int) - 1))) != 32)) else (none)) else (none))) else (none))) = some (restN s) := by
  unfold restN
  by_cases h0 : s.toList = ([] : List UInt8)
  · rw [if_pos h0, if_pos h0]
  · have hp : 0 < s.size := by
      rcases Nat.eq_zero_or_pos s.size with h | h
      · exact absurd (by rw [toList_L]; exact List.eq_nil_of_length_eq_zero (by rw [L_length]; exact h)) h0
      · exact h
    have w1 : wrap64 ((s.size : Int) - 1) = (s.size : Int) - 1 := w64 (by omega) (by omega)
    rw [if_neg h0, if_neg h0, if_pos (show 0 < (s.size : Int) by omega), w1]
    by_cases h1 : bt s 0 = 32
    · rw [if_pos h1, if_pos h1]
    · rw [if_neg h1, if_neg h1, if_pos (show 0 ≤ (s.size : Int) - 1 by omega), if_pos (show (s.size : Int) - 1 < (s.size : Int) by omega)]
open Classical in
theorem spec_note (s : ByteArray) (hs : s.size ≤ 140737488355328) : Ev (fun k => spec_NoteValid.f k s) (noteB s) := by
  have ht := spec_text s hs
  have hh := spec_has s hs 10
  unfold spec_NoteValid.f
  refine Ev.bind ht ?_
  by_cases h1 : textOk s
  · refine Ev.pos (decide_eq_true h1) ?_
    by_cases h2 : (s.size : Int) ≤ 60
    · refine Ev.pos h2 (Ev.bind hh ?_)
      by_cases h3 : (10 : UInt8) ∈ L s
      · rw [noteB_no (fun h => h.2.2 h3)]
        exact Ev.pos (decide_eq_true h3) (Ev.now _)
      · rw [noteB_yes ⟨h1, by omega, h3⟩, rest_ev s (by omega)]
        exact Ev.neg (by simp [h3]) (Ev.now _)
    · rw [noteB_no (fun h => h2 (by have := h.2.1; omega))]
      exact Ev.neg h2 (Ev.now _)
  · rw [noteB_no (fun h => h1 h.1)]
    exact Ev.neg (by simp [h1]) (Ev.now _)
open Classical in
theorem impl_note (s : ByteArray) (hs : s.size ≤ 140737488355328) : Ev (fun k => impl_NoteValid.f k s) (noteB s) := by
  have ht := impl_text s hs
  unfold impl_NoteValid.f
  refine Ev.bind ht ?_
  by_cases h1 : textOk s
  · refine Ev.pos (decide_eq_true h1) ?_
    by_cases h2 : (s.size : Int) ≤ 60
    · refine Ev.pos h2 ?_
      rw [impl_has]
      simp only [Option.bind_some]
      by_cases h3 : (10 : UInt8) ∈ L s
      · rw [noteB_no (fun h => h.2.2 h3)]
        exact Ev.pos (decide_eq_true h3) (Ev.now _)
      · rw [noteB_yes ⟨h1, by omega, h3⟩, rest_ev s (by omega)]
        exact Ev.neg (by simp [h3]) (Ev.now _)
    · rw [noteB_no (fun h => h2 (by have := h.2.1; omega))]
      exact Ev.neg h2 (Ev.now _)
  · rw [noteB_no (fun h => h1 h.1)]
    exact Ev.neg (by simp [h1]) (Ev.now _)
/-! ## WrapText -/
/-- The words of a text from a place on, a word begun with c. -/
def wordsL (c l : List UInt8) : List (List UInt8) := ((pk 32 c l).1 ++ [(pk 32 c l).2]).filter (fun u => decide (u ≠ []))
theorem wordsL_nil (c : List UInt8) : wordsL c [] = if c = [] then [] else [c] := by
  by_cases h : c = [] <;> simp [wordsL, pk_nil, h]
theorem wordsL_cons (c : List UInt8) (b : UInt8) (l : List UInt8) : wordsL c (b :: l) = if b = 32 then (if c = [] then wordsL [] l else c :: wordsL [] l) else wordsL (c ++ [b]) l := by
  unfold wordsL
  rw [pk_cons]
  by_cases h : b = 32
  · rw [if_pos h, if_pos h]
    by_cases hc : c = [] <;> simp [hc]
  · rw [if_neg h, if_neg h]
def wordsT (s : ByteArray) : List ByteArray := (wordsL [] (L s)).map mk
theorem wordsL_len : ∀ (l c : List UInt8), (wordsL c l).length ≤ l.length + 1 ∧ ∀ u ∈ wordsL c l, u.length ≤ c.length + l.length ∧ u ≠ []
  | [], c => by
    rw [wordsL_nil]
    split
    · simp
    · rename_i h
      simp [h]
  | b :: l, c => by
    rw [wordsL_cons]
    have h1 := wordsL_len l []
    have h2 := wordsL_len l (c ++ [b])
    simp only [List.length_append, List.length_cons, List.length_nil] at h1 h2 ⊢
    split
    · split
      · exact ⟨by omega, fun u hu => ⟨by have := (h1.2 u hu).1; omega, (h1.2 u hu).2⟩⟩
      · rename_i hc
        refine ⟨by simp only [List.length_cons]; omega, fun u hu => ?_⟩
        rcases List.mem_cons.mp hu with rfl | hu
        · exact ⟨by omega, hc⟩
        · exact ⟨by have := (h1.2 u hu).1; omega, (h1.2 u hu).2⟩
    · exact ⟨by omega, fun u hu => ⟨by have := (h2.2 u hu).1; omega, (h2.2 u hu).2⟩⟩
theorem wordsT_sized (s : ByteArray) (hs : s.size ≤ 60) : (wordsT s).length ≤ 61 ∧ ∀ w ∈ wordsT s, w.size ≤ 60 := by
  have h := wordsL_len (L s) []
  have hl := L_length s
  simp only [List.length_nil, Nat.zero_add] at h
  refine ⟨by simp only [wordsT, List.length_map]; omega, fun w hw => ?_⟩
  obtain ⟨u, hu, rfl⟩ := List.mem_map.mp hw
  have := (h.2 u hu).1
  rw [← L_length, L_mk]
  omega
theorem split_is (s : ByteArray) (hs : s.size < 4294967281) : strings_Split.f s ⟨#[32]⟩ = some (((pk 32 [] (L s)).1 ++ [(pk 32 [] (L s)).2]).map mk) := by
  unfold strings_Split.f
  rw [if_pos ⟨rfl, hs⟩, splitB_pk 32 0 (by omega) s]
  simp
theorem toList_nil (u : List UInt8) : (mk u).toList = ([] : List UInt8) ↔ u = [] := by rw [toList_L, L_mk]
theorem impl_wt_words (n : Int) (all : List (List UInt8)) (hall : all.length ≤ 1000) (r : List ByteArray) (d : Nat) : ∀ (i : Nat) (acc : List ByteArray), i + d = all.length → acc.length ≤ i →
    Ev (fun k => (impl_WrapLines.f k (acc ++ ((all.drop i).filter (fun u => decide (u ≠ []))).map mk) n).bind fun t374 => (impl_WrapText.l1 k (acc ++ ((all.drop i).filter (fun u => decide (u ≠ []))).map mk) ([] : List ByteArray) 0 t374 (t374.length : Int) 0)) r →
    Ev (fun k => impl_WrapText.l0 k n acc (all.map mk) ((all.map mk).length : Int) (i : Int)) r := by
  induction d with
  | zero =>
    intro i acc hi ha h
    rw [List.drop_of_length_le (by omega)] at h
    simp only [List.filter_nil, List.map_nil, List.append_nil] at h
    refine Ev.up ?_
    simp only [impl_WrapText.l0, List.length_map]
    exact Ev.neg (by omega) h
  | succ d ih =>
    intro i acc hi ha h
    have hlt : i < all.length := by omega
    have hr : rdOf ByteArray.empty (all.map mk) (i : Int) = mk all[i] := by
      rw [rdOf_nat _ _ i (by simpa using hlt)]
      simp
    have w1 : ∀ _ : Unit, wrap64 ((i : Int) + 1) = ((i + 1 : Nat) : Int) := fun _ => by rw [w64] <;> omega
    rw [List.drop_eq_getElem_cons hlt, List.filter_cons] at h
    refine Ev.up ?_
    simp only [impl_WrapText.l0, hr, w1 (), List.length_map]
    refine Ev.pos (by omega) (Ev.pos (by omega) (Ev.pos (by omega) ?_))
    by_cases e : all[i] = []
    · rw [if_neg (by simp [e])] at h
      have h2 := ih (i + 1) acc (by omega) (by omega) h
      rw [List.length_map] at h2
      exact Ev.pos ((toList_nil _).mpr e) h2
    · rw [if_pos (by simp [e]), List.map_cons] at h
      have h2 := ih (i + 1) (acc ++ [mk all[i]]) (by omega) (by simp; omega) (by simpa using h)
      rw [List.length_map] at h2
      exact Ev.neg (fun x => e ((toList_nil _).mp x)) (Ev.pos (by omega) h2)
theorem spec_wt_words (s : ByteArray) (hs : s.size ≤ 60) (hn : noteB s = true) (n : Int) (r : List ByteArray) (d : Nat) : ∀ (i : Nat) (acc : List ByteArray) (c : List UInt8), i + d = s.size → acc.length ≤ i → c.length ≤ i →
    Ev (fun k => (spec_WrapLines.f k (acc ++ (wordsL c ((L s).drop i)).map mk) n).bind fun t315 => (spec_WrapText.l1 k ([] : List ByteArray) (acc ++ (wordsL c ((L s).drop i)).map mk) t315 0 0)) r →
    Ev (fun k => spec_WrapText.l0 k s n ([] : List ByteArray) acc (mk c) (i : Int)) r := by
  have hnote := spec_note s (by omega)
  rw [hn] at hnote
  have hl := L_length s
  have szm : ∀ c : List UInt8, (mk c).size = c.length := fun c => by rw [← L_length, L_mk]
  have final : ∀ (acc : List ByteArray) (c : ByteArray), Ev (fun k => (spec_WrapLines.f k acc n).bind fun t315 => (spec_WrapText.l1 k ([] : List ByteArray) acc t315 0 0)) r →
      Ev (fun k => spec_WrapText.l0 k s n ([] : List ByteArray) acc c ((s.size + 1 : Nat) : Int)) r := by
    intro acc c h
    refine Ev.up ?_
    simp only [spec_WrapText.l0]
    refine Ev.neg (by omega) (Ev.up ?_)
    simp only [spec_WrapText.j1, Bool.false_eq_true, if_false]
    exact h
  induction d with
  | zero =>
    intro i acc c hi ha hc h
    rw [List.drop_of_length_le (by omega), wordsL_nil] at h
    obtain rfl : i = s.size := by omega
    have w1 : ∀ _ : Unit, wrap64 ((s.size : Int) + 1) = ((s.size + 1 : Nat) : Int) := fun _ => by rw [w64] <;> omega
    refine Ev.up ?_
    simp only [spec_WrapText.l0]
    refine Ev.pos (by omega) (Ev.bind hnote (Ev.up ?_))
    simp only [spec_WrapText.j1, if_true]
    refine Ev.neg (by omega) (Ev.up ?_)
    simp only [spec_WrapText.j2, Bool.false_eq_true, if_false, w1 ()]
    by_cases e : c = []
    · rw [if_pos e] at h
      simp only [List.map_nil, List.append_nil] at h
      exact Ev.pos ((toList_nil c).mpr e) (final acc _ h)
    · rw [if_neg e] at h
      exact Ev.neg (fun x => e ((toList_nil c).mp x)) (Ev.pos (by omega) (final (acc ++ [mk c]) _ (by simpa using h)))
  | succ d ih =>
    intro i acc c hi ha hc h
    have hlt : i < (L s).length := by omega
    have hb := bt_L s i hlt
    have w1 : ∀ _ : Unit, wrap64 ((i : Int) + 1) = ((i + 1 : Nat) : Int) := fun _ => by rw [w64] <;> omega
    rw [List.drop_eq_getElem_cons hlt, wordsL_cons] at h
    refine Ev.up ?_
    simp only [spec_WrapText.l0]
    refine Ev.pos (by omega) (Ev.bind hnote (Ev.up ?_))
    simp only [spec_WrapText.j1, if_true]
    refine Ev.pos (by omega) (Ev.pos (by omega) (Ev.up ?_))
    by_cases e : (L s)[i] = 32
    · have hq : (bt s (i : Int) != 32) = false := by rw [hb, e]; rfl
      rw [if_pos e] at h
      simp only [spec_WrapText.j2, hq, Bool.false_eq_true, if_false, w1 ()]
      have h0 : mk ([] : List UInt8) = (⟨#[]⟩ : ByteArray) := rfl
      by_cases e2 : c = []
      · rw [if_pos e2] at h
        exact Ev.pos ((toList_nil c).mpr e2) (ih (i + 1) acc [] (by omega) (by omega) (by simp) h)
      · rw [if_neg e2, List.map_cons] at h
        exact Ev.neg (fun x => e2 ((toList_nil c).mp x)) (Ev.pos (by omega) (ih (i + 1) (acc ++ [mk c]) [] (by omega) (by simp; omega) (by simp) (by simpa using h)))
    · have hq : (bt s (i : Int) != 32) = true := by
        rw [bne_iff_ne, hb]
        intro h2
        apply e
        apply UInt8.toNat_inj.mp
        show ((L s)[i]).toNat = 32
        omega
      rw [if_neg e] at h
      have ex : s.extract (i : Int).toNat (((i + 1 : Nat) : Int)).toNat = mk [(L s)[i]] := by
        apply L_inj
        rw [L_extract, L_mk, Int.toNat_natCast, Int.toNat_natCast, List.take_succ_eq_append_getElem hlt, List.drop_append_of_le_length (by simp; omega), List.drop_of_length_le (by simp; omega)]
        rfl
      have ea : mk c ++ mk [(L s)[i]] = mk (c ++ [(L s)[i]]) := by
        apply L_inj
        rw [L_append, L_mk, L_mk, L_mk]
      simp only [spec_WrapText.j2, hq, if_true, w1 (), ex, ea]
      have h2 := ih (i + 1) acc (c ++ [(L s)[i]]) (by omega) (by omega) (by simp; omega) h
      exact Ev.pos (by omega) (Ev.pos (by omega) (Ev.pos (by omega) (Ev.pos (by rw [szm, szm]; simp; omega) h2)))
/-- The lines that a wrapping makes of words. -/
def lineT (ws : List ByteArray) (a m : Nat) : ByteArray := mk (Go.Lib.join (((ws.take (a + m)).drop a).map L) [32])
def segs (ws : List ByteArray) : List Int → Nat → List ByteArray
  | [], _ => []
  | n :: r, a => lineT ws a n.toNat :: segs ws r (a + n.toNat)
def covers (ws : List ByteArray) (w : Int) : List Int → Nat → Prop
  | [], a => a = ws.length
  | n :: r, a => 1 ≤ n ∧ a + n.toNat ≤ ws.length ∧ len ws (a : Int) ((a + n.toNat : Nat) : Int) ≤ w ∧ covers ws w r (a + n.toNat)
theorem covers_of {ws : List ByteArray} {w : Int} : ∀ (ls : List Int) (a : Nat) (c : Int), costL ws w ls a c ≠ -1 → covers ws w ls a
  | [], a, c => fun h => by
    rw [costL] at h
    by_cases e : (a : Int) = (ws.length : Int)
    · show a = ws.length
      omega
    · rw [if_neg e] at h
      exact absurd rfl h
  | x :: r, a, c => fun h => by
    rw [costL] at h
    by_cases hx : 1 ≤ x ∧ x ≤ (ws.length : Int) - a
    · rw [if_pos hx] at h
      obtain ⟨m, rfl⟩ := Int.eq_ofNat_of_zero_le (show 0 ≤ x by omega)
      have e : (a : Int) + (m : Int) = ((a + m : Nat) : Int) := by omega
      rw [e] at h
      by_cases hl : len ws (a : Int) ((a + m : Nat) : Int) > w
      · rw [if_pos hl] at h
        exact absurd rfl h
      · rw [if_neg hl] at h
        refine ⟨hx.1, by rw [Int.toNat_natCast]; omega, by rw [Int.toNat_natCast]; omega, ?_⟩
        rw [Int.toNat_natCast]
        split at h
        · exact covers_of r (a + m) _ h
        · exact covers_of r (a + m) _ h
    · rw [if_neg hx] at h
      exact absurd rfl h
theorem lineT_size {ws : List ByteArray} (a m : Nat) (hm : 1 ≤ m) (hb : a + m ≤ ws.length) : ((lineT ws a m).size : Int) = len ws (a : Int) ((a + m : Nat) : Int) := by
  have hlen : ((ws.take (a + m)).drop a).length = m := by simp; omega
  have hne : ((ws.take (a + m)).drop a).map L ≠ [] := fun h => by
    have := congrArg List.length h
    rw [List.length_map, hlen] at this
    simp at this
    omega
  have hj := join_len [32] _ hne
  have hs : ((((ws.take (a + m)).drop a).map L).map List.length).sum = tot ((ws.take (a + m)).drop a) := by
    unfold tot
    rw [List.map_map]
    congr 1
  rw [hs, List.length_map, hlen] at hj
  unfold lineT len
  rw [← L_length, L_mk, hj, Int.toNat_natCast, Int.toNat_natCast]
  simp only [List.length_singleton]
  omega
theorem join_impl {ws : List ByteArray} (hw : narrow ws) (a m : Nat) (hm : 1 ≤ m) (hb : a + m ≤ ws.length) : strings_Join.f ((ws.take (a + m)).drop a) (⟨#[32]⟩ : ByteArray) = some (lineT ws a m) := by
  have h1 := lineT_size a m hm hb
  have h2 := len_in hw a (a + m) (by omega) hb
  have h3 := hw.1
  have hl : (Go.Lib.join (((ws.take (a + m)).drop a).map L) [32]).length ≤ 1000 := by
    have : (lineT ws a m).size = (Go.Lib.join (((ws.take (a + m)).drop a).map L) [32]).length := by unfold lineT; rw [← L_length, L_mk]
    omega
  have hl' : (Go.Lib.join (((ws.take (a + m)).drop a).map (fun x => x.data.toList)) (⟨#[32]⟩ : ByteArray).data.toList).length ≤ 140737488355328 := Nat.le_trans hl (by omega)
  unfold strings_Join.f
  rw [if_pos (by simp; omega), if_pos hl']
  rfl
theorem impl_wt_out {ws : List ByteArray} {w : Int} (hw : narrow ws) (ls : List Int) (hls : ls.length ≤ 1000) (d : Nat) : ∀ (i a : Nat) (acc : List ByteArray), i + d = ls.length → covers ws w (ls.drop i) a → acc.length ≤ i → a ≤ ws.length →
    Ev (fun k => impl_WrapText.l1 k ws acc (a : Int) ls (ls.length : Int) (i : Int)) (acc ++ segs ws (ls.drop i) a) := by
  have h20 := hw.1
  induction d with
  | zero =>
    intro i a acc hi hc ha hal
    rw [List.drop_of_length_le (by omega), segs, List.append_nil]
    refine Ev.up ?_
    simp only [impl_WrapText.l1, impl_copied_string.f]
    refine Ev.neg (by omega) ?_
    rw [if_pos (by omega)]
    exact Ev.now _
  | succ d ih =>
    intro i a acc hi hc ha hal
    have hlt : i < ls.length := by omega
    rw [List.drop_eq_getElem_cons hlt] at hc ⊢
    obtain ⟨c1, c2, c3, c4⟩ := hc
    obtain ⟨m, hm⟩ := Int.eq_ofNat_of_zero_le (show 0 ≤ ls[i] by omega)
    have hr : rd ls (i : Int) = (m : Int) := by rw [rd_at ls i hlt]; exact hm
    rw [hm, Int.toNat_natCast] at c2 c4
    have w1 : ∀ _ : Unit, wrap64 ((a : Int) + (m : Int)) = ((a + m : Nat) : Int) := fun _ => by rw [w64] <;> omega
    have w2 : ∀ _ : Unit, wrap64 ((i : Int) + 1) = ((i + 1 : Nat) : Int) := fun _ => by rw [w64] <;> omega
    have hj := join_impl hw a m (by omega) c2
    have h := ih (i + 1) (a + m) (acc ++ [lineT ws a m]) (by omega) c4 (by simp; omega) c2
    rw [List.append_assoc] at h
    rw [segs, hm, Int.toNat_natCast]
    refine Ev.up ?_
    simp only [impl_WrapText.l1, hr, w1 (), w2 (), Int.toNat_natCast, hj, Option.bind_some]
    exact Ev.pos (by omega) (Ev.pos (by omega) (Ev.pos (by omega) (Ev.pos (by omega) (Ev.pos (by omega) (Ev.pos (by omega) (Ev.pos (by omega) h))))))
theorem join_snoc (sep x : List UInt8) : ∀ l : List (List UInt8), l ≠ [] → Go.Lib.join (l ++ [x]) sep = Go.Lib.join l sep ++ sep ++ x
  | [], h => absurd rfl h
  | [y], _ => by simp [Go.Lib.join, List.intercalate]
  | y :: z :: l, _ => by
    have ih := join_snoc sep x (z :: l) (by simp)
    have e : ∀ r : List (List UInt8), Go.Lib.join (y :: z :: r) sep = y ++ (sep ++ Go.Lib.join (z :: r) sep) := fun r => by simp [Go.Lib.join, List.intercalate]
    rw [List.cons_append, List.cons_append, e, e, ← List.cons_append, ih]
    simp
theorem lineT_one {ws : List ByteArray} (a : Nat) (h : a < ws.length) : lineT ws a 1 = ws[a] := by
  apply L_inj
  rw [lineT, L_mk, List.take_succ_eq_append_getElem h, List.drop_append_of_le_length (by simp; omega), List.drop_of_length_le (by simp; omega)]
  simp [Go.Lib.join, List.intercalate]
theorem lineT_snoc {ws : List ByteArray} (a j : Nat) (hj : 1 ≤ j) (h : a + j < ws.length) : lineT ws a (j + 1) = lineT ws a j ++ (⟨#[32]⟩ : ByteArray) ++ ws[a + j] := by
  apply L_inj
  have e : ws.take (a + (j + 1)) = ws.take (a + j) ++ [ws[a + j]] := by rw [show a + (j + 1) = a + j + 1 by omega, List.take_succ_eq_append_getElem h]
  rw [L_append, L_append, lineT, lineT, L_mk, L_mk, e, List.drop_append_of_le_length (by simp; omega), List.map_append, List.map_cons, List.map_nil, join_snoc _ _ _ (by
    intro h0
    have := congrArg List.length h0
    simp at this
    omega)]
  rfl
theorem spec_wt_line {ws : List ByteArray} (hw : narrow ws) (ls : List Int) (i a m : Nat) (hi : i < ls.length) (hm : rd ls (i : Int) = (m : Int)) (hls : ls.length ≤ 1000) (hb : a + m ≤ ws.length) (acc : List ByteArray) (ha : acc.length ≤ 1000) (r : List ByteArray)
    (h : Ev (fun k => spec_WrapText.l1 k (acc ++ [lineT ws a m]) ws ls ((a + m : Nat) : Int) ((i + 1 : Nat) : Int)) r) (d : Nat) : ∀ j : Nat, 1 ≤ j → j + d = m →
    Ev (fun k => spec_WrapText.l2 k acc ws ls (a : Int) (i : Int) (lineT ws a j) (j : Int)) r := by
  have h20 := hw.1
  induction d with
  | zero =>
    intro j hj e
    obtain rfl : j = m := by omega
    have w1 : ∀ _ : Unit, wrap64 ((a : Int) + (j : Int)) = ((a + j : Nat) : Int) := fun _ => by rw [w64] <;> omega
    have w2 : ∀ _ : Unit, wrap64 ((i : Int) + 1) = ((i + 1 : Nat) : Int) := fun _ => by rw [w64] <;> omega
    refine Ev.up ?_
    simp only [spec_WrapText.l2, hm, w1 (), w2 ()]
    exact Ev.pos (by omega) (Ev.pos (by omega) (Ev.neg (by omega) (Ev.pos (by omega) h)))
  | succ d ih =>
    intro j hj e
    have hn := ih (j + 1) (by omega) (by omega)
    have hlt : a + j < ws.length := by omega
    have hsz := lineT_size (ws := ws) a j hj (by omega)
    have hin := len_in hw a (a + j) (by omega) (by omega)
    have hwz := hw.2 _ (List.getElem_mem hlt)
    have w1 : ∀ _ : Unit, wrap64 ((a : Int) + (j : Int)) = ((a + j : Nat) : Int) := fun _ => by rw [w64] <;> omega
    have w2 : ∀ _ : Unit, wrap64 ((j : Int) + 1) = ((j + 1 : Nat) : Int) := fun _ => by rw [w64] <;> omega
    have hr : rdOf ByteArray.empty ws ((a + j : Nat) : Int) = ws[a + j] := rdOf_nat _ _ _ hlt
    have s1 : (lineT ws a j ++ (⟨#[32]⟩ : ByteArray)).size = (lineT ws a j).size + 1 := by rw [ByteArray.size_append]; rfl
    refine Ev.up ?_
    simp only [spec_WrapText.l2, hm, w1 (), w2 (), hr, ← lineT_snoc a j hj hlt]
    exact Ev.pos (by omega) (Ev.pos (by omega) (Ev.pos (by omega) (Ev.pos (by omega) (Ev.pos (by omega) (Ev.pos (by omega) (Ev.pos (by omega) hn))))))
theorem spec_wt_out {ws : List ByteArray} {w : Int} (hw : narrow ws) (ls : List Int) (hls : ls.length ≤ 1000) (d : Nat) : ∀ (i a : Nat) (acc : List ByteArray), i + d = ls.length → covers ws w (ls.drop i) a → acc.length ≤ i → a ≤ ws.length →
    Ev (fun k => spec_WrapText.l1 k acc ws ls (a : Int) (i : Int)) (acc ++ segs ws (ls.drop i) a) := by
  have h20 := hw.1
  induction d with
  | zero =>
    intro i a acc hi hc ha hal
    rw [List.drop_of_length_le (by omega), segs, List.append_nil]
    refine Ev.up ?_
    simp only [spec_WrapText.l1]
    exact Ev.neg (by omega) (Ev.now _)
  | succ d ih =>
    intro i a acc hi hc ha hal
    have hlt : i < ls.length := by omega
    rw [List.drop_eq_getElem_cons hlt] at hc ⊢
    obtain ⟨c1, c2, c3, c4⟩ := hc
    obtain ⟨m, hm⟩ := Int.eq_ofNat_of_zero_le (show 0 ≤ ls[i] by omega)
    have hr : rd ls (i : Int) = (m : Int) := by rw [rd_at ls i hlt]; exact hm
    rw [hm, Int.toNat_natCast] at c2 c4
    have h := ih (i + 1) (a + m) (acc ++ [lineT ws a m]) (by omega) c4 (by simp; omega) c2
    rw [List.append_assoc] at h
    rw [segs, hm, Int.toNat_natCast]
    have hal2 : a < ws.length := by omega
    have hr2 : rdOf ByteArray.empty ws (a : Int) = lineT ws a 1 := by rw [rdOf_nat _ _ _ hal2, lineT_one a hal2]
    have h2 := spec_wt_line hw ls i a m hlt hr hls c2 acc (by omega) _ h (m - 1) 1 (by omega) (by omega)
    refine Ev.up ?_
    simp only [spec_WrapText.l1, hr2]
    exact Ev.pos (by omega) (Ev.pos (by omega) (Ev.pos (by omega) h2))
theorem lines_covers {ws : List ByteArray} {n : Int} (hf : fit ws n) : covers ws n (linesM ws n) 0 := by
  have e : linesM ws n = outL ws n ws.length 0 := if_pos hf
  have h := cost_out hf ws.length 0 0 (by omega) (by omega)
  have hb := best_in hf 0 (by omega)
  rw [e]
  exact covers_of _ 0 0 (by rw [h]; omega)
noncomputable def wtM (s : ByteArray) (n : Int) : List ByteArray := if noteB s = true then segs (wordsT s) (linesM (wordsT s) n) 0 else []
theorem note_size {s : ByteArray} (h : noteB s = true) : s.size ≤ 60 := by
  unfold noteB at h
  split at h
  · rename_i h1
    exact h1.2.1
  · cases h
theorem lines_none (n : Int) : linesM [] n = [] := by
  unfold linesM
  split <;> rfl
theorem lines_nil {ws : List ByteArray} {n : Int} (h : ¬ fit ws n) : linesM ws n = [] := if_neg h
theorem sized_words (s : ByteArray) (hs : s.size ≤ 60) : sized (wordsT s) := by
  have h := wordsT_sized s hs
  exact ⟨by omega, fun w hw => by have := h.2 w hw; omega⟩
theorem impl_wt (s : ByteArray) (hs : s.size ≤ 140737488355328) (n : Int) : Ev (fun k => impl_WrapText.f k s n) (wtM s n) := by
  unfold impl_WrapText.f wtM
  refine Ev.bind (impl_note s hs) ?_
  by_cases hn : noteB s = true
  · have h60 := note_size hn
    rw [if_pos hn]
    refine Ev.pos hn ?_
    rw [split_is s (by omega)]
    simp only [Option.bind_some]
    have hl := L_length s
    have hk := wordsL_len (L s) []
    have hpk : ((pk 32 [] (L s)).1 ++ [(pk 32 [] (L s)).2]).length ≤ 1000 := by
      have hfl : ∀ (l c : List UInt8), (pk 32 c l).1.length ≤ l.length := by
        intro l
        induction l with
        | nil => intro c; simp [pk_nil]
        | cons b l ih =>
          intro c
          rw [pk_cons]
          split
          · have := ih []; simp only [List.length_cons]; omega
          · have := ih (c ++ [b]); simp only [List.length_cons]; omega
      have := hfl (L s) []
      simp only [List.length_append, List.length_cons, List.length_nil]
      omega
    refine impl_wt_words n _ hpk _ _ 0 [] (by rw [Nat.zero_add]) (by simp) ?_
    simp only [List.drop_zero, List.nil_append]
    have hw : ((((pk 32 [] (L s)).1 ++ [(pk 32 [] (L s)).2]).filter (fun u => decide (u ≠ []))).map mk) = wordsT s := rfl
    rw [hw]
    refine Ev.bind (impl_lines (wordsT s) n (sized_words s h60)) ?_
    have hll := linesM_length (wordsT s) n
    by_cases hf : fit (wordsT s) n
    · have h := impl_wt_out (narrow_of hf) (linesM (wordsT s) n) (by omega) (linesM (wordsT s) n).length 0 0 [] (by omega) (by rw [List.drop_zero]; exact lines_covers hf) (by simp) (by omega)
      rw [List.drop_zero, List.nil_append] at h
      exact h
    · rw [lines_nil hf]
      refine Ev.up ?_
      simp only [impl_WrapText.l1, impl_copied_string.f]
      exact Ev.neg (by simp) (Ev.now _)
  · rw [if_neg hn]
    exact Ev.neg hn (Ev.now _)
theorem spec_wt (s : ByteArray) (hs : s.size ≤ 140737488355328) (n : Int) : Ev (fun k => spec_WrapText.f k s n) (wtM s n) := by
  unfold spec_WrapText.f wtM
  by_cases hn : noteB s = true
  · have h60 := note_size hn
    rw [if_pos hn]
    refine spec_wt_words s h60 hn n _ s.size 0 [] [] (by omega) (by simp) (by simp) ?_
    simp only [List.drop_zero, List.nil_append]
    have hw : (wordsL [] (L s)).map mk = wordsT s := rfl
    rw [hw]
    refine Ev.bind (spec_lines (wordsT s) n (sized_words s h60)) ?_
    have hll := linesM_length (wordsT s) n
    by_cases hf : fit (wordsT s) n
    · have h := spec_wt_out (narrow_of hf) (linesM (wordsT s) n) (by omega) (linesM (wordsT s) n).length 0 0 [] (by omega) (by rw [List.drop_zero]; exact lines_covers hf) (by simp) (by omega)
      rw [List.drop_zero, List.nil_append] at h
      exact h
    · rw [lines_nil hf]
      refine Ev.up ?_
      simp only [spec_WrapText.l1]
      exact Ev.neg (by simp) (Ev.now _)
  · rw [if_neg hn]
    have hz : sized ([] : List ByteArray) := ⟨by simp, by simp⟩
    have hnote := spec_note s hs
    rw [Bool.eq_false_iff.mpr hn] at hnote
    have hl := spec_lines [] n hz
    rw [lines_none] at hl
    refine Ev.up ?_
    simp only [spec_WrapText.l0]
    refine Ev.pos (by omega) (Ev.bind hnote (Ev.up ?_))
    simp only [spec_WrapText.j1, Bool.false_eq_true, if_false]
    refine Ev.bind hl (Ev.up ?_)
    simp only [spec_WrapText.l1]
    exact Ev.neg (by simp) (Ev.now _)
theorem segs_length (ws : List ByteArray) : ∀ (ls : List Int) (a : Nat), (segs ws ls a).length = ls.length
  | [], a => rfl
  | n :: r, a => by rw [segs, List.length_cons, List.length_cons, segs_length ws r]
theorem wtM_length (s : ByteArray) (n : Int) : (wtM s n).length ≤ 20 := by
  unfold wtM
  split
  · rw [segs_length]
    exact linesM_length _ _
  · simp
/-! ## the size of what is read -/
theorem rdOf_size (m : Nat) (ws : List ByteArray) (h : ∀ w ∈ ws, w.size ≤ m) (i : Int) : (rdOf ByteArray.empty ws i).size ≤ m := by
  unfold rdOf
  rw [List.getD_eq_getElem?_getD]
  by_cases hi : i.toNat < ws.length
  · rw [List.getElem?_eq_getElem hi]
    exact h _ (List.getElem_mem hi)
  · rw [List.getElem?_eq_none (by omega)]
    show ByteArray.empty.size ≤ m
    rw [ByteArray.size_empty]
    omega
/-! ## the drawn note -/
theorem drawnote_ev (s : List Int) (hs : codeOk s) (hl : s.length ≤ 2000) (p : Int) (hp : 0 ≤ p) (hp2 : p ≤ 1000000000) (x1 : Int) : ∃ t q, Ev (fun k => spec_l20Note.f k s p x1) (t, q) ∧ t.size ≤ 100 ∧ 0 ≤ q ∧ q ≤ p + 2 := by
  obtain ⟨b, q, h1, h1a, h1b⟩ := odd_ev s hs p x1 hp (by omega) (by omega)
  unfold spec_l20Note.f
  cases b with
  | true =>
    obtain ⟨r, h2, h2a, h2b⟩ := pick_ev s hs q 5 (by omega) (by omega) (by omega)
    have h2c := h2b (by omega)
    exact ⟨_, q + 1, Ev.bind h1 (Ev.pos rfl (Ev.bind (Ev.now _) (Ev.bind h2 (Ev.pos h2a (Ev.pos h2c (Ev.now _)))))), rdOf_size 100 _ (by decide) r, by omega, by omega⟩
  | false =>
    obtain ⟨r, h2, h2a, h2b⟩ := pick_ev s hs q 7 (by omega) (by omega) (by omega)
    have h2c := h2b (by omega)
    exact ⟨_, q + 1, Ev.bind h1 (Ev.neg (by simp) (Ev.bind (Ev.now _) (Ev.bind h2 (Ev.pos h2a (Ev.pos h2c (Ev.now _)))))), rdOf_size 100 _ (by decide) r, by omega, by omega⟩
theorem drawwt_loop (s : List Int) (hs : codeOk s) (hl : s.length ≤ 2000) (ws : List ByteArray) (n : Int) (hw : small ws 100) (d : Nat) : ∀ (i : Nat) (out : ByteArray) (p : Int), i + d = ws.length → out.size ≤ 30 * i → 0 ≤ p → p ≤ 300000000 + 10 * i →
    ∃ t m, Ev (fun k => spec_DrawWrapText.l0 k ws n out (i : Int) s p) (t, m) ∧ t.size ≤ 5000 := by
  have hw1 := hw.1
  induction d with
  | zero =>
    intro i out p hi ho hp hp2
    obtain ⟨b, q, h1, h1a, h1b⟩ := odd_ev s hs p 9 hp (by omega) (by omega)
    cases b with
    | false =>
      refine ⟨out, n, Ev.up ?_, by omega⟩
      simp only [spec_DrawWrapText.l0]
      exact Ev.neg (by omega) (Ev.bind h1 (Ev.neg (by simp) (Ev.now _)))
    | true =>
      obtain ⟨t, q2, h2, h2a, h2b, h2c⟩ := drawnote_ev s hs hl q (by omega) (by omega) 2
      obtain ⟨r, h3, h3a, h3b⟩ := pick_ev s hs q2 3 (by omega) (by omega) (by omega)
      have h3c := h3b (by omega)
      refine ⟨t, rd [n, 0, 1] r, Ev.up ?_, by omega⟩
      · simp only [spec_DrawWrapText.l0, Option.bind_some]
        exact Ev.neg (by omega) (Ev.bind h1 (Ev.pos rfl (Ev.bind h2 (Ev.bind h3 (Ev.pos h3a (Ev.pos h3c (Ev.now _)))))))
  | succ d ih =>
    intro i out p hi ho hp hp2
    have hlt : i < ws.length := by omega
    have hz := hw.2 _ (List.getElem_mem hlt)
    have hr : rdOf ByteArray.empty ws (i : Int) = ws[i] := rdOf_nat _ _ _ hlt
    have w1 : ∀ _ : Unit, wrap64 ((i : Int) + 1) = ((i + 1 : Nat) : Int) := fun _ => by rw [w64] <;> omega
    by_cases h0 : (i : Int) > 0
    · obtain ⟨r, h2, h2a, h2b⟩ := pick_ev s hs p 4 hp (by omega) (by omega)
      have h2c := h2b (by omega)
      obtain ⟨g, hg⟩ : ∃ g : Nat, Int.tdiv r 3 = (g : Int) ∧ g ≤ 1 := by
        have hr4 : r = 0 ∨ r = 1 ∨ r = 2 ∨ r = 3 := by omega
        rcases hr4 with rfl | rfl | rfl | rfl
        · exact ⟨0, by decide, by omega⟩
        · exact ⟨0, by decide, by omega⟩
        · exact ⟨0, by decide, by omega⟩
        · exact ⟨1, by decide, by omega⟩
      have w2 : ∀ _ : Unit, wrap64 (Int.tdiv r 3) = (g : Int) := fun _ => by rw [hg.1, w64] <;> omega
      have z1 := rdOf_size 2 [(⟨#[32]⟩ : ByteArray), (⟨#[32, 32]⟩ : ByteArray)] (by decide) (g : Int)
      obtain ⟨sep, hsep⟩ : ∃ sep, rdOf ByteArray.empty [(⟨#[32]⟩ : ByteArray), (⟨#[32, 32]⟩ : ByteArray)] (g : Int) = sep := ⟨_, rfl⟩
      rw [hsep] at z1
      have s1 : (out ++ sep).size = out.size + sep.size := ByteArray.size_append
      have s2 : (out ++ sep ++ ws[i]).size = (out ++ sep).size + (ws[i]).size := ByteArray.size_append
      obtain ⟨t, m, h3, h4⟩ := ih (i + 1) (out ++ sep ++ ws[i]) (p + 1) (by omega) (by omega) (by omega) (by omega)
      refine ⟨t, m, Ev.up ?_, h4⟩
      simp only [spec_DrawWrapText.l0, Option.bind_some, w1 (), hr]
      refine Ev.pos (by omega) (Ev.pos h0 (Ev.bind h2 ?_))
      simp only [w2 (), hsep]
      exact Ev.pos (by omega) (Ev.pos (by have := hg.2; simp; omega) (Ev.pos (by omega) (Ev.pos (by omega) (Ev.pos (by omega) h3))))
    · have s2 : (out ++ ws[i]).size = out.size + (ws[i]).size := ByteArray.size_append
      obtain ⟨t, m, h3, h4⟩ := ih (i + 1) (out ++ ws[i]) p (by omega) (by omega) (by omega) (by omega)
      refine ⟨t, m, Ev.up ?_, h4⟩
      simp only [spec_DrawWrapText.l0, w1 (), hr]
      exact Ev.pos (by omega) (Ev.neg h0 (Ev.pos (by omega) (Ev.pos (by omega) h3)))
theorem drawwt_ev (l : List Int) (hs : codeOk l) (hl : l.length ≤ 1048576) : ∃ t m, Ev (fun k => spec_DrawWrapText.f k l) (t, m) ∧ t.size ≤ 5000 := by
  unfold spec_DrawWrapText.f
  obtain ⟨s, h1, h2, h3⟩ := open_ev l hs hl
  obtain ⟨ws, n, q, h4, hw, _, _, hq0, hq1⟩ := wrapped_ev s h2 h3 0
  obtain ⟨t, m, h5, h6⟩ := drawwt_loop s h2 h3 ws n hw ws.length 0 (⟨#[]⟩ : ByteArray) q (by omega) (by rw [show (⟨#[]⟩ : ByteArray).size = 0 from rfl]; omega) hq0 (by omega)
  refine ⟨t, m, ?_, h6⟩
  simp only [h1, Option.bind_some]
  exact Ev.bind h4 h5
/-! ## the law -/
def noSp (l : List UInt8) : List UInt8 := l.filter (fun b => decide (b ≠ 32))
theorem noSp_append (a b : List UInt8) : noSp (a ++ b) = noSp a ++ noSp b := List.filter_append ..
theorem noSp_id {l : List UInt8} (h : ∀ b ∈ l, b ≠ 32) : noSp l = l := by
  unfold noSp
  rw [List.filter_eq_self]
  intro b hb
  exact decide_eq_true (h b hb)
theorem noSp_join : ∀ l : List (List UInt8), noSp (Go.Lib.join l [32]) = (l.map noSp).flatten
  | [] => rfl
  | [x] => by simp [Go.Lib.join, List.intercalate]
  | x :: y :: r => by
    have e : Go.Lib.join (x :: y :: r) [32] = x ++ ([32] ++ Go.Lib.join (y :: r) [32]) := by simp [Go.Lib.join, List.intercalate]
    have h32 : noSp [32] = [] := by simp [noSp]
    rw [e, noSp_append, noSp_append, h32, noSp_join (y :: r)]
    simp
theorem wordsL_no : ∀ (l c : List UInt8), (∀ b ∈ c, b ≠ (32 : UInt8)) → (∀ u ∈ wordsL c l, ∀ b ∈ u, b ≠ (32 : UInt8)) ∧ (wordsL c l).flatten = noSp (c ++ l)
  | [], c, h => by
    rw [wordsL_nil, List.append_nil, noSp_id h]
    split
    · rename_i e
      subst e
      exact ⟨by simp, rfl⟩
    · exact ⟨fun u hu => by rw [List.mem_singleton.mp hu]; exact h, by simp⟩
  | b :: l, c, h => by
    rw [wordsL_cons]
    have h1 := wordsL_no l [] (by simp)
    rw [List.nil_append] at h1
    by_cases e : b = 32
    · subst e
      have e1 : noSp (c ++ 32 :: l) = c ++ noSp l := by rw [noSp_append, noSp_id h]; simp [noSp]
      rw [if_pos rfl, e1]
      split
      · rename_i e2
        subst e2
        exact h1
      · refine ⟨fun u hu => ?_, by rw [List.flatten_cons, h1.2]⟩
        rcases List.mem_cons.mp hu with rfl | hu
        · exact h
        · exact h1.1 u hu
    · rw [if_neg e]
      have h2 := wordsL_no l (c ++ [b]) (fun x hx => by
        rcases List.mem_append.mp hx with h3 | h3
        · exact h x h3
        · rw [List.mem_singleton.mp h3]; exact e)
      refine ⟨h2.1, ?_⟩
      rw [h2.2]
      congr 1
      simp
theorem words_cat (s : ByteArray) : cat (wordsT s) = noSp (L s) := by
  have h := (wordsL_no (L s) [] (by simp)).2
  rw [List.nil_append] at h
  rw [← h]
  unfold cat wordsT
  rw [List.map_map]
  congr 1
  conv => rhs; rw [← List.map_id (wordsL [] (L s))]
  exact List.map_congr_left (fun u _ => L_mk u)
theorem words_no (s : ByteArray) : ∀ w ∈ wordsT s, ∀ b ∈ L w, b ≠ (32 : UInt8) := by
  intro w hw
  obtain ⟨u, hu, rfl⟩ := List.mem_map.mp hw
  rw [L_mk]
  exact (wordsL_no (L s) [] (by simp)).1 u hu
theorem segs_cat {ws : List ByteArray} {w : Int} (hno : ∀ x ∈ ws, ∀ b ∈ L x, b ≠ (32 : UInt8)) : ∀ (ls : List Int) (a : Nat), covers ws w ls a → noSp (cat (segs ws ls a)) = cat (ws.drop a)
  | [], a => fun h => by
    have h' : a = ws.length := h
    rw [segs, h', List.drop_length]
    rfl
  | n :: r, a => fun h => by
    obtain ⟨h1, h2, h3, h4⟩ := h
    have ih := segs_cat hno r (a + n.toNat) h4
    have e1 : noSp (L (lineT ws a n.toNat)) = cat ((ws.take (a + n.toNat)).drop a) := by
      rw [lineT, L_mk, noSp_join]
      unfold cat
      congr 1
      rw [List.map_map]
      refine List.map_congr_left (fun x hx => ?_)
      exact noSp_id (hno x (List.mem_of_mem_take (List.mem_of_mem_drop hx)))
    rw [segs, cat_cons, noSp_append, ih, e1, ← cat_append]
    congr 1
    have e2 : ws.drop (a + n.toNat) = (ws.drop a).drop n.toNat := by rw [List.drop_drop]
    rw [List.drop_take, e2, show a + n.toNat - a = n.toNat by omega, List.take_append_drop]
theorem segs_good {ws : List ByteArray} {w : Int} (hf : fit ws w) : ∀ (ls : List Int) (a : Nat), covers ws w ls a → ∀ x ∈ segs ws ls a, 1 ≤ x.size ∧ (x.size : Int) ≤ w
  | [], a => fun _ x hx => by simp [segs] at hx
  | n :: r, a => fun h x hx => by
    obtain ⟨h1, h2, h3, h4⟩ := h
    rcases List.mem_cons.mp hx with rfl | hx
    · have hs := lineT_size (ws := ws) a n.toNat (by omega) h2
      have hc := len_cons ws a (a + n.toNat) (by omega) h2
      have hz := (hf.2.2 _ (List.getElem_mem (show a < ws.length by omega))).1.1
      have hl : -1 ≤ len ws ((a + 1 : Nat) : Int) ((a + n.toNat : Nat) : Int) := by unfold len; omega
      omega
    · exact segs_good hf r _ h4 x hx
theorem byte32 (w : ByteArray) (j : Nat) (h : j < (L w).length) : bt w (j : Int) = 32 ↔ (L w)[j] = 32 := by
  rw [bt_L w j h]
  constructor
  · intro e
    apply UInt8.toNat_inj.mp
    show ((L w)[j]).toNat = 32
    omega
  · intro e
    rw [e]; rfl
theorem one_byte (w : ByteArray) (j : Nat) (h : j < (L w).length) : w.extract j (j + 1) = mk [(L w)[j]] := by
  apply L_inj
  rw [L_extract, L_mk, List.take_succ_eq_append_getElem h, List.drop_append_of_le_length (by simp; omega), List.drop_of_length_le (by simp; omega)]
  rfl
theorem mk_append (a b : List UInt8) : mk a ++ mk b = mk (a ++ b) := by
  apply L_inj
  rw [L_append, L_mk, L_mk, L_mk]
theorem size_mk (a : List UInt8) : (mk a).size = a.length := by rw [← L_length, L_mk]
theorem noSp_cons (b : UInt8) (l : List UInt8) : noSp (b :: l) = if b = 32 then noSp l else b :: noSp l := by
  unfold noSp
  rw [List.filter_cons]
  by_cases h : b = 32 <;> simp [h]
theorem line_ev (s : ByteArray) (n : Int) (x : List ByteArray) (hx : x.length ≤ 20) (i : Nat) (hi : i < x.length) (hz : (x[i]).size ≤ 100) (d : Nat) : ∀ (j : Nat) (acc : List UInt8), j + d = (x[i]).size → acc.length ≤ 100000 + j →
    Ev (fun k => laws_FnWrapText.l0 k s n x (mk (acc ++ noSp ((L x[i]).drop j))) ((i + 1 : Nat) : Int)) true → Ev (fun k => laws_FnWrapText.l1 k s n x (mk acc) (i : Int) (j : Int)) true := by
  have hl := L_length x[i]
  have hr : rdOf ByteArray.empty x (i : Int) = x[i] := rdOf_nat _ _ _ hi
  have w0 : ∀ _ : Unit, wrap64 ((i : Int) + 1) = ((i + 1 : Nat) : Int) := fun _ => by rw [w64] <;> omega
  induction d with
  | zero =>
    intro j acc hj ha h
    rw [List.drop_of_length_le (by omega)] at h
    have e : noSp ([] : List UInt8) = [] := rfl
    rw [e, List.append_nil] at h
    refine Ev.up ?_
    simp only [laws_FnWrapText.l1, hr, w0 ()]
    exact Ev.pos (by omega) (Ev.pos (by omega) (Ev.neg (by omega) h))
  | succ d ih =>
    intro j acc hj ha h
    have hlt : j < (L x[i]).length := by omega
    have w1 : ∀ _ : Unit, wrap64 ((j : Int) + 1) = ((j + 1 : Nat) : Int) := fun _ => by rw [w64] <;> omega
    rw [List.drop_eq_getElem_cons hlt, noSp_cons] at h
    have ex := one_byte x[i] j hlt
    refine Ev.up ?_
    simp only [laws_FnWrapText.l1, hr, w1 (), Int.toNat_natCast, ex, mk_append]
    refine Ev.pos (by omega) (Ev.pos (by omega) (Ev.pos (by omega) (Ev.pos (by omega) ?_)))
    by_cases e : (L x[i])[j] = 32
    · rw [if_pos e] at h
      exact Ev.pos ((byte32 _ j hlt).mpr e) (ih (j + 1) acc (by omega) (by omega) h)
    · rw [if_neg e] at h
      refine Ev.neg (fun h2 => e ((byte32 _ j hlt).mp h2)) (Ev.pos (by omega) (Ev.pos (by omega) (Ev.pos (by rw [size_mk, size_mk]; simp; omega) ?_)))
      exact ih (j + 1) (acc ++ [(L x[i])[j]]) (by omega) (by simp; omega) (by simpa using h)
theorem note_ev (s : ByteArray) (hs : s.size ≤ 5000) (all : ByteArray) (hall : all = mk (noSp (L s))) (d : Nat) : ∀ (j : Nat) (acc : List UInt8), j + d = s.size → acc.length ≤ j → acc ++ noSp ((L s).drop j) = noSp (L s) →
    Ev (fun k => laws_FnWrapText.l2 k s all (mk acc) (j : Int)) true := by
  have hl := L_length s
  induction d with
  | zero =>
    intro j acc hj ha h
    rw [List.drop_of_length_le (by omega)] at h
    have e : noSp ([] : List UInt8) = [] := rfl
    rw [e, List.append_nil] at h
    refine Ev.up ?_
    simp only [laws_FnWrapText.l2]
    refine Ev.neg (by omega) (Ev.ok ?_)
    rw [hall, h]
    simp
  | succ d ih =>
    intro j acc hj ha h
    have hlt : j < (L s).length := by omega
    have w1 : ∀ _ : Unit, wrap64 ((j : Int) + 1) = ((j + 1 : Nat) : Int) := fun _ => by rw [w64] <;> omega
    rw [List.drop_eq_getElem_cons hlt, noSp_cons] at h
    have ex := one_byte s j hlt
    refine Ev.up ?_
    simp only [laws_FnWrapText.l2, w1 (), Int.toNat_natCast, ex, mk_append]
    refine Ev.pos (by omega) (Ev.pos (by omega) ?_)
    by_cases e : (L s)[j] = 32
    · rw [if_pos e] at h
      exact Ev.pos ((byte32 _ j hlt).mpr e) (ih (j + 1) acc (by omega) (by omega) h)
    · rw [if_neg e] at h
      refine Ev.neg (fun h2 => e ((byte32 _ j hlt).mp h2)) (Ev.pos (by omega) (Ev.pos (by omega) (Ev.pos (by rw [size_mk, size_mk]; simp; omega) ?_)))
      exact ih (j + 1) (acc ++ [(L s)[j]]) (by omega) (by simp; omega) (by simpa using h)
theorem cat_len (m : Nat) : ∀ (x : List ByteArray), (∀ w ∈ x, w.size ≤ m) → (cat x).length ≤ m * x.length
  | [], _ => by simp [cat]
  | w :: x, h => by
    have h1 := h w (List.mem_cons_self)
    have h2 := cat_len m x (fun y hy => h y (List.mem_cons_of_mem _ hy))
    rw [cat_cons, List.length_append, L_length, List.length_cons, Nat.mul_succ]
    omega
theorem noSp_len (l : List UInt8) : (noSp l).length ≤ l.length := List.length_filter_le ..
theorem texts_ev (s : ByteArray) (hs : s.size ≤ 5000) (n : Int) (x : List ByteArray) (hx : x.length ≤ 20) (h0 : x ≠ []) (hg : ∀ w ∈ x, 1 ≤ w.size ∧ (w.size : Int) ≤ n) (h40 : n ≤ 40) (hall : noSp (cat x) = noSp (L s)) (d : Nat) :
    ∀ i : Nat, i + d = x.length → Ev (fun k => laws_FnWrapText.l0 k s n x (mk (noSp (cat (x.take i)))) (i : Int)) true := by
  induction d with
  | zero =>
    intro i hi
    obtain rfl : i = x.length := by omega
    rw [List.take_length, hall]
    have hne : ¬ (x.length : Int) = 0 := fun h => h0 (List.eq_nil_of_length_eq_zero (by omega))
    have h := note_ev s hs (mk (noSp (L s))) rfl s.size 0 [] (by omega) (by simp) (by simp)
    refine Ev.up ?_
    simp only [laws_FnWrapText.l0]
    exact Ev.neg (by omega) (Ev.neg hne h)
  | succ d ih =>
    intro i hi
    have hlt : i < x.length := by omega
    have hgi := hg _ (List.getElem_mem hlt)
    have h := ih (i + 1) (by omega)
    rw [List.take_succ_eq_append_getElem hlt, cat_append, cat_one, noSp_append] at h
    have hr : rdOf ByteArray.empty x (i : Int) = x[i] := rdOf_nat _ _ _ hlt
    have hb : (noSp (cat (x.take i))).length ≤ 100000 := by
      have h1 := noSp_len (cat (x.take i))
      have h2 := cat_len 40 (x.take i) (fun w hw => by have := hg w (List.mem_of_mem_take hw); omega)
      have h3 : (x.take i).length ≤ 20 := by simp; omega
      omega
    have hline := line_ev s n x hx i hlt (by omega) (x[i]).size 0 (noSp (cat (x.take i))) (by omega) (by omega) (by rw [List.drop_zero]; exact h)
    have hq : ((x[i]).toList == ([] : List UInt8)) = false := beq_eq_false_iff_ne.mpr (fun e => by
      rw [toList_L] at e
      have := congrArg List.length e
      rw [L_length, List.length_nil] at this
      omega)
    refine Ev.up ?_
    simp only [laws_FnWrapText.l0, hr, hq]
    refine Ev.pos (by omega) (Ev.pos (by omega) (Ev.neg (by omega) (Ev.up ?_)))
    simp only [laws_FnWrapText.j1, Bool.false_eq_true, if_false]
    exact hline
theorem sameTexts_ev (ws : List ByteArray) (hl : ws.length ≤ 1048576) : Ev (fun k => laws_sameTexts.f k ws ws) true := by
  unfold laws_sameTexts.f
  refine Ev.pos rfl ?_
  refine ev_scan (L := fun k i => laws_sameTexts.l0 k ws ws i) (n := ws.length) (fun _ => True) ?_ (fun i _ _ h => absurd trivial h) ?_
  · intro i hi _ h
    have h1 : wrap64 ((i : Int) + 1) = i + 1 := w64 (by omega) (by omega)
    refine Ev.up ?_
    simp only [laws_sameTexts.l0, h1]
    exact Ev.pos (by omega) (Ev.pos (by omega) (Ev.pos (by omega) (Ev.pos (by simp) h)))
  · intro _
    refine Ev.up ?_
    simp only [laws_sameTexts.l0]
    exact Ev.neg (by omega) (Ev.now _)
theorem FnWrapText (l : List Int) (_ : l.length ≤ 9223372036854775807) (hwf : ∀ x ∈ l, (Lit.int .u8 x).wf = true) : ∃ k, laws_FnWrapText.f k l = some true := by
  refine Ev.rounds (g := fun k => laws_FnWrapText.f k l) ?_
  unfold laws_FnWrapText.f
  by_cases hbig : (l.length : Int) > 1048576
  · exact Ev.pos hbig (Ev.now _)
  refine Ev.neg hbig ?_
  obtain ⟨s, n, hd, hs⟩ := drawwt_ev l (codeOk_wf hwf) (by omega)
  have hx := wtM_length s n
  refine Ev.bind hd (Ev.bind (impl_wt s (by omega) n) (Ev.bind (spec_wt s (by omega) n) (Ev.bind (sameTexts_ev _ (by omega)) (Ev.pos rfl ?_))))
  by_cases h0 : wtM s n = []
  · rw [h0]
    refine Ev.up ?_
    simp only [laws_FnWrapText.l0]
    exact Ev.neg (by simp) (Ev.pos rfl (Ev.bind alive_ev (Ev.now _)))
  · have hn : noteB s = true := by
      by_cases h : noteB s = true
      · exact h
      · exact absurd (if_neg h) h0
    have e : wtM s n = segs (wordsT s) (linesM (wordsT s) n) 0 := if_pos hn
    have hf : fit (wordsT s) n := by
      by_cases h : fit (wordsT s) n
      · exact h
      · exact absurd (by rw [e, lines_nil h]; rfl) h0
    have hc := lines_covers hf
    have h1 := segs_cat (words_no s) _ 0 hc
    rw [List.drop_zero, words_cat, ← e] at h1
    have h2 := segs_good hf _ 0 hc
    rw [← e] at h2
    exact texts_ev s hs n (wtM s n) hx h0 h2 hf.1.2 h1 (wtM s n).length 0 (by omega)
end Go.Proofs.YtghkbkbommobaaaDoor.Pure
