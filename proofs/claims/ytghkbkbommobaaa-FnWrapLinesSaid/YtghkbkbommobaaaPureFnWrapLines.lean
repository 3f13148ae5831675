/- The law FnWrapLines answers true on every drawn input: program and reference find the same lines, and no other lines of at most eight words cost less. Conditions: none beyond the given statement's own. -/
import Derived.Test.YtghkbkbommobaaaPx27
namespace Go.Proofs.Ytghkbkbommobaaa.Pure
open Go.RowKit Go.Proofs.Ytghkbkbommobaaa.P Go.Proofs.YtghkbkbommobaaaW.PrintWords Go.Proofs.YtghkbkbommobaaaW.PrintLast
set_option linter.unusedVariables false
set_option linter.unusedSimpArgs false
/-! ## base: rounds, loops, numbers -/
theorem w64 {x : Int} (h0 : -9223372036854775808 ≤ x) (h1 : x ≤ 9223372036854775807) : wrap64 x = x := by unfold wrap64; omega
theorem Ev.pos {α : Type} {c : Prop} [Decidable c] {A B : Nat → Option α} {r : α} (hc : c) (h : Ev A r) : Ev (fun k => if c then A k else B k) r := by simpa only [if_pos hc] using h
theorem Ev.neg {α : Type} {c : Prop} [Decidable c] {A B : Nat → Option α} {r : α} (hc : ¬ c) (h : Ev B r) : Ev (fun k => if c then A k else B k) r := by simpa only [if_neg hc] using h
theorem Ev.ok {α : Type} {r r' : α} (h : r = r') : Ev (fun _ => some r) r' := by subst h; exact Ev.now r
theorem Ev.eqr {α : Type} {g : Nat → Option α} {r r' : α} (h : Ev g r) (e : r = r') : Ev g r' := e ▸ h
theorem Ev.unique {α : Type} {g : Nat → Option α} {r r' : α} (h : Ev g r) (h' : Ev g r') : r = r' := by
  obtain ⟨K, h⟩ := h
  obtain ⟨K', h'⟩ := h'
  have a := h (max K K') (by omega)
  have b := h' (max K K') (by omega)
  rw [a] at b
  exact Option.some.inj b
/-- A loop over 0, 1, .. n-1 that goes on while P holds. -/
theorem ev_scan {α : Type} {L : Nat → Int → Option α} {n : Nat} {r : α} (P : Nat → Prop)
    (hs : ∀ i : Nat, i < n → P i → Ev (fun k => L k (i + 1)) r → Ev (fun k => L k i) r)
    (hf : ∀ i : Nat, i < n → (∀ j, j < i → P j) → ¬ P i → Ev (fun k => L k i) r)
    (he : (∀ j, j < n → P j) → Ev (fun k => L k n) r) : Ev (fun k => L k 0) r := by
  have key : ∀ (d i : Nat), i + d = n → (∀ j, j < i → P j) → Ev (fun k => L k i) r := by
    intro d
    induction d with
    | zero =>
      intro i hi hp
      obtain rfl : i = n := by omega
      exact he hp
    | succ d ih =>
      intro i hi hp
      by_cases h : P i
      · have h' := ih (i + 1) (by omega) (fun j hj => by
          rcases Nat.lt_succ_iff_lt_or_eq.mp hj with h1 | h1
          · exact hp j h1
          · subst h1; exact h)
        exact hs i (by omega) h h'
      · exact hf i (by omega) hp h
  exact key n 0 (by omega) (fun j hj => by omega)
theorem rdOf_nat {α : Type} (d : α) (xs : List α) (i : Nat) (h : i < xs.length) : rdOf d xs (i : Int) = xs[i] := by
  simp [rdOf, List.getD_eq_getElem?_getD, List.getElem?_eq_getElem h]
theorem Ev.up {α : Type} {g : Nat → Option α} {r : α} (h : Ev (fun k => g (k + 1)) r) : Ev g r := Ev.step (fun _ => rfl) h
theorem Ev.const {α : Type} {g : Option α} {r : α} (h : g = some r) : Ev (fun _ => g) r := by subst h; exact Ev.now r
/-- A loop that fills a list, place by place. -/
theorem ev_fill {β γ : Type} {L : Nat → List β → Int → Option γ} {n : Nat} {r : γ} (g : Nat → β)
    (hs : ∀ (i : Nat) (xs : List β), i < n → xs.length = n → Ev (fun k => L k (xs.set i (g i)) (i + 1)) r → Ev (fun k => L k xs i) r)
    (he : Ev (fun k => L k ((List.range n).map g) n) r) (init : List β) (hi : init.length = n) : Ev (fun k => L k init 0) r := by
  have key : ∀ (d i : Nat) (xs : List β), i + d = n → xs.length = n → (∀ j, j < i → xs[j]? = some (g j)) → Ev (fun k => L k xs i) r := by
    intro d
    induction d with
    | zero =>
      intro i xs hid hl hp
      obtain rfl : i = n := by omega
      have : xs = (List.range i).map g := by
        apply List.ext_getElem?
        intro j
        by_cases hj : j < i
        · rw [hp j hj]; simp [hj]
        · rw [List.getElem?_eq_none (by omega), List.getElem?_eq_none (by simp; omega)]
      rw [this]
      exact he
    | succ d ih =>
      intro i xs hid hl hp
      have h' := ih (i + 1) (xs.set i (g i)) (by omega) (by simp [hl]) (fun j hj => by
        rcases Nat.lt_succ_iff_lt_or_eq.mp hj with h1 | h1
        · rw [List.getElem?_set_ne (by omega)]; exact hp j h1
        · subst h1; rw [List.getElem?_set_self (by omega)])
      exact hs i xs (by omega) hl h'
  exact key n 0 init (by omega) hi (fun j hj => by omega)
theorem range_map_get {α : Type} (d : α) (xs : List α) : (List.range xs.length).map (fun i => rdOf d xs (i : Nat)) = xs := by
  apply List.ext_getElem?
  intro j
  by_cases hj : j < xs.length
  · simp [hj, rdOf, List.getD_eq_getElem?_getD]
  · rw [List.getElem?_eq_none (by simp; omega), List.getElem?_eq_none (by omega)]
/-! ## bounds -/
theorem spec_in (a b c : Int) : spec_l1In.f a b c = some (decide (b ≤ a ∧ a ≤ c)) := by
  unfold spec_l1In.f
  by_cases h : a ≥ b
  · rw [if_pos h]; congr 1; exact decide_eq_decide.mpr ⟨fun x => ⟨h, x⟩, fun x => x.2⟩
  · rw [if_neg h]; congr 1; exact (decide_eq_false (fun x => h x.1)).symm
theorem impl_in (a b c : Int) : impl_in.f a b c = some (decide (b ≤ a ∧ a ≤ c)) := by
  unfold impl_in.f
  by_cases h : a ≥ b
  · rw [if_pos h]; congr 1; exact decide_eq_decide.mpr ⟨fun x => ⟨h, x⟩, fun x => x.2⟩
  · rw [if_neg h]; congr 1; exact (decide_eq_false (fun x => h x.1)).symm
theorem wbt (w : ByteArray) (j : Int) : wrap64 (bt w j) = bt w j := by
  have := bt_range w j
  exact w64 (by omega) (by omega)
def sized (ws : List ByteArray) : Prop := ws.length ≤ 1099511627776 ∧ ∀ w ∈ ws, w.size ≤ 140737488355328
/-! ## the reader of a code: pick and odd -/
theorem xor_nat (a b : Nat) (ha : a < 4611686018427387904) (hb : b < 4611686018427387904) : Go.bits .xor .i64 (a : Int) (b : Int) = ((a ^^^ b : Nat) : Int) := by
  have hx : a ^^^ b < 2 ^ 62 := Nat.xor_lt_two_pow (by omega) (by omega)
  have h1 : (BitVec.ofInt 64 (a : Int)).toNat = a := by
    rw [BitVec.ofInt_natCast, BitVec.toNat_ofNat]; exact Nat.mod_eq_of_lt (by omega)
  have h2 : (BitVec.ofInt 64 (b : Int)).toNat = b := by
    rw [BitVec.ofInt_natCast, BitVec.toNat_ofNat]; exact Nat.mod_eq_of_lt (by omega)
  show IntKind.i64.wrap ((BitVec.ofInt 64 (a : Int) ^^^ BitVec.ofInt 64 (b : Int)).toNat : Int) = _
  rw [BitVec.toNat_xor, h1, h2]
  simp only [IntKind.wrap, IntKind.bits, IntKind.signed]
  simp
  omega
theorem xor_ge (a b : Int) (h0 : 0 ≤ a) (h1 : a < 4611686018427387904) (h2 : 0 ≤ b) (h3 : b < 4611686018427387904) : 0 ≤ Go.bits .xor .i64 a b := by
  obtain ⟨n, rfl⟩ := Int.eq_ofNat_of_zero_le h0
  obtain ⟨m, rfl⟩ := Int.eq_ofNat_of_zero_le h2
  rw [xor_nat n m (by omega) (by omega)]
  omega
theorem tmod_in (a n : Int) (h : 0 ≤ a) (hn : 1 ≤ n) : 0 ≤ Int.tmod a n ∧ Int.tmod a n < n := by
  rw [Int.tmod_eq_emod_of_nonneg h]
  exact ⟨Int.emod_nonneg _ (by omega), Int.emod_lt_of_pos _ (by omega)⟩
def codeOk (s : List Int) : Prop := ∀ x ∈ s, 0 ≤ x ∧ x ≤ 255
theorem rd_in {s : List Int} (hs : codeOk s) (i : Int) : 0 ≤ rd s i ∧ rd s i ≤ 255 := by
  unfold rd
  by_cases h : i.toNat < s.length
  · rw [List.getD_eq_getElem?_getD, List.getElem?_eq_getElem h]
    exact hs _ (List.getElem_mem h)
  · rw [List.getD_eq_getElem?_getD, List.getElem?_eq_none (by omega)]
    simp
theorem pick_ev (s : List Int) (hs : codeOk s) (p n : Int) (hp : 0 ≤ p) (hp2 : p ≤ 1099511627776) (hl : s.length ≤ 140737488355328) :
    ∃ r, Ev (fun k => spec_l20Rd_pick.f k s p n) (r, p + 1) ∧ 0 ≤ r ∧ (1 ≤ n → r < n) := by
  have h1 : wrap64 (p + 1) = p + 1 := w64 (by omega) (by omega)
  have h2 : wrap64 (p + 1 - 1) = p := by rw [w64] <;> omega
  unfold spec_l20Rd_pick.f
  by_cases hn : n < 1
  · refine ⟨0, ?_, by omega, by omega⟩
    refine Ev.pos hn ?_
    refine Ev.step (f := fun k => some (0, p + 1)) (fun k => ?_) (Ev.now _)
    simp only [spec_l20Rd_pick.j0, if_true, h1]
  · by_cases he : (s.length : Int) = 0
    · refine ⟨0, ?_, by omega, by omega⟩
      refine Ev.neg hn ?_
      refine Ev.step (f := fun k => some (0, p + 1)) (fun k => ?_) (Ev.now _)
      simp only [spec_l20Rd_pick.j0, h1, he, beq_self_eq_true, if_true]
    · have hb : ((s.length : Int) == 0) = false := by simpa using he
      have hn1 : ¬ n = 0 := by omega
      by_cases hlt : p < (s.length : Int)
      · have hr := rd_in hs p
        have hw : wrap64 (rd s p) = rd s p := w64 (by omega) (by omega)
        have ht := tmod_in (rd s p) n hr.1 (by omega)
        refine ⟨Int.tmod (rd s p) n, ?_, ht.1, fun _ => ht.2⟩
        refine Ev.neg hn ?_
        refine Ev.step (f := fun k => some (Int.tmod (rd s p) n, p + 1)) (fun k => ?_) (Ev.now _)
        simp only [spec_l20Rd_pick.j0, h1, h2, hb, hw, if_pos hlt, if_pos hp, if_neg hn1]
        rfl
      · have hlp : 1 ≤ (s.length : Int) := by omega
        have m1 := tmod_in p (s.length : Int) hp hlp
        have h7 : wrap64 (wrap64 (p * 7) + 3) = p * 7 + 3 := by
          rw [w64 (x := p * 7) (by omega) (by omega), w64 (by omega) (by omega)]
        have m2 := tmod_in (p * 7 + 3) (s.length : Int) (by omega) hlp
        have b1 := rd_in hs (Int.tmod p (s.length : Int))
        have b2 := rd_in hs (Int.tmod (p * 7 + 3) (s.length : Int))
        have hd : 0 ≤ Int.tdiv p (s.length : Int) ∧ Int.tdiv p (s.length : Int) ≤ p := by
          rw [Int.tdiv_eq_ediv_of_nonneg hp]
          exact ⟨Int.ediv_nonneg hp (by omega), Int.ediv_le_self _ hp⟩
        generalize e1 : rd s (Int.tmod p (s.length : Int)) = B1 at *
        generalize e2 : rd s (Int.tmod (p * 7 + 3) (s.length : Int)) = B2 at *
        generalize e3 : Int.tdiv p (s.length : Int) = D at *
        obtain ⟨X, hX⟩ : ∃ X, X = wrap64 (wrap64 (wrap64 (wrap64 (wrap64 B1 * 131) + wrap64 (wrap64 B2 * 1117)) + wrap64 (p * 29)) + wrap64 (wrap64 D * 53)) := ⟨_, rfl⟩
        have hXv : X = B1 * 131 + B2 * 1117 + p * 29 + D * 53 := by
          rw [hX, w64 (x := B1) (by omega) (by omega), w64 (x := B1 * 131) (by omega) (by omega), w64 (x := B2) (by omega) (by omega), w64 (x := B2 * 1117) (by omega) (by omega), w64 (x := p * 29) (by omega) (by omega), w64 (x := D) (by omega) (by omega), w64 (x := D * 53) (by omega) (by omega), w64 (x := B1 * 131 + B2 * 1117) (by omega) (by omega), w64 (x := B1 * 131 + B2 * 1117 + p * 29) (by omega) (by omega), w64 (by omega) (by omega)]
        have hX0 : 0 ≤ X := by omega
        have hX1 : X < 4611686018427387904 := by omega
        have hY : 0 ≤ wrap64 (Int.tdiv X 64) ∧ wrap64 (Int.tdiv X 64) < 4611686018427387904 := by
          rw [Int.tdiv_eq_ediv_of_nonneg hX0, w64 (by omega) (by omega)]
          omega
        have hx := xor_ge X (wrap64 (Int.tdiv X 64)) hX0 hX1 hY.1 hY.2
        have ht := tmod_in _ n hx (by omega)
        refine ⟨_, ?_, ht.1, fun _ => ht.2⟩
        refine Ev.neg hn ?_
        refine Ev.step (f := fun k => some (Int.tmod (Go.bits .xor .i64 X (wrap64 (Int.tdiv X 64))) n, p + 1)) (fun k => ?_) (Ev.now _)
        simp only [spec_l20Rd_pick.j0, h1, h2, hb, h7, e1, e2, e3, if_neg hlt, if_neg he, if_pos m1.1, if_pos m1.2, if_pos m2.1, if_pos m2.2, if_neg hn1, ← hX]
        rfl
theorem odd_ev (s : List Int) (hs : codeOk s) (p n : Int) (hp : 0 ≤ p) (hp2 : p ≤ 1099511627776) (hl : s.length ≤ 140737488355328) :
    ∃ r q, Ev (fun k => spec_l20Rd_odd.f k s p n) (r, q) ∧ p ≤ q ∧ q ≤ p + 1 := by
  unfold spec_l20Rd_odd.f
  by_cases hn : n > 0
  · obtain ⟨r, hr, _, _⟩ := pick_ev s hs p n hp hp2 hl
    exact ⟨_, _, Ev.pos hn (Ev.bind hr (Ev.now _)), by omega, by omega⟩
  · exact ⟨_, _, Ev.neg hn (Ev.now _), by omega, by omega⟩
theorem open_ev (l : List Int) (hs : codeOk l) (hl : l.length ≤ 1048576) : ∃ s, spec_l20Open.f l = some (s, 0) ∧ codeOk s ∧ s.length ≤ 2000 := by
  unfold spec_l20Open.f
  by_cases h : (l.length : Int) > 2000
  · rw [if_pos h, if_pos (by omega)]
    exact ⟨_, rfl, fun x hx => hs x (List.mem_of_mem_take hx), by simp; omega⟩
  · rw [if_neg h]
    exact ⟨_, rfl, hs, by omega⟩
theorem codeOk_wf {l : List Int} (h : ∀ x ∈ l, (Lit.int .u8 x).wf = true) : codeOk l := fun x hx => by
  have := h x hx
  simp [Lit.wf, IntKind.min, IntKind.max, IntKind.bits, IntKind.signed] at this
  omega
/-! ## WordsFit: both are the same condition -/
def wordOk (w : ByteArray) (n : Int) : Prop := (1 ≤ (w.size : Int) ∧ (w.size : Int) ≤ n) ∧ ∀ j : Nat, j < w.size → 33 ≤ bt w j ∧ bt w j ≤ 126
def fit (ws : List ByteArray) (n : Int) : Prop := (1 ≤ n ∧ n ≤ 40) ∧ ws.length ≤ 20 ∧ ∀ w ∈ ws, wordOk w n
theorem fit_iff (ws : List ByteArray) (n : Int) : fit ws n ↔ (1 ≤ n ∧ n ≤ 40) ∧ ws.length ≤ 20 ∧ ∀ i : Nat, i < ws.length → wordOk (rdOf ByteArray.empty ws i) n := by
  unfold fit
  refine and_congr Iff.rfl (and_congr Iff.rfl ⟨fun h i hi => ?_, fun h w hw => ?_⟩)
  · rw [rdOf_nat _ _ _ hi]; exact h _ (List.getElem_mem hi)
  · obtain ⟨i, hi, rfl⟩ := List.mem_iff_getElem.mp hw
    have := h i hi
    rwa [rdOf_nat _ _ _ hi] at this
def byteOk (w : ByteArray) (j : Nat) : Prop := 33 ≤ bt w j ∧ bt w j ≤ 126
open Classical in
theorem spec_fit (ws : List ByteArray) (n : Int) (hl : sized ws) : Ev (fun k => spec_WordsFit.f k ws n) (decide (fit ws n)) := by
  have inner : ∀ (i : Nat) (hi : i < ws.length) (r : Bool),
      (wordOk (rdOf ByteArray.empty ws i) n → Ev (fun k => spec_WordsFit.l0 k ws n (i + 1)) r) → (¬ wordOk (rdOf ByteArray.empty ws i) n → r = false) →
      Ev (fun k => spec_WordsFit.l1 k ws n i 0) r := by
    intro i hi r hgo hno
    have hw : (rdOf ByteArray.empty ws i).size ≤ 140737488355328 := by rw [rdOf_nat _ _ _ hi]; exact hl.2 _ (List.getElem_mem hi)
    have h2 : wrap64 ((i : Int) + 1) = i + 1 := w64 (by omega) (by have := hl.1; omega)
    refine ev_scan (L := fun k j => spec_WordsFit.l1 k ws n i j) (n := (rdOf ByteArray.empty ws i).size) (byteOk (rdOf ByteArray.empty ws i)) ?_ ?_ ?_
    · intro j hj hp hr
      refine Ev.step (f := fun k => spec_WordsFit.l1 k ws n i (j + 1)) (fun k => ?_) hr
      have h1 : wrap64 ((j : Int) + 1) = j + 1 := w64 (by omega) (by omega)
      unfold byteOk at hp
      simp only [spec_WordsFit.l1, wbt, h1, spec_in]
      rw [if_pos (by omega), if_pos (by omega), if_pos (by omega), if_pos (by omega)]
      simp only [Option.bind_some, decide_eq_true hp, if_true]
    · intro j hj _ hp
      rw [hno (fun h => hp (h.2 j hj))]
      refine Ev.step (f := fun k => some false) (fun k => ?_) (Ev.now _)
      unfold byteOk at hp
      simp only [spec_WordsFit.l1, wbt, spec_in]
      rw [if_pos (by omega), if_pos (by omega), if_pos (by omega), if_pos (by omega)]
      simp only [Option.bind_some, decide_eq_false hp, Bool.false_eq_true, if_false]
    · intro hall
      by_cases hs : 1 ≤ ((rdOf ByteArray.empty ws i).size : Int) ∧ ((rdOf ByteArray.empty ws i).size : Int) ≤ n
      · refine Ev.step (f := fun k => spec_WordsFit.l0 k ws n (i + 1)) (fun k => ?_) (hgo ⟨hs, hall⟩)
        simp only [spec_WordsFit.l1, h2, spec_in]
        rw [if_pos (by omega), if_pos (by omega), if_neg (by omega)]
        simp only [Option.bind_some, decide_eq_true hs, if_true]
      · rw [hno (fun h => hs h.1)]
        refine Ev.step (f := fun k => some false) (fun k => ?_) (Ev.now _)
        simp only [spec_WordsFit.l1, spec_in]
        rw [if_pos (by omega), if_pos (by omega), if_neg (by omega)]
        simp only [Option.bind_some, decide_eq_false hs, Bool.false_eq_true, if_false]
  refine ev_scan (L := fun k i => spec_WordsFit.l0 k ws n i) (n := ws.length) (fun i => wordOk (rdOf ByteArray.empty ws i) n) ?_ ?_ ?_
  · intro i hi hp hr
    refine Ev.step (f := fun k => spec_WordsFit.l1 k ws n i 0) (fun k => ?_) (inner i hi _ (fun _ => hr) (fun h => absurd hp h))
    simp only [spec_WordsFit.l0]
    rw [if_pos (by omega)]
  · intro i hi _ hp
    have hno : decide (fit ws n) = false := decide_eq_false (fun h => hp (((fit_iff ws n).mp h).2.2 i hi))
    refine Ev.step (f := fun k => spec_WordsFit.l1 k ws n i 0) (fun k => ?_) (inner i hi _ (fun h => absurd h hp) (fun _ => hno))
    simp only [spec_WordsFit.l0]
    rw [if_pos (by omega)]
  · intro hall
    refine Ev.step (f := fun k => some (decide (fit ws n))) (fun k => ?_) (Ev.now _)
    simp only [spec_WordsFit.l0, spec_in]
    rw [if_neg (by omega)]
    by_cases h20 : (ws.length : Int) ≤ 20
    · rw [if_pos h20]
      simp only [Option.bind_some]
      congr 1
      exact decide_eq_decide.mpr ⟨fun h => (fit_iff ws n).mpr ⟨h, by omega, hall⟩, fun h => h.1⟩
    · rw [if_neg h20]
      congr 1
      exact (decide_eq_false (fun h => h20 (by have := h.2.1; omega))).symm
open Classical in
theorem impl_fit (ws : List ByteArray) (n : Int) (hl : sized ws) : Ev (fun k => impl_WordsFit.f k ws n) (decide (fit ws n)) := by
  have inner : ∀ (i : Nat) (hi : i < ws.length) (r : Bool),
      (wordOk (rdOf ByteArray.empty ws i) n → Ev (fun k => impl_WordsFit.l0 k n ws (ws.length : Int) (i + 1)) r) → (¬ wordOk (rdOf ByteArray.empty ws i) n → r = false) →
      Ev (fun k => impl_WordsFit.l0 k n ws (ws.length : Int) i) r := by
    intro i hi r hgo hno
    have hw : (rdOf ByteArray.empty ws i).size ≤ 140737488355328 := by rw [rdOf_nat _ _ _ hi]; exact hl.2 _ (List.getElem_mem hi)
    have h2 : wrap64 ((i : Int) + 1) = i + 1 := w64 (by omega) (by have := hl.1; omega)
    by_cases hs : 1 ≤ ((rdOf ByteArray.empty ws i).size : Int) ∧ ((rdOf ByteArray.empty ws i).size : Int) ≤ n
    · refine Ev.step (f := fun k => impl_WordsFit.l1 k n (rdOf ByteArray.empty ws i) 0 ws (ws.length : Int) i) (fun k => ?_) ?_
      · simp only [impl_WordsFit.l0, impl_in]
        rw [if_pos (by omega), if_pos (by omega), if_pos (by omega)]
        simp only [Option.bind_some, decide_eq_true hs, if_true]
      · refine ev_scan (L := fun k j => impl_WordsFit.l1 k n (rdOf ByteArray.empty ws i) j ws (ws.length : Int) i) (n := (rdOf ByteArray.empty ws i).size) (byteOk (rdOf ByteArray.empty ws i)) ?_ ?_ ?_
        · intro j hj hp hr
          refine Ev.step (f := fun k => impl_WordsFit.l1 k n (rdOf ByteArray.empty ws i) (j + 1) ws (ws.length : Int) i) (fun k => ?_) hr
          have h1 : wrap64 ((j : Int) + 1) = j + 1 := w64 (by omega) (by omega)
          unfold byteOk at hp
          simp only [impl_WordsFit.l1, wbt, h1, impl_in]
          rw [if_pos (by omega), if_pos (by omega)]
          simp only [Option.bind_some, decide_eq_true hp, if_true]
        · intro j hj _ hp
          rw [hno (fun h => hp (h.2 j hj))]
          refine Ev.step (f := fun k => some false) (fun k => ?_) (Ev.now _)
          unfold byteOk at hp
          simp only [impl_WordsFit.l1, wbt, impl_in]
          rw [if_pos (by omega), if_pos (by omega)]
          simp only [Option.bind_some, decide_eq_false hp, Bool.false_eq_true, if_false]
        · intro hall
          refine Ev.step (f := fun k => impl_WordsFit.l0 k n ws (ws.length : Int) (i + 1)) (fun k => ?_) (hgo ⟨hs, hall⟩)
          simp only [impl_WordsFit.l1, h2]
          rw [if_neg (by omega)]
    · rw [hno (fun h => hs h.1)]
      refine Ev.step (f := fun k => some false) (fun k => ?_) (Ev.now _)
      simp only [impl_WordsFit.l0, impl_in]
      rw [if_pos (by omega), if_pos (by omega), if_pos (by omega)]
      simp only [Option.bind_some, decide_eq_false hs, Bool.false_eq_true, if_false]
  unfold impl_WordsFit.f
  by_cases h0 : 1 ≤ n ∧ n ≤ 40
  · by_cases h20 : (ws.length : Int) > 20
    · have hd : decide (fit ws n) = false := decide_eq_false (fun h => by have := h.2.1; omega)
      rw [hd]
      simp only [impl_in, decide_eq_true h0, Option.bind_some, if_true, decide_eq_true h20]
      refine Ev.step (f := fun k => some false) (fun k => ?_) (Ev.now _)
      simp only [impl_WordsFit.j0, if_true]
    · simp only [impl_in, decide_eq_true h0, Option.bind_some, if_true, decide_eq_false h20]
      refine Ev.step (f := fun k => impl_WordsFit.l0 k n ws (ws.length : Int) 0) (fun k => ?_) ?_
      · simp only [impl_WordsFit.j0, Bool.false_eq_true, if_false]
      · refine ev_scan (L := fun k i => impl_WordsFit.l0 k n ws (ws.length : Int) i) (n := ws.length) (fun i => wordOk (rdOf ByteArray.empty ws i) n) ?_ ?_ ?_
        · intro i hi hp hr
          exact inner i hi _ (fun _ => hr) (fun h => absurd hp h)
        · intro i hi _ hp
          exact inner i hi _ (fun h => absurd h hp) (fun _ => decide_eq_false (fun h => hp (((fit_iff ws n).mp h).2.2 i hi)))
        · intro hall
          refine Ev.step (f := fun k => some true) (fun k => ?_) (Ev.ok (decide_eq_true ((fit_iff ws n).mpr ⟨h0, by omega, hall⟩)).symm)
          simp only [impl_WordsFit.l0]
          rw [if_neg (by omega)]
  · have hd : decide (fit ws n) = false := decide_eq_false (fun h => h0 h.1)
    rw [hd]
    simp only [impl_in, decide_eq_false h0, Option.bind_some, Bool.false_eq_true, if_false]
    refine Ev.step (f := fun k => some false) (fun k => ?_) (Ev.now _)
    simp only [impl_WordsFit.j0, if_true]
/-! ## TextValid -/
def textOk (s : ByteArray) : Prop := s.size ≤ 20000 ∧ ∀ j : Nat, j < s.size → bt s j = 10 ∨ (32 ≤ bt s j ∧ bt s j ≤ 126)
/-! ## TextValid -/
open Classical in
theorem impl_text (s : ByteArray) (hl : s.size ≤ 140737488355328) : Ev (fun k => impl_TextValid.f k s) (decide (textOk s)) := by
  unfold impl_TextValid.f
  refine ev_scan (L := fun k i => impl_TextValid.l0 k s i) (n := s.size) (fun j => bt s j = 10 ∨ (32 ≤ bt s j ∧ bt s j ≤ 126)) ?_ ?_ ?_
  · intro i hi hp hr
    have h1 : wrap64 ((i : Int) + 1) = i + 1 := w64 (by omega) (by omega)
    refine Ev.up ?_
    simp only [impl_TextValid.l0, wbt, h1, impl_in]
    refine Ev.pos (by omega) (Ev.pos (by omega) ?_)
    by_cases h10 : bt s (i : Nat) = 10
    · exact Ev.pos h10 hr
    · refine Ev.neg h10 ?_
      have hq : 32 ≤ bt s (i : Nat) ∧ bt s (i : Nat) ≤ 126 := by omega
      simp only [Option.bind_some, decide_eq_true hq, if_true]
      exact hr
  · intro i hi _ hp
    refine Ev.eqr ?_ (decide_eq_false (fun h : textOk s => hp (h.2 i hi))).symm
    refine Ev.up ?_
    simp only [impl_TextValid.l0, wbt, impl_in]
    refine Ev.pos (by omega) (Ev.pos (by omega) (Ev.neg (by omega) ?_))
    have hq : ¬ (32 ≤ bt s (i : Nat) ∧ bt s (i : Nat) ≤ 126) := by omega
    simp only [Option.bind_some, decide_eq_false hq, Bool.false_eq_true, if_false]
    exact Ev.now _
  · intro hall
    refine Ev.up ?_
    simp only [impl_TextValid.l0]
    refine Ev.neg (by omega) (Ev.ok ?_)
    exact decide_eq_decide.mpr ⟨fun h => ⟨by omega, hall⟩, fun h => by have := h.1; omega⟩
open Classical in
theorem alive_ev : Ev (fun k => laws_alive.f k) true := by
  have h := impl_text (⟨#[97]⟩ : ByteArray) (by decide)
  have ht : textOk (⟨#[97]⟩ : ByteArray) := ⟨by decide, fun j hj => by
    have hz : (⟨#[97]⟩ : ByteArray).size = 1 := rfl
    obtain rfl : j = 0 := by omega
    exact .inr (by decide)⟩
  rw [decide_eq_true ht] at h
  exact Ev.bind h (Ev.now _)
/-! ## the drawn words -/
def small (ws : List ByteArray) (n : Nat) : Prop := ws.length ≤ n ∧ ∀ w ∈ ws, w.size ≤ 21
theorem small.snoc {ws : List ByteArray} {n : Nat} (h : small ws n) (w : ByteArray) (hw : w.size ≤ 21) : small (ws ++ [w]) (n + 1) :=
  ⟨by have := h.1; simp; omega, fun x hx => by
    rcases List.mem_append.mp hx with h1 | h1
    · exact h.2 x h1
    · rw [List.mem_singleton.mp h1]; exact hw⟩
theorem small.mono {ws : List ByteArray} {n m : Nat} (h : small ws n) (hm : n ≤ m) : small ws m := ⟨Nat.le_trans h.1 hm, h.2⟩
theorem small.sized {ws : List ByteArray} {n : Nat} (h : small ws n) (hn : n ≤ 1000) : sized ws := ⟨by have := h.1; omega, fun w hw => by have := h.2 w hw; omega⟩
theorem rdOf_mem {α : Type} (d : α) (xs : List α) (i : Int) (h0 : 0 ≤ i) (h : i < (xs.length : Int)) : rdOf d xs i ∈ xs := by
  obtain ⟨n, rfl⟩ := Int.eq_ofNat_of_zero_le h0
  rw [rdOf_nat _ _ _ (by omega)]
  exact List.getElem_mem _
theorem wrapped_l1 (s : List Int) (x8 p : Int) (d : Nat) : ∀ ws : List ByteArray, (∀ w ∈ ws, w.size ≤ 21) → ws.length ≤ 100 → 21 ≤ ws.length + d →
    ∃ ws', Ev (fun k => spec_l20Wrapped.l1 k ws x8 s p) (ws', x8, p) ∧ small ws' 100 := by
  induction d with
  | zero =>
    intro ws hw hl h21
    refine ⟨ws, Ev.up ?_, hl, hw⟩
    simp only [spec_l20Wrapped.l1]
    exact Ev.neg (by omega) (Ev.now _)
  | succ d ih =>
    intro ws hw hl h21
    by_cases h : (ws.length : Int) ≤ 20
    · have hs := (show small ws 20 from ⟨by omega, hw⟩).snoc (⟨#[97]⟩ : ByteArray) (by decide)
      obtain ⟨ws', h1, h2⟩ := ih (ws ++ [(⟨#[97]⟩ : ByteArray)]) hs.2 (by simp; omega) (by simp; omega)
      refine ⟨ws', Ev.up ?_, h2⟩
      simp only [spec_l20Wrapped.l1]
      exact Ev.pos h (Ev.pos (by omega) h1)
    · refine ⟨ws, Ev.up ?_, hl, hw⟩
      simp only [spec_l20Wrapped.l1]
      exact Ev.neg h (Ev.now _)
theorem wrapped_l0 (s : List Int) (hs : codeOk s) (hl : s.length ≤ 2000) (x1 : Int) (d : Nat) : ∀ (ws : List ByteArray) (x7 p : Int), x7 = d → 0 ≤ p → p + d ≤ 1000 → small ws (10 - d) → d ≤ 10 →
    ∃ ws' n q, Ev (fun k => spec_l20Wrapped.l0 k x1 ws x7 s p) (ws', n, q) ∧ small ws' 100 ∧ 0 ≤ n ∧ n ≤ 41 ∧ 0 ≤ q ∧ q ≤ 200000000 := by
  induction d with
  | zero =>
    intro ws x7 p hx hp hp2 hw hd
    obtain ⟨r1, h1, h1a, h1b⟩ := pick_ev s hs p 8 hp (by omega) (by omega)
    obtain ⟨b, q, h2, h2a, h2b⟩ := odd_ev s hs (p + 1) x1 (by omega) (by omega) (by omega)
    have hn : wrap64 (6 + r1) = 6 + r1 := w64 (by omega) (by omega)
    cases b with
    | false =>
      refine ⟨ws, 6 + r1, q, Ev.up ?_, hw.mono (by omega), by omega, by omega, by omega, by omega⟩
      simp only [spec_l20Wrapped.l0]
      refine Ev.neg (by omega) (Ev.bind h1 (Ev.bind h2 ?_))
      simp only [Bool.false_eq_true, if_false, hn]
      exact Ev.now _
    | true =>
      obtain ⟨r3, h3, h3a, h3b⟩ := pick_ev s hs q 4 (by omega) (by omega) (by omega)
      obtain ⟨r4, h4, h4a, h4b⟩ := pick_ev s hs (q + 1) 3 (by omega) (by omega) (by omega)
      have h4c := h4b (by omega)
      by_cases e0 : r3 = 0
      · have hm := rdOf_mem (0 : Int) [0, 41, 3] r4 h4a (by simp; omega)
        refine ⟨ws, rd [0, 41, 3] r4, q + 1 + 1, Ev.up ?_, hw.mono (by omega), ?_, ?_, by omega, by omega⟩
        · simp only [spec_l20Wrapped.l0]
          refine Ev.neg (by omega) (Ev.bind h1 (Ev.bind h2 ?_))
          simp only [if_true]
          refine Ev.bind h3 (Ev.pos e0 ?_)
          simp only [Option.bind_some]
          refine Ev.bind h4 (Ev.pos h4a (Ev.pos (by simp; omega) (Ev.now _)))
        · have hm' : rd [0, 41, 3] r4 ∈ ([0, 41, 3] : List Int) := hm
          simp at hm'
          omega
        · have hm' : rd [0, 41, 3] r4 ∈ ([0, 41, 3] : List Int) := hm
          simp at hm'
          omega
      by_cases e1 : r3 = 1
      · have hm := rdOf_mem ByteArray.empty [(⟨#[]⟩ : ByteArray), (⟨#[97, 32, 98]⟩ : ByteArray), (⟨#[10]⟩ : ByteArray)] r4 h4a (by simp; omega)
        have hsz : (rdOf ByteArray.empty [(⟨#[]⟩ : ByteArray), (⟨#[97, 32, 98]⟩ : ByteArray), (⟨#[10]⟩ : ByteArray)] r4).size ≤ 21 := by
          simp only [List.mem_cons, List.not_mem_nil, or_false] at hm
          rcases hm with h | h | h <;> rw [h] <;> decide
        refine ⟨_, 6 + r1, q + 1 + 1, Ev.up ?_, (hw.snoc _ hsz).mono (by omega), by omega, by omega, by omega, by omega⟩
        simp only [spec_l20Wrapped.l0]
        refine Ev.neg (by omega) (Ev.bind h1 (Ev.bind h2 ?_))
        simp only [if_true]
        refine Ev.bind h3 (Ev.neg e0 (Ev.pos e1 ?_))
        simp only [Option.bind_some, hn]
        exact Ev.bind h4 (Ev.pos h4a (Ev.pos (by simp; omega) (Ev.pos (by have := hw.1; omega) (Ev.now _))))
      by_cases e2 : r3 = 2
      · refine ⟨_, 6 + r1, q + 1, Ev.up ?_, (hw.snoc (⟨#[97, 118, 101, 114, 121, 118, 101, 114, 121, 118, 101, 114, 121, 108, 111, 110, 103, 119, 111, 114, 100]⟩ : ByteArray) (by decide)).mono (by omega), by omega, by omega, by omega, by omega⟩
        simp only [spec_l20Wrapped.l0]
        refine Ev.neg (by omega) (Ev.bind h1 (Ev.bind h2 ?_))
        simp only [if_true]
        refine Ev.bind h3 (Ev.neg e0 (Ev.neg e1 (Ev.pos e2 ?_)))
        simp only [hn]
        exact Ev.pos (by have := hw.1; omega) (Ev.now _)
      · obtain ⟨ws', h5, h6⟩ := wrapped_l1 s (6 + r1) (q + 1) 21 ws hw.2 (by have := hw.1; omega) (by omega)
        refine ⟨ws', 6 + r1, q + 1, Ev.up ?_, h6, by omega, by omega, by omega, by omega⟩
        simp only [spec_l20Wrapped.l0]
        refine Ev.neg (by omega) (Ev.bind h1 (Ev.bind h2 ?_))
        simp only [if_true]
        refine Ev.bind h3 (Ev.neg e0 (Ev.neg e1 (Ev.neg e2 ?_)))
        simp only [hn]
        exact h5
  | succ d ih =>
    intro ws x7 p hx hp hp2 hw hd
    obtain ⟨r1, h1, h1a, h1b⟩ := pick_ev s hs p 6 hp (by omega) (by omega)
    have h1c := h1b (by omega)
    have hm := rdOf_mem ByteArray.empty [(⟨#[97]⟩ : ByteArray), (⟨#[116, 111]⟩ : ByteArray), (⟨#[116, 104, 101]⟩ : ByteArray), (⟨#[119, 111, 114, 100]⟩ : ByteArray), (⟨#[108, 105, 110, 101, 115]⟩ : ByteArray), (⟨#[98, 101, 116, 116, 101, 114]⟩ : ByteArray)] r1 h1a (by simp; omega)
    have hsz := hm
    simp only [List.mem_cons, List.not_mem_nil, or_false] at hsz
    have hsz2 : (rdOf ByteArray.empty [(⟨#[97]⟩ : ByteArray), (⟨#[116, 111]⟩ : ByteArray), (⟨#[116, 104, 101]⟩ : ByteArray), (⟨#[119, 111, 114, 100]⟩ : ByteArray), (⟨#[108, 105, 110, 101, 115]⟩ : ByteArray), (⟨#[98, 101, 116, 116, 101, 114]⟩ : ByteArray)] r1).size ≤ 21 := by
      rcases hsz with h | h | h | h | h | h <;> rw [h] <;> decide
    obtain ⟨ws', n, q, h2, h3⟩ := ih _ (wrap64 (x7 - 1)) (p + 1) (by rw [w64] <;> omega) (by omega) (by omega) ((hw.snoc _ hsz2).mono (by omega)) (by omega)
    refine ⟨ws', n, q, Ev.up ?_, h3⟩
    simp only [spec_l20Wrapped.l0]
    refine Ev.pos (by omega) ?_
    simp only [Option.bind_some]
    exact Ev.bind h1 (Ev.pos h1a (Ev.pos (by simp; omega) (Ev.pos (by have := hw.1; omega) h2)))
theorem wrapped_ev (s : List Int) (hs : codeOk s) (hl : s.length ≤ 2000) (x1 : Int) :
    ∃ ws n q, Ev (fun k => spec_l20Wrapped.f k s 0 x1) (ws, n, q) ∧ small ws 100 ∧ 0 ≤ n ∧ n ≤ 41 ∧ 0 ≤ q ∧ q ≤ 200000000 := by
  unfold spec_l20Wrapped.f
  obtain ⟨r1, h1, h1a, h1b⟩ := pick_ev s hs 0 8 (by omega) (by omega) (by omega)
  obtain ⟨d, rfl⟩ := Int.eq_ofNat_of_zero_le h1a
  have h1c := h1b (by omega)
  obtain ⟨ws, n, q, h2, h3⟩ := wrapped_l0 s hs hl x1 d [] d 1 rfl (by omega) (by omega) ⟨by simp, by simp⟩ (by omega)
  exact ⟨ws, n, q, Ev.bind h1 h2, h3⟩
/-! ## the length of a line, and the cost of a wrapping -/
theorem rd_at (xs : List Int) (i : Nat) (h : i < xs.length) : rd xs (i : Int) = xs[i] := by
  simp [rd, List.getD_eq_getElem?_getD, List.getElem?_eq_getElem h]
def tot (l : List ByteArray) : Nat := (l.map ByteArray.size).sum
theorem tot_le (m : Nat) : ∀ (l : List ByteArray), (∀ w ∈ l, w.size ≤ m) → tot l ≤ m * l.length
  | [], _ => by simp [tot]
  | x :: l, h => by
    have h1 := h x (List.mem_cons_self)
    have h2 := tot_le m l (fun w hw => h w (List.mem_cons_of_mem _ hw))
    simp only [tot, List.map_cons, List.sum_cons, List.length_cons, Nat.mul_succ] at h2 ⊢
    omega
def len (ws : List ByteArray) (a b : Int) : Int := (tot ((ws.take b.toNat).drop a.toNat) : Int) + (b - a) - 1
theorem seg_cons (ws : List ByteArray) (i b : Nat) (h : i < b) (hb : b ≤ ws.length) : (ws.take b).drop i = ws[i] :: (ws.take b).drop (i + 1) := by
  rw [List.drop_eq_getElem_cons (by simp; omega)]
  simp
theorem join_len (sep : List UInt8) : ∀ (l : List (List UInt8)), l ≠ [] → (Go.Lib.join l sep).length = (l.map List.length).sum + (l.length - 1) * sep.length
  | [], h => absurd rfl h
  | [x], _ => by simp [Go.Lib.join, List.intercalate]
  | x :: y :: r, _ => by
    have ih := join_len sep (y :: r) (by simp)
    have e : Go.Lib.join (x :: y :: r) sep = x ++ (sep ++ Go.Lib.join (y :: r) sep) := by simp [Go.Lib.join, List.intercalate]
    rw [e, List.length_append, List.length_append, ih]
    simp only [List.map_cons, List.sum_cons, List.length_cons, Nat.add_sub_cancel, Nat.succ_mul]
    omega
def narrow (ws : List ByteArray) : Prop := ws.length ≤ 20 ∧ ∀ w ∈ ws, w.size ≤ 40
theorem narrow_of {ws : List ByteArray} {n : Int} (h : fit ws n) : narrow ws := ⟨h.2.1, fun w hw => by have := (h.2.2 w hw).1; have := h.1; omega⟩
theorem seg_tot {ws : List ByteArray} (h : narrow ws) (a b : Nat) : tot ((ws.take b).drop a) ≤ 800 := by
  have h1 := tot_le 40 ((ws.take b).drop a) (fun w hw => h.2 w (List.mem_of_mem_take (List.mem_of_mem_drop hw)))
  have h2 := h.1
  simp only [List.length_drop, List.length_take] at h1
  omega
theorem impl_len {ws : List ByteArray} (h : narrow ws) (a b : Nat) (hab : a < b) (hb : b ≤ ws.length) : impl_lineLen.f ((ws.take b).drop a) = some (len ws a b) := by
  have hlen : ((ws.take b).drop a).length = b - a := by simp; omega
  have hne : ((ws.take b).drop a).map (fun x => x.data.toList) ≠ [] := fun h => by
    have := congrArg List.length h
    rw [List.length_map, hlen] at this
    simp at this
    omega
  have hj := join_len (⟨#[32]⟩ : ByteArray).data.toList _ hne
  have hm : ((((ws.take b).drop a).map (fun x => x.data.toList)).map List.length).sum = tot ((ws.take b).drop a) := by
    unfold tot
    rw [List.map_map]
    rfl
  rw [hm, List.length_map, hlen] at hj
  have h1 : (⟨#[32]⟩ : ByteArray).data.toList.length = 1 := rfl
  rw [h1] at hj
  have ht := seg_tot h a b
  have hw := h.1
  unfold impl_lineLen.f strings_Join.f
  rw [if_pos (by omega), if_pos (by omega), Option.bind_some]
  unfold len
  rw [show ((⟨(Go.Lib.join (((ws.take b).drop a).map (fun x => x.data.toList)) (⟨#[32]⟩ : ByteArray).data.toList).toArray⟩ : ByteArray)).size = (Go.Lib.join (((ws.take b).drop a).map (fun x => x.data.toList)) (⟨#[32]⟩ : ByteArray).data.toList).length from by simp [ByteArray.size], hj, Int.toNat_natCast, Int.toNat_natCast]
  congr 1
  omega
theorem spec_len {ws : List ByteArray} (h : narrow ws) (a b : Nat) (hab : a ≤ b) (hb : b ≤ ws.length) : Ev (fun k => spec_l15Length.f k ws a b) (len ws a b) := by
  have hl := h.1
  have key : ∀ (d i : Nat) (x : Int), i + d = b → -100 ≤ x → x ≤ 100 + 40 * i → Ev (fun k => spec_l15Length.l0 k ws b x i) (x + tot ((ws.take b).drop i)) := by
    intro d
    induction d with
    | zero =>
      intro i x hi h1 h2
      rw [List.drop_of_length_le (by simp; omega)]
      refine Ev.up ?_
      simp only [spec_l15Length.l0]
      exact Ev.neg (by omega) (Ev.ok (by simp [tot]))
    | succ d ih =>
      intro i x hi h1 h2
      have hlt : i < ws.length := by omega
      have hs := h.2 _ (List.getElem_mem hlt)
      have hn := ih (i + 1) (x + ((ws[i]).size : Int)) (by omega) (by omega) (by omega)
      have w1 : wrap64 (x + ((ws[i]).size : Int)) = x + ((ws[i]).size : Int) := w64 (by omega) (by omega)
      have w2 : wrap64 ((i : Int) + 1) = ((i + 1 : Nat) : Int) := by rw [w64] <;> omega
      refine Ev.up ?_
      simp only [spec_l15Length.l0, rdOf_nat _ _ _ hlt, w1, w2]
      clear w1 w2
      refine Ev.pos (by omega) (Ev.pos (by omega) (Ev.pos (by omega) ?_))
      rw [seg_cons ws i b (by omega) hb]
      refine Ev.eqr hn ?_
      simp only [tot, List.map_cons, List.sum_cons]
      omega
  unfold spec_l15Length.f
  have w1 : wrap64 ((b : Int) - a) = (b : Int) - a := w64 (by omega) (by omega)
  have w2 : wrap64 ((b : Int) - a - 1) = (b : Int) - a - 1 := w64 (by omega) (by omega)
  rw [w1, w2]
  refine Ev.eqr (key (b - a) a ((b : Int) - a - 1) (by omega) (by omega) (by omega)) ?_
  unfold len
  rw [Int.toNat_natCast, Int.toNat_natCast]
  omega
theorem len_in {ws : List ByteArray} (h : narrow ws) (a b : Nat) (hab : a < b) (hb : b ≤ ws.length) : 0 ≤ len ws a b ∧ len ws a b ≤ 1000 := by
  have := seg_tot h a b
  have := h.1
  unfold len
  rw [Int.toNat_natCast, Int.toNat_natCast]
  omega
def costL (ws : List ByteArray) (n : Int) : List Int → Int → Int → Int
  | [], a, c => if a = (ws.length : Int) then c else -1
  | e :: r, a, c => if 1 ≤ e ∧ e ≤ (ws.length : Int) - a then (if len ws a (a + e) > n then -1 else if 0 < r.length then costL ws n r (a + e) (c + (n - len ws a (a + e)) * (n - len ws a (a + e))) else costL ws n r (a + e) c) else -1
theorem costL_long (ws : List ByteArray) (n : Int) : ∀ (ls : List Int) (a c : Int), a ≤ ws.length → (ws.length : Int) - a < ls.length → costL ws n ls a c = -1
  | [], a, c, h1, h2 => by simp at h2; omega
  | e :: r, a, c, h1, h2 => by
    rw [costL]
    split
    · rename_i h
      simp only [List.length_cons] at h2
      split
      · rfl
      · split
        · exact costL_long ws n r _ _ (by omega) (by omega)
        · exact costL_long ws n r _ _ (by omega) (by omega)
    · rfl
theorem sq_in (x : Int) (h0 : 0 ≤ x) (h1 : x ≤ 40) : 0 ≤ x * x ∧ x * x ≤ 1600 :=
  ⟨Int.mul_nonneg h0 h0, Int.le_trans (Int.mul_le_mul h1 h1 h0 (by omega)) (by decide)⟩
/-! ## the cost, of the program alone -/
theorem impl_cost_loop {ws : List ByteArray} {n : Int} (h : fit ws n) (ls : List Int) (hl : ls.length ≤ 140737488355328) (d : Nat) : ∀ (i a : Nat) (c : Int), i + d = ls.length → a ≤ ws.length → 0 ≤ c → c ≤ 1600 * (a : Int) →
    Ev (fun k => impl_WrapCost.l0 k ws n ls c a ls (ls.length : Int) i) (costL ws n (ls.drop i) a c) := by
  have hw := narrow_of h
  have h20 := hw.1
  have hn := h.1
  induction d with
  | zero =>
    intro i a c hi ha h0 h1
    rw [List.drop_of_length_le (by omega), costL]
    refine Ev.up ?_
    simp only [impl_WrapCost.l0]
    refine Ev.neg (by omega) ?_
    by_cases e : (a : Int) = (ws.length : Int)
    · exact Ev.pos e (Ev.ok (if_pos e).symm)
    · exact Ev.neg e (Ev.ok (if_neg e).symm)
  | succ d ih =>
    intro i a c hi ha h0 h1
    have hlt : i < ls.length := by omega
    rw [List.drop_eq_getElem_cons hlt, costL]
    refine Ev.up ?_
    simp only [impl_WrapCost.l0, impl_in, Option.bind_some, rd_at ls i hlt, w64 (show -9223372036854775808 ≤ (ws.length : Int) - a by omega) (by omega)]
    refine Ev.pos (by omega) (Ev.pos (by omega) (Ev.pos (by omega) ?_))
    generalize ls[i] = e
    by_cases hin : 1 ≤ e ∧ e ≤ (ws.length : Int) - a
    · rw [if_pos hin]
      obtain ⟨e, rfl⟩ := Int.eq_ofNat_of_zero_le (show 0 ≤ e by omega)
      have w2 : wrap64 ((a : Int) + (e : Int)) = ((a + e : Nat) : Int) := by rw [w64] <;> omega
      have w3 : (a : Int) + (e : Int) = ((a + e : Nat) : Int) := by omega
      have w4 : wrap64 ((a + e : Nat) : Int) = ((a + e : Nat) : Int) := by rw [w64] <;> omega
      have hL := impl_len hw a (a + e) (by omega) (by omega)
      simp only [w3, w4, Int.toNat_natCast, hL, Option.bind_some]
      have hLi := len_in hw a (a + e) (by omega) (by omega)
      refine Ev.pos (decide_eq_true hin) (Ev.pos (by omega) (Ev.pos (by omega) (Ev.pos (by omega) (Ev.up ?_))))
      simp only [impl_WrapCost.j1, w3, w4, Int.toNat_natCast, hL, Option.bind_some, w64 (show -9223372036854775808 ≤ (i : Int) + 1 by omega) (by omega)]
      clear w2 w4
      by_cases hgt : len ws a ((a + e : Nat) : Int) > n
      · rw [if_pos hgt]; exact Ev.pos (decide_eq_true hgt) (Ev.now _)
      · rw [if_neg hgt]
        have hsq := sq_in (n - len ws a ((a + e : Nat) : Int)) (by omega) (by omega)
        refine Ev.neg (by simpa using hgt) (Ev.pos (by omega) (Ev.pos (by omega) (Ev.pos (by omega) ?_)))
        rw [w64 (x := n - len ws a ((a + e : Nat) : Int)) (by omega) (by omega)]
        generalize (n - len ws a ((a + e : Nat) : Int)) * (n - len ws a ((a + e : Nat) : Int)) = q at hsq ⊢
        rw [w64 (x := q) (by omega) (by omega), w64 (x := c + q) (by omega) (by omega)]
        have wi : (i : Int) + 1 = ((i + 1 : Nat) : Int) := by omega
        rw [wi]
        by_cases hmore : ((i + 1 : Nat) : Int) < (ls.length : Int)
        · rw [if_pos (show 0 < (ls.drop (i + 1)).length by simp; omega)]
          exact Ev.pos hmore (ih (i + 1) (a + e) (c + q) (by omega) (by omega) (by omega) (by omega))
        · rw [if_neg (show ¬ 0 < (ls.drop (i + 1)).length by simp; omega)]
          exact Ev.neg hmore (ih (i + 1) (a + e) c (by omega) (by omega) (by omega) (by omega))
    · rw [if_neg hin]
      refine Ev.neg (by simpa using hin) (Ev.up ?_)
      simp only [impl_WrapCost.j1, if_true]
      exact Ev.now _
noncomputable def costM (ws : List ByteArray) (n : Int) (ls : List Int) : Int := open Classical in if fit ws n then costL ws n ls 0 0 else -1
open Classical in
theorem impl_cost (ws : List ByteArray) (n : Int) (ls : List Int) (hz : sized ws) (hl : ls.length ≤ 140737488355328) : Ev (fun k => impl_WrapCost.f k ws n ls) (costM ws n ls) := by
  unfold impl_WrapCost.f costM
  refine Ev.bind (impl_fit ws n hz) ?_
  by_cases h : fit ws n
  · rw [if_pos h]
    have := impl_cost_loop h ls hl ls.length 0 0 0 (by omega) (by omega) (by omega) (by omega)
    rw [List.drop_zero] at this
    exact Ev.pos (decide_eq_true h) this
  · rw [if_neg h]
    exact Ev.neg (by simp [h]) (Ev.now _)
theorem sized_of {ws : List ByteArray} (hw : narrow ws) : sized ws := ⟨by have := hw.1; omega, fun w h => by have := hw.2 w h; omega⟩
/-! ## sameInts -/
theorem sameInts_ev (ws : List Int) (hl : ws.length ≤ 1048576) : Ev (fun k => laws_sameInts.f k ws ws) true := by
  unfold laws_sameInts.f
  refine Ev.pos rfl ?_
  refine ev_scan (L := fun k i => laws_sameInts.l0 k ws ws i) (n := ws.length) (fun _ => True) ?_ (fun i _ _ h => absurd trivial h) ?_
  · intro i hi _ h
    have h1 : wrap64 ((i : Int) + 1) = i + 1 := w64 (by omega) (by omega)
    refine Ev.up ?_
    simp only [laws_sameInts.l0, h1]
    exact Ev.pos (by omega) (Ev.pos (by omega) (Ev.pos (by omega) (Ev.pos trivial h)))
  · intro _
    refine Ev.up ?_
    simp only [laws_sameInts.l0]
    exact Ev.neg (by omega) (Ev.now _)
/-! ## a line with a word more -/
theorem len_snoc (ws : List ByteArray) (a j : Nat) (h : a ≤ j) (hj : j < ws.length) : len ws a ((j + 1 : Nat) : Int) = len ws a (j : Int) + ((ws[j]).size : Int) + 1 := by
  unfold len
  rw [Int.toNat_natCast, Int.toNat_natCast, Int.toNat_natCast, List.take_succ_eq_append_getElem hj, List.drop_append_of_le_length (by simp; omega)]
  simp only [tot, List.map_append, List.map_cons, List.map_nil, List.sum_append, List.sum_cons, List.sum_nil]
  omega
/-! ## lines of least cost, in plain terms -/
theorem len_cons (ws : List ByteArray) (a b : Nat) (h : a < b) (hb : b ≤ ws.length) : len ws (a : Int) (b : Int) = len ws ((a + 1 : Nat) : Int) (b : Int) + ((ws[a]).size : Int) + 1 := by
  unfold len
  rw [Int.toNat_natCast, Int.toNat_natCast, Int.toNat_natCast, seg_cons ws a b h hb]
  simp only [tot, List.map_cons, List.sum_cons]
  omega
theorem len_right (ws : List ByteArray) (a b : Nat) (hab : a ≤ b) (d : Nat) : b + d ≤ ws.length → len ws (a : Int) (b : Int) ≤ len ws (a : Int) ((b + d : Nat) : Int) := by
  induction d with
  | zero => intro _; exact Int.le_refl _
  | succ d ih =>
    intro h
    have h1 := len_snoc ws a (b + d) (by omega) (by omega)
    have h2 := ih (by omega)
    rw [show b + (d + 1) = b + d + 1 by omega, h1]
    omega
theorem len_left (ws : List ByteArray) (b : Nat) (hb : b ≤ ws.length) (d : Nat) : ∀ a : Nat, a + d ≤ b → len ws ((a + d : Nat) : Int) (b : Int) ≤ len ws (a : Int) (b : Int) := by
  induction d with
  | zero => intro a _; exact Int.le_refl _
  | succ d ih =>
    intro a h
    have h1 := len_cons ws a b (by omega) hb
    have h2 := ih (a + 1) (by omega)
    rw [show a + (d + 1) = a + 1 + d by omega, h1]
    omega
def cand (ws : List ByteArray) (w : Int) (B : Nat → Int) (a m : Nat) : Int :=
  if a + m = ws.length then 0 else (w - len ws (a : Int) ((a + m : Nat) : Int)) * (w - len ws (a : Int) ((a + m : Nat) : Int)) + B (a + m)
def scan (ws : List ByteArray) (w : Int) (B : Nat → Int) (a : Nat) : Nat → Nat → Int × Int → Int × Int
  | 0, _, s => s
  | d + 1, m, s => if len ws (a : Int) ((a + m : Nat) : Int) ≤ w then scan ws w B a d (m + 1) (if s.1 < 0 ∨ cand ws w B a m ≤ s.1 then (cand ws w B a m, ((m : Nat) : Int)) else s) else s
theorem scan_step (ws : List ByteArray) (w : Int) (B : Nat → Int) (a d m : Nat) (s : Int × Int) : scan ws w B a (d + 1) m s = if len ws (a : Int) ((a + m : Nat) : Int) ≤ w then scan ws w B a d (m + 1) (if s.1 < 0 ∨ cand ws w B a m ≤ s.1 then (cand ws w B a m, ((m : Nat) : Int)) else s) else s := rfl
def tab (ws : List ByteArray) (w : Int) : Nat → Nat → Int × Int
  | 0 => fun _ => (0, 0)
  | d + 1 => fun j => if j + (d + 1) = ws.length then scan ws w (fun j => (tab ws w d j).1) j (d + 1) 1 (-1, 0) else tab ws w d j
theorem tab_step (ws : List ByteArray) (w : Int) (d j : Nat) : tab ws w (d + 1) j = if j + (d + 1) = ws.length then scan ws w (fun j => (tab ws w d j).1) j (d + 1) 1 (-1, 0) else tab ws w d j := rfl
theorem tab_low (ws : List ByteArray) (w : Int) (j : Nat) (d : Nat) : j + d < ws.length → tab ws w d j = (0, 0) := by
  induction d with
  | zero => intro _; rfl
  | succ d ih => intro h; rw [tab_step, if_neg (by omega)]; exact ih (by omega)
theorem tab_end (ws : List ByteArray) (w : Int) (j : Nat) (h : ws.length ≤ j) (d : Nat) : tab ws w d j = (0, 0) := by
  induction d with
  | zero => rfl
  | succ d ih => rw [tab_step, if_neg (by omega)]; exact ih
theorem tab_up (ws : List ByteArray) (w : Int) (j d : Nat) (h : ws.length ≤ j + d) (e : Nat) : tab ws w (d + e) j = tab ws w d j := by
  induction e with
  | zero => rfl
  | succ e ih =>
    rw [show d + (e + 1) = d + e + 1 by omega, tab_step, if_neg (by omega)]
    exact ih
def good (ws : List ByteArray) (w : Int) (B : Nat → Int) (a : Nat) (r : Int × Int) : Prop :=
  ∃ m : Nat, 1 ≤ m ∧ a + m ≤ ws.length ∧ r.2 = ((m : Nat) : Int) ∧ len ws (a : Int) ((a + m : Nat) : Int) ≤ w ∧ r.1 = cand ws w B a m
def topB (ws : List ByteArray) (B : Nat → Int) (a : Nat) : Prop := ∀ j : Nat, a < j → j ≤ ws.length → 0 ≤ B j ∧ B j ≤ 1600 * ((ws.length : Int) - j)
theorem cand_in {ws : List ByteArray} {w : Int} (hf : fit ws w) {B : Nat → Int} {a : Nat} (hB : topB ws B a) (m : Nat) (h1 : 1 ≤ m) (h2 : a + m ≤ ws.length) (h3 : len ws (a : Int) ((a + m : Nat) : Int) ≤ w) :
    0 ≤ cand ws w B a m ∧ cand ws w B a m ≤ 1600 * ((ws.length : Int) - a) := by
  have hw := hf.1
  have hl := len_in (narrow_of hf) a (a + m) (by omega) h2
  have hsq := sq_in (w - len ws (a : Int) ((a + m : Nat) : Int)) (by omega) (by omega)
  have hb := hB (a + m) (by omega) h2
  unfold cand
  split
  · omega
  · omega
theorem scan_min {ws : List ByteArray} {w : Int} (hf : fit ws w) {B : Nat → Int} {a : Nat} (hB : topB ws B a) (d : Nat) : ∀ (m : Nat) (s : Int × Int), a + m + d = ws.length + 1 → 1 ≤ m →
    (∀ m' : Nat, 1 ≤ m' → m' < m → len ws (a : Int) ((a + m' : Nat) : Int) ≤ w → 0 ≤ s.1 ∧ s.1 ≤ cand ws w B a m') →
    (∀ m' : Nat, 1 ≤ m' → a + m' ≤ ws.length → len ws (a : Int) ((a + m' : Nat) : Int) ≤ w → 0 ≤ (scan ws w B a d m s).1 ∧ (scan ws w B a d m s).1 ≤ cand ws w B a m') ∧
    (scan ws w B a d m s = s ∨ good ws w B a (scan ws w B a d m s)) := by
  induction d with
  | zero =>
    intro m s hd hm hlow
    exact ⟨fun m' h1 h2 h3 => hlow m' h1 (by omega) h3, .inl rfl⟩
  | succ d ih =>
    intro m s hd hm hlow
    rw [scan_step]
    by_cases hc : len ws (a : Int) ((a + m : Nat) : Int) ≤ w
    · rw [if_pos hc]
      have hin := cand_in hf hB m hm (by omega) hc
      by_cases hu : s.1 < 0 ∨ cand ws w B a m ≤ s.1
      · rw [if_pos hu]
        have h := ih (m + 1) (cand ws w B a m, ((m : Nat) : Int)) (by omega) (by omega) (fun m' h1 h2 h3 => by
          refine ⟨hin.1, ?_⟩
          dsimp only
          by_cases e : m' = m
          · subst e; exact Int.le_refl _
          · have := hlow m' h1 (by omega) h3
            omega)
        refine ⟨h.1, .inr ?_⟩
        rcases h.2 with e | e
        · rw [e]
          exact ⟨m, hm, by omega, rfl, hc, rfl⟩
        · exact e
      · rw [if_neg hu]
        refine ih (m + 1) s (by omega) (by omega) (fun m' h1 h2 h3 => ?_)
        by_cases e : m' = m
        · subst e; omega
        · exact hlow m' h1 (by omega) h3
    · rw [if_neg hc]
      refine ⟨fun m' h1 h2 h3 => ?_, .inl rfl⟩
      by_cases e : m' < m
      · exact hlow m' h1 e h3
      · have := len_right ws a (a + m) (by omega) (m' - m) (by omega)
        rw [show a + m + (m' - m) = a + m' by omega] at this
        omega
theorem one_fits {ws : List ByteArray} {w : Int} (hf : fit ws w) (a : Nat) (ha : a < ws.length) : len ws (a : Int) ((a + 1 : Nat) : Int) ≤ w := by
  rw [len_snoc ws a a (Nat.le_refl _) ha]
  have h1 := (hf.2.2 _ (List.getElem_mem ha)).1
  have h2 : len ws a (a : Int) = -1 := by
    unfold len
    rw [Int.toNat_natCast, List.drop_of_length_le (by simp; omega)]
    simp [tot]
  omega
theorem scan_good {ws : List ByteArray} {w : Int} (hf : fit ws w) {B : Nat → Int} {a : Nat} (ha : a < ws.length) (hB : topB ws B a) (d : Nat) (hd : a + d = ws.length) :
    good ws w B a (scan ws w B a d 1 (-1, 0)) ∧ ∀ m' : Nat, 1 ≤ m' → a + m' ≤ ws.length → len ws (a : Int) ((a + m' : Nat) : Int) ≤ w → (scan ws w B a d 1 (-1, 0)).1 ≤ cand ws w B a m' := by
  have h := scan_min hf hB d 1 (-1, 0) (by omega) (by omega) (fun m' h1 h2 _ => by omega)
  refine ⟨?_, fun m' h1 h2 h3 => (h.1 m' h1 h2 h3).2⟩
  rcases h.2 with e | e
  · have := (h.1 1 (by omega) (by omega) (one_fits hf a ha)).1
    rw [e] at this
    exact absurd this (by decide)
  · exact e
theorem tab_in {ws : List ByteArray} {w : Int} (hf : fit ws w) (d : Nat) : ∀ j : Nat, ws.length ≤ j + d → j ≤ ws.length → 0 ≤ (tab ws w d j).1 ∧ (tab ws w d j).1 ≤ 1600 * ((ws.length : Int) - j) := by
  induction d with
  | zero =>
    intro j h1 h2
    rw [tab_end ws w j (by omega)]
    dsimp only
    omega
  | succ d ih =>
    intro j h1 h2
    rw [tab_step]
    split
    · rename_i e
      have hB : topB ws (fun j => (tab ws w d j).1) j := fun i hi hi2 => ih i (by omega) hi2
      obtain ⟨⟨m, hm1, hm2, hm3, hm4, hm5⟩, _⟩ := scan_good hf (a := j) (by omega) hB (d + 1) (by omega)
      rw [hm5]
      exact cand_in hf hB m hm1 hm2 hm4
    · exact ih j (by omega) h2
theorem cand_congr (ws : List ByteArray) (w : Int) (B C : Nat → Int) (a m : Nat) (h : B (a + m) = C (a + m)) : cand ws w B a m = cand ws w C a m := by
  unfold cand
  rw [h]
def bestB (ws : List ByteArray) (w : Int) (a : Nat) : Int := (tab ws w ws.length a).1
def bestT (ws : List ByteArray) (w : Int) (a : Nat) : Int := (tab ws w ws.length a).2
theorem best_in {ws : List ByteArray} {w : Int} (hf : fit ws w) (a : Nat) (ha : a ≤ ws.length) : 0 ≤ bestB ws w a ∧ bestB ws w a ≤ 1600 * ((ws.length : Int) - a) := tab_in hf ws.length a (by omega) ha
theorem best_end (ws : List ByteArray) (w : Int) : bestB ws w ws.length = 0 := by
  unfold bestB
  rw [tab_end ws w ws.length (Nat.le_refl _)]
theorem best_good {ws : List ByteArray} {w : Int} (hf : fit ws w) (a : Nat) (ha : a < ws.length) :
    (∃ m : Nat, 1 ≤ m ∧ a + m ≤ ws.length ∧ bestT ws w a = ((m : Nat) : Int) ∧ len ws (a : Int) ((a + m : Nat) : Int) ≤ w ∧ bestB ws w a = cand ws w (bestB ws w) a m) ∧
    ∀ m' : Nat, 1 ≤ m' → a + m' ≤ ws.length → len ws (a : Int) ((a + m' : Nat) : Int) ≤ w → bestB ws w a ≤ cand ws w (bestB ws w) a m' := by
  obtain ⟨d, hd⟩ : ∃ d, a + (d + 1) = ws.length := ⟨ws.length - a - 1, by omega⟩
  have e1 : tab ws w ws.length a = scan ws w (fun j => (tab ws w d j).1) a (d + 1) 1 (-1, 0) := by
    have := tab_up ws w a (d + 1) (by omega) a
    rw [show d + 1 + a = ws.length by omega] at this
    rw [this, tab_step, if_pos hd]
  have e2 : ∀ m : Nat, 1 ≤ m → a + m ≤ ws.length → (tab ws w d (a + m)).1 = bestB ws w (a + m) := fun m h1 h2 => by
    have := tab_up ws w (a + m) d (by omega) (ws.length - d)
    rw [show d + (ws.length - d) = ws.length by omega] at this
    unfold bestB
    rw [this]
  have e3 : ∀ m : Nat, 1 ≤ m → a + m ≤ ws.length → cand ws w (fun j => (tab ws w d j).1) a m = cand ws w (bestB ws w) a m := fun m h1 h2 => cand_congr _ _ _ _ _ _ (e2 m h1 h2)
  have hB : topB ws (fun j => (tab ws w d j).1) a := fun i hi hi2 => tab_in hf d i (by omega) hi2
  obtain ⟨⟨m, hm1, hm2, hm3, hm4, hm5⟩, hmin⟩ := scan_good hf ha hB (d + 1) hd
  rw [← e1] at hm3 hm5 hmin
  refine ⟨⟨m, hm1, hm2, hm3, hm4, ?_⟩, fun m' h1 h2 h3 => ?_⟩
  · rw [← e3 m hm1 hm2]; exact hm5
  · rw [← e3 m' h1 h2]; exact hmin m' h1 h2 h3
def outL (ws : List ByteArray) (w : Int) : Nat → Nat → List Int
  | 0, _ => []
  | f + 1, a => if a < ws.length then bestT ws w a :: outL ws w f (a + (bestT ws w a).toNat) else []
theorem outL_step (ws : List ByteArray) (w : Int) (f a : Nat) : outL ws w (f + 1) a = if a < ws.length then bestT ws w a :: outL ws w f (a + (bestT ws w a).toNat) else [] := rfl
theorem outL_length (ws : List ByteArray) (w : Int) : ∀ f a : Nat, (outL ws w f a).length ≤ f
  | 0, _ => by simp [outL]
  | f + 1, a => by
    rw [outL_step]
    split
    · have := outL_length ws w f (a + (bestT ws w a).toNat)
      simp only [List.length_cons]
      omega
    · simp
theorem outL_pos {ws : List ByteArray} {w : Int} (f a : Nat) (h : a < ws.length) : 0 < (outL ws w (f + 1) a).length := by
  rw [outL_step, if_pos h]
  simp
theorem cost_out {ws : List ByteArray} {w : Int} (hf : fit ws w) (f : Nat) : ∀ (a : Nat) (c : Int), a ≤ ws.length → ws.length ≤ a + f → costL ws w (outL ws w f a) a c = c + bestB ws w a := by
  induction f with
  | zero =>
    intro a c h1 h2
    obtain rfl : a = ws.length := by omega
    rw [outL, costL, if_pos rfl, best_end]
    omega
  | succ f ih =>
    intro a c h1 h2
    rw [outL_step]
    by_cases ha : a < ws.length
    · rw [if_pos ha, costL]
      obtain ⟨⟨m, hm1, hm2, hm3, hm4, hm5⟩, _⟩ := best_good hf a ha
      rw [hm3, Int.toNat_natCast, if_pos (by omega), show (a : Int) + (m : Int) = ((a + m : Nat) : Int) by omega, if_neg (by omega), hm5]
      unfold cand
      by_cases he : a + m = ws.length
      · rw [if_pos he]
        have hnil : outL ws w f (a + m) = [] := by
          cases f with
          | zero => rfl
          | succ f => rw [outL_step, if_neg (by omega)]
        rw [hnil, if_neg (by simp), costL, if_pos (by omega)]
        omega
      · rw [if_neg he]
        have hp : 0 < (outL ws w f (a + m)).length := by
          cases f with
          | zero => omega
          | succ f => exact outL_pos f (a + m) (by omega)
        rw [if_pos hp, ih (a + m) _ hm2 (by omega)]
        omega
    · obtain rfl : a = ws.length := by omega
      rw [if_neg ha, costL, if_pos rfl, best_end]
      omega
theorem cost_min {ws : List ByteArray} {w : Int} (hf : fit ws w) : ∀ (ls : List Int) (a : Nat) (c : Int), a ≤ ws.length → costL ws w ls a c ≠ -1 → c + bestB ws w a ≤ costL ws w ls a c
  | [], a, c => fun ha h => by
    rw [costL] at h ⊢
    by_cases e : (a : Int) = (ws.length : Int)
    · obtain rfl : a = ws.length := by omega
      rw [if_pos e, best_end]
      omega
    · rw [if_neg e] at h
      exact absurd rfl h
  | x :: r, a, c => fun ha h => by
    rw [costL] at h ⊢
    by_cases hx : 1 ≤ x ∧ x ≤ (ws.length : Int) - a
    · rw [if_pos hx] at h ⊢
      obtain ⟨m, rfl⟩ := Int.eq_ofNat_of_zero_le (show 0 ≤ x by omega)
      have e : (a : Int) + (m : Int) = ((a + m : Nat) : Int) := by omega
      rw [e] at h ⊢
      by_cases hl : len ws (a : Int) ((a + m : Nat) : Int) > w
      · rw [if_pos hl] at h
        exact absurd rfl h
      · rw [if_neg hl] at h ⊢
        have hm := (best_good hf a (by omega)).2 m (by omega) (by omega) (by omega)
        have hq : 0 ≤ (w - len ws (a : Int) ((a + m : Nat) : Int)) * (w - len ws (a : Int) ((a + m : Nat) : Int)) := Int.mul_nonneg (by omega) (by omega)
        unfold cand at hm
        generalize (w - len ws (a : Int) ((a + m : Nat) : Int)) * (w - len ws (a : Int) ((a + m : Nat) : Int)) = q at h hm hq ⊢
        by_cases hr : 0 < r.length
        · rw [if_pos hr] at h ⊢
          have ih := cost_min hf r (a + m) (c + q) (by omega) h
          by_cases he : a + m = ws.length
          · rw [if_pos he] at hm
            have h0 : bestB ws w (a + m) = 0 := by rw [he, best_end]
            omega
          · rw [if_neg he] at hm
            omega
        · rw [if_neg hr] at h ⊢
          have ih := cost_min hf r (a + m) c (by omega) h
          obtain rfl : r = [] := List.eq_nil_of_length_eq_zero (by omega)
          rw [costL] at h ih ⊢
          by_cases he : ((a + m : Nat) : Int) = (ws.length : Int)
          · rw [if_pos (by omega)] at hm
            rw [if_pos he]
            omega
          · rw [if_neg he] at h
            exact absurd rfl h
    · rw [if_neg hx] at h
      exact absurd rfl h
noncomputable def linesM (ws : List ByteArray) (n : Int) : List Int := open Classical in if fit ws n then outL ws n ws.length 0 else []
theorem linesM_length (ws : List ByteArray) (n : Int) : (linesM ws n).length ≤ 20 := by
  unfold linesM
  split
  · rename_i h
    have := outL_length ws n ws.length 0
    have := h.2.1
    omega
  · simp
/-! ## WrapLines: the tables of the program and of the reference -/
theorem rd_set_self (b : List Int) (a : Nat) (c : Int) (h : a < b.length) : rd (b.set a c) (a : Int) = c := by
  rw [rd_at _ _ (by simpa using h)]
  simp
theorem rd_set_ne (b : List Int) (a i : Nat) (c : Int) (hi : i < b.length) (h : a ≠ i) : rd (b.set a c) (i : Int) = rd b (i : Int) := by
  rw [rd_at _ _ (by simpa using hi), rd_at _ _ hi]
  simp [List.getElem_set_ne h]
theorem cand_at (ws : List ByteArray) (w : Int) (B : Nat → Int) (a m : Nat) : cand ws w B a m = if a + m = ws.length then 0 else (w - len ws (a : Int) ((a + m : Nat) : Int)) * (w - len ws (a : Int) ((a + m : Nat) : Int)) + B (a + m) := rfl
theorem impl_wl_in {ws : List ByteArray} {w : Int} (hf : fit ws w) (b t : List Int) (hb : b.length = ws.length + 1) (ht : t.length = ws.length + 1) (a : Nat) (ha : a < ws.length) (hB : topB ws (fun j => rd b (j : Int)) a) (r : List Int) (d : Nat) :
    ∀ (m : Nat) (s : Int × Int), a + m + d = ws.length + 1 → 1 ≤ m →
    Ev (fun k => impl_WrapLines.l0 k ws w (b.set a (scan ws w (fun j => rd b (j : Int)) a d m s).1) (t.set a (scan ws w (fun j => rd b (j : Int)) a d m s).2) ((a : Int) - 1)) r →
    Ev (fun k => impl_WrapLines.l1 k ws w (b.set a s.1) (t.set a s.2) a m) r := by
  have hw := narrow_of hf
  have h20 := hf.2.1
  have hn := hf.1
  have wm : ∀ _ : Unit, wrap64 ((a : Int) - 1) = (a : Int) - 1 := fun _ => w64 (by omega) (by omega)
  induction d with
  | zero =>
    intro m s hd hm hr
    have w1 : wrap64 ((a : Int) + m) = ((a + m : Nat) : Int) := by rw [w64] <;> omega
    refine Ev.up ?_
    simp only [impl_WrapLines.l1, w1]
    clear w1
    refine Ev.neg (by omega) (Ev.up ?_)
    simp only [impl_WrapLines.j2, Bool.false_eq_true, if_false, wm ()]
    exact hr
  | succ d ih =>
    intro m s hd hm hr
    have w1 : ∀ _ : Unit, wrap64 ((a : Int) + m) = ((a + m : Nat) : Int) := fun _ => by rw [w64] <;> omega
    have w2 : ∀ _ : Unit, wrap64 ((m : Int) + 1) = ((m + 1 : Nat) : Int) := fun _ => by rw [w64] <;> omega
    have hL := impl_len hw a (a + m) (by omega) (by omega)
    have hLi := len_in hw a (a + m) (by omega) (by omega)
    rw [scan_step] at hr
    refine Ev.up ?_
    simp only [impl_WrapLines.l1, w1 (), Int.toNat_natCast, hL, Option.bind_some]
    refine Ev.pos (by omega) (Ev.pos (by omega) (Ev.pos (by omega) ?_))
    by_cases hc : len ws (a : Int) ((a + m : Nat) : Int) ≤ w
    · rw [if_pos hc] at hr
      have hb0 := hB (a + m) (by omega) (by omega)
      have hsq := sq_in (w - len ws (a : Int) ((a + m : Nat) : Int)) (by omega) (by omega)
      have w3 : ∀ _ : Unit, wrap64 (w - len ws (a : Int) ((a + m : Nat) : Int)) = w - len ws (a : Int) ((a + m : Nat) : Int) := fun _ => w64 (by omega) (by omega)
      have hra : rd (b.set a s.1) (a : Int) = s.1 := rd_set_self b a s.1 (by omega)
      have hrm : rd (b.set a s.1) ((a + m : Nat) : Int) = rd b ((a + m : Nat) : Int) := rd_set_ne b a (a + m) s.1 (by omega) (by omega)
      have next : ∀ s' : Int × Int, (if s.1 < 0 ∨ cand ws w (fun j => rd b (j : Int)) a m ≤ s.1 then (cand ws w (fun j => rd b (j : Int)) a m, ((m : Nat) : Int)) else s) = s' →
          Ev (fun k => impl_WrapLines.l1 k ws w (b.set a s'.1) (t.set a s'.2) a ((m + 1 : Nat) : Int)) r := by
        intro s' e
        rw [e] at hr
        exact ih (m + 1) s' (by omega) (by omega) hr
      have yes : s.1 < 0 ∨ cand ws w (fun j => rd b (j : Int)) a m ≤ s.1 → Ev (fun k => impl_WrapLines.l1 k ws w (b.set a (cand ws w (fun j => rd b (j : Int)) a m)) (t.set a ((m : Nat) : Int)) a ((m + 1 : Nat) : Int)) r := fun h => next _ (if_pos h)
      have no : ¬ (s.1 < 0 ∨ cand ws w (fun j => rd b (j : Int)) a m ≤ s.1) → Ev (fun k => impl_WrapLines.l1 k ws w (b.set a s.1) (t.set a s.2) a ((m + 1 : Nat) : Int)) r := fun h => next _ (if_neg h)
      clear next hr ih
      rw [cand_at] at yes no
      refine Ev.up ?_
      simp only [impl_WrapLines.j2, decide_eq_true hc, if_true, w1 (), w2 (), Int.toNat_natCast, hL, Option.bind_some, w3 (), hra, hrm, List.set_set, List.length_set]
      generalize (w - len ws (a : Int) ((a + m : Nat) : Int)) * (w - len ws (a : Int) ((a + m : Nat) : Int)) = q at hsq yes no ⊢
      have w4 : ∀ _ : Unit, wrap64 q = q := fun _ => w64 (by omega) (by omega)
      have w5 : ∀ _ : Unit, wrap64 (q + rd b ((a + m : Nat) : Int)) = q + rd b ((a + m : Nat) : Int) := fun _ => w64 (by dsimp only at hb0; omega) (by dsimp only at hb0; omega)
      simp only [w4 (), w5 ()]
      refine Ev.pos (by omega) (Ev.pos (by omega) (Ev.pos (by omega) (Ev.pos (by omega) (Ev.pos (by omega) ?_))))
      by_cases he : a + m = ws.length
      · rw [if_pos he] at yes no
        refine Ev.pos (by omega) (Ev.pos (by omega) ?_)
        by_cases c1 : s.1 < 0
        · exact Ev.pos c1 (Ev.pos (by omega) (yes (.inl c1)))
        · refine Ev.neg c1 ?_
          by_cases c2 : 0 ≤ s.1
          · exact Ev.pos c2 (Ev.pos (by omega) (yes (.inr c2)))
          · exact absurd c1 (by omega)
      · rw [if_neg he] at yes no
        refine Ev.neg (by omega) (Ev.pos (by omega) ?_)
        by_cases c1 : s.1 < 0
        · exact Ev.pos c1 (Ev.pos (by omega) (yes (.inl c1)))
        · refine Ev.neg c1 ?_
          by_cases c2 : q + rd b ((a + m : Nat) : Int) ≤ s.1
          · exact Ev.pos c2 (Ev.pos (by omega) (yes (.inr c2)))
          · exact Ev.neg c2 (no (fun h => h.elim c1 c2))
    · rw [if_neg hc] at hr
      refine Ev.up ?_
      simp only [impl_WrapLines.j2, decide_eq_false hc, Bool.false_eq_true, if_false, wm ()]
      exact hr
def tb (ws : List ByteArray) (w : Int) (d : Nat) : List Int := (List.range (ws.length + 1)).map fun j => (tab ws w d j).1
def tt (ws : List ByteArray) (w : Int) (d : Nat) : List Int := (List.range (ws.length + 1)).map fun j => (tab ws w d j).2
theorem tb_length (ws : List ByteArray) (w : Int) (d : Nat) : (tb ws w d).length = ws.length + 1 := by simp [tb]
theorem tt_length (ws : List ByteArray) (w : Int) (d : Nat) : (tt ws w d).length = ws.length + 1 := by simp [tt]
theorem rd_tb (ws : List ByteArray) (w : Int) (d j : Nat) : rd (tb ws w d) (j : Int) = (tab ws w d j).1 := by
  by_cases hj : j < ws.length + 1
  · rw [rd_at _ _ (by rw [tb_length]; exact hj)]
    simp [tb]
  · rw [tab_end ws w j (by omega)]
    simp [rd, tb, hj, List.getD_eq_getElem?_getD]
theorem rd_tt (ws : List ByteArray) (w : Int) (d j : Nat) (hj : j < ws.length + 1) : rd (tt ws w d) (j : Int) = (tab ws w d j).2 := by
  rw [rd_at _ _ (by rw [tt_length]; exact hj)]
  simp [tt]
theorem tb_zero (ws : List ByteArray) (w : Int) : List.replicate (ws.length + 1) 0 = tb ws w 0 := by
  apply List.ext_getElem (by simp [tb])
  intro i h1 h2
  simp [tb, tab]
theorem tt_zero (ws : List ByteArray) (w : Int) : List.replicate (ws.length + 1) 0 = tt ws w 0 := by
  apply List.ext_getElem (by simp [tt])
  intro i h1 h2
  simp [tt, tab]
theorem tb_step (ws : List ByteArray) (w : Int) (d a : Nat) (h : a + (d + 1) = ws.length) : (tb ws w d).set a (scan ws w (fun j => (tab ws w d j).1) a (d + 1) 1 (-1, 0)).1 = tb ws w (d + 1) := by
  apply List.ext_getElem (by simp [tb])
  intro i h1 h2
  rw [List.getElem_set]
  split
  · rename_i e
    subst e
    simp [tb, tab_step, h]
  · rename_i e
    simp only [tb, List.getElem_map, List.getElem_range, tab_step]
    rw [if_neg (by omega)]
theorem tt_step (ws : List ByteArray) (w : Int) (d a : Nat) (h : a + (d + 1) = ws.length) : (tt ws w d).set a (scan ws w (fun j => (tab ws w d j).1) a (d + 1) 1 (-1, 0)).2 = tt ws w (d + 1) := by
  apply List.ext_getElem (by simp [tt])
  intro i h1 h2
  rw [List.getElem_set]
  split
  · rename_i e
    subst e
    simp [tt, tab_step, h]
  · rename_i e
    simp only [tt, List.getElem_map, List.getElem_range, tab_step]
    rw [if_neg (by omega)]
theorem tt_low (ws : List ByteArray) (w : Int) (d a : Nat) (h : a + (d + 1) = ws.length) : (tt ws w d).set a 0 = tt ws w d := by
  apply List.ext_getElem (by simp)
  intro i h1 h2
  rw [List.getElem_set]
  split
  · rename_i e
    subst e
    simp [tt, tab_low ws w a d (by omega)]
  · rfl
theorem impl_wl_out {ws : List ByteArray} {w : Int} (hf : fit ws w) (f : Nat) : ∀ (a : Nat) (acc : List Int), a ≤ ws.length → ws.length ≤ a + f → acc.length ≤ 100 - f → f ≤ 20 →
    Ev (fun k => impl_WrapLines.l2 k ws (tt ws w ws.length) acc a) (acc ++ outL ws w f a) := by
  have h20 := hf.2.1
  have stop : ∀ (a : Nat) (acc : List Int), a = ws.length → acc.length ≤ 1000 → Ev (fun k => impl_WrapLines.l2 k ws (tt ws w ws.length) acc a) acc := by
    intro a acc h hl
    refine Ev.up ?_
    simp only [impl_WrapLines.l2, impl_copied_int.f]
    refine Ev.neg (by omega) ?_
    rw [if_pos (by omega), Option.bind_some]
    exact Ev.now _
  induction f with
  | zero =>
    intro a acc ha h2 hl _
    rw [outL, List.append_nil]
    exact stop a acc (by omega) (by omega)
  | succ f ih =>
    intro a acc ha h2 hl hf20
    rw [outL_step]
    by_cases hlt : a < ws.length
    · rw [if_pos hlt]
      obtain ⟨⟨m, hm1, hm2, hm3, _, _⟩, _⟩ := best_good hf a hlt
      have hrd : rd (tt ws w ws.length) (a : Int) = bestT ws w a := rd_tt ws w ws.length a (by omega)
      have wa : ∀ _ : Unit, wrap64 ((a : Int) + (m : Int)) = ((a + m : Nat) : Int) := fun _ => by rw [w64] <;> omega
      have h1 := ih (a + m) (acc ++ [bestT ws w a]) hm2 (by omega) (by simp; omega) (by omega)
      rw [List.append_assoc] at h1
      have e : (bestT ws w a).toNat = m := by rw [hm3, Int.toNat_natCast]
      rw [e]
      rw [hm3] at h1 hrd ⊢
      refine Ev.up ?_
      simp only [impl_WrapLines.l2, hrd, wa (), tt_length]
      exact Ev.pos (by omega) (Ev.pos (by omega) (Ev.pos (by omega) (Ev.pos (by omega) h1)))
    · rw [if_neg hlt, List.append_nil]
      exact stop a acc (by omega) (by omega)
theorem impl_wl_outer {ws : List ByteArray} {w : Int} (hf : fit ws w) (a : Nat) : ∀ d : Nat, a + d = ws.length →
    Ev (fun k => impl_WrapLines.l0 k ws w (tb ws w d) (tt ws w d) ((a : Int) - 1)) (outL ws w ws.length 0) := by
  have h20 := hf.2.1
  induction a with
  | zero =>
    intro d hd
    obtain rfl : d = ws.length := by omega
    have h := impl_wl_out hf ws.length 0 [] (by omega) (by omega) (by simp) (by omega)
    rw [List.nil_append] at h
    refine Ev.up ?_
    simp only [impl_WrapLines.l0]
    exact Ev.neg (by omega) h
  | succ a ih =>
    intro d hd
    have h := ih (d + 1) (by omega)
    have hB : topB ws (fun j => rd (tb ws w d) (j : Int)) a := fun j h1 h2 => by
      dsimp only
      rw [rd_tb]
      exact tab_in hf d j (by omega) h2
    have e : (fun j : Nat => rd (tb ws w d) (j : Int)) = fun j => (tab ws w d j).1 := funext fun j => rd_tb ws w d j
    have hin := impl_wl_in hf (tb ws w d) (tt ws w d) (tb_length ws w d) (tt_length ws w d) a (by omega) hB (outL ws w ws.length 0) (d + 1) 1 (-1, 0) (by omega) (by omega)
    rw [e, tb_step ws w d a (by omega), tt_step ws w d a (by omega)] at hin
    dsimp only at hin
    rw [tt_low ws w d a (by omega)] at hin
    have e1 : ((a + 1 : Nat) : Int) - 1 = (a : Int) := by omega
    rw [e1]
    refine Ev.up ?_
    simp only [impl_WrapLines.l0, tb_length, Int.toNat_natCast]
    exact Ev.pos (by omega) (Ev.pos (by omega) (Ev.pos (by omega) (hin h)))
open Classical in
theorem impl_lines (ws : List ByteArray) (n : Int) (hz : sized ws) : Ev (fun k => impl_WrapLines.f k ws n) (linesM ws n) := by
  unfold impl_WrapLines.f linesM
  refine Ev.bind (impl_fit ws n hz) ?_
  by_cases h : fit ws n
  · rw [if_pos h]
    have h20 := h.2.1
    have w1 : ∀ _ : Unit, wrap64 ((ws.length : Int) + 1) = ((ws.length + 1 : Nat) : Int) := fun _ => by rw [w64] <;> omega
    have w2 : ∀ _ : Unit, wrap64 ((ws.length : Int) - 1) = (ws.length : Int) - 1 := fun _ => w64 (by omega) (by omega)
    have := impl_wl_outer h ws.length 0 (by omega)
    rw [← tb_zero, ← tt_zero] at this
    refine Ev.pos (decide_eq_true h) ?_
    simp only [w1 (), w2 (), Int.toNat_natCast]
    exact Ev.pos (by omega) (Ev.pos (by omega) this)
  · rw [if_neg h]
    exact Ev.neg (by simp [h]) (Ev.now _)
/-! ## WrapLines: the reference -/
theorem spec_wl_in {ws : List ByteArray} {w : Int} (hf : fit ws w) (b t : List Int) (hb : b.length = ws.length + 1) (ht : t.length = ws.length + 1) (hend : rd b (ws.length : Int) = 0) (a : Nat) (ha : a < ws.length) (hB : topB ws (fun j => rd b (j : Int)) a) (r : List Int) (d : Nat) :
    ∀ (m : Nat) (s : Int × Int), a + m + d = ws.length + 1 → 1 ≤ m →
    Ev (fun k => spec_WrapLines.l0 k ws w ([] : List Int) (ws.length : Int) (b.set a (scan ws w (fun j => rd b (j : Int)) a d m s).1) (t.set a (scan ws w (fun j => rd b (j : Int)) a d m s).2) ((a : Int) - 1)) r →
    Ev (fun k => spec_WrapLines.l1 k ws w ([] : List Int) (ws.length : Int) (b.set a s.1) (t.set a s.2) a m) r := by
  have hw := narrow_of hf
  have h20 := hf.2.1
  have hn := hf.1
  have wm : ∀ _ : Unit, wrap64 ((a : Int) - 1) = (a : Int) - 1 := fun _ => w64 (by omega) (by omega)
  induction d with
  | zero =>
    intro m s hd hm hr
    have w1 : wrap64 ((a : Int) + m) = ((a + m : Nat) : Int) := by rw [w64] <;> omega
    refine Ev.up ?_
    simp only [spec_WrapLines.l1, w1]
    clear w1
    refine Ev.neg (by omega) (Ev.up ?_)
    simp only [spec_WrapLines.j2, Bool.false_eq_true, if_false, wm ()]
    exact hr
  | succ d ih =>
    intro m s hd hm hr
    have w1 : ∀ _ : Unit, wrap64 ((a : Int) + m) = ((a + m : Nat) : Int) := fun _ => by rw [w64] <;> omega
    have w2 : ∀ _ : Unit, wrap64 ((m : Int) + 1) = ((m + 1 : Nat) : Int) := fun _ => by rw [w64] <;> omega
    have hL := spec_len hw a (a + m) (by omega) (by omega)
    have hLi := len_in hw a (a + m) (by omega) (by omega)
    rw [scan_step] at hr
    refine Ev.up ?_
    simp only [spec_WrapLines.l1, w1 ()]
    refine Ev.pos (by omega) (Ev.bind hL ?_)
    by_cases hc : len ws (a : Int) ((a + m : Nat) : Int) ≤ w
    · rw [if_pos hc] at hr
      have hb0 := hB (a + m) (by omega) (by omega)
      have hsq := sq_in (w - len ws (a : Int) ((a + m : Nat) : Int)) (by omega) (by omega)
      have w3 : ∀ _ : Unit, wrap64 (w - len ws (a : Int) ((a + m : Nat) : Int)) = w - len ws (a : Int) ((a + m : Nat) : Int) := fun _ => w64 (by omega) (by omega)
      have hra : rd (b.set a s.1) (a : Int) = s.1 := rd_set_self b a s.1 (by omega)
      have hrm : rd (b.set a s.1) ((a + m : Nat) : Int) = rd b ((a + m : Nat) : Int) := rd_set_ne b a (a + m) s.1 (by omega) (by omega)
      have next : ∀ s' : Int × Int, (if s.1 < 0 ∨ cand ws w (fun j => rd b (j : Int)) a m ≤ s.1 then (cand ws w (fun j => rd b (j : Int)) a m, ((m : Nat) : Int)) else s) = s' →
          Ev (fun k => spec_WrapLines.l1 k ws w ([] : List Int) (ws.length : Int) (b.set a s'.1) (t.set a s'.2) a ((m + 1 : Nat) : Int)) r := by
        intro s' e
        rw [e] at hr
        exact ih (m + 1) s' (by omega) (by omega) hr
      have yes : s.1 < 0 ∨ cand ws w (fun j => rd b (j : Int)) a m ≤ s.1 → Ev (fun k => spec_WrapLines.l1 k ws w ([] : List Int) (ws.length : Int) (b.set a (cand ws w (fun j => rd b (j : Int)) a m)) (t.set a ((m : Nat) : Int)) a ((m + 1 : Nat) : Int)) r := fun h => next _ (if_pos h)
      have no : ¬ (s.1 < 0 ∨ cand ws w (fun j => rd b (j : Int)) a m ≤ s.1) → Ev (fun k => spec_WrapLines.l1 k ws w ([] : List Int) (ws.length : Int) (b.set a s.1) (t.set a s.2) a ((m + 1 : Nat) : Int)) r := fun h => next _ (if_neg h)
      clear next hr ih
      rw [cand_at] at yes no
      refine Ev.up ?_
      simp only [spec_WrapLines.j2, decide_eq_true hc, if_true, w1 (), w2 ()]
      refine Ev.bind hL ?_
      simp only [w3 (), hra, hrm, List.set_set, List.length_set, Int.toNat_natCast]
      generalize (w - len ws (a : Int) ((a + m : Nat) : Int)) * (w - len ws (a : Int) ((a + m : Nat) : Int)) = q at hsq yes no ⊢
      have w4 : ∀ _ : Unit, wrap64 q = q := fun _ => w64 (by omega) (by omega)
      have w5 : ∀ _ : Unit, wrap64 (rd b ((a + m : Nat) : Int) + q) = q + rd b ((a + m : Nat) : Int) := fun _ => by rw [w64 (by dsimp only at hb0; omega) (by dsimp only at hb0; omega)]; omega
      simp only [w4 (), w5 ()]
      refine Ev.pos (by omega) (Ev.pos (by omega) ?_)
      by_cases he : a + m = ws.length
      · rw [if_pos he] at yes no
        have hz : rd b ((a + m : Nat) : Int) = 0 := by rw [he]; exact hend
        rw [hz]
        refine Ev.neg (by omega) (Ev.pos (by omega) (Ev.pos (by omega) ?_))
        by_cases c1 : s.1 < 0
        · exact Ev.pos c1 (Ev.pos (by omega) (yes (.inl c1)))
        · refine Ev.neg c1 ?_
          by_cases c2 : 0 ≤ s.1
          · exact Ev.pos c2 (Ev.pos (by omega) (yes (.inr c2)))
          · exact absurd c1 (by omega)
      · rw [if_neg he] at yes no
        refine Ev.pos (by omega) (Ev.pos (by omega) (Ev.pos (by omega) ?_))
        by_cases c1 : s.1 < 0
        · exact Ev.pos c1 (Ev.pos (by omega) (yes (.inl c1)))
        · refine Ev.neg c1 ?_
          by_cases c2 : q + rd b ((a + m : Nat) : Int) ≤ s.1
          · exact Ev.pos c2 (Ev.pos (by omega) (yes (.inr c2)))
          · exact Ev.neg c2 (no (fun h => h.elim c1 c2))
    · rw [if_neg hc] at hr
      rw [decide_eq_false hc]
      refine Ev.up ?_
      simp only [spec_WrapLines.j2, Bool.false_eq_true, if_false, wm ()]
      exact hr
theorem spec_wl_out {ws : List ByteArray} {w : Int} (hf : fit ws w) (f : Nat) : ∀ (a : Nat) (acc : List Int), a ≤ ws.length → ws.length ≤ a + f → acc.length ≤ 100 - f → f ≤ 20 →
    Ev (fun k => spec_WrapLines.l2 k acc (ws.length : Int) (tt ws w ws.length) a) (acc ++ outL ws w f a) := by
  have h20 := hf.2.1
  have stop : ∀ (a : Nat) (acc : List Int), a = ws.length → acc.length ≤ 1000 → Ev (fun k => spec_WrapLines.l2 k acc (ws.length : Int) (tt ws w ws.length) a) acc := by
    intro a acc h hl
    refine Ev.up ?_
    simp only [spec_WrapLines.l2]
    exact Ev.neg (by omega) (Ev.now _)
  induction f with
  | zero =>
    intro a acc ha h2 hl _
    rw [outL, List.append_nil]
    exact stop a acc (by omega) (by omega)
  | succ f ih =>
    intro a acc ha h2 hl hf20
    rw [outL_step]
    by_cases hlt : a < ws.length
    · rw [if_pos hlt]
      obtain ⟨⟨m, hm1, hm2, hm3, _, _⟩, _⟩ := best_good hf a hlt
      have hrd : rd (tt ws w ws.length) (a : Int) = bestT ws w a := rd_tt ws w ws.length a (by omega)
      have wa : ∀ _ : Unit, wrap64 ((a : Int) + (m : Int)) = ((a + m : Nat) : Int) := fun _ => by rw [w64] <;> omega
      have h1 := ih (a + m) (acc ++ [bestT ws w a]) hm2 (by omega) (by simp; omega) (by omega)
      rw [List.append_assoc] at h1
      have e : (bestT ws w a).toNat = m := by rw [hm3, Int.toNat_natCast]
      rw [e]
      rw [hm3] at h1 hrd ⊢
      refine Ev.up ?_
      simp only [spec_WrapLines.l2, hrd, wa (), tt_length]
      exact Ev.pos (by omega) (Ev.pos (by omega) (Ev.pos (by omega) (Ev.pos (by omega) h1)))
    · rw [if_neg hlt, List.append_nil]
      exact stop a acc (by omega) (by omega)
theorem spec_wl_outer {ws : List ByteArray} {w : Int} (hf : fit ws w) (a : Nat) : ∀ d : Nat, a + d = ws.length →
    Ev (fun k => spec_WrapLines.l0 k ws w ([] : List Int) (ws.length : Int) (tb ws w d) (tt ws w d) ((a : Int) - 1)) (outL ws w ws.length 0) := by
  have h20 := hf.2.1
  induction a with
  | zero =>
    intro d hd
    obtain rfl : d = ws.length := by omega
    have h := spec_wl_out hf ws.length 0 [] (by omega) (by omega) (by simp) (by omega)
    rw [List.nil_append] at h
    refine Ev.up ?_
    simp only [spec_WrapLines.l0]
    exact Ev.neg (by omega) h
  | succ a ih =>
    intro d hd
    have h := ih (d + 1) (by omega)
    have hB : topB ws (fun j => rd (tb ws w d) (j : Int)) a := fun j h1 h2 => by
      dsimp only
      rw [rd_tb]
      exact tab_in hf d j (by omega) h2
    have e : (fun j : Nat => rd (tb ws w d) (j : Int)) = fun j => (tab ws w d j).1 := funext fun j => rd_tb ws w d j
    have hend : rd (tb ws w d) (ws.length : Int) = 0 := by rw [rd_tb, tab_end ws w ws.length (Nat.le_refl _)]
    have hin := spec_wl_in hf (tb ws w d) (tt ws w d) (tb_length ws w d) (tt_length ws w d) hend a (by omega) hB (outL ws w ws.length 0) (d + 1) 1 (-1, 0) (by omega) (by omega)
    rw [e, tb_step ws w d a (by omega), tt_step ws w d a (by omega)] at hin
    dsimp only at hin
    rw [tt_low ws w d a (by omega)] at hin
    have e1 : ((a + 1 : Nat) : Int) - 1 = (a : Int) := by omega
    rw [e1]
    refine Ev.up ?_
    simp only [spec_WrapLines.l0, tb_length, Int.toNat_natCast]
    exact Ev.pos (by omega) (Ev.pos (by omega) (Ev.pos (by omega) (hin h)))
open Classical in
theorem spec_lines (ws : List ByteArray) (n : Int) (hz : sized ws) : Ev (fun k => spec_WrapLines.f k ws n) (linesM ws n) := by
  unfold spec_WrapLines.f linesM
  simp only [Option.bind_some]
  refine Ev.bind (spec_fit ws n hz) ?_
  by_cases h : fit ws n
  · rw [if_pos h]
    have h20 := h.2.1
    have w1 : ∀ _ : Unit, wrap64 ((ws.length : Int) + 1) = ((ws.length + 1 : Nat) : Int) := fun _ => by rw [w64] <;> omega
    have w2 : ∀ _ : Unit, wrap64 ((ws.length : Int) - 1) = (ws.length : Int) - 1 := fun _ => w64 (by omega) (by omega)
    have := spec_wl_outer h ws.length 0 (by omega)
    rw [← tb_zero, ← tt_zero] at this
    refine Ev.pos (decide_eq_true h) ?_
    simp only [w1 (), w2 (), Int.toNat_natCast]
    exact Ev.pos (by omega) (Ev.pos (by omega) this)
  · rw [if_neg h]
    exact Ev.neg (by simp [h]) (Ev.now _)
/-! ## the law -/
theorem lines_cost {ws : List ByteArray} {n : Int} (hf : fit ws n) : costL ws n (linesM ws n) 0 0 = bestB ws n 0 := by
  have e : linesM ws n = outL ws n ws.length 0 := if_pos hf
  have h := cost_out hf ws.length 0 0 (by omega) (by omega)
  rw [e]
  rw [Int.zero_add] at h
  exact h
theorem masks : ∀ n : Fin 9, 0 ≤ shl .i64 1 (mx 0 (wrap64 ((n.val : Int) - 1))) ∧ shl .i64 1 (mx 0 (wrap64 ((n.val : Int) - 1))) ≤ 128 := by decide +kernel
theorem try_ev {ws : List ByteArray} {n : Int} (hf : fit ws n) (mask : Nat) (hm : mask ≤ 1000) (hr : Ev (fun k => laws_FnWrapLines.l0 k ws n (bestB ws n 0) (ws.length : Int) ((mask + 1 : Nat) : Int)) true) (ls : List Int) (hl : ls.length ≤ 1000) :
    Ev (fun k => (impl_WrapCost.f k ws n ls).bind fun t502 => (if t502 ≥ 0 then (if t502 < bestB ws n 0 then (some false) else (laws_FnWrapLines.l0 k ws n (bestB ws n 0) (ws.length : Int) (wrap64 ((mask : Int) + 1)))) else (laws_FnWrapLines.l0 k ws n (bestB ws n 0) (ws.length : Int) (wrap64 ((mask : Int) + 1))))) true := by
  have w1 : ∀ _ : Unit, wrap64 ((mask : Int) + 1) = ((mask + 1 : Nat) : Int) := fun _ => by rw [w64] <;> omega
  simp only [w1 ()]
  refine Ev.bind (impl_cost ws n ls (sized_of (narrow_of hf)) (by omega)) ?_
  have e : costM ws n ls = costL ws n ls 0 0 := if_pos hf
  by_cases h : costM ws n ls ≥ 0
  · have hmin := cost_min hf ls 0 0 (by omega) (by show costL ws n ls 0 0 ≠ -1; omega)
    have e0 : ((0 : Nat) : Int) = 0 := rfl
    rw [e0] at hmin
    exact Ev.pos h (Ev.neg (by omega) hr)
  · exact Ev.neg h hr
theorem mask_ev {ws : List ByteArray} {n : Int} (hf : fit ws n) (h8 : ws.length ≤ 8) (mask : Nat) (hm : mask ≤ 1000) (hr : Ev (fun k => laws_FnWrapLines.l0 k ws n (bestB ws n 0) (ws.length : Int) ((mask + 1 : Nat) : Int)) true) (d : Nat) :
    ∀ (j many : Nat) (ls : List Int), ws.length ≤ j + 1 + d → ls.length ≤ j → j ≤ 100 → many ≤ j + 1 → Ev (fun k => laws_FnWrapLines.l1 k ws n (bestB ws n 0) (ws.length : Int) (mask : Int) ls (many : Int) (j : Int)) true := by
  have stop : ∀ (j many : Nat) (ls : List Int), ¬ j + 1 < ws.length → ls.length ≤ j → j ≤ 100 → many ≤ j + 1 → Ev (fun k => laws_FnWrapLines.l1 k ws n (bestB ws n 0) (ws.length : Int) (mask : Int) ls (many : Int) (j : Int)) true := by
    intro j many ls h hl hj hmany
    have w1 : ∀ _ : Unit, wrap64 ((j : Int) + 1) = ((j + 1 : Nat) : Int) := fun _ => by rw [w64] <;> omega
    have h1 := try_ev hf mask hm hr (ls ++ [(many : Int)]) (by simp; omega)
    have h2 := try_ev hf mask hm hr ls (by omega)
    refine Ev.up ?_
    simp only [laws_FnWrapLines.l1, w1 ()]
    refine Ev.neg (by omega) ?_
    by_cases hp : (ws.length : Int) > 0
    · exact Ev.pos hp (Ev.pos (by omega) h1)
    · exact Ev.neg hp h2
  induction d with
  | zero =>
    intro j many ls h hl hj hmany
    exact stop j many ls (by omega) hl hj hmany
  | succ d ih =>
    intro j many ls h hl hj hmany
    by_cases hlt : j + 1 < ws.length
    · have w1 : ∀ _ : Unit, wrap64 ((j : Int) + 1) = ((j + 1 : Nat) : Int) := fun _ => by rw [w64] <;> omega
      have w2 : ∀ _ : Unit, wrap64 ((many : Int) + 1) = ((many + 1 : Nat) : Int) := fun _ => by rw [w64] <;> omega
      have h1 := ih (j + 1) 1 (ls ++ [(many : Int)]) (by omega) (by simp; omega) (by omega) (by omega)
      have h2 := ih (j + 1) (many + 1) ls (by omega) (by omega) (by omega) (by omega)
      refine Ev.up ?_
      simp only [laws_FnWrapLines.l1, w1 (), w2 ()]
      refine Ev.pos (by omega) (Ev.pos (by omega) ?_)
      by_cases hb : Int.tmod (shr .i64 (mask : Int) (j : Int)) 2 = 1
      · exact Ev.pos hb (Ev.pos (by omega) h1)
      · exact Ev.neg hb h2
    · exact stop j many ls hlt hl hj hmany
theorem all_ev {ws : List ByteArray} {n : Int} (hf : fit ws n) (h8 : ws.length ≤ 8) (d : Nat) : ∀ mask : Nat, 128 ≤ mask + d → mask ≤ 128 → Ev (fun k => laws_FnWrapLines.l0 k ws n (bestB ws n 0) (ws.length : Int) (mask : Int)) true := by
  have hb := best_in hf 0 (by omega)
  have hM := masks ⟨ws.length, by omega⟩
  dsimp only at hM
  have stop : ∀ mask : Nat, ¬ (mask : Int) < shl .i64 1 (mx 0 (wrap64 ((ws.length : Int) - 1))) → Ev (fun k => laws_FnWrapLines.l0 k ws n (bestB ws n 0) (ws.length : Int) (mask : Int)) true := by
    intro mask h
    refine Ev.up ?_
    simp only [laws_FnWrapLines.l0]
    exact Ev.neg h (Ev.ok (decide_eq_true hb.1))
  induction d with
  | zero =>
    intro mask h1 h2
    exact stop mask (by omega)
  | succ d ih =>
    intro mask h1 h2
    by_cases h : (mask : Int) < shl .i64 1 (mx 0 (wrap64 ((ws.length : Int) - 1)))
    · have hr := ih (mask + 1) (by omega) (by omega)
      have hg := mask_ev hf h8 mask (by omega) hr ws.length 0 1 [] (by omega) (by simp) (by omega) (by omega)
      refine Ev.up ?_
      simp only [laws_FnWrapLines.l0]
      exact Ev.pos h hg
    · exact stop mask h
open Classical in
theorem FnWrapLines (l : List Int) (_ : l.length ≤ 9223372036854775807) (hwf : ∀ x ∈ l, (Lit.int .u8 x).wf = true) : ∃ k, laws_FnWrapLines.f k l = some true := by
  refine Ev.rounds (g := fun k => laws_FnWrapLines.f k l) ?_
  unfold laws_FnWrapLines.f
  by_cases hbig : (l.length : Int) > 1048576
  · exact Ev.pos hbig (Ev.now _)
  refine Ev.neg hbig ?_
  have hd : ∃ ws n, Ev (fun k => spec_DrawWrapLines.f k l) (ws, n) ∧ small ws 100 := by
    unfold spec_DrawWrapLines.f
    obtain ⟨s, h1, h2, h3⟩ := open_ev l (codeOk_wf hwf) (by omega)
    obtain ⟨ws, n, q, h4, h5, _⟩ := wrapped_ev s h2 h3 9
    refine ⟨ws, n, ?_, h5⟩
    simp only [h1, Option.bind_some]
    exact Ev.bind h4 (Ev.now _)
  obtain ⟨ws, n, hd, hw⟩ := hd
  have hz := hw.sized (by omega)
  have hg := linesM_length ws n
  refine Ev.bind hd (Ev.bind (impl_lines ws n hz) (Ev.bind (spec_lines ws n hz) (Ev.bind (sameInts_ev _ (by omega)) ?_)))
  refine Ev.pos rfl (Ev.bind (spec_fit ws n hz) ?_)
  by_cases hf : fit ws n
  · have e : costM ws n (linesM ws n) = bestB ws n 0 := by
      unfold costM
      rw [if_pos hf]
      exact lines_cost hf
    have hc := impl_cost ws n (linesM ws n) hz (by omega)
    rw [e] at hc
    have hb := best_in hf 0 (by omega)
    refine Ev.pos (decide_eq_true hf) (Ev.bind hc ?_)
    by_cases h8 : (ws.length : Int) > 8
    · exact Ev.pos h8 (Ev.ok (decide_eq_true hb.1))
    · exact Ev.neg h8 (all_ev hf (by omega) 128 0 (by omega) (by omega))
  · have e : linesM ws n = [] := if_neg hf
    exact Ev.neg (by simp [hf]) (Ev.pos (by rw [e]; rfl) (Ev.bind alive_ev (Ev.now _)))
end Go.Proofs.Ytghkbkbommobaaa.Pure
