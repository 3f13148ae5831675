/- The drawn words that fit a width fit the next greater one up to MaxWidth, and with an empty word added they never fit; the program's WordsFit agrees with the reference's on them. Conditions: none beyond the given statement's own (the code has at most 1 << 20 bytes, else the law answers true at once). -/
import Derived.Test.YtghkbkbommobaaaPFnWordsFitx3
namespace Go.Proofs.Ytghkbkbommobaaa.Pure
open Go.RowKit Go.Proofs.Ytghkbkbommobaaa.PFnWordsFit Go.Proofs.YtghkbkbommobaaaW.PrintWords Go.Proofs.YtghkbkbommobaaaW.PrintLast
set_option linter.unusedVariables false
set_option linter.unusedSimpArgs false
/-! ## base: rounds, loops, numbers -/
theorem w64 {x : Int} (h0 : -9223372036854775808 ≤ x) (h1 : x ≤ 9223372036854775807) : wrap64 x = x := by unfold wrap64; omega
theorem Ev.pos {α : Type} {c : Prop} [Decidable c] {A B : Nat → Option α} {r : α} (hc : c) (h : Ev A r) : Ev (fun k => if c then A k else B k) r := by simpa only [if_pos hc] using h
theorem Ev.neg {α : Type} {c : Prop} [Decidable c] {A B : Nat → Option α} {r : α} (hc : ¬ c) (h : Ev B r) : Ev (fun k => if c then A k else B k) r := by simpa only [if_neg hc] using h
theorem Ev.ok {α : Type} {r r' : α} (h : r = r') : Ev (fun _ => some r) r' := by subst h; exact Ev.now r
theorem Ev.eqr {α : Type} {g : Nat → Option α} {r r' : α} (h : Ev g r) (e : r = r') : Ev g r' := e ▸ h
theorem Ev.unique {α : Type} {g : Nat → Option α} {r r' : α} (h : Ev g r) (h' : Ev g r') : r = r' := by
  obtain ⟨K, h⟩ := h
  obtain ⟨K', h'⟩ := h'
  have a := h (max K K') (by omega)
  have b := h' (max K K') (by omega)
  rw [a] at b
  exact Option.some.inj b
/-- A loop over 0, 1, .. n-1 that goes on while P holds. -/
theorem ev_scan {α : Type} {L : Nat → Int → Option α} {n : Nat} {r : α} (P : Nat → Prop)
    (hs : ∀ i : Nat, i < n → P i → Ev (fun k => L k (i + 1)) r → Ev (fun k => L k i) r)
    (hf : ∀ i : Nat, i < n → (∀ j, j < i → P j) → ¬ P i → Ev (fun k => L k i) r)
    (he : (∀ j, j < n → P j) → Ev (fun k => L k n) r) : Ev (fun k => L k 0) r := by
  have key : ∀ (d i : Nat), i + d = n → (∀ j, j < i → P j) → Ev (fun k => L k i) r := by
    intro d
    induction d with
    | zero =>
      intro i hi hp
      obtain rfl : i = n := by omega
      exact he hp
    | succ d ih =>
      intro i hi hp
      by_cases h : P i
      · have h' := ih (i + 1) (by omega) (fun j hj => by
          rcases Nat.lt_succ_iff_lt_or_eq.mp hj with h1 | h1
          · exact hp j h1
          · subst h1; exact h)
        exact hs i (by omega) h h'
      · exact hf i (by omega) hp h
  exact key n 0 (by omega) (fun j hj => by omega)
theorem rdOf_nat {α : Type} (d : α) (xs : List α) (i : Nat) (h : i < xs.length) : rdOf d xs (i : Int) = xs[i] := by
  simp [rdOf, List.getD_eq_getElem?_getD, List.getElem?_eq_getElem h]
theorem Ev.up {α : Type} {g : Nat → Option α} {r : α} (h : Ev (fun k => g (k + 1)) r) : Ev g r := Ev.step (fun _ => rfl) h
theorem Ev.const {α : Type} {g : Option α} {r : α} (h : g = some r) : Ev (fun _ => g) r := by subst h; exact Ev.now r
/-! ## the reader of a code: pick and odd -/
theorem xor_nat (a b : Nat) (ha : a < 4611686018427387904) (hb : b < 4611686018427387904) : Go.bits .xor .i64 (a : Int) (b : Int) = ((a ^^^ b : Nat) : Int) := by
  have hx : a ^^^ b < 2 ^ 62 := Nat.xor_lt_two_pow (by omega) (by omega)
  have h1 : (BitVec.ofInt 64 (a : Int)).toNat = a := by
    rw [BitVec.ofInt_natCast, BitVec.toNat_ofNat]; exact Nat.mod_eq_of_lt (by omega)
  have h2 : (BitVec.ofInt 64 (b : Int)).toNat = b := by
    rw [BitVec.ofInt_natCast, BitVec.toNat_ofNat]; exact Nat.mod_eq_of_lt (by omega)
  show IntKind.i64.wrap ((BitVec.ofInt 64 (a : Int) ^^^ BitVec.ofInt 64 (b : Int)).toNat : Int) = _
  rw [BitVec.toNat_xor, h1, h2]
  simp only [IntKind.wrap, IntKind.bits, IntKind.signed]
  simp
  omega
theorem xor_ge (a b : Int) (h0 : 0 ≤ a) (h1 : a < 4611686018427387904) (h2 : 0 ≤ b) (h3 : b < 4611686018427387904) : 0 ≤ Go.bits .xor .i64 a b := by
  obtain ⟨n, rfl⟩ := Int.eq_ofNat_of_zero_le h0
  obtain ⟨m, rfl⟩ := Int.eq_ofNat_of_zero_le h2
  rw [xor_nat n m (by omega) (by omega)]
  omega
theorem tmod_in (a n : Int) (h : 0 ≤ a) (hn : 1 ≤ n) : 0 ≤ Int.tmod a n ∧ Int.tmod a n < n := by
  rw [Int.tmod_eq_emod_of_nonneg h]
  exact ⟨Int.emod_nonneg _ (by omega), Int.emod_lt_of_pos _ (by omega)⟩
def codeOk (s : List Int) : Prop := ∀ x ∈ s, 0 ≤ x ∧ x ≤ 255
theorem rd_in {s : List Int} (hs : codeOk s) (i : Int) : 0 ≤ rd s i ∧ rd s i ≤ 255 := by
  unfold rd
  by_cases h : i.toNat < s.length
  · rw [List.getD_eq_getElem?_getD, List.getElem?_eq_getElem h]
    exact hs _ (List.getElem_mem h)
  · rw [List.getD_eq_getElem?_getD, List.getElem?_eq_none (by omega)]
    simp
theorem pick_ev (s : List Int) (hs : codeOk s) (p n : Int) (hp : 0 ≤ p) (hp2 : p ≤ 1099511627776) (hl : s.length ≤ 140737488355328) :
    ∃ r, Ev (fun k => spec_l20Rd_pick.f k s p n) (r, p + 1) ∧ 0 ≤ r ∧ (1 ≤ n → r < n) := by
  have h1 : wrap64 (p + 1) = p + 1 := w64 (by omega) (by omega)
  have h2 : wrap64 (p + 1 - 1) = p := by rw [w64] <;> omega
  unfold spec_l20Rd_pick.f
  by_cases hn : n < 1
  · refine ⟨0, ?_, by omega, by omega⟩
    refine Ev.pos hn ?_
    refine Ev.step (f := fun k => some (0, p + 1)) (fun k => ?_) (Ev.now _)
    simp only [spec_l20Rd_pick.j0, if_true, h1]
  · by_cases he : (s.length : Int) = 0
    · refine ⟨0, ?_, by omega, by omega⟩
      refine Ev.neg hn ?_
      refine Ev.step (f := fun k => some (0, p + 1)) (fun k => ?_) (Ev.now _)
      simp only [spec_l20Rd_pick.j0, h1, he, beq_self_eq_true, if_true]
    · have hb : ((s.length : Int) == 0) = false := by simpa using he
      have hn1 : ¬ n = 0 := by omega
      by_cases hlt : p < (s.length : Int)
      · have hr := rd_in hs p
        have hw : wrap64 (rd s p) = rd s p := w64 (by omega) (by omega)
        have ht := tmod_in (rd s p) n hr.1 (by omega)
        refine ⟨Int.tmod (rd s p) n, ?_, ht.1, fun _ => ht.2⟩
        refine Ev.neg hn ?_
        refine Ev.step (f := fun k => some (Int.tmod (rd s p) n, p + 1)) (fun k => ?_) (Ev.now _)
        simp only [spec_l20Rd_pick.j0, h1, h2, hb, hw, if_pos hlt, if_pos hp, if_neg hn1]
        rfl
      · have hlp : 1 ≤ (s.length : Int) := by omega
        have m1 := tmod_in p (s.length : Int) hp hlp
        have h7 : wrap64 (wrap64 (p * 7) + 3) = p * 7 + 3 := by
          rw [w64 (x := p * 7) (by omega) (by omega), w64 (by omega) (by omega)]
        have m2 := tmod_in (p * 7 + 3) (s.length : Int) (by omega) hlp
        have b1 := rd_in hs (Int.tmod p (s.length : Int))
        have b2 := rd_in hs (Int.tmod (p * 7 + 3) (s.length : Int))
        have hd : 0 ≤ Int.tdiv p (s.length : Int) ∧ Int.tdiv p (s.length : Int) ≤ p := by
          rw [Int.tdiv_eq_ediv_of_nonneg hp]
          exact ⟨Int.ediv_nonneg hp (by omega), Int.ediv_le_self _ hp⟩
        generalize e1 : rd s (Int.tmod p (s.length : Int)) = B1 at *
        generalize e2 : rd s (Int.tmod (p * 7 + 3) (s.length : Int)) = B2 at *
        generalize e3 : Int.tdiv p (s.length : Int) = D at *
        obtain ⟨X, hX⟩ : ∃ X, X = wrap64 (wrap64 (wrap64 (wrap64 (wrap64 B1 * 131) + wrap64 (wrap64 B2 * 1117)) + wrap64 (p * 29)) + wrap64 (wrap64 D * 53)) := ⟨_, rfl⟩
        have hXv : X = B1 * 131 + B2 * 1117 + p * 29 + D * 53 := by
          rw [hX, w64 (x := B1) (by omega) (by omega), w64 (x := B1 * 131) (by omega) (by omega), w64 (x := B2) (by omega) (by omega), w64 (x := B2 * 1117) (by omega) (by omega), w64 (x := p * 29) (by omega) (by omega), w64 (x := D) (by omega) (by omega), w64 (x := D * 53) (by omega) (by omega), w64 (x := B1 * 131 + B2 * 1117) (by omega) (by omega), w64 (x := B1 * 131 + B2 * 1117 + p * 29) (by omega) (by omega), w64 (by omega) (by omega)]
        have hX0 : 0 ≤ X := by omega
        have hX1 : X < 4611686018427387904 := by omega
        have hY : 0 ≤ wrap64 (Int.tdiv X 64) ∧ wrap64 (Int.tdiv X 64) < 4611686018427387904 := by
          rw [Int.tdiv_eq_ediv_of_nonneg hX0, w64 (by omega) (by omega)]
          omega
        have hx := xor_ge X (wrap64 (Int.tdiv X 64)) hX0 hX1 hY.1 hY.2
        have ht := tmod_in _ n hx (by omega)
        refine ⟨_, ?_, ht.1, fun _ => ht.2⟩
        refine Ev.neg hn ?_
        refine Ev.step (f := fun k => some (Int.tmod (Go.bits .xor .i64 X (wrap64 (Int.tdiv X 64))) n, p + 1)) (fun k => ?_) (Ev.now _)
        simp only [spec_l20Rd_pick.j0, h1, h2, hb, h7, e1, e2, e3, if_neg hlt, if_neg he, if_pos m1.1, if_pos m1.2, if_pos m2.1, if_pos m2.2, if_neg hn1, ← hX]
        rfl
theorem odd_ev (s : List Int) (hs : codeOk s) (p n : Int) (hp : 0 ≤ p) (hp2 : p ≤ 1099511627776) (hl : s.length ≤ 140737488355328) :
    ∃ r q, Ev (fun k => spec_l20Rd_odd.f k s p n) (r, q) ∧ p ≤ q ∧ q ≤ p + 1 := by
  unfold spec_l20Rd_odd.f
  by_cases hn : n > 0
  · obtain ⟨r, hr, _, _⟩ := pick_ev s hs p n hp hp2 hl
    exact ⟨_, _, Ev.pos hn (Ev.bind hr (Ev.now _)), by omega, by omega⟩
  · exact ⟨_, _, Ev.neg hn (Ev.now _), by omega, by omega⟩
theorem open_ev (l : List Int) (hs : codeOk l) (hl : l.length ≤ 1048576) : ∃ s, spec_l20Open.f l = some (s, 0) ∧ codeOk s ∧ s.length ≤ 2000 := by
  unfold spec_l20Open.f
  by_cases h : (l.length : Int) > 2000
  · rw [if_pos h, if_pos (by omega)]
    exact ⟨_, rfl, fun x hx => hs x (List.mem_of_mem_take hx), by simp; omega⟩
  · rw [if_neg h]
    exact ⟨_, rfl, hs, by omega⟩
theorem codeOk_wf {l : List Int} (h : ∀ x ∈ l, (Lit.int .u8 x).wf = true) : codeOk l := fun x hx => by
  have := h x hx
  simp [Lit.wf, IntKind.min, IntKind.max, IntKind.bits, IntKind.signed] at this
  omega
/-! ## WordsFit: both are the same condition -/
theorem spec_in (a b c : Int) : spec_l1In.f a b c = some (decide (b ≤ a ∧ a ≤ c)) := by
  unfold spec_l1In.f
  by_cases h : a ≥ b
  · rw [if_pos h]; congr 1; exact decide_eq_decide.mpr ⟨fun x => ⟨h, x⟩, fun x => x.2⟩
  · rw [if_neg h]; congr 1; exact (decide_eq_false (fun x => h x.1)).symm
theorem impl_in (a b c : Int) : impl_in.f a b c = some (decide (b ≤ a ∧ a ≤ c)) := by
  unfold impl_in.f
  by_cases h : a ≥ b
  · rw [if_pos h]; congr 1; exact decide_eq_decide.mpr ⟨fun x => ⟨h, x⟩, fun x => x.2⟩
  · rw [if_neg h]; congr 1; exact (decide_eq_false (fun x => h x.1)).symm
def wordOk (w : ByteArray) (n : Int) : Prop := (1 ≤ (w.size : Int) ∧ (w.size : Int) ≤ n) ∧ ∀ j : Nat, j < w.size → 33 ≤ bt w j ∧ bt w j ≤ 126
def fit (ws : List ByteArray) (n : Int) : Prop := (1 ≤ n ∧ n ≤ 40) ∧ ws.length ≤ 20 ∧ ∀ w ∈ ws, wordOk w n
def sized (ws : List ByteArray) : Prop := ws.length ≤ 1099511627776 ∧ ∀ w ∈ ws, w.size ≤ 140737488355328
theorem wbt (w : ByteArray) (j : Int) : wrap64 (bt w j) = bt w j := by
  have := bt_range w j
  exact w64 (by omega) (by omega)
theorem fit_iff (ws : List ByteArray) (n : Int) : fit ws n ↔ (1 ≤ n ∧ n ≤ 40) ∧ ws.length ≤ 20 ∧ ∀ i : Nat, i < ws.length → wordOk (rdOf ByteArray.empty ws i) n := by
  unfold fit
  refine and_congr Iff.rfl (and_congr Iff.rfl ⟨fun h i hi => ?_, fun h w hw => ?_⟩)
  · rw [rdOf_nat _ _ _ hi]; exact h _ (List.getElem_mem hi)
  · obtain ⟨i, hi, rfl⟩ := List.mem_iff_getElem.mp hw
    have := h i hi
    rwa [rdOf_nat _ _ _ hi] at this
def byteOk (w : ByteArray) (j : Nat) : Prop := 33 ≤ bt w j ∧ bt w j ≤ 126
open Classical in
theorem spec_fit (ws : List ByteArray) (n : Int) (hl : sized ws) : Ev (fun k => spec_WordsFit.f k ws n) (decide (fit ws n)) := by
  have inner : ∀ (i : Nat) (hi : i < ws.length) (r : Bool),
      (wordOk (rdOf ByteArray.empty ws i) n → Ev (fun k => spec_WordsFit.l0 k ws n (i + 1)) r) → (¬ wordOk (rdOf ByteArray.empty ws i) n → r = false) →
      Ev (fun k => spec_WordsFit.l1 k ws n i 0) r := by
    intro i hi r hgo hno
    have hw : (rdOf ByteArray.empty ws i).size ≤ 140737488355328 := by rw [rdOf_nat _ _ _ hi]; exact hl.2 _ (List.getElem_mem hi)
    have h2 : wrap64 ((i : Int) + 1) = i + 1 := w64 (by omega) (by have := hl.1; omega)
    refine ev_scan (L := fun k j => spec_WordsFit.l1 k ws n i j) (n := (rdOf ByteArray.empty ws i).size) (byteOk (rdOf ByteArray.empty ws i)) ?_ ?_ ?_
    · intro j hj hp hr
      refine Ev.step (f := fun k => spec_WordsFit.l1 k ws n i (j + 1)) (fun k => ?_) hr
      have h1 : wrap64 ((j : Int) + 1) = j + 1 := w64 (by omega) (by omega)
      unfold byteOk at hp
      simp only [spec_WordsFit.l1, wbt, h1, spec_in]
      rw [if_pos (by omega), if_pos (by omega), if_pos (by omega), if_pos (by omega)]
      simp only [Option.bind_some, decide_eq_true hp, if_true]
    · intro j hj _ hp
      rw [hno (fun h => hp (h.2 j hj))]
      refine Ev.step (f := fun k => some false) (fun k => ?_) (Ev.now _)
      unfold byteOk at hp
      simp only [spec_WordsFit.l1, wbt, spec_in]
      rw [if_pos (by omega), if_pos (by omega), if_pos (by omega), if_pos (by omega)]
      simp only [Option.bind_some, decide_eq_false hp, Bool.false_eq_true, if_false]
    · intro hall
      by_cases hs : 1 ≤ ((rdOf ByteArray.empty ws i).size : Int) ∧ ((rdOf ByteArray.empty ws i).size : Int) ≤ n
      · refine Ev.step (f := fun k => spec_WordsFit.l0 k ws n (i + 1)) (fun k => ?_) (hgo ⟨hs, hall⟩)
        simp only [spec_WordsFit.l1, h2, spec_in]
        rw [if_pos (by omega), if_pos (by omega), if_neg (by omega)]
        simp only [Option.bind_some, decide_eq_true hs, if_true]
      · rw [hno (fun h => hs h.1)]
        refine Ev.step (f := fun k => some false) (fun k => ?_) (Ev.now _)
        simp only [spec_WordsFit.l1, spec_in]
        rw [if_pos (by omega), if_pos (by omega), if_neg (by omega)]
        simp only [Option.bind_some, decide_eq_false hs, Bool.false_eq_true, if_false]
  refine ev_scan (L := fun k i => spec_WordsFit.l0 k ws n i) (n := ws.length) (fun i => wordOk (rdOf ByteArray.empty ws i) n) ?_ ?_ ?_
  · intro i hi hp hr
    refine Ev.step (f := fun k => spec_WordsFit.l1 k ws n i 0) (fun k => ?_) (inner i hi _ (fun _ => hr) (fun h => absurd hp h))
    simp only [spec_WordsFit.l0]
    rw [if_pos (by omega)]
  · intro i hi _ hp
    have hno : decide (fit ws n) = false := decide_eq_false (fun h => hp (((fit_iff ws n).mp h).2.2 i hi))
    refine Ev.step (f := fun k => spec_WordsFit.l1 k ws n i 0) (fun k => ?_) (inner i hi _ (fun h => absurd h hp) (fun _ => hno))
    simp only [spec_WordsFit.l0]
    rw [if_pos (by omega)]
  · intro hall
    refine Ev.step (f := fun k => some (decide (fit ws n))) (fun k => ?_) (Ev.now _)
    simp only [spec_WordsFit.l0, spec_in]
    rw [if_neg (by omega)]
    by_cases h20 : (ws.length : Int) ≤ 20
    · rw [if_pos h20]
      simp only [Option.bind_some]
      congr 1
      exact decide_eq_decide.mpr ⟨fun h => (fit_iff ws n).mpr ⟨h, by omega, hall⟩, fun h => h.1⟩
    · rw [if_neg h20]
      congr 1
      exact (decide_eq_false (fun h => h20 (by have := h.2.1; omega))).symm
open Classical in
theorem impl_fit (ws : List ByteArray) (n : Int) (hl : sized ws) : Ev (fun k => impl_WordsFit.f k ws n) (decide (fit ws n)) := by
  have inner : ∀ (i : Nat) (hi : i < ws.length) (r : Bool),
      (wordOk (rdOf ByteArray.empty ws i) n → Ev (fun k => impl_WordsFit.l0 k n ws (ws.length : Int) (i + 1)) r) → (¬ wordOk (rdOf ByteArray.empty ws i) n → r = false) →
      Ev (fun k => impl_WordsFit.l0 k n ws (ws.length : Int) i) r := by
    intro i hi r hgo hno
    have hw : (rdOf ByteArray.empty ws i).size ≤ 140737488355328 := by rw [rdOf_nat _ _ _ hi]; exact hl.2 _ (List.getElem_mem hi)
    have h2 : wrap64 ((i : Int) + 1) = i + 1 := w64 (by omega) (by have := hl.1; omega)
    by_cases hs : 1 ≤ ((rdOf ByteArray.empty ws i).size : Int) ∧ ((rdOf ByteArray.empty ws i).size : Int) ≤ n
    · refine Ev.step (f := fun k => impl_WordsFit.l1 k n (rdOf ByteArray.empty ws i) 0 ws (ws.length : Int) i) (fun k => ?_) ?_
      · simp only [impl_WordsFit.l0, impl_in]
        rw [if_pos (by omega), if_pos (by omega), if_pos (by omega)]
        simp only [Option.bind_some, decide_eq_true hs, if_true]
      · refine ev_scan (L := fun k j => impl_WordsFit.l1 k n (rdOf ByteArray.empty ws i) j ws (ws.length : Int) i) (n := (rdOf ByteArray.empty ws i).size) (byteOk (rdOf ByteArray.empty ws i)) ?_ ?_ ?_
        · intro j hj hp hr
          refine Ev.step (f := fun k => impl_WordsFit.l1 k n (rdOf ByteArray.empty ws i) (j + 1) ws (ws.length : Int) i) (fun k => ?_) hr
          have h1 : wrap64 ((j : Int) + 1) = j + 1 := w64 (by omega) (by omega)
          unfold byteOk at hp
          simp only [impl_WordsFit.l1, wbt, h1, impl_in]
          rw [if_pos (by omega), if_pos (by omega)]
          simp only [Option.bind_some, decide_eq_true hp, if_true]
        · intro j hj _ hp
          rw [hno (fun h => hp (h.2 j hj))]
          refine Ev.step (f := fun k => some false) (fun k => ?_) (Ev.now _)
          unfold byteOk at hp
          simp only [impl_WordsFit.l1, wbt, impl_in]
          rw [if_pos (by omega), if_pos (by omega)]
          simp only [Option.bind_some, decide_eq_false hp, Bool.false_eq_true, if_false]
        · intro hall
          refine Ev.step (f := fun k => impl_WordsFit.l0 k n ws (ws.length : Int) (i + 1)) (fun k => ?_) (hgo ⟨hs, hall⟩)
          simp only [impl_WordsFit.l1, h2]
          rw [if_neg (by omega)]
    · rw [hno (fun h => hs h.1)]
      refine Ev.step (f := fun k => some false) (fun k => ?_) (Ev.now _)
      simp only [impl_WordsFit.l0, impl_in]
      rw [if_pos (by omega), if_pos (by omega), if_pos (by omega)]
      simp only [Option.bind_some, decide_eq_false hs, Bool.false_eq_true, if_false]
  unfold impl_WordsFit.f
  by_cases h0 : 1 ≤ n ∧ n ≤ 40
  · by_cases h20 : (ws.length : Int) > 20
    · have hd : decide (fit ws n) = false := decide_eq_false (fun h => by have := h.2.1; omega)
      rw [hd]
      simp only [impl_in, decide_eq_true h0, Option.bind_some, if_true, decide_eq_true h20]
      refine Ev.step (f := fun k => some false) (fun k => ?_) (Ev.now _)
      simp only [impl_WordsFit.j0, if_true]
    · simp only [impl_in, decide_eq_true h0, Option.bind_some, if_true, decide_eq_false h20]
      refine Ev.step (f := fun k => impl_WordsFit.l0 k n ws (ws.length : Int) 0) (fun k => ?_) ?_
      · simp only [impl_WordsFit.j0, Bool.false_eq_true, if_false]
      · refine ev_scan (L := fun k i => impl_WordsFit.l0 k n ws (ws.length : Int) i) (n := ws.length) (fun i => wordOk (rdOf ByteArray.empty ws i) n) ?_ ?_ ?_
        · intro i hi hp hr
          exact inner i hi _ (fun _ => hr) (fun h => absurd hp h)
        · intro i hi _ hp
          exact inner i hi _ (fun h => absurd h hp) (fun _ => decide_eq_false (fun h => hp (((fit_iff ws n).mp h).2.2 i hi)))
        · intro hall
          refine Ev.step (f := fun k => some true) (fun k => ?_) (Ev.ok (decide_eq_true ((fit_iff ws n).mpr ⟨h0, by omega, hall⟩)).symm)
          simp only [impl_WordsFit.l0]
          rw [if_neg (by omega)]
  · have hd : decide (fit ws n) = false := decide_eq_false (fun h => h0 h.1)
    rw [hd]
    simp only [impl_in, decide_eq_false h0, Option.bind_some, Bool.false_eq_true, if_false]
    refine Ev.step (f := fun k => some false) (fun k => ?_) (Ev.now _)
    simp only [impl_WordsFit.j0, if_true]
/-! ## TextValid -/
def textOk (s : ByteArray) : Prop := s.size ≤ 20000 ∧ ∀ j : Nat, j < s.size → bt s j = 10 ∨ (32 ≤ bt s j ∧ bt s j ≤ 126)
open Classical in
theorem impl_text (s : ByteArray) (hl : s.size ≤ 140737488355328) : Ev (fun k => impl_TextValid.f k s) (decide (textOk s)) := by
  unfold impl_TextValid.f
  refine ev_scan (L := fun k i => impl_TextValid.l0 k s i) (n := s.size) (fun j => bt s j = 10 ∨ (32 ≤ bt s j ∧ bt s j ≤ 126)) ?_ ?_ ?_
  · intro i hi hp hr
    have h1 : wrap64 ((i : Int) + 1) = i + 1 := w64 (by omega) (by omega)
    refine Ev.up ?_
    simp only [impl_TextValid.l0, wbt, h1, impl_in]
    refine Ev.pos (by omega) (Ev.pos (by omega) ?_)
    by_cases h10 : bt s (i : Nat) = 10
    · exact Ev.pos h10 hr
    · refine Ev.neg h10 ?_
      have hq : 32 ≤ bt s (i : Nat) ∧ bt s (i : Nat) ≤ 126 := by omega
      simp only [Option.bind_some, decide_eq_true hq, if_true]
      exact hr
  · intro i hi _ hp
    refine Ev.eqr ?_ (decide_eq_false (fun h : textOk s => hp (h.2 i hi))).symm
    refine Ev.up ?_
    simp only [impl_TextValid.l0, wbt, impl_in]
    refine Ev.pos (by omega) (Ev.pos (by omega) (Ev.neg (by omega) ?_))
    have hq : ¬ (32 ≤ bt s (i : Nat) ∧ bt s (i : Nat) ≤ 126) := by omega
    simp only [Option.bind_some, decide_eq_false hq, Bool.false_eq_true, if_false]
    exact Ev.now _
  · intro hall
    refine Ev.up ?_
    simp only [impl_TextValid.l0]
    refine Ev.neg (by omega) (Ev.ok ?_)
    exact decide_eq_decide.mpr ⟨fun h => ⟨by omega, hall⟩, fun h => by have := h.1; omega⟩
open Classical in
theorem alive_ev : Ev (fun k => laws_alive.f k) true := by
  have h := impl_text (⟨#[97]⟩ : ByteArray) (by decide)
  have ht : textOk (⟨#[97]⟩ : ByteArray) := ⟨by decide, fun j hj => by
    have hz : (⟨#[97]⟩ : ByteArray).size = 1 := rfl
    obtain rfl : j = 0 := by omega
    exact .inr (by decide)⟩
  rw [decide_eq_true ht] at h
  exact Ev.bind h (Ev.now _)
/-! ## the drawn words -/
def small (ws : List ByteArray) (n : Nat) : Prop := ws.length ≤ n ∧ ∀ w ∈ ws, w.size ≤ 21
theorem small.snoc {ws : List ByteArray} {n : Nat} (h : small ws n) (w : ByteArray) (hw : w.size ≤ 21) : small (ws ++ [w]) (n + 1) :=
  ⟨by have := h.1; simp; omega, fun x hx => by
    rcases List.mem_append.mp hx with h1 | h1
    · exact h.2 x h1
    · rw [List.mem_singleton.mp h1]; exact hw⟩
theorem small.mono {ws : List ByteArray} {n m : Nat} (h : small ws n) (hm : n ≤ m) : small ws m := ⟨Nat.le_trans h.1 hm, h.2⟩
theorem small.sized {ws : List ByteArray} {n : Nat} (h : small ws n) (hn : n ≤ 1000) : sized ws := ⟨by have := h.1; omega, fun w hw => by have := h.2 w hw; omega⟩
theorem rdOf_mem {α : Type} (d : α) (xs : List α) (i : Int) (h0 : 0 ≤ i) (h : i < (xs.length : Int)) : rdOf d xs i ∈ xs := by
  obtain ⟨n, rfl⟩ := Int.eq_ofNat_of_zero_le h0
  rw [rdOf_nat _ _ _ (by omega)]
  exact List.getElem_mem _
theorem wrapped_l1 (s : List Int) (x8 p : Int) (d : Nat) : ∀ ws : List ByteArray, (∀ w ∈ ws, w.size ≤ 21) → ws.length ≤ 100 → 21 ≤ ws.length + d →
    ∃ ws', Ev (fun k => spec_l20Wrapped.l1 k ws x8 s p) (ws', x8, p) ∧ small ws' 100 := by
  induction d with
  | zero =>
    intro ws hw hl h21
    refine ⟨ws, Ev.up ?_, hl, hw⟩
    simp only [spec_l20Wrapped.l1]
    exact Ev.neg (by omega) (Ev.now _)
  | succ d ih =>
    intro ws hw hl h21
    by_cases h : (ws.length : Int) ≤ 20
    · have hs := (show small ws 20 from ⟨by omega, hw⟩).snoc (⟨#[97]⟩ : ByteArray) (by decide)
      obtain ⟨ws', h1, h2⟩ := ih (ws ++ [(⟨#[97]⟩ : ByteArray)]) hs.2 (by simp; omega) (by simp; omega)
      refine ⟨ws', Ev.up ?_, h2⟩
      simp only [spec_l20Wrapped.l1]
      exact Ev.pos h (Ev.pos (by omega) h1)
    · refine ⟨ws, Ev.up ?_, hl, hw⟩
      simp only [spec_l20Wrapped.l1]
      exact Ev.neg h (Ev.now _)
theorem wrapped_l0 (s : List Int) (hs : codeOk s) (hl : s.length ≤ 2000) (x1 : Int) (d : Nat) : ∀ (ws : List ByteArray) (x7 p : Int), x7 = d → 0 ≤ p → p + d ≤ 1000 → small ws (10 - d) → d ≤ 10 →
    ∃ ws' n q, Ev (fun k => spec_l20Wrapped.l0 k x1 ws x7 s p) (ws', n, q) ∧ small ws' 100 ∧ 0 ≤ n ∧ n ≤ 41 := by
  induction d with
  | zero =>
    intro ws x7 p hx hp hp2 hw hd
    obtain ⟨r1, h1, h1a, h1b⟩ := pick_ev s hs p 8 hp (by omega) (by omega)
    obtain ⟨b, q, h2, h2a, h2b⟩ := odd_ev s hs (p + 1) x1 (by omega) (by omega) (by omega)
    have hn : wrap64 (6 + r1) = 6 + r1 := w64 (by omega) (by omega)
    cases b with
    | false =>
      refine ⟨ws, 6 + r1, q, Ev.up ?_, hw.mono (by omega), by omega, by omega⟩
      simp only [spec_l20Wrapped.l0]
      refine Ev.neg (by omega) (Ev.bind h1 (Ev.bind h2 ?_))
      simp only [Bool.false_eq_true, if_false, hn]
      exact Ev.now _
    | true =>
      obtain ⟨r3, h3, h3a, h3b⟩ := pick_ev s hs q 4 (by omega) (by omega) (by omega)
      obtain ⟨r4, h4, h4a, h4b⟩ := pick_ev s hs (q + 1) 3 (by omega) (by omega) (by omega)
      have h4c := h4b (by omega)
      by_cases e0 : r3 = 0
      · have hm := rdOf_mem (0 : Int) [0, 41, 3] r4 h4a (by simp; omega)
        refine ⟨ws, rd [0, 41, 3] r4, q + 1 + 1, Ev.up ?_, hw.mono (by omega), ?_, ?_⟩
        · simp only [spec_l20Wrapped.l0]
          refine Ev.neg (by omega) (Ev.bind h1 (Ev.bind h2 ?_))
          simp only [if_true]
          refine Ev.bind h3 (Ev.pos e0 ?_)
          simp only [Option.bind_some]
          refine Ev.bind h4 (Ev.pos h4a (Ev.pos (by simp; omega) (Ev.now _)))
        · have hm' : rd [0, 41, 3] r4 ∈ ([0, 41, 3] : List Int) := hm
          simp at hm'
          omega
        · have hm' : rd [0, 41, 3] r4 ∈ ([0, 41, 3] : List Int) := hm
          simp at hm'
          omega
      by_cases e1 : r3 = 1
      · have hm := rdOf_mem ByteArray.empty [(⟨#[]⟩ : ByteArray), (⟨#[97, 32, 98]⟩ : ByteArray), (⟨#[10]⟩ : ByteArray)] r4 h4a (by simp; omega)
        have hsz : (rdOf ByteArray.empty [(⟨#[]⟩ : ByteArray), (⟨#[97, 32, 98]⟩ : ByteArray), (⟨#[10]⟩ : ByteArray)] r4).size ≤ 21 := by
          simp only [List.mem_cons, List.not_mem_nil, or_false] at hm
          rcases hm with h | h | h <;> rw [h] <;> decide
        refine ⟨_, 6 + r1, q + 1 + 1, Ev.up ?_, (hw.snoc _ hsz).mono (by omega), by omega, by omega⟩
        simp only [spec_l20Wrapped.l0]
        refine Ev.neg (by omega) (Ev.bind h1 (Ev.bind h2 ?_))
        simp only [if_true]
        refine Ev.bind h3 (Ev.neg e0 (Ev.pos e1 ?_))
        simp only [Option.bind_some, hn]
        exact Ev.bind h4 (Ev.pos h4a (Ev.pos (by simp; omega) (Ev.pos (by have := hw.1; omega) (Ev.now _))))
      by_cases e2 : r3 = 2
      · refine ⟨_, 6 + r1, q + 1, Ev.up ?_, (hw.snoc (⟨#[97, 118, 101, 114, 121, 118, 101, 114, 121, 118, 101, 114, 121, 108, 111, 110, 103, 119, 111, 114, 100]⟩ : ByteArray) (by decide)).mono (by omega), by omega, by omega⟩
        simp only [spec_l20Wrapped.l0]
        refine Ev.neg (by omega) (Ev.bind h1 (Ev.bind h2 ?_))
        simp only [if_true]
        refine Ev.bind h3 (Ev.neg e0 (Ev.neg e1 (Ev.pos e2 ?_)))
        simp only [hn]
        exact Ev.pos (by have := hw.1; omega) (Ev.now _)
      · obtain ⟨ws', h5, h6⟩ := wrapped_l1 s (6 + r1) (q + 1) 21 ws hw.2 (by have := hw.1; omega) (by omega)
        refine ⟨ws', 6 + r1, q + 1, Ev.up ?_, h6, by omega, by omega⟩
        simp only [spec_l20Wrapped.l0]
        refine Ev.neg (by omega) (Ev.bind h1 (Ev.bind h2 ?_))
        simp only [if_true]
        refine Ev.bind h3 (Ev.neg e0 (Ev.neg e1 (Ev.neg e2 ?_)))
        simp only [hn]
        exact h5
  | succ d ih =>
    intro ws x7 p hx hp hp2 hw hd
    obtain ⟨r1, h1, h1a, h1b⟩ := pick_ev s hs p 6 hp (by omega) (by omega)
    have h1c := h1b (by omega)
    have hm := rdOf_mem ByteArray.empty [(⟨#[97]⟩ : ByteArray), (⟨#[116, 111]⟩ : ByteArray), (⟨#[116, 104, 101]⟩ : ByteArray), (⟨#[119, 111, 114, 100]⟩ : ByteArray), (⟨#[108, 105, 110, 101, 115]⟩ : ByteArray), (⟨#[98, 101, 116, 116, 101, 114]⟩ : ByteArray)] r1 h1a (by simp; omega)
    have hsz := hm
    simp only [List.mem_cons, List.not_mem_nil, or_false] at hsz
    have hsz2 : (rdOf ByteArray.empty [(⟨#[97]⟩ : ByteArray), (⟨#[116, 111]⟩ : ByteArray), (⟨#[116, 104, 101]⟩ : ByteArray), (⟨#[119, 111, 114, 100]⟩ : ByteArray), (⟨#[108, 105, 110, 101, 115]⟩ : ByteArray), (⟨#[98, 101, 116, 116, 101, 114]⟩ : ByteArray)] r1).size ≤ 21 := by
      rcases hsz with h | h | h | h | h | h <;> rw [h] <;> decide
    obtain ⟨ws', n, q, h2, h3⟩ := ih _ (wrap64 (x7 - 1)) (p + 1) (by rw [w64] <;> omega) (by omega) (by omega) ((hw.snoc _ hsz2).mono (by omega)) (by omega)
    refine ⟨ws', n, q, Ev.up ?_, h3⟩
    simp only [spec_l20Wrapped.l0]
    refine Ev.pos (by omega) ?_
    simp only [Option.bind_some]
    exact Ev.bind h1 (Ev.pos h1a (Ev.pos (by simp; omega) (Ev.pos (by have := hw.1; omega) h2)))
theorem wrapped_ev (s : List Int) (hs : codeOk s) (hl : s.length ≤ 2000) (x1 : Int) :
    ∃ ws n q, Ev (fun k => spec_l20Wrapped.f k s 0 x1) (ws, n, q) ∧ small ws 100 ∧ 0 ≤ n ∧ n ≤ 41 := by
  unfold spec_l20Wrapped.f
  obtain ⟨r1, h1, h1a, h1b⟩ := pick_ev s hs 0 8 (by omega) (by omega) (by omega)
  obtain ⟨d, rfl⟩ := Int.eq_ofNat_of_zero_le h1a
  have h1c := h1b (by omega)
  obtain ⟨ws, n, q, h2, h3⟩ := wrapped_l0 s hs hl x1 d [] d 1 rfl (by omega) (by omega) ⟨by simp, by simp⟩ (by omega)
  exact ⟨ws, n, q, Ev.bind h1 h2, h3⟩
/-! ## the law -/
theorem drawWordsFit (l : List Int) (hs : codeOk l) (hl : l.length ≤ 1048576) : ∃ ws n, Ev (fun k => spec_DrawWordsFit.f k l) (ws, n) ∧ small ws 100 ∧ 0 ≤ n ∧ n ≤ 41 := by
  unfold spec_DrawWordsFit.f
  obtain ⟨s, h1, h2, h3⟩ := open_ev l hs hl
  obtain ⟨ws, n, q, h4, h5⟩ := wrapped_ev s h2 h3 2
  refine ⟨ws, n, ?_, h5⟩
  simp only [h1, Option.bind_some]
  exact Ev.bind h4 (Ev.now _)
open Classical in
theorem FnWordsFit (l : List Int) (_ : l.length ≤ 9223372036854775807) (hwf : ∀ x ∈ l, (Lit.int .u8 x).wf = true) : ∃ k, laws_FnWordsFit.f k l = some true := by
  refine Ev.rounds (g := fun k => laws_FnWordsFit.f k l) ?_
  unfold laws_FnWordsFit.f
  by_cases hbig : (l.length : Int) > 1048576
  · exact Ev.pos hbig (Ev.now _)
  refine Ev.neg hbig ?_
  obtain ⟨ws, n, hd, hw, hn0, hn1⟩ := drawWordsFit l (codeOk_wf hwf) (by omega)
  have hz := hw.sized (by omega)
  have hw1 := hw.1
  refine Ev.bind hd (Ev.bind (impl_fit ws n hz) (Ev.bind (spec_fit ws n hz) ?_))
  have hzs : sized (ws ++ [(⟨#[]⟩ : ByteArray)]) := (hw.snoc (⟨#[]⟩ : ByteArray) (by decide)).sized (by omega)
  have hno : ¬ fit (ws ++ [(⟨#[]⟩ : ByteArray)]) n := fun h => by
    have := (h.2.2 (⟨#[]⟩ : ByteArray) (by simp)).1.1
    have hz : (⟨#[]⟩ : ByteArray).size = 0 := rfl
    omega
  have htail : Ev (fun k => (some (([] : List ByteArray) : List ByteArray)).bind fun y176 => (if y176.length + ws.length < 8796093022208 then ((some (y176 ++ ws : List ByteArray)).bind fun y179 => (if y179.length < 8796093022208 then ((impl_WordsFit.f k (y179 ++ [(⟨#[]⟩ : ByteArray)]) n).bind fun t185 => (if t185 = true then (some false) else ((laws_alive.f k).bind fun t186 => (some t186)))) else (none))) else (none))) true := by
    simp only [Option.bind_some, List.length_nil, List.nil_append]
    refine Ev.pos (by omega) (Ev.pos (by omega) (Ev.bind (impl_fit _ n hzs) ?_))
    rw [decide_eq_false hno]
    exact Ev.neg (by simp) (Ev.bind alive_ev (Ev.now _))
  refine Ev.neg (by simp) ?_
  by_cases hf : fit ws n
  · refine Ev.pos (decide_eq_true hf) ?_
    by_cases h40 : n = 40
    · exact Ev.pos h40 htail
    · refine Ev.neg h40 ?_
      have hn := hf.1
      have hw : wrap64 (n + 1) = n + 1 := w64 (by omega) (by omega)
      rw [hw]
      have hf2 : fit ws (n + 1) := ⟨by omega, hf.2.1, fun w hw => ⟨by have := (hf.2.2 w hw).1; omega, (hf.2.2 w hw).2⟩⟩
      exact Ev.bind (impl_fit ws (n + 1) hz) (Ev.pos (decide_eq_true hf2) htail)
  · exact Ev.neg (by simp [hf]) htail
end Go.Proofs.Ytghkbkbommobaaa.Pure
