/- The law FnEditsParts answers true on every drawn input: the two halves of edits that can be applied, joined, are the edits. Conditions: none beyond the given statement's own. -/
import Derived.Test.YtghkbkbommobaaaPx30
namespace Go.Proofs.Ytghkbkbommobaaa.Pure
open Go.RowKit Go.Proofs.Ytghkbkbommobaaa.P Go.Proofs.YtghkbkbommobaaaW.PrintWords Go.Proofs.YtghkbkbommobaaaW.PrintLast
set_option linter.unusedVariables false
set_option linter.unusedSimpArgs false
/-! ## base: rounds, loops, numbers -/
theorem w64 {x : Int} (h0 : -9223372036854775808 ≤ x) (h1 : x ≤ 9223372036854775807) : wrap64 x = x := by unfold wrap64; omega
theorem Ev.pos {α : Type} {c : Prop} [Decidable c] {A B : Nat → Option α} {r : α} (hc : c) (h : Ev A r) : Ev (fun k => if c then A k else B k) r := by simpa only [if_pos hc] using h
theorem Ev.neg {α : Type} {c : Prop} [Decidable c] {A B : Nat → Option α} {r : α} (hc : ¬ c) (h : Ev B r) : Ev (fun k => if c then A k else B k) r := by simpa only [if_neg hc] using h
theorem Ev.ok {α : Type} {r r' : α} (h : r = r') : Ev (fun _ => some r) r' := by subst h; exact Ev.now r
theorem Ev.eqr {α : Type} {g : Nat → Option α} {r r' : α} (h : Ev g r) (e : r = r') : Ev g r' := e ▸ h
theorem Ev.unique {α : Type} {g : Nat → Option α} {r r' : α} (h : Ev g r) (h' : Ev g r') : r = r' := by
  obtain ⟨K, h⟩ := h
  obtain ⟨K', h'⟩ := h'
  have a := h (max K K') (by omega)
  have b := h' (max K K') (by omega)
  rw [a] at b
  exact Option.some.inj b
/-- A loop over 0, 1, .. n-1 that goes on while P holds. -/
theorem ev_scan {α : Type} {L : Nat → Int → Option α} {n : Nat} {r : α} (P : Nat → Prop)
    (hs : ∀ i : Nat, i < n → P i → Ev (fun k => L k (i + 1)) r → Ev (fun k => L k i) r)
    (hf : ∀ i : Nat, i < n → (∀ j, j < i → P j) → ¬ P i → Ev (fun k => L k i) r)
    (he : (∀ j, j < n → P j) → Ev (fun k => L k n) r) : Ev (fun k => L k 0) r := by
  have key : ∀ (d i : Nat), i + d = n → (∀ j, j < i → P j) → Ev (fun k => L k i) r := by
    intro d
    induction d with
    | zero =>
      intro i hi hp
      obtain rfl : i = n := by omega
      exact he hp
    | succ d ih =>
      intro i hi hp
      by_cases h : P i
      · have h' := ih (i + 1) (by omega) (fun j hj => by
          rcases Nat.lt_succ_iff_lt_or_eq.mp hj with h1 | h1
          · exact hp j h1
          · subst h1; exact h)
        exact hs i (by omega) h h'
      · exact hf i (by omega) hp h
  exact key n 0 (by omega) (fun j hj => by omega)
theorem rdOf_nat {α : Type} (d : α) (xs : List α) (i : Nat) (h : i < xs.length) : rdOf d xs (i : Int) = xs[i] := by
  simp [rdOf, List.getD_eq_getElem?_getD, List.getElem?_eq_getElem h]
theorem Ev.up {α : Type} {g : Nat → Option α} {r : α} (h : Ev (fun k => g (k + 1)) r) : Ev g r := Ev.step (fun _ => rfl) h
theorem Ev.const {α : Type} {g : Option α} {r : α} (h : g = some r) : Ev (fun _ => g) r := by subst h; exact Ev.now r
/-- A loop that fills a list, place by place. -/
theorem ev_fill {β γ : Type} {L : Nat → List β → Int → Option γ} {n : Nat} {r : γ} (g : Nat → β)
    (hs : ∀ (i : Nat) (xs : List β), i < n → xs.length = n → Ev (fun k => L k (xs.set i (g i)) (i + 1)) r → Ev (fun k => L k xs i) r)
    (he : Ev (fun k => L k ((List.range n).map g) n) r) (init : List β) (hi : init.length = n) : Ev (fun k => L k init 0) r := by
  have key : ∀ (d i : Nat) (xs : List β), i + d = n → xs.length = n → (∀ j, j < i → xs[j]? = some (g j)) → Ev (fun k => L k xs i) r := by
    intro d
    induction d with
    | zero =>
      intro i xs hid hl hp
      obtain rfl : i = n := by omega
      have : xs = (List.range i).map g := by
        apply List.ext_getElem?
        intro j
        by_cases hj : j < i
        · rw [hp j hj]; simp [hj]
        · rw [List.getElem?_eq_none (by omega), List.getElem?_eq_none (by simp; omega)]
      rw [this]
      exact he
    | succ d ih =>
      intro i xs hid hl hp
      have h' := ih (i + 1) (xs.set i (g i)) (by omega) (by simp [hl]) (fun j hj => by
        rcases Nat.lt_succ_iff_lt_or_eq.mp hj with h1 | h1
        · rw [List.getElem?_set_ne (by omega)]; exact hp j h1
        · subst h1; rw [List.getElem?_set_self (by omega)])
      exact hs i xs (by omega) hl h'
  exact key n 0 init (by omega) hi (fun j hj => by omega)
theorem range_map_get {α : Type} (d : α) (xs : List α) : (List.range xs.length).map (fun i => rdOf d xs (i : Nat)) = xs := by
  apply List.ext_getElem?
  intro j
  by_cases hj : j < xs.length
  · simp [hj, rdOf, List.getD_eq_getElem?_getD]
  · rw [List.getElem?_eq_none (by simp; omega), List.getElem?_eq_none (by omega)]
/-! ## bounds -/
theorem spec_in (a b c : Int) : spec_l1In.f a b c = some (decide (b ≤ a ∧ a ≤ c)) := by
  unfold spec_l1In.f
  by_cases h : a ≥ b
  · rw [if_pos h]; congr 1; exact decide_eq_decide.mpr ⟨fun x => ⟨h, x⟩, fun x => x.2⟩
  · rw [if_neg h]; congr 1; exact (decide_eq_false (fun x => h x.1)).symm
theorem impl_in (a b c : Int) : impl_in.f a b c = some (decide (b ≤ a ∧ a ≤ c)) := by
  unfold impl_in.f
  by_cases h : a ≥ b
  · rw [if_pos h]; congr 1; exact decide_eq_decide.mpr ⟨fun x => ⟨h, x⟩, fun x => x.2⟩
  · rw [if_neg h]; congr 1; exact (decide_eq_false (fun x => h x.1)).symm
theorem wbt (w : ByteArray) (j : Int) : wrap64 (bt w j) = bt w j := by
  have := bt_range w j
  exact w64 (by omega) (by omega)
def sized (ws : List ByteArray) : Prop := ws.length ≤ 1099511627776 ∧ ∀ w ∈ ws, w.size ≤ 140737488355328
/-! ## the reader of a code: pick and odd -/
theorem xor_nat (a b : Nat) (ha : a < 4611686018427387904) (hb : b < 4611686018427387904) : Go.bits .xor .i64 (a : Int) (b : Int) = ((a ^^^ b : Nat) : Int) := by
  have hx : a ^^^ b < 2 ^ 62 := Nat.xor_lt_two_pow (by omega) (by omega)
  have h1 : (BitVec.ofInt 64 (a : Int)).toNat = a := by
    rw [BitVec.ofInt_natCast, BitVec.toNat_ofNat]; exact Nat.mod_eq_of_lt (by omega)
  have h2 : (BitVec.ofInt 64 (b : Int)).toNat = b := by
    rw [BitVec.ofInt_natCast, BitVec.toNat_ofNat]; exact Nat.mod_eq_of_lt (by omega)
  show IntKind.i64.wrap ((BitVec.ofInt 64 (a : Int) ^^^ BitVec.ofInt 64 (b : Int)).toNat : Int) = _
  rw [BitVec.toNat_xor, h1, h2]
  simp only [IntKind.wrap, IntKind.bits, IntKind.signed]
  simp
  omega
theorem xor_ge (a b : Int) (h0 : 0 ≤ a) (h1 : a < 4611686018427387904) (h2 : 0 ≤ b) (h3 : b < 4611686018427387904) : 0 ≤ Go.bits .xor .i64 a b := by
  obtain ⟨n, rfl⟩ := Int.eq_ofNat_of_zero_le h0
  obtain ⟨m, rfl⟩ := Int.eq_ofNat_of_zero_le h2
  rw [xor_nat n m (by omega) (by omega)]
  omega
theorem tmod_in (a n : Int) (h : 0 ≤ a) (hn : 1 ≤ n) : 0 ≤ Int.tmod a n ∧ Int.tmod a n < n := by
  rw [Int.tmod_eq_emod_of_nonneg h]
  exact ⟨Int.emod_nonneg _ (by omega), Int.emod_lt_of_pos _ (by omega)⟩
def codeOk (s : List Int) : Prop := ∀ x ∈ s, 0 ≤ x ∧ x ≤ 255
theorem rd_in {s : List Int} (hs : codeOk s) (i : Int) : 0 ≤ rd s i ∧ rd s i ≤ 255 := by
  unfold rd
  by_cases h : i.toNat < s.length
  · rw [List.getD_eq_getElem?_getD, List.getElem?_eq_getElem h]
    exact hs _ (List.getElem_mem h)
  · rw [List.getD_eq_getElem?_getD, List.getElem?_eq_none (by omega)]
    simp
theorem pick_ev (s : List Int) (hs : codeOk s) (p n : Int) (hp : 0 ≤ p) (hp2 : p ≤ 1099511627776) (hl : s.length ≤ 140737488355328) :
    ∃ r, Ev (fun k => spec_l20Rd_pick.f k s p n) (r, p + 1) ∧ 0 ≤ r ∧ (1 ≤ n → r < n) := by
  have h1 : wrap64 (p + 1) = p + 1 := w64 (by omega) (by omega)
  have h2 : wrap64 (p + 1 - 1) = p := by rw [w64] <;> omega
  unfold spec_l20Rd_pick.f
  by_cases hn : n < 1
  · refine ⟨0, ?_, by omega, by omega⟩
    refine Ev.pos hn ?_
    refine Ev.step (f := fun k => some (0, p + 1)) (fun k => ?_) (Ev.now _)
    simp only [spec_l20Rd_pick.j0, if_true, h1]
  · by_cases he : (s.length : Int) = 0
    · refine ⟨0, ?_, by omega, by omega⟩
      refine Ev.neg hn ?_
      refine Ev.step (f := fun k => some (0, p + 1)) (fun k => ?_) (Ev.now _)
      simp only [spec_l20Rd_pick.j0, h1, he, beq_self_eq_true, if_true]
    · have hb : ((s.length : Int) == 0) = false := by simpa using he
      have hn1 : ¬ n = 0 := by omega
      by_cases hlt : p < (s.length : Int)
      · have hr := rd_in hs p
        have hw : wrap64 (rd s p) = rd s p := w64 (by omega) (by omega)
        have ht := tmod_in (rd s p) n hr.1 (by omega)
        refine ⟨Int.tmod (rd s p) n, ?_, ht.1, fun _ => ht.2⟩
        refine Ev.neg hn ?_
        refine Ev.step (f := fun k => some (Int.tmod (rd s p) n, p + 1)) (fun k => ?_) (Ev.now _)
        simp only [spec_l20Rd_pick.j0, h1, h2, hb, hw, if_pos hlt, if_pos hp, if_neg hn1]
        rfl
      · have hlp : 1 ≤ (s.length : Int) := by omega
        have m1 := tmod_in p (s.length : Int) hp hlp
        have h7 : wrap64 (wrap64 (p * 7) + 3) = p * 7 + 3 := by
          rw [w64 (x := p * 7) (by omega) (by omega), w64 (by omega) (by omega)]
        have m2 := tmod_in (p * 7 + 3) (s.length : Int) (by omega) hlp
        have b1 := rd_in hs (Int.tmod p (s.length : Int))
        have b2 := rd_in hs (Int.tmod (p * 7 + 3) (s.length : Int))
        have hd : 0 ≤ Int.tdiv p (s.length : Int) ∧ Int.tdiv p (s.length : Int) ≤ p := by
          rw [Int.tdiv_eq_ediv_of_nonneg hp]
          exact ⟨Int.ediv_nonneg hp (by omega), Int.ediv_le_self _ hp⟩
        generalize e1 : rd s (Int.tmod p (s.length : Int)) = B1 at *
        generalize e2 : rd s (Int.tmod (p * 7 + 3) (s.length : Int)) = B2 at *
        generalize e3 : Int.tdiv p (s.length : Int) = D at *
        obtain ⟨X, hX⟩ : ∃ X, X = wrap64 (wrap64 (wrap64 (wrap64 (wrap64 B1 * 131) + wrap64 (wrap64 B2 * 1117)) + wrap64 (p * 29)) + wrap64 (wrap64 D * 53)) := ⟨_, rfl⟩
        have hXv : X = B1 * 131 + B2 * 1117 + p * 29 + D * 53 := by
          rw [hX, w64 (x := B1) (by omega) (by omega), w64 (x := B1 * 131) (by omega) (by omega), w64 (x := B2) (by omega) (by omega), w64 (x := B2 * 1117) (by omega) (by omega), w64 (x := p * 29) (by omega) (by omega), w64 (x := D) (by omega) (by omega), w64 (x := D * 53) (by omega) (by omega), w64 (x := B1 * 131 + B2 * 1117) (by omega) (by omega), w64 (x := B1 * 131 + B2 * 1117 + p * 29) (by omega) (by omega), w64 (by omega) (by omega)]
        have hX0 : 0 ≤ X := by omega
        have hX1 : X < 4611686018427387904 := by omega
        have hY : 0 ≤ wrap64 (Int.tdiv X 64) ∧ wrap64 (Int.tdiv X 64) < 4611686018427387904 := by
          rw [Int.tdiv_eq_ediv_of_nonneg hX0, w64 (by omega) (by omega)]
          omega
        have hx := xor_ge X (wrap64 (Int.tdiv X 64)) hX0 hX1 hY.1 hY.2
        have ht := tmod_in _ n hx (by omega)
        refine ⟨_, ?_, ht.1, fun _ => ht.2⟩
        refine Ev.neg hn ?_
        refine Ev.step (f := fun k => some (Int.tmod (Go.bits .xor .i64 X (wrap64 (Int.tdiv X 64))) n, p + 1)) (fun k => ?_) (Ev.now _)
        simp only [spec_l20Rd_pick.j0, h1, h2, hb, h7, e1, e2, e3, if_neg hlt, if_neg he, if_pos m1.1, if_pos m1.2, if_pos m2.1, if_pos m2.2, if_neg hn1, ← hX]
        rfl
theorem odd_ev (s : List Int) (hs : codeOk s) (p n : Int) (hp : 0 ≤ p) (hp2 : p ≤ 1099511627776) (hl : s.length ≤ 140737488355328) :
    ∃ r q, Ev (fun k => spec_l20Rd_odd.f k s p n) (r, q) ∧ p ≤ q ∧ q ≤ p + 1 := by
  unfold spec_l20Rd_odd.f
  by_cases hn : n > 0
  · obtain ⟨r, hr, _, _⟩ := pick_ev s hs p n hp hp2 hl
    exact ⟨_, _, Ev.pos hn (Ev.bind hr (Ev.now _)), by omega, by omega⟩
  · exact ⟨_, _, Ev.neg hn (Ev.now _), by omega, by omega⟩
theorem open_ev (l : List Int) (hs : codeOk l) (hl : l.length ≤ 1048576) : ∃ s, spec_l20Open.f l = some (s, 0) ∧ codeOk s ∧ s.length ≤ 2000 := by
  unfold spec_l20Open.f
  by_cases h : (l.length : Int) > 2000
  · rw [if_pos h, if_pos (by omega)]
    exact ⟨_, rfl, fun x hx => hs x (List.mem_of_mem_take hx), by simp; omega⟩
  · rw [if_neg h]
    exact ⟨_, rfl, hs, by omega⟩
theorem codeOk_wf {l : List Int} (h : ∀ x ∈ l, (Lit.int .u8 x).wf = true) : codeOk l := fun x hx => by
  have := h x hx
  simp [Lit.wf, IntKind.min, IntKind.max, IntKind.bits, IntKind.signed] at this
  omega
/-! ## TextValid -/
def textOk (s : ByteArray) : Prop := s.size ≤ 20000 ∧ ∀ j : Nat, j < s.size → bt s j = 10 ∨ (32 ≤ bt s j ∧ bt s j ≤ 126)
/-! ## TextValid -/
open Classical in
theorem impl_text (s : ByteArray) (hl : s.size ≤ 140737488355328) : Ev (fun k => impl_TextValid.f k s) (decide (textOk s)) := by
  unfold impl_TextValid.f
  refine ev_scan (L := fun k i => impl_TextValid.l0 k s i) (n := s.size) (fun j => bt s j = 10 ∨ (32 ≤ bt s j ∧ bt s j ≤ 126)) ?_ ?_ ?_
  · intro i hi hp hr
    have h1 : wrap64 ((i : Int) + 1) = i + 1 := w64 (by omega) (by omega)
    refine Ev.up ?_
    simp only [impl_TextValid.l0, wbt, h1, impl_in]
    refine Ev.pos (by omega) (Ev.pos (by omega) ?_)
    by_cases h10 : bt s (i : Nat) = 10
    · exact Ev.pos h10 hr
    · refine Ev.neg h10 ?_
      have hq : 32 ≤ bt s (i : Nat) ∧ bt s (i : Nat) ≤ 126 := by omega
      simp only [Option.bind_some, decide_eq_true hq, if_true]
      exact hr
  · intro i hi _ hp
    refine Ev.eqr ?_ (decide_eq_false (fun h : textOk s => hp (h.2 i hi))).symm
    refine Ev.up ?_
    simp only [impl_TextValid.l0, wbt, impl_in]
    refine Ev.pos (by omega) (Ev.pos (by omega) (Ev.neg (by omega) ?_))
    have hq : ¬ (32 ≤ bt s (i : Nat) ∧ bt s (i : Nat) ≤ 126) := by omega
    simp only [Option.bind_some, decide_eq_false hq, Bool.false_eq_true, if_false]
    exact Ev.now _
  · intro hall
    refine Ev.up ?_
    simp only [impl_TextValid.l0]
    refine Ev.neg (by omega) (Ev.ok ?_)
    exact decide_eq_decide.mpr ⟨fun h => ⟨by omega, hall⟩, fun h => by have := h.1; omega⟩
/-! ## TextValid -/
open Classical in
theorem spec_text (s : ByteArray) (hl : s.size ≤ 140737488355328) : Ev (fun k => spec_TextValid.f k s) (decide (textOk s)) := by
  unfold spec_TextValid.f
  refine ev_scan (L := fun k i => spec_TextValid.l0 k s i) (n := s.size) (fun j => bt s j = 10 ∨ (32 ≤ bt s j ∧ bt s j ≤ 126)) ?_ ?_ ?_
  · intro i hi hp hr
    have h1 : wrap64 ((i : Int) + 1) = i + 1 := w64 (by omega) (by omega)
    refine Ev.up ?_
    simp only [spec_TextValid.l0, wbt, h1, spec_in]
    refine Ev.pos (by omega) (Ev.pos (by omega) ?_)
    by_cases h10 : bt s (i : Nat) = 10
    · exact Ev.pos h10 hr
    · refine Ev.neg h10 ?_
      have hq : 32 ≤ bt s (i : Nat) ∧ bt s (i : Nat) ≤ 126 := by omega
      simp only [Option.bind_some, decide_eq_true hq, if_true]
      exact hr
  · intro i hi _ hp
    refine Ev.eqr ?_ (decide_eq_false (fun h : textOk s => hp (h.2 i hi))).symm
    refine Ev.up ?_
    simp only [spec_TextValid.l0, wbt, spec_in]
    refine Ev.pos (by omega) (Ev.pos (by omega) (Ev.neg (by omega) ?_))
    have hq : ¬ (32 ≤ bt s (i : Nat) ∧ bt s (i : Nat) ≤ 126) := by omega
    simp only [Option.bind_some, decide_eq_false hq, Bool.false_eq_true, if_false]
    exact Ev.now _
  · intro hall
    refine Ev.up ?_
    simp only [spec_TextValid.l0]
    refine Ev.neg (by omega) (Ev.ok ?_)
    exact decide_eq_decide.mpr ⟨fun h => ⟨by omega, hall⟩, fun h => by have := h.1; omega⟩
open Classical in
theorem alive_ev : Ev (fun k => laws_alive.f k) true := by
  have h := impl_text (⟨#[97]⟩ : ByteArray) (by decide)
  have ht : textOk (⟨#[97]⟩ : ByteArray) := ⟨by decide, fun j hj => by
    have hz : (⟨#[97]⟩ : ByteArray).size = 1 := rfl
    obtain rfl : j = 0 := by omega
    exact .inr (by decide)⟩
  rw [decide_eq_true ht] at h
  exact Ev.bind h (Ev.now _)
/-! ## EditsValid: both are the same condition -/
def editOk (s : ByteArray) (e : S42) : Prop := (0 ≤ e.f1 ∧ e.f1 ≤ (s.size : Int)) ∧ (0 ≤ e.f0 ∧ e.f0 ≤ e.f1) ∧ textOk e.f2
def apartOk (l : List S42) (i : Nat) : Prop := 0 < i → ¬ (rd_T42 l i).f0 < (rd_T42 l ((i : Int) - 1)).f1 ∧ ¬ (rd_T42 l i).f0 = (rd_T42 l ((i : Int) - 1)).f0
def editsOk (s : ByteArray) (l : List S42) : Prop := textOk s ∧ l.length ≤ 20 ∧ ∀ i : Nat, i < l.length → editOk s (rd_T42 l i) ∧ apartOk l i
def sizedE (l : List S42) : Prop := l.length ≤ 1099511627776 ∧ ∀ e ∈ l, e.f2.size ≤ 140737488355328
theorem rdE (l : List S42) (i : Nat) (h : i < l.length) : rd_T42 l (i : Int) = l[i] := by
  simp [rd_T42, List.getD_eq_getElem?_getD, List.getElem?_eq_getElem h]
open Classical in
theorem spec_edits (s : ByteArray) (l : List S42) (hs : s.size ≤ 140737488355328) (hl : sizedE l) : Ev (fun k => spec_EditsValid.f k s l) (decide (editsOk s l)) := by
  have hlen := hl.1
  unfold spec_EditsValid.f
  refine ev_scan (L := fun k i => spec_EditsValid.l0 k s l i) (n := l.length) (fun i => editOk s (rd_T42 l i) ∧ apartOk l i) ?_ ?_ ?_
  · intro i hi hp hr
    have ht := spec_text (rd_T42 l i).f2 (by rw [rdE _ _ hi]; exact hl.2 _ (List.getElem_mem hi))
    have h1 : wrap64 ((i : Int) + 1) = i + 1 := w64 (by omega) (by have := hl.1; omega)
    refine Ev.up ?_
    simp only [spec_EditsValid.l0, spec_in]
    refine Ev.pos (by omega) (Ev.pos (by omega) ?_)
    simp only [Option.bind_some, decide_eq_true hp.1.1, decide_eq_true hp.1.2.1, if_true]
    refine Ev.bind ht ?_
    simp only [decide_eq_true hp.1.2.2, Bool.not_true]
    refine Ev.up ?_
    simp only [spec_EditsValid.j1, Bool.false_eq_true, if_false, h1]
    by_cases h0 : (i : Int) > 0
    · have h2 : wrap64 ((i : Int) - 1) = i - 1 := w64 (by omega) (by omega)
      have ha := hp.2 (by omega)
      simp only [h2]
      exact Ev.pos h0 (Ev.pos (by omega) (Ev.pos (by omega) (Ev.neg ha.1 (Ev.neg ha.2 hr))))
    · exact Ev.neg h0 hr
  · intro i hi _ hp
    have hno : decide (editsOk s l) = false := decide_eq_false (fun h => hp (h.2.2 i hi))
    rw [hno]
    have ht := spec_text (rd_T42 l i).f2 (by rw [rdE _ _ hi]; exact hl.2 _ (List.getElem_mem hi))
    have hj : Ev (fun k => spec_EditsValid.j1 k s l i true ((rd_T42 l i).f0) ((rd_T42 l i).f1) ((rd_T42 l i).f2)) false := by
      refine Ev.up ?_
      simp only [spec_EditsValid.j1, if_true]
      exact Ev.now _
    refine Ev.up ?_
    simp only [spec_EditsValid.l0, spec_in]
    refine Ev.pos (by omega) (Ev.pos (by omega) ?_)
    by_cases h1 : 0 ≤ (rd_T42 l i).f1 ∧ (rd_T42 l i).f1 ≤ (s.size : Int)
    · by_cases h2 : 0 ≤ (rd_T42 l i).f0 ∧ (rd_T42 l i).f0 ≤ (rd_T42 l i).f1
      · simp only [Option.bind_some, decide_eq_true h1, decide_eq_true h2, if_true]
        refine Ev.bind ht ?_
        by_cases h3 : textOk (rd_T42 l i).f2
        · have ha : ¬ apartOk l i := fun h => hp ⟨⟨h1, h2, h3⟩, h⟩
          simp only [decide_eq_true h3, Bool.not_true]
          refine Ev.up ?_
          simp only [spec_EditsValid.j1, Bool.false_eq_true, if_false]
          by_cases h0 : (i : Int) > 0
          · have h4 : wrap64 ((i : Int) - 1) = i - 1 := w64 (by omega) (by omega)
            simp only [h4]
            refine Ev.pos h0 (Ev.pos (by omega) (Ev.pos (by omega) ?_))
            by_cases ha1 : (rd_T42 l i).f0 < (rd_T42 l ((i : Int) - 1)).f1
            · exact Ev.pos ha1 (Ev.now _)
            · refine Ev.neg ha1 ?_
              by_cases ha2 : (rd_T42 l i).f0 = (rd_T42 l ((i : Int) - 1)).f0
              · exact Ev.pos ha2 (Ev.now _)
              · exact absurd (fun _ => ⟨ha1, ha2⟩) ha
          · exact absurd (fun h => absurd h (by omega)) ha
        · simp only [decide_eq_false h3, Bool.not_false]
          exact hj
      · simp only [Option.bind_some, decide_eq_true h1, decide_eq_false h2, if_true, Bool.false_eq_true, if_false]
        exact hj
    · simp only [Option.bind_some, decide_eq_false h1, Bool.false_eq_true, if_false]
      exact hj
  · intro hall
    refine Ev.up ?_
    simp only [spec_EditsValid.l0]
    refine Ev.neg (by omega) (Ev.bind (spec_text s hs) ?_)
    by_cases ht : textOk s
    · refine Ev.pos (decide_eq_true ht) (Ev.ok ?_)
      exact decide_eq_decide.mpr ⟨fun h => ⟨ht, by omega, hall⟩, fun h => by have := h.2.1; omega⟩
    · exact Ev.neg (by simp [ht]) (Ev.ok (decide_eq_false (fun h : editsOk s l => ht h.1)).symm)
open Classical in
theorem impl_edits (s : ByteArray) (l : List S42) (hs : s.size ≤ 140737488355328) (hl : sizedE l) : Ev (fun k => impl_EditsValid.f k s l) (decide (editsOk s l)) := by
  have hlen := hl.1
  unfold impl_EditsValid.f
  refine Ev.bind (impl_text s hs) ?_
  by_cases ht : textOk s
  · refine Ev.pos (decide_eq_true ht) ?_
    by_cases h20 : (l.length : Int) > 20
    · have hno : decide (editsOk s l) = false := decide_eq_false (fun h => by have := h.2.1; omega)
      rw [hno]
      refine Ev.up ?_
      simp only [impl_EditsValid.j0]
      exact Ev.pos (decide_eq_true h20) (Ev.now _)
    · refine Ev.up ?_
      simp only [impl_EditsValid.j0]
      refine Ev.neg (by simpa using h20) ?_
      refine ev_scan (L := fun k i => impl_EditsValid.l0 k s l l (l.length : Int) i) (n := l.length) (fun i => editOk s (rd_T42 l i) ∧ apartOk l i) ?_ ?_ ?_
      · intro i hi hp hr
        have ht := impl_text (rd_T42 l i).f2 (by rw [rdE _ _ hi]; exact hl.2 _ (List.getElem_mem hi))
        have h1 : wrap64 ((i : Int) + 1) = i + 1 := w64 (by omega) (by have := hl.1; omega)
        refine Ev.up ?_
        simp only [impl_EditsValid.l0, impl_in]
        refine Ev.pos (by omega) (Ev.pos (by omega) (Ev.pos (by omega) ?_))
        simp only [Option.bind_some, decide_eq_true hp.1.1, decide_eq_true hp.1.2.1, if_true]
        refine Ev.bind ht ?_
        simp only [decide_eq_true hp.1.2.2, Bool.not_true]
        refine Ev.up ?_
        simp only [impl_EditsValid.j2, Bool.false_eq_true, if_false, h1]
        by_cases h0 : (i : Int) > 0
        · have h2 : wrap64 ((i : Int) - 1) = i - 1 := w64 (by omega) (by omega)
          have ha := hp.2 (by omega)
          simp only [h2]
          exact Ev.pos h0 (Ev.pos (by omega) (Ev.pos (by omega) (Ev.neg ha.1 (Ev.neg ha.2 hr))))
        · exact Ev.neg h0 hr
      · intro i hi _ hp
        have hno : decide (editsOk s l) = false := decide_eq_false (fun h => hp (h.2.2 i hi))
        rw [hno]
        have ht := impl_text (rd_T42 l i).f2 (by rw [rdE _ _ hi]; exact hl.2 _ (List.getElem_mem hi))
        have hj : Ev (fun k => impl_EditsValid.j2 k s l i l (l.length : Int) i true ((rd_T42 l i).f0) ((rd_T42 l i).f1) ((rd_T42 l i).f2)) false := by
          refine Ev.up ?_
          simp only [impl_EditsValid.j2, if_true]
          exact Ev.now _
        refine Ev.up ?_
        simp only [impl_EditsValid.l0, impl_in]
        refine Ev.pos (by omega) (Ev.pos (by omega) (Ev.pos (by omega) ?_))
        by_cases h1 : 0 ≤ (rd_T42 l i).f1 ∧ (rd_T42 l i).f1 ≤ (s.size : Int)
        · by_cases h2 : 0 ≤ (rd_T42 l i).f0 ∧ (rd_T42 l i).f0 ≤ (rd_T42 l i).f1
          · simp only [Option.bind_some, decide_eq_true h1, decide_eq_true h2, if_true]
            refine Ev.bind ht ?_
            by_cases h3 : textOk (rd_T42 l i).f2
            · have ha : ¬ apartOk l i := fun h => hp ⟨⟨h1, h2, h3⟩, h⟩
              simp only [decide_eq_true h3, Bool.not_true]
              refine Ev.up ?_
              simp only [impl_EditsValid.j2, Bool.false_eq_true, if_false]
              by_cases h0 : (i : Int) > 0
              · have h4 : wrap64 ((i : Int) - 1) = i - 1 := w64 (by omega) (by omega)
                simp only [h4]
                refine Ev.pos h0 (Ev.pos (by omega) (Ev.pos (by omega) ?_))
                by_cases ha1 : (rd_T42 l i).f0 < (rd_T42 l ((i : Int) - 1)).f1
                · exact Ev.pos ha1 (Ev.now _)
                · refine Ev.neg ha1 ?_
                  by_cases ha2 : (rd_T42 l i).f0 = (rd_T42 l ((i : Int) - 1)).f0
                  · exact Ev.pos ha2 (Ev.now _)
                  · exact absurd (fun _ => ⟨ha1, ha2⟩) ha
              · exact absurd (fun h => absurd h (by omega)) ha
            · simp only [decide_eq_false h3, Bool.not_false]
              exact hj
          · simp only [Option.bind_some, decide_eq_true h1, decide_eq_false h2, if_true, Bool.false_eq_true, if_false]
            exact hj
        · simp only [Option.bind_some, decide_eq_false h1, Bool.false_eq_true, if_false]
          exact hj
      · intro hall
        refine Ev.up ?_
        simp only [impl_EditsValid.l0]
        exact Ev.neg (by omega) (Ev.ok (decide_eq_true (show editsOk s l from ⟨ht, by omega, hall⟩)).symm)
  · have hno : decide (editsOk s l) = false := decide_eq_false (fun h => ht h.1)
    rw [hno]
    refine Ev.neg (by simp [ht]) (Ev.up ?_)
    simp only [impl_EditsValid.j0, if_true]
    exact Ev.now _
/-! ## the drawn text of a few bytes -/
theorem rdOf_all {α : Type} (d : α) (xs : List α) (i : Int) (P : α → Prop) (h0 : 0 ≤ i) (h : i < (xs.length : Int)) (hp : ∀ x ∈ xs, P x) : P (rdOf d xs i) := by
  obtain ⟨n, rfl⟩ := Int.eq_ofNat_of_zero_le h0
  rw [rdOf_nat _ _ _ (by omega)]
  exact hp _ (List.getElem_mem _)
theorem plain_l0 (s : List Int) (hs : codeOk s) (hl : s.length ≤ 2000) (x1 : Int) (d : Nat) : ∀ (t : ByteArray) (x6 p : Int), x6 = d → 0 ≤ p → p + d ≤ 100000000 → d ≤ 10 → t.size + d ≤ 10 →
    ∃ t' q, Ev (fun k => spec_l20Plain.l0 k x1 t x6 s p) (t', q) ∧ t'.size ≤ 11 ∧ p ≤ q ∧ q ≤ p + d + 2 := by
  induction d with
  | zero =>
    intro t x6 p hx hp hp2 _ ht
    obtain ⟨b, q, h2, h2a, h2b⟩ := odd_ev s hs p x1 (by omega) (by omega) (by omega)
    cases b with
    | false =>
      refine ⟨t, q, Ev.up ?_, by omega, by omega, by omega⟩
      simp only [spec_l20Plain.l0]
      exact Ev.neg (by omega) (Ev.bind h2 (Ev.neg (by simp) (Ev.now _)))
    | true =>
      obtain ⟨r, h3, h3a, h3b⟩ := pick_ev s hs q 3 (by omega) (by omega) (by omega)
      have h3c := h3b (by omega)
      have hsz := rdOf_all ByteArray.empty [(⟨#[31]⟩ : ByteArray), (⟨#[127]⟩ : ByteArray), (⟨#[195]⟩ : ByteArray)] r (fun x => x.size = 1) h3a (by simp; omega) (by decide)
      refine ⟨t ++ rdOf ByteArray.empty [(⟨#[31]⟩ : ByteArray), (⟨#[127]⟩ : ByteArray), (⟨#[195]⟩ : ByteArray)] r, q + 1, Ev.up ?_, by rw [ByteArray.size_append, hsz]; omega, by omega, by omega⟩
      simp only [spec_l20Plain.l0]
      refine Ev.neg (by omega) (Ev.bind h2 (Ev.pos rfl ?_))
      simp only [Option.bind_some]
      exact Ev.bind h3 (Ev.pos h3a (Ev.pos (by simp; omega) (Ev.pos (by dsimp only; omega) (Ev.now _))))
  | succ d ih =>
    intro t x6 p hx hp hp2 hd ht
    obtain ⟨r, h3, h3a, h3b⟩ := pick_ev s hs p 8 (by omega) (by omega) (by omega)
    have h3c := h3b (by omega)
    have hsz := rdOf_all ByteArray.empty [(⟨#[97]⟩ : ByteArray), (⟨#[98]⟩ : ByteArray), (⟨#[32]⟩ : ByteArray), (⟨#[10]⟩ : ByteArray), (⟨#[34]⟩ : ByteArray), (⟨#[92]⟩ : ByteArray), (⟨#[35]⟩ : ByteArray), (⟨#[120]⟩ : ByteArray)] r (fun x => x.size = 1) h3a (by simp; omega) (by decide)
    obtain ⟨t', q, h4, h5, h6, h7⟩ := ih (t ++ rdOf ByteArray.empty [(⟨#[97]⟩ : ByteArray), (⟨#[98]⟩ : ByteArray), (⟨#[32]⟩ : ByteArray), (⟨#[10]⟩ : ByteArray), (⟨#[34]⟩ : ByteArray), (⟨#[92]⟩ : ByteArray), (⟨#[35]⟩ : ByteArray), (⟨#[120]⟩ : ByteArray)] r) (wrap64 (x6 - 1)) (p + 1) (by rw [w64] <;> omega) (by omega) (by omega) (by omega) (by rw [ByteArray.size_append, hsz]; omega)
    refine ⟨t', q, Ev.up ?_, h5, by omega, by omega⟩
    simp only [spec_l20Plain.l0]
    refine Ev.pos (by omega) ?_
    simp only [Option.bind_some]
    exact Ev.bind h3 (Ev.pos h3a (Ev.pos (by simp; omega) (Ev.pos (by dsimp only; omega) h4)))
theorem plain_ev (s : List Int) (hs : codeOk s) (hl : s.length ≤ 2000) (p n : Int) (hp : 0 ≤ p) (hp2 : p ≤ 100000000 - 100) :
    ∃ t q, Ev (fun k => spec_l20Plain.f k s p n) (t, q) ∧ t.size ≤ 11 ∧ p ≤ q ∧ q ≤ p + 12 := by
  unfold spec_l20Plain.f
  obtain ⟨r1, h1, h1a, h1b⟩ := pick_ev s hs p 9 (by omega) (by omega) (by omega)
  obtain ⟨d, rfl⟩ := Int.eq_ofNat_of_zero_le h1a
  have h1c := h1b (by omega)
  obtain ⟨t, q, h2, h3, h4, h5⟩ := plain_l0 s hs hl n d (⟨#[]⟩ : ByteArray) d (p + 1) rfl (by omega) (by omega) (by omega) (by
    have : (⟨#[]⟩ : ByteArray).size = 0 := rfl
    omega)
  exact ⟨t, q, Ev.bind h1 h2, h3, by omega, by omega⟩
/-! ## the drawn edits -/
theorem sz0 : (⟨#[]⟩ : ByteArray).size ≤ 3 := by decide
theorem sz1 : (⟨#[1]⟩ : ByteArray).size ≤ 3 := by decide
def smallE (l : List S42) (n : Nat) : Prop := l.length ≤ n ∧ ∀ e ∈ l, e.f2.size ≤ 3
theorem smallE.snoc {l : List S42} {n : Nat} (h : smallE l n) (e : S42) (he : e.f2.size ≤ 3) : smallE (l ++ [e]) (n + 1) :=
  ⟨by have := h.1; simp; omega, fun x hx => by
    rcases List.mem_append.mp hx with h1 | h1
    · exact h.2 x h1
    · rw [List.mem_singleton.mp h1]; exact he⟩
theorem smallE.mono {l : List S42} {n m : Nat} (h : smallE l n) (hm : n ≤ m) : smallE l m := ⟨Nat.le_trans h.1 hm, h.2⟩
theorem smallE.sized {l : List S42} {n : Nat} (h : smallE l n) (hn : n ≤ 1000) : sizedE l := ⟨by have := h.1; omega, fun w hw => by have := h.2 w hw; omega⟩
theorem edits_j2 (s : List Int) (hs : codeOk s) (hl : s.length ≤ 2000) (x1 : Int) (t : ByteArray) (ht : t.size ≤ 22) (l : List S42) (hz : smallE l 5) (p : Int) (hp : 0 ≤ p) (hp2 : p ≤ 100000000) :
    ∃ l' q, Ev (fun k => spec_l20Edits.j2 k x1 t l s p) (t, l', q) ∧ smallE l' 7 := by
  obtain ⟨b, q, h2, h2a, h2b⟩ := odd_ev s hs p x1 (by omega) (by omega) (by omega)
  have hl5 := hz.1
  cases b with
  | false =>
    refine ⟨l, q, Ev.up ?_, hz.mono (by omega)⟩
    simp only [spec_l20Edits.j2]
    exact Ev.bind h2 (Ev.neg (by simp) (Ev.now _))
  | true =>
    obtain ⟨r, h3, h3a, h3b⟩ := pick_ev s hs q 4 (by omega) (by omega) (by omega)
    by_cases e0 : r = 0
    · refine ⟨_, q + 1, Ev.up ?_, (hz.snoc (⟨(t.size : Int), wrap64 ((t.size : Int) + 1), (⟨#[]⟩ : ByteArray)⟩ : S42) sz0).mono (by omega)⟩
      simp only [spec_l20Edits.j2]
      exact Ev.bind h2 (Ev.pos rfl (Ev.bind h3 (Ev.pos e0 (Ev.pos (by omega) (Ev.now _)))))
    by_cases e1 : r = 1
    · refine ⟨_, q + 1, Ev.up ?_, (hz.snoc (⟨(-1), 0, (⟨#[]⟩ : ByteArray)⟩ : S42) (by decide)).mono (by omega)⟩
      simp only [spec_l20Edits.j2]
      exact Ev.bind h2 (Ev.pos rfl (Ev.bind h3 (Ev.neg e0 (Ev.pos e1 (Ev.pos (by omega) (Ev.now _))))))
    by_cases e2 : r = 2
    · refine ⟨l ++ [(⟨0, 0, (⟨#[]⟩ : ByteArray)⟩ : S42), (⟨0, 0, (⟨#[]⟩ : ByteArray)⟩ : S42)], q + 1, Ev.up ?_, ⟨by simp; omega, fun x hx => ?_⟩⟩
      · simp only [spec_l20Edits.j2]
        refine Ev.bind h2 (Ev.pos rfl (Ev.bind h3 (Ev.neg e0 (Ev.neg e1 (Ev.pos e2 ?_)))))
        simp only [Option.bind_some]
        exact Ev.pos (by simp; omega) (Ev.now _)
      · rcases List.mem_append.mp hx with h1 | h1
        · exact hz.2 x h1
        · simp only [List.mem_cons, List.not_mem_nil, or_false] at h1
          rcases h1 with h1 | h1 <;> rw [h1] <;> decide
    · refine ⟨_, q + 1, Ev.up ?_, (hz.snoc (⟨(t.size : Int), (t.size : Int), (⟨#[1]⟩ : ByteArray)⟩ : S42) sz1).mono (by omega)⟩
      simp only [spec_l20Edits.j2]
      exact Ev.bind h2 (Ev.pos rfl (Ev.bind h3 (Ev.neg e0 (Ev.neg e1 (Ev.neg e2 (Ev.pos (by omega) (Ev.now _)))))))
theorem mx_le (a b c : Int) (h1 : a ≤ c) (h2 : b ≤ c) : mx a b ≤ c := by unfold mx; split <;> omega
theorem mx_ge (a b c : Int) (h1 : c ≤ a) : c ≤ mx a b := by unfold mx; split <;> omega
theorem edits_l0 (s : List Int) (hs : codeOk s) (hl : s.length ≤ 2000) (x1 : Int) (t : ByteArray) (ht : t.size ≤ 22) (d : Nat) : ∀ (l : List S42) (x8 x9 p : Int), x9 = d → 0 ≤ p → p ≤ 100000000 - 10 * d → d ≤ 4 → smallE l (4 - d) → 0 ≤ x8 → x8 ≤ 1000 - 10 * d →
    ∃ l' q, Ev (fun k => spec_l20Edits.l0 k x1 t l x8 x9 s p) (t, l', q) ∧ smallE l' 7 := by
  induction d with
  | zero =>
    intro l x8 x9 p hx hp hp2 _ hz h8 h8b
    obtain ⟨l', q, h1, h2⟩ := edits_j2 s hs hl x1 t ht l (hz.mono (by omega)) p hp (by omega)
    refine ⟨l', q, Ev.up ?_, h2⟩
    simp only [spec_l20Edits.l0]
    refine Ev.neg (by omega) (Ev.up ?_)
    simp only [spec_l20Edits.j1, Bool.false_eq_true, if_false]
    exact h1
  | succ d ih =>
    intro l x8 x9 p hx hp hp2 hd hz h8 h8b
    by_cases hin : x8 ≤ (t.size : Int)
    · obtain ⟨r1, h1, h1a, h1b⟩ := pick_ev s hs p 3 hp (by omega) (by omega)
      obtain ⟨r2, h2, h2a, h2b⟩ := pick_ev s hs (p + 1) 3 (by omega) (by omega) (by omega)
      have w1 : wrap64 (x8 + r1) = x8 + r1 := w64 (by omega) (by omega)
      have w2 : wrap64 (x8 + r1 + r2) = x8 + r1 + r2 := w64 (by omega) (by omega)
      have w3 : wrap64 (x8 + r1 + 1) = x8 + r1 + 1 := w64 (by omega) (by omega)
      by_cases hbig : x8 + r1 + r2 > (t.size : Int)
      · obtain ⟨l', q, h3, h4⟩ := edits_j2 s hs hl x1 t ht l (hz.mono (by omega)) (p + 1 + 1) (by omega) (by omega)
        refine ⟨l', q, Ev.up ?_, h4⟩
        simp only [spec_l20Edits.l0]
        refine Ev.pos (by omega) (Ev.up ?_)
        simp only [spec_l20Edits.j1, decide_eq_true hin, if_true]
        refine Ev.bind h1 (Ev.bind h2 ?_)
        simp only [w1, w2]
        exact Ev.pos hbig h3
      · obtain ⟨r3, h3, h3a, h3b⟩ := pick_ev s hs (p + 1 + 1) 4 (by omega) (by omega) (by omega)
        have h3c := h3b (by omega)
        have hsz := rdOf_all ByteArray.empty [(⟨#[]⟩ : ByteArray), (⟨#[110, 101, 119]⟩ : ByteArray), (⟨#[10]⟩ : ByteArray), (⟨#[120]⟩ : ByteArray)] r3 (fun x => x.size ≤ 3) h3a (by simp; omega) (by decide)
        have h1c := h1b (by omega)
        have h2c := h2b (by omega)
        obtain ⟨l', q, h4, h5⟩ := ih (l ++ [(⟨x8 + r1, x8 + r1 + r2, rdOf ByteArray.empty [(⟨#[]⟩ : ByteArray), (⟨#[110, 101, 119]⟩ : ByteArray), (⟨#[10]⟩ : ByteArray), (⟨#[120]⟩ : ByteArray)] r3⟩ : S42)]) (mx (x8 + r1 + r2) (x8 + r1 + 1)) (wrap64 (x9 - 1)) (p + 1 + 1 + 1) (by rw [w64] <;> omega) (by omega) (by omega) (by omega) ((hz.snoc _ hsz).mono (by omega)) (mx_ge _ _ _ (by omega)) (mx_le _ _ _ (by omega) (by omega))
        refine ⟨l', q, Ev.up ?_, h5⟩
        have hl4 := hz.1
        simp only [spec_l20Edits.l0]
        refine Ev.pos (by omega) (Ev.up ?_)
        simp only [spec_l20Edits.j1, decide_eq_true hin, if_true]
        refine Ev.bind h1 (Ev.bind h2 ?_)
        simp only [w1, w2, w3]
        refine Ev.neg hbig ?_
        simp only [Option.bind_some]
        exact Ev.bind h3 (Ev.pos h3a (Ev.pos (by simp; omega) (Ev.pos (by omega) h4)))
    · obtain ⟨l', q, h1, h2⟩ := edits_j2 s hs hl x1 t ht l (hz.mono (by omega)) p hp (by omega)
      refine ⟨l', q, Ev.up ?_, h2⟩
      simp only [spec_l20Edits.l0]
      refine Ev.pos (by omega) (Ev.up ?_)
      simp only [spec_l20Edits.j1, decide_eq_false hin, Bool.false_eq_true, if_false]
      exact h1
theorem edits_ev (s : List Int) (hs : codeOk s) (hl : s.length ≤ 2000) (p n : Int) (hp : 0 ≤ p) (hp2 : p ≤ 1000000) :
    ∃ t l q, Ev (fun k => spec_l20Edits.f k s p n) (t, l, q) ∧ t.size ≤ 22 ∧ smallE l 7 := by
  unfold spec_l20Edits.f
  obtain ⟨t1, q1, h1, h1a, h1b, h1c⟩ := plain_ev s hs hl p 0 (by omega) (by omega)
  obtain ⟨t2, q2, h2, h2a, h2b, h2c⟩ := plain_ev s hs hl q1 0 (by omega) (by omega)
  obtain ⟨r1, h3, h3a, h3b⟩ := pick_ev s hs q2 4 (by omega) (by omega) (by omega)
  obtain ⟨d, rfl⟩ := Int.eq_ofNat_of_zero_le h3a
  have h3c := h3b (by omega)
  obtain ⟨l, q, h4, h5⟩ := edits_l0 s hs hl n (t1 ++ t2) (by rw [ByteArray.size_append]; omega) d [] 0 d (q2 + 1) rfl (by omega) (by omega) (by omega) ⟨by simp, by simp⟩ (by omega) (by omega)
  exact ⟨t1 ++ t2, l, q, Ev.bind h1 (Ev.bind h2 (Ev.pos (by dsimp only; omega) (Ev.bind h3 h4))), by rw [ByteArray.size_append]; omega, h5⟩
/-! ## ApplyEdits: both are the same text -/
def L (s : ByteArray) : List UInt8 := s.data.toList
def mk (b : List UInt8) : ByteArray := ⟨b.toArray⟩
theorem L_mk (b : List UInt8) : L (mk b) = b := by simp [L, mk]
theorem mk_L (s : ByteArray) : mk (L s) = s := by cases s; simp [L, mk]
theorem L_inj {s t : ByteArray} (h : L s = L t) : s = t := by rw [← mk_L s, h, mk_L]
theorem L_append (s t : ByteArray) : L (s ++ t) = L s ++ L t := by simp [L, ByteArray.data_append]
theorem L_length (s : ByteArray) : (L s).length = s.size := by cases s; simp [L, ByteArray.size]
theorem L_extract (s : ByteArray) (a b : Nat) : L (s.extract a b) = ((L s).take b).drop a := by
  simp [L, ByteArray.data_extract, List.drop_take]
/-- What the edits make of the text from a place on. -/
def appL (s : List UInt8) : List S42 → Nat → List UInt8
  | [], at_ => s.drop at_
  | e :: r, at_ => (s.take e.f0.toNat).drop at_ ++ L e.f2 ++ appL s r e.f1.toNat
/-- Edits that stand one behind the other from a place on. -/
def Chain (n : Nat) : List S42 → Nat → Prop
  | [], at_ => at_ ≤ n
  | e :: r, at_ => (at_ : Int) ≤ e.f0 ∧ e.f0 ≤ e.f1 ∧ e.f1 ≤ (n : Int) ∧ Chain n r e.f1.toNat
theorem chain_drop {s : ByteArray} {l : List S42} (h : editsOk s l) : ∀ (d i : Nat), i + d = l.length → Chain s.size (l.drop i) (if i = 0 then 0 else (rd_T42 l ((i : Int) - 1)).f1.toNat) := by
  intro d
  induction d with
  | zero =>
    intro i hi
    rw [List.drop_of_length_le (by omega)]
    by_cases h0 : i = 0
    · simp [h0, Chain]
    · rw [if_neg h0]
      have e1 : ((i : Int) - 1) = ((i - 1 : Nat) : Int) := by omega
      have hp := (h.2.2 (i - 1) (by omega)).1.1
      rw [e1]
      show (rd_T42 l ((i - 1 : Nat) : Int)).f1.toNat ≤ s.size
      omega
  | succ d ih =>
    intro i hi
    have hlt : i < l.length := by omega
    have h1 := h.2.2 i hlt
    have hn := ih (i + 1) (by omega)
    rw [List.drop_eq_getElem_cons hlt, ← rdE l i hlt]
    have e2 : (((i + 1 : Nat) : Int) - 1) = (i : Int) := by omega
    rw [if_neg (by omega), e2] at hn
    refine ⟨?_, h1.1.2.1.2, h1.1.1.2, hn⟩
    by_cases h0 : i = 0
    · rw [if_pos h0]; exact h1.1.2.1.1
    · rw [if_neg h0]
      have ha := (h1.2 (by omega)).1
      have e1 : ((i : Int) - 1) = ((i - 1 : Nat) : Int) := by omega
      have hp := (h.2.2 (i - 1) (by omega)).1.1.1
      rw [e1] at ha ⊢
      omega
theorem chain_of {s : ByteArray} {l : List S42} (h : editsOk s l) : Chain s.size l 0 := by
  have := chain_drop h l.length 0 (by omega)
  simpa using this
theorem Chain.le {n : Nat} : ∀ {l : List S42} {at_ : Nat}, Chain n l at_ → at_ ≤ n
  | [], _, h => h
  | e :: r, at_, h => by have h1 := h.1; have h2 := h.2.1; have h3 := h.2.2.1; omega
/-- The result and whether it is a text. -/
noncomputable def fin (b : List UInt8) : ByteArray × Bool := open Classical in if textOk (mk b) then (mk b, true) else ((⟨#[]⟩ : ByteArray), false)
noncomputable def applyM (s : ByteArray) (l : List S42) : ByteArray × Bool := open Classical in if editsOk s l then fin (appL (L s) l 0) else ((⟨#[]⟩ : ByteArray), false)
theorem size_of_L {s : ByteArray} {b : List UInt8} (h : L s = b) : s.size = b.length := by rw [← h, L_length]
theorem impl_apply_loop (s : ByteArray) (l : List S42) (hok : editsOk s l) (d : Nat) : ∀ (i : Nat) (acc : ByteArray) (at_ : Nat), i + d = l.length → Chain s.size (l.drop i) at_ → acc.size ≤ i * 50000 →
    Ev (fun k => impl_ApplyEdits.l0 k s l acc at_ i) (fin (L acc ++ appL (L s) (l.drop i) at_)) := by
  have hs : s.size ≤ 20000 := hok.1.1
  have hl : l.length ≤ 20 := hok.2.1
  induction d with
  | zero =>
    intro i acc at_ hi hc ha
    rw [List.drop_of_length_le (by omega)] at hc ⊢
    have hat : at_ ≤ s.size := hc
    have hx : L (acc ++ s.extract at_ s.size) = L acc ++ appL (L s) [] at_ := by
      rw [L_append, L_extract, appL, List.take_of_length_le (by rw [L_length]; exact Nat.le_refl _)]
    have hm : acc ++ s.extract at_ s.size = mk (L acc ++ appL (L s) [] at_) := by rw [← hx, mk_L]
    refine Ev.up ?_
    simp only [impl_ApplyEdits.l0]
    refine Ev.neg (by omega) (Ev.up ?_)
    simp only [impl_ApplyEdits.e0, Int.toNat_natCast]
    refine Ev.pos (by omega) (Ev.pos (by omega) (Ev.pos (by rw [ByteArray.size_extract]; omega) ?_))
    have ht := impl_text (acc ++ s.extract at_ s.size) (by rw [ByteArray.size_append, ByteArray.size_extract]; omega)
    refine Ev.bind ht ?_
    rw [hm]
    unfold fin
    by_cases h : textOk (mk (L acc ++ appL (L s) [] at_))
    · rw [if_pos h]; exact Ev.pos (by simp [h]) (Ev.now _)
    · rw [if_neg h]; exact Ev.neg (by simp [h]) (Ev.now _)
  | succ d ih =>
    intro i acc at_ hi hc ha
    have hlt : i < l.length := by omega
    have h1 := (hok.2.2 i hlt).1
    rw [List.drop_eq_getElem_cons hlt, ← rdE l i hlt] at hc ⊢
    obtain ⟨c1, c2, c3, c4⟩ := hc
    have h2 : wrap64 ((i : Int) + 1) = ((i + 1 : Nat) : Int) := by rw [w64] <;> omega
    have hf2 : (rd_T42 l i).f2.size ≤ 20000 := h1.2.2.1
    have hsz : (acc ++ (s.extract at_ (rd_T42 l i).f0.toNat ++ (rd_T42 l i).f2)).size ≤ (i + 1) * 50000 := by
      rw [ByteArray.size_append, ByteArray.size_append, ByteArray.size_extract]; omega
    have hn := ih (i + 1) (acc ++ (s.extract at_ (rd_T42 l i).f0.toNat ++ (rd_T42 l i).f2)) (rd_T42 l i).f1.toNat (by omega) c4 hsz
    have e1 : L (acc ++ (s.extract at_ (rd_T42 l i).f0.toNat ++ (rd_T42 l i).f2)) ++ appL (L s) (l.drop (i + 1)) (rd_T42 l i).f1.toNat = L acc ++ appL (L s) (rd_T42 l i :: l.drop (i + 1)) at_ := by
      rw [L_append, L_append, L_extract, appL]; simp only [List.append_assoc]
    rw [e1] at hn
    refine Ev.up ?_
    simp only [impl_ApplyEdits.l0, Int.toNat_natCast, h2]
    have e2 : (((rd_T42 l i).f1.toNat : Nat) : Int) = (rd_T42 l i).f1 := by omega
    rw [e2] at hn
    refine Ev.pos (by omega) (Ev.pos (by omega) (Ev.pos (by omega) (Ev.pos c1 (Ev.pos (by omega) (Ev.pos ?_ (Ev.pos ?_ hn))))))
    · rw [ByteArray.size_extract]; omega
    · rw [ByteArray.size_append] at hsz; omega
theorem impl_apply (s : ByteArray) (l : List S42) (hs : s.size ≤ 140737488355328) (hl : sizedE l) : Ev (fun k => impl_ApplyEdits.f k s l) (applyM s l) := by
  unfold impl_ApplyEdits.f applyM
  refine Ev.bind (impl_edits s l hs hl) ?_
  by_cases h : editsOk s l
  · rw [if_pos h]
    have hz : (⟨#[]⟩ : ByteArray).size = 0 := rfl
    have h2 := impl_apply_loop s l h l.length 0 (⟨#[]⟩ : ByteArray) 0 (by omega) (by simpa using chain_of h) (by omega)
    have e : L (⟨#[]⟩ : ByteArray) = [] := rfl
    rw [e] at h2
    simp only [List.drop_zero, List.nil_append] at h2
    exact Ev.pos (by simp [h]) h2
  · rw [if_neg h]
    exact Ev.neg (by simp [h]) (Ev.now _)
theorem spec_apply_loop (s : ByteArray) (l : List S42) (hok : editsOk s l) (d : Nat) : ∀ (i : Nat) (acc : ByteArray) (at_ : Nat), i + d = l.length → Chain s.size (l.drop i) at_ → acc.size ≤ i * 50000 →
    Ev (fun k => spec_ApplyEdits.l0 k s l acc at_ i) (fin (L acc ++ appL (L s) (l.drop i) at_)) := by
  have hs : s.size ≤ 20000 := hok.1.1
  have hl : l.length ≤ 20 := hok.2.1
  induction d with
  | zero =>
    intro i acc at_ hi hc ha
    rw [List.drop_of_length_le (by omega)] at hc ⊢
    have hat : at_ ≤ s.size := hc
    have hx : L (acc ++ s.extract at_ s.size) = L acc ++ appL (L s) [] at_ := by
      rw [L_append, L_extract, appL, List.take_of_length_le (by rw [L_length]; exact Nat.le_refl _)]
    have hm : acc ++ s.extract at_ s.size = mk (L acc ++ appL (L s) [] at_) := by rw [← hx, mk_L]
    refine Ev.up ?_
    simp only [spec_ApplyEdits.l0, Int.toNat_natCast]
    refine Ev.neg (by omega) (Ev.pos (by omega) (Ev.pos (by omega) (Ev.pos (by rw [ByteArray.size_extract]; omega) ?_)))
    have ht := spec_text (acc ++ s.extract at_ s.size) (by rw [ByteArray.size_append, ByteArray.size_extract]; omega)
    refine Ev.bind ht ?_
    rw [hm]
    unfold fin
    by_cases h : textOk (mk (L acc ++ appL (L s) [] at_))
    · rw [if_pos h]; exact Ev.pos (by simp [h]) (Ev.now _)
    · rw [if_neg h]; exact Ev.neg (by simp [h]) (Ev.now _)
  | succ d ih =>
    intro i acc at_ hi hc ha
    have hlt : i < l.length := by omega
    have h1 := (hok.2.2 i hlt).1
    rw [List.drop_eq_getElem_cons hlt, ← rdE l i hlt] at hc ⊢
    obtain ⟨c1, c2, c3, c4⟩ := hc
    have h2 : wrap64 ((i : Int) + 1) = ((i + 1 : Nat) : Int) := by rw [w64] <;> omega
    have hf2 : (rd_T42 l i).f2.size ≤ 20000 := h1.2.2.1
    have hsz : (acc ++ s.extract at_ (rd_T42 l i).f0.toNat ++ (rd_T42 l i).f2).size ≤ (i + 1) * 50000 := by
      rw [ByteArray.size_append, ByteArray.size_append, ByteArray.size_extract]; omega
    have hn := ih (i + 1) (acc ++ s.extract at_ (rd_T42 l i).f0.toNat ++ (rd_T42 l i).f2) (rd_T42 l i).f1.toNat (by omega) c4 hsz
    have e1 : L (acc ++ s.extract at_ (rd_T42 l i).f0.toNat ++ (rd_T42 l i).f2) ++ appL (L s) (l.drop (i + 1)) (rd_T42 l i).f1.toNat = L acc ++ appL (L s) (rd_T42 l i :: l.drop (i + 1)) at_ := by
      rw [L_append, L_append, L_extract, appL]; simp only [List.append_assoc]
    rw [e1] at hn
    refine Ev.up ?_
    simp only [spec_ApplyEdits.l0, Int.toNat_natCast, h2]
    have e2 : (((rd_T42 l i).f1.toNat : Nat) : Int) = (rd_T42 l i).f1 := by omega
    rw [e2] at hn
    refine Ev.pos (by omega) (Ev.pos (by omega) (Ev.pos (by omega) (Ev.pos c1 (Ev.pos (by omega) (Ev.pos ?_ (Ev.pos ?_ hn))))))
    · rw [ByteArray.size_extract]; omega
    · rw [ByteArray.size_append] at hsz; omega
theorem spec_apply (s : ByteArray) (l : List S42) (hs : s.size ≤ 140737488355328) (hl : sizedE l) : Ev (fun k => spec_ApplyEdits.f k s l) (applyM s l) := by
  unfold spec_ApplyEdits.f applyM
  refine Ev.bind (spec_edits s l hs hl) ?_
  by_cases h : editsOk s l
  · rw [if_pos h]
    have hz : (⟨#[]⟩ : ByteArray).size = 0 := rfl
    have h2 := spec_apply_loop s l h l.length 0 (⟨#[]⟩ : ByteArray) 0 (by omega) (by simpa using chain_of h) (by omega)
    have e : L (⟨#[]⟩ : ByteArray) = [] := rfl
    rw [e] at h2
    simp only [List.drop_zero, List.nil_append] at h2
    exact Ev.pos (by simp [h]) h2
  · rw [if_neg h]
    exact Ev.neg (by simp [h]) (Ev.now _)
/-! ## more about what edits make of a text -/
theorem appL_split (s : List UInt8) (n : Nat) (hn : s.length = n) : ∀ (l : List S42) (a m : Nat), Chain n l m → a ≤ m → appL s l a = (s.take m).drop a ++ appL s l m
  | [], a, m, hc, ha => by
    have hm : m ≤ n := hc
    simp only [appL]
    rw [show s.drop m = (s.drop a).drop (m - a) by rw [List.drop_drop]; congr 1; omega, List.drop_take, List.take_append_drop]
  | e :: r, a, m, hc, ha => by
    have h1 := hc.1
    simp only [appL]
    rw [← List.append_assoc, ← List.append_assoc]
    congr 2
    rw [List.drop_take, List.drop_take, List.drop_take, show s.drop m = (s.drop a).drop (m - a) by rw [List.drop_drop]; congr 1; omega]
    rw [show e.f0.toNat - a = (m - a) + (e.f0.toNat - m) by omega, List.take_add]
def more : List S42 → Int
  | [] => 0
  | e :: r => (e.f2.size : Int) - (e.f1 - e.f0) + more r
theorem appL_length (s : List UInt8) (n : Nat) (hn : s.length = n) : ∀ (l : List S42) (a : Nat), Chain n l a → ((appL s l a).length : Int) = n - a + more l
  | [], a, hc => by
    have : a ≤ n := hc
    simp only [appL, more, List.length_drop]
    omega
  | e :: r, a, hc => by
    obtain ⟨h1, h2, h3, h4⟩ := hc
    have ih := appL_length s n hn r e.f1.toNat h4
    simp only [appL, more, List.length_append, List.length_drop, List.length_take, L_length]
    have h5 := h4.le
    omega
theorem applyM_ok {s : ByteArray} {l : List S42} (h : (applyM s l).2 = true) : editsOk s l ∧ textOk (mk (appL (L s) l 0)) ∧ (applyM s l).1 = mk (appL (L s) l 0) := by
  unfold applyM at h ⊢
  by_cases he : editsOk s l
  · rw [if_pos he] at h ⊢
    unfold fin at h ⊢
    by_cases ht : textOk (mk (appL (L s) l 0))
    · rw [if_pos ht]
      exact ⟨he, ht, rfl⟩
    · rw [if_neg ht] at h
      cases h
  · rw [if_neg he] at h
    cases h
theorem applyM_no {s : ByteArray} {l : List S42} (h : (applyM s l).2 = false) : (applyM s l).1 = (⟨#[]⟩ : ByteArray) := by
  unfold applyM at h ⊢
  by_cases he : editsOk s l
  · rw [if_pos he] at h ⊢
    unfold fin at h ⊢
    by_cases ht : textOk (mk (appL (L s) l 0))
    · rw [if_pos ht] at h; cases h
    · rw [if_neg ht]
  · rw [if_neg he]
theorem applyM_yes {s : ByteArray} {l : List S42} (h1 : editsOk s l) (h2 : textOk (mk (appL (L s) l 0))) : applyM s l = (mk (appL (L s) l 0), true) := by
  unfold applyM
  rw [if_pos h1]
  unfold fin
  rw [if_pos h2]
/-- Single edits. -/
theorem rdE_one (e : S42) : rd_T42 [e] ((0 : Nat) : Int) = e := by rw [rdE _ _ (by simp)]; rfl
theorem editsOk_one {s : ByteArray} {e : S42} (ht : textOk s) (h : editOk s e) : editsOk s [e] :=
  ⟨ht, by simp, fun i hi => by
    obtain rfl : i = 0 := by simpa using hi
    rw [rdE_one]
    exact ⟨h, fun h0 => absurd h0 (by omega)⟩⟩
/-- One edit after the later ones: the text after it and them. -/
theorem step_back (s : List UInt8) (n : Nat) (hn : s.length = n) (e : S42) (r : List S42) (hc : Chain n (e :: r) 0) : appL (appL s r 0) [e] 0 = appL s (e :: r) 0 := by
  obtain ⟨h1, h2, h3, h4⟩ := hc
  have hsp := appL_split s n hn r 0 e.f1.toNat h4 (by omega)
  have hle := h4.le
  simp only [appL]
  rw [hsp]
  simp only [List.drop_zero]
  rw [List.take_append_of_le_length (by rw [List.length_take]; omega), List.take_take, Nat.min_eq_left (by omega)]
  congr 1
  rw [List.drop_append, List.drop_of_length_le (by rw [List.length_take]; omega), List.nil_append, List.length_take, show e.f1.toNat - min e.f1.toNat s.length = 0 by omega]
  simp
theorem drawApplyEdits (l : List Int) (hs : codeOk l) (hl : l.length ≤ 1048576) : ∃ t es, Ev (fun k => spec_DrawApplyEdits.f k l) (t, es) ∧ t.size ≤ 22 ∧ smallE es 7 := by
  unfold spec_DrawApplyEdits.f
  obtain ⟨s, h1, h2, h3⟩ := open_ev l hs hl
  obtain ⟨t, es, q, h4, h5⟩ := edits_ev s h2 h3 0 6 (by omega) (by omega)
  refine ⟨t, es, ?_, h5⟩
  simp only [h1, Option.bind_some]
  exact Ev.bind h4 (Ev.now _)
/-! ## edits or nothing -/
noncomputable def okp (s : ByteArray) (l : List S42) : List S42 × Bool := open Classical in if editsOk s l then (l, true) else ([], false)
theorem okp_pos {s : ByteArray} {l : List S42} (h : editsOk s l) : okp s l = (l, true) := if_pos h
theorem okp_neg {s : ByteArray} {l : List S42} (h : ¬ editsOk s l) : okp s l = ([], false) := if_neg h
/-! ## JoinEdits -/
theorem S_eta (e : S42) : (⟨e.f0, e.f1, e.f2⟩ : S42) = e := rfl
/-- The program's merging, and the reference's. -/
def mergeI : List S42 → List S42 → List S42
  | [], b => b
  | a, [] => a
  | x :: a, y :: b => if x.f0 ≤ y.f0 then x :: mergeI a (y :: b) else y :: mergeI (x :: a) b
termination_by a b => a.length + b.length
def mergeS : List S42 → List S42 → List S42
  | [], b => b
  | a, [] => a
  | x :: a, y :: b => if x.f0 < y.f0 ∨ (x.f0 = y.f0 ∧ x.f1 ≤ y.f1) then x :: mergeS a (y :: b) else y :: mergeS (x :: a) b
termination_by a b => a.length + b.length
theorem mergeI_nil (a : List S42) : mergeI a [] = a := by cases a <;> simp [mergeI]
theorem mergeS_nil (a : List S42) : mergeS a [] = a := by cases a <;> simp [mergeS]
theorem mergeI_nil' (b : List S42) : mergeI [] b = b := by simp [mergeI]
theorem mergeS_nil' (b : List S42) : mergeS [] b = b := by simp [mergeS]
theorem mergeI_perm : ∀ (n : Nat) (a b : List S42), a.length + b.length = n → (mergeI a b).Perm (a ++ b) := by
  intro n
  induction n with
  | zero => intro a b h; rw [List.eq_nil_of_length_eq_zero (show a.length = 0 by omega), List.eq_nil_of_length_eq_zero (show b.length = 0 by omega)]; simp [mergeI]
  | succ n ih =>
    intro a b h
    cases a with
    | nil => rw [mergeI_nil']; exact List.Perm.refl _
    | cons x a =>
      cases b with
      | nil => rw [mergeI_nil, List.append_nil]
      | cons y b =>
        rw [mergeI]
        simp only [List.length_cons] at h
        split
        · exact (ih a (y :: b) (by simp; omega)).cons x
        · exact ((ih (x :: a) b (by simp; omega)).cons y).trans List.perm_middle.symm
theorem mergeS_perm : ∀ (n : Nat) (a b : List S42), a.length + b.length = n → (mergeS a b).Perm (a ++ b) := by
  intro n
  induction n with
  | zero => intro a b h; rw [List.eq_nil_of_length_eq_zero (show a.length = 0 by omega), List.eq_nil_of_length_eq_zero (show b.length = 0 by omega)]; simp [mergeS]
  | succ n ih =>
    intro a b h
    cases a with
    | nil => rw [mergeS_nil']; exact List.Perm.refl _
    | cons x a =>
      cases b with
      | nil => rw [mergeS_nil, List.append_nil]
      | cons y b =>
        rw [mergeS]
        simp only [List.length_cons] at h
        split
        · exact (ih a (y :: b) (by simp; omega)).cons x
        · exact ((ih (x :: a) b (by simp; omega)).cons y).trans List.perm_middle.symm
def apartNames (a b : List S42) : Prop := ∀ x ∈ a, ∀ y ∈ b, x.f0 ≠ y.f0
theorem merge_same : ∀ (n : Nat) (a b : List S42), a.length + b.length = n → apartNames a b → mergeS a b = mergeI a b ∧ mergeI b a = mergeI a b := by
  intro n
  induction n with
  | zero => intro a b h _; rw [List.eq_nil_of_length_eq_zero (show a.length = 0 by omega), List.eq_nil_of_length_eq_zero (show b.length = 0 by omega)]; simp [mergeI, mergeS]
  | succ n ih =>
    intro a b h ha
    cases a with
    | nil => exact ⟨by rw [mergeI_nil', mergeS_nil'], by rw [mergeI_nil', mergeI_nil]⟩
    | cons x a =>
      cases b with
      | nil => exact ⟨by rw [mergeI_nil, mergeS_nil], by rw [mergeI_nil', mergeI_nil]⟩
      | cons y b =>
        simp only [List.length_cons] at h
        have hne := ha x (List.mem_cons_self) y (List.mem_cons_self)
        have h1 := ih a (y :: b) (by simp; omega) (fun u hu v hv => ha u (List.mem_cons_of_mem _ hu) v hv)
        have h2 := ih (x :: a) b (by simp; omega) (fun u hu v hv => ha u hu v (List.mem_cons_of_mem _ hv))
        have e1 : mergeI (x :: a) (y :: b) = if x.f0 ≤ y.f0 then x :: mergeI a (y :: b) else y :: mergeI (x :: a) b := by rw [mergeI]
        have e2 : mergeS (x :: a) (y :: b) = if x.f0 < y.f0 ∨ (x.f0 = y.f0 ∧ x.f1 ≤ y.f1) then x :: mergeS a (y :: b) else y :: mergeS (x :: a) b := by rw [mergeS]
        have e3 : mergeI (y :: b) (x :: a) = if y.f0 ≤ x.f0 then y :: mergeI b (x :: a) else x :: mergeI (y :: b) a := by rw [mergeI]
        rw [e1, e2, e3]
        by_cases hlt : x.f0 ≤ y.f0
        · rw [if_pos hlt, if_pos (by omega), if_neg (by omega), h1.1, h1.2]
          exact ⟨rfl, rfl⟩
        · rw [if_neg hlt, if_neg (by omega), if_pos (by omega), h2.1, h2.2]
          exact ⟨rfl, rfl⟩
/-- Valid edits begin at different places. -/
theorem editsOk_lt {s : ByteArray} {l : List S42} (h : editsOk s l) : ∀ (i j : Nat) (hi : i < j) (hj : j < l.length), (l[i]).f0 < (l[j]).f0 := by
  intro i j hij hj
  induction j with
  | zero => omega
  | succ j ih =>
    have h1 := (h.2.2 (j + 1) hj).2 (by omega)
    have h2 := (h.2.2 j (by omega)).1
    have e : (((j + 1 : Nat) : Int) - 1) = ((j : Nat) : Int) := by omega
    rw [e, rdE l (j + 1) hj, rdE l j (by omega)] at h1
    rw [rdE l j (by omega)] at h2
    have h3 := h2.2.1
    by_cases hc : i = j
    · subst hc
      omega
    · have := ih (by omega) (by omega)
      omega
theorem editsOk_ne {s : ByteArray} {l : List S42} (h : editsOk s l) : l.Pairwise (fun x y => x.f0 ≠ y.f0) := by
  rw [List.pairwise_iff_getElem]
  intro i j hi hj hij
  have := editsOk_lt h i j hij hj
  omega
theorem not_apart {s : ByteArray} {a b l : List S42} (hp : l.Perm (a ++ b)) (h : editsOk s l) : apartNames a b := by
  have h1 := (hp.pairwise_iff (R := fun x y : S42 => x.f0 ≠ y.f0) (fun hxy => Ne.symm hxy)).mp (editsOk_ne h)
  intro x hx y hy
  exact (List.pairwise_append.mp h1).2.2 x hx y hy
noncomputable def joinM (s : ByteArray) (a b : List S42) : List S42 × Bool := open Classical in if editsOk s a ∧ editsOk s b ∧ editsOk s (mergeI a b) then (mergeI a b, true) else ([], false)
theorem joinM_symm (s : ByteArray) (a b : List S42) : joinM s b a = joinM s a b := by
  unfold joinM
  by_cases h : editsOk s a ∧ editsOk s b ∧ editsOk s (mergeI a b)
  · have hs := merge_same _ a b rfl (not_apart (mergeI_perm _ a b rfl) h.2.2)
    rw [if_pos h, if_pos ⟨h.2.1, h.1, by rw [hs.2]; exact h.2.2⟩, hs.2]
  · rw [if_neg h, if_neg]
    rintro ⟨h1, h2, h3⟩
    have hs := merge_same _ b a rfl (not_apart (mergeI_perm _ b a rfl) h3)
    exact h ⟨h2, h1, by rw [hs.2]; exact h3⟩
theorem mergeS_ok (s : ByteArray) (a b : List S42) : editsOk s (mergeS a b) ↔ editsOk s (mergeI a b) :=
  ⟨fun h => by rw [← (merge_same _ a b rfl (not_apart (mergeS_perm _ a b rfl) h)).1]; exact h, fun h => by rw [(merge_same _ a b rfl (not_apart (mergeI_perm _ a b rfl) h)).1]; exact h⟩
theorem mergeS_eq {s : ByteArray} {a b : List S42} (h : editsOk s (mergeI a b)) : mergeS a b = mergeI a b := (merge_same _ a b rfl (not_apart (mergeI_perm _ a b rfl) h)).1
theorem sizedE_perm {a b l : List S42} (hp : l.Perm (a ++ b)) (ha : sizedE a) (hb : sizedE b) (hla : a.length ≤ 1000) (hlb : b.length ≤ 1000) : sizedE l :=
  ⟨by rw [hp.length_eq, List.length_append]; omega, fun e he => by
    rcases List.mem_append.mp (hp.mem_iff.mp he) with h | h
    · exact ha.2 e h
    · exact hb.2 e h⟩
theorem rd0 (x : S42) (a : List S42) : rd_T42 (x :: a) 0 = x := by
  have := rdE (x :: a) 0 (by simp)
  simpa using this
theorem impl_join_loop (s : ByteArray) (hs : s.size ≤ 140737488355328) (n : Nat) : ∀ (a b acc : List S42), a.length + b.length = n → acc.length + n ≤ 1000 → sizedE (acc ++ mergeI a b) →
    Ev (fun k => impl_JoinEdits.l0 k s a b acc) (okp s (acc ++ mergeI a b)) := by
  induction n with
  | zero =>
    intro a b acc h hl hz
    rw [List.eq_nil_of_length_eq_zero (show a.length = 0 by omega), List.eq_nil_of_length_eq_zero (show b.length = 0 by omega)] at hz ⊢
    rw [mergeI_nil, List.append_nil] at hz ⊢
    have w : wrap64 ((([] : List S42).length : Int) + (([] : List S42).length : Int)) = 0 := by simp [wrap64]
    refine Ev.up ?_
    simp only [impl_JoinEdits.l0, w]
    clear w
    refine Ev.neg (by omega) (Ev.bind (impl_edits s acc hs hz) ?_)
    by_cases h : editsOk s acc
    · rw [okp_pos h]
      refine Ev.pos (by simp [h]) ?_
      have hc : impl_Edit.f acc = some acc := by unfold impl_Edit.f; rw [if_pos (by omega)]
      simp only [hc, Option.bind_some]
      exact Ev.now _
    · rw [okp_neg h]
      exact Ev.neg (by simp [h]) (Ev.now _)
  | succ n ih =>
    intro a b acc h hl hz
    have w : wrap64 ((a.length : Int) + (b.length : Int)) = a.length + b.length := w64 (by omega) (by omega)
    refine Ev.up ?_
    simp only [impl_JoinEdits.l0, w, S_eta]
    clear w
    refine Ev.pos (by omega) ?_
    cases b with
    | nil =>
      cases a with
      | nil => simp at h
      | cons x a =>
        have h1 := ih a [] (acc ++ [x]) (by simp at h ⊢; omega) (by simp; omega) (by rw [mergeI_nil, List.append_assoc]; rwa [mergeI_nil] at hz)
        rw [mergeI_nil, List.append_assoc] at h1
        rw [mergeI_nil]
        refine Ev.pos rfl (Ev.pos (by simp only [List.length_cons]; omega) (Ev.pos (by omega) (Ev.pos (by simp only [List.length_cons]; omega) ?_)))
        rw [rd0]
        exact h1
    | cons y b =>
      refine Ev.neg (by simp; omega) ?_
      cases a with
      | nil =>
        have h1 := ih [] b (acc ++ [y]) (by simp at h ⊢; omega) (by simp; omega) (by rw [mergeI_nil', List.append_assoc]; rwa [mergeI_nil'] at hz)
        rw [mergeI_nil', List.append_assoc] at h1
        rw [mergeI_nil']
        refine Ev.neg (by simp) (Ev.pos (by simp only [List.length_cons]; omega) (Ev.pos (by omega) (Ev.pos (by simp only [List.length_cons]; omega) ?_)))
        rw [rd0]
        exact h1
      | cons x a =>
        have e1 : mergeI (x :: a) (y :: b) = if x.f0 ≤ y.f0 then x :: mergeI a (y :: b) else y :: mergeI (x :: a) b := by rw [mergeI]
        rw [e1] at hz ⊢
        simp only [List.length_cons] at h
        refine Ev.pos (by simp only [List.length_cons]; omega) (Ev.pos (by simp only [List.length_cons]; omega) (Ev.pos (by simp only [List.length_cons]; omega) ?_))
        simp only [rd0, List.drop_succ_cons, List.drop_zero]
        by_cases hle : x.f0 ≤ y.f0
        · rw [if_pos hle] at hz ⊢
          have h1 := ih a (y :: b) (acc ++ [x]) (by simp; omega) (by simp; omega) (by rw [List.append_assoc]; exact hz)
          rw [List.append_assoc] at h1
          exact Ev.pos hle (Ev.pos (by omega) (Ev.pos (by simp; omega) h1))
        · rw [if_neg hle] at hz ⊢
          have h1 := ih (x :: a) b (acc ++ [y]) (by simp; omega) (by simp; omega) (by rw [List.append_assoc]; exact hz)
          rw [List.append_assoc] at h1
          exact Ev.neg hle (Ev.pos (by omega) (Ev.pos (by simp; omega) h1))
open Classical in
theorem impl_join (s : ByteArray) (a b : List S42) (hs : s.size ≤ 140737488355328) (ha : sizedE a) (hb : sizedE b) : Ev (fun k => impl_JoinEdits.f k s a b) (joinM s a b) := by
  unfold impl_JoinEdits.f joinM
  refine Ev.bind (impl_edits s a hs ha) ?_
  have hno : Ev (fun k => impl_JoinEdits.j0 k s a b true) (([], false) : List S42 × Bool) := by
    refine Ev.up ?_
    simp only [impl_JoinEdits.j0, if_true]
    exact Ev.now _
  by_cases h1 : editsOk s a
  · refine Ev.pos (by simp [h1]) (Ev.bind (impl_edits s b hs hb) ?_)
    by_cases h2 : editsOk s b
    · simp only [decide_eq_true h2, Bool.not_true]
      refine Ev.up ?_
      simp only [impl_JoinEdits.j0, Bool.false_eq_true, if_false]
      have hla := h1.2.1
      have hlb := h2.2.1
      have h := impl_join_loop s hs _ a b [] rfl (by simp; omega) (by rw [List.nil_append]; exact sizedE_perm (mergeI_perm _ a b rfl) ha hb (by omega) (by omega))
      rw [List.nil_append] at h
      refine Ev.eqr h ?_
      by_cases h3 : editsOk s (mergeI a b)
      · rw [okp_pos h3, if_pos ⟨h1, h2, h3⟩]
      · rw [okp_neg h3, if_neg (fun x => h3 x.2.2)]
    · simp only [decide_eq_false h2, Bool.not_false]
      rw [if_neg (fun x => h2 x.2.1)]
      exact hno
  · rw [if_neg (fun x => h1 x.1)]
    exact Ev.neg (by simp [h1]) hno
/-! ## sameEdits -/
theorem same_ev (l : List S42) (hl : l.length ≤ 1048576) : Ev (fun k => laws_sameEdits.f k l l) true := by
  unfold laws_sameEdits.f
  refine Ev.pos rfl ?_
  refine ev_scan (L := fun k i => laws_sameEdits.l0 k l l i) (n := l.length) (fun _ => True) ?_ (fun i _ _ h => absurd trivial h) ?_
  · intro i hi _ h
    have h1 : wrap64 ((i : Int) + 1) = i + 1 := w64 (by omega) (by omega)
    refine Ev.up ?_
    simp only [laws_sameEdits.l0, h1]
    exact Ev.pos (by omega) (Ev.pos (by omega) (Ev.pos (by omega) (Ev.neg (by simp) h)))
  · intro _
    refine Ev.up ?_
    simp only [laws_sameEdits.l0]
    exact Ev.neg (by omega) (Ev.now _)
/-! ## parts of edits -/
theorem rdE_drop (l : List S42) (h i : Nat) (hi : h + i < l.length) : rd_T42 (l.drop h) (i : Int) = rd_T42 l ((h + i : Nat) : Int) := by
  rw [rdE _ _ (by simp; omega), rdE _ _ hi, List.getElem_drop]
theorem rdE_take (l : List S42) (h i : Nat) (hi : i < l.length) (hh : i < h) : rd_T42 (l.take h) (i : Int) = rd_T42 l (i : Int) := by
  rw [rdE _ _ (by simp; omega), rdE _ _ hi, List.getElem_take]
theorem editsOk.drop {s : ByteArray} {l : List S42} (h : editsOk s l) (n : Nat) : editsOk s (l.drop n) :=
  ⟨h.1, by have := h.2.1; simp; omega, fun i hi => by
    have hi' : n + i < l.length := by simp at hi; omega
    have h1 := h.2.2 (n + i) hi'
    refine ⟨by rw [rdE_drop _ _ _ hi']; exact h1.1, fun h0 => ?_⟩
    have h2 := h1.2 (by omega)
    have e1 : ((i : Int) - 1) = ((i - 1 : Nat) : Int) := by omega
    have e2 : (((n + i : Nat) : Int) - 1) = ((n + (i - 1) : Nat) : Int) := by omega
    rw [e2] at h2
    rw [e1, rdE_drop _ _ _ hi', rdE_drop _ _ _ (by omega)]
    exact h2⟩
theorem editsOk.take {s : ByteArray} {l : List S42} (h : editsOk s l) (n : Nat) : editsOk s (l.take n) :=
  ⟨h.1, by have := h.2.1; simp; omega, fun i hi => by
    have hi' : i < n ∧ i < l.length := by simp at hi; omega
    have h1 := h.2.2 i hi'.2
    refine ⟨by rw [rdE_take _ _ _ hi'.2 hi'.1]; exact h1.1, fun h0 => ?_⟩
    have h2 := h1.2 h0
    have e1 : ((i : Int) - 1) = ((i - 1 : Nat) : Int) := by omega
    rw [e1] at h2
    rw [e1, rdE_take _ _ _ hi'.2 hi'.1, rdE_take _ _ _ (by omega) (by omega)]
    exact h2⟩
theorem mergeI_before : ∀ (a b : List S42), (∀ x ∈ a, ∀ y ∈ b, x.f0 ≤ y.f0) → mergeI a b = a ++ b
  | [], b, _ => by rw [mergeI_nil']; rfl
  | x :: a, [], _ => by rw [mergeI_nil, List.append_nil]
  | x :: a, y :: b, h => by
    rw [mergeI, if_pos (h x (List.mem_cons_self) y (List.mem_cons_self)), mergeI_before a (y :: b) (fun u hu v hv => h u (List.mem_cons_of_mem _ hu) v hv)]
    rfl
theorem merge_parts {s : ByteArray} {l : List S42} (h : editsOk s l) (n : Nat) : mergeI (l.take n) (l.drop n) = l := by
  rw [mergeI_before, List.take_append_drop]
  intro x hx y hy
  obtain ⟨i, hi, rfl⟩ := List.mem_iff_getElem.mp hx
  obtain ⟨j, hj, rfl⟩ := List.mem_iff_getElem.mp hy
  rw [List.getElem_take, List.getElem_drop]
  have := editsOk_lt h i (n + j) (by simp at hi; omega) (by simp at hj; omega)
  omega
theorem join_parts {s : ByteArray} {l : List S42} (h : editsOk s l) (n : Nat) : joinM s (l.take n) (l.drop n) = (l, true) := by
  have e := merge_parts h n
  unfold joinM
  rw [e, if_pos ⟨h.take n, h.drop n, h⟩]
/-! ## the law -/
open Classical in
theorem FnEditsParts (l : List Int) (_ : l.length ≤ 9223372036854775807) (hwf : ∀ x ∈ l, (Lit.int .u8 x).wf = true) : ∃ k, laws_FnEditsParts.f k l = some true := by
  refine Ev.rounds (g := fun k => laws_FnEditsParts.f k l) ?_
  unfold laws_FnEditsParts.f
  by_cases hbig : (l.length : Int) > 1048576
  · exact Ev.pos hbig (Ev.now _)
  refine Ev.neg hbig ?_
  obtain ⟨s, es, hd, hs, hz⟩ := drawApplyEdits l (codeOk_wf hwf) (by omega)
  have hse := hz.sized (by omega)
  have hlen := hz.1
  refine Ev.bind hd (Ev.bind (impl_apply s es (by omega) hse) (Ev.bind (spec_apply s es (by omega) hse) (Ev.pos rfl (Ev.up ?_))))
  simp only [laws_FnEditsParts.j0, bne_self_eq_false, Bool.false_eq_true, if_false]
  by_cases hok : (applyM s es).2 = true
  · obtain ⟨h1, _, _⟩ := applyM_ok hok
    have hst : sizedE (es.take (es.length / 2)) := ⟨by simp; omega, fun e he => hse.2 e (List.mem_of_mem_take he)⟩
    have hsd : sizedE (es.drop (es.length / 2)) := ⟨by simp; omega, fun e he => hse.2 e (List.mem_of_mem_drop he)⟩
    have hj := impl_join s (es.take (es.length / 2)) (es.drop (es.length / 2)) (by omega) hst hsd
    rw [join_parts h1] at hj
    have w2 : wrap64 ((es.length : Int) / 2) = ((es.length / 2 : Nat) : Int) := by rw [w64] <;> omega
    refine Ev.pos hok ?_
    simp only [w2, Int.toNat_natCast]
    refine Ev.pos (by omega) (Ev.pos (by omega) (Ev.bind hj ?_))
    exact Ev.pos rfl (Ev.bind (same_ev es (by omega)) (Ev.now _))
  · have hno := applyM_no (by simpa using hok)
    exact Ev.neg hok (Ev.bind alive_ev (Ev.now _))
end Go.Proofs.Ytghkbkbommobaaa.Pure
