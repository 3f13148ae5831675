/- The law FnLineEdits answers true on every drawn input: program and reference find the same edit of lines, at most one, which leads from the first text to the second, and none exactly if the texts are equal. Conditions: none beyond the given statement's own; the listed tables of Go's library are as the program's text lays them (the card). -/
import Derived.Test.YtghkbkbommobaaaDoorPx14
namespace Go.Proofs.YtghkbkbommobaaaDoor.Pure
open Go.RowKit Go.Proofs.YtghkbkbommobaaaDoor.P Go.Proofs.YtghkbkbommobaaaDoorW.PrintWords Go.Proofs.YtghkbkbommobaaaDoorW.PrintLast
set_option linter.unusedVariables false
set_option linter.unusedSimpArgs false
/-! ## base: rounds, loops, numbers -/
theorem w64 {x : Int} (h0 : -9223372036854775808 ≤ x) (h1 : x ≤ 9223372036854775807) : wrap64 x = x := by unfold wrap64; omega
theorem Ev.pos {α : Type} {c : Prop} [Decidable c] {A B : Nat → Option α} {r : α} (hc : c) (h : Ev A r) : Ev (fun k => if c then A k else B k) r := by simpa only [if_pos hc] using h
theorem Ev.neg {α : Type} {c : Prop} [Decidable c] {A B : Nat → Option α} {r : α} (hc : ¬ c) (h : Ev B r) : Ev (fun k => if c then A k else B k) r := by simpa only [if_neg hc] using h
theorem Ev.ok {α : Type} {r r' : α} (h : r = r') : Ev (fun _ => some r) r' := by subst h; exact Ev.now r
theorem Ev.eqr {α : Type} {g : Nat → Option α} {r r' : α} (h : Ev g r) (e : r = r') : Ev g r' := e ▸ h
theorem Ev.unique {α : Type} {g : Nat → Option α} {r r' : α} (h : Ev g r) (h' : Ev g r') : r = r' := by
  obtain ⟨K, h⟩ := h
  obtain ⟨K', h'⟩ := h'
  have a := h (max K K') (by omega)
  have b := h' (max K K') (by omega)
  rw [a] at b
  exact Option.some.inj b
/-- A loop over 0, 1, .. n-1 that goes on while P holds. -/
theorem ev_scan {α : Type} {L : Nat → Int → Option α} {n : Nat} {r : α} (P : Nat → Prop)
    (hs : ∀ i : Nat, i < n → P i → Ev (fun k => L k (i + 1)) r → Ev (fun k => L k i) r)
    (hf : ∀ i : Nat, i < n → (∀ j, j < i → P j) → ¬ P i → Ev (fun k => L k i) r)
    (he : (∀ j, j < n → P j) → Ev (fun k => L k n) r) : Ev (fun k => L k 0) r := by
  have key : ∀ (d i : Nat), i + d = n → (∀ j, j < i → P j) → Ev (fun k => L k i) r := by
    intro d
    induction d with
    | zero =>
      intro i hi hp
      obtain rfl : i = n := by omega
      exact he hp
    | succ d ih =>
      intro i hi hp
      by_cases h : P i
      · have h' := ih (i + 1) (by omega) (fun j hj => by
          rcases Nat.lt_succ_iff_lt_or_eq.mp hj with h1 | h1
          · exact hp j h1
          · subst h1; exact h)
        exact hs i (by omega) h h'
      · exact hf i (by omega) hp h
  exact key n 0 (by omega) (fun j hj => by omega)
theorem rdOf_nat {α : Type} (d : α) (xs : List α) (i : Nat) (h : i < xs.length) : rdOf d xs (i : Int) = xs[i] := by
  simp [rdOf, List.getD_eq_getElem?_getD, List.getElem?_eq_getElem h]
theorem Ev.up {α : Type} {g : Nat → Option α} {r : α} (h : Ev (fun k => g (k + 1)) r) : Ev g r := Ev.step (fun _ => rfl) h
theorem Ev.const {α : Type} {g : Option α} {r : α} (h : g = some r) : Ev (fun _ => g) r := by subst h; exact Ev.now r
/-- A loop that fills a list, place by place. -/
theorem ev_fill {β γ : Type} {L : Nat → List β → Int → Option γ} {n : Nat} {r : γ} (g : Nat → β)
    (hs : ∀ (i : Nat) (xs : List β), i < n → xs.length = n → Ev (fun k => L k (xs.set i (g i)) (i + 1)) r → Ev (fun k => L k xs i) r)
    (he : Ev (fun k => L k ((List.range n).map g) n) r) (init : List β) (hi : init.length = n) : Ev (fun k => L k init 0) r := by
  have key : ∀ (d i : Nat) (xs : List β), i + d = n → xs.length = n → (∀ j, j < i → xs[j]? = some (g j)) → Ev (fun k => L k xs i) r := by
    intro d
    induction d with
    | zero =>
      intro i xs hid hl hp
      obtain rfl : i = n := by omega
      have : xs = (List.range i).map g := by
        apply List.ext_getElem?
        intro j
        by_cases hj : j < i
        · rw [hp j hj]; simp [hj]
        · rw [List.getElem?_eq_none (by omega), List.getElem?_eq_none (by simp; omega)]
      rw [this]
      exact he
    | succ d ih =>
      intro i xs hid hl hp
      have h' := ih (i + 1) (xs.set i (g i)) (by omega) (by simp [hl]) (fun j hj => by
        rcases Nat.lt_succ_iff_lt_or_eq.mp hj with h1 | h1
        · rw [List.getElem?_set_ne (by omega)]; exact hp j h1
        · subst h1; rw [List.getElem?_set_self (by omega)])
      exact hs i xs (by omega) hl h'
  exact key n 0 init (by omega) hi (fun j hj => by omega)
theorem range_map_get {α : Type} (d : α) (xs : List α) : (List.range xs.length).map (fun i => rdOf d xs (i : Nat)) = xs := by
  apply List.ext_getElem?
  intro j
  by_cases hj : j < xs.length
  · simp [hj, rdOf, List.getD_eq_getElem?_getD]
  · rw [List.getElem?_eq_none (by simp; omega), List.getElem?_eq_none (by omega)]
/-! ## bounds -/
theorem spec_in (a b c : Int) : spec_l1In.f a b c = some (decide (b ≤ a ∧ a ≤ c)) := by
  unfold spec_l1In.f
  by_cases h : a ≥ b
  · rw [if_pos h]; congr 1; exact decide_eq_decide.mpr ⟨fun x => ⟨h, x⟩, fun x => x.2⟩
  · rw [if_neg h]; congr 1; exact (decide_eq_false (fun x => h x.1)).symm
theorem impl_in (a b c : Int) : impl_in.f a b c = some (decide (b ≤ a ∧ a ≤ c)) := by
  unfold impl_in.f
  by_cases h : a ≥ b
  · rw [if_pos h]; congr 1; exact decide_eq_decide.mpr ⟨fun x => ⟨h, x⟩, fun x => x.2⟩
  · rw [if_neg h]; congr 1; exact (decide_eq_false (fun x => h x.1)).symm
theorem wbt (w : ByteArray) (j : Int) : wrap64 (bt w j) = bt w j := by
  have := bt_range w j
  exact w64 (by omega) (by omega)
def sized (ws : List ByteArray) : Prop := ws.length ≤ 1099511627776 ∧ ∀ w ∈ ws, w.size ≤ 140737488355328
/-! ## the reader of a code: pick and odd -/
theorem xor_nat (a b : Nat) (ha : a < 4611686018427387904) (hb : b < 4611686018427387904) : Go.bits .xor .i64 (a : Int) (b : Int) = ((a ^^^ b : Nat) : Int) := by
  have hx : a ^^^ b < 2 ^ 62 := Nat.xor_lt_two_pow (by omega) (by omega)
  have h1 : (BitVec.ofInt 64 (a : Int)).toNat = a := by
    rw [BitVec.ofInt_natCast, BitVec.toNat_ofNat]; exact Nat.mod_eq_of_lt (by omega)
  have h2 : (BitVec.ofInt 64 (b : Int)).toNat = b := by
    rw [BitVec.ofInt_natCast, BitVec.toNat_ofNat]; exact Nat.mod_eq_of_lt (by omega)
  show IntKind.i64.wrap ((BitVec.ofInt 64 (a : Int) ^^^ BitVec.ofInt 64 (b : Int)).toNat : Int) = _
  rw [BitVec.toNat_xor, h1, h2]
  simp only [IntKind.wrap, IntKind.bits, IntKind.signed]
  simp
  omega
theorem xor_ge (a b : Int) (h0 : 0 ≤ a) (h1 : a < 4611686018427387904) (h2 : 0 ≤ b) (h3 : b < 4611686018427387904) : 0 ≤ Go.bits .xor .i64 a b := by
  obtain ⟨n, rfl⟩ := Int.eq_ofNat_of_zero_le h0
  obtain ⟨m, rfl⟩ := Int.eq_ofNat_of_zero_le h2
  rw [xor_nat n m (by omega) (by omega)]
  omega
theorem tmod_in (a n : Int) (h : 0 ≤ a) (hn : 1 ≤ n) : 0 ≤ Int.tmod a n ∧ Int.tmod a n < n := by
  rw [Int.tmod_eq_emod_of_nonneg h]
  exact ⟨Int.emod_nonneg _ (by omega), Int.emod_lt_of_pos _ (by omega)⟩
def codeOk (s : List Int) : Prop := ∀ x ∈ s, 0 ≤ x ∧ x ≤ 255
theorem rd_in {s : List Int} (hs : codeOk s) (i : Int) : 0 ≤ rd s i ∧ rd s i ≤ 255 := by
  unfold rd
  by_cases h : i.toNat < s.length
  · rw [List.getD_eq_getElem?_getD, List.getElem?_eq_getElem h]
    exact hs _ (List.getElem_mem h)
  · rw [List.getD_eq_getElem?_getD, List.getElem?_eq_none (by omega)]
    simp
theorem pick_ev (s : List Int) (hs : codeOk s) (p n : Int) (hp : 0 ≤ p) (hp2 : p ≤ 1099511627776) (hl : s.length ≤ 140737488355328) :
    ∃ r, Ev (fun k => spec_l20Rd_pick.f k s p n) (r, p + 1) ∧ 0 ≤ r ∧ (1 ≤ n → r < n) := by
  have h1 : wrap64 (p + 1) = p + 1 := w64 (by omega) (by omega)
  have h2 : wrap64 (p + 1 - 1) = p := by rw [w64] <;> omega
  unfold spec_l20Rd_pick.f
  by_cases hn : n < 1
  · refine ⟨0, ?_, by omega, by omega⟩
    refine Ev.pos hn ?_
    refine Ev.step (f := fun k => some (0, p + 1)) (fun k => ?_) (Ev.now _)
    simp only [spec_l20Rd_pick.j0, if_true, h1]
  · by_cases he : (s.length : Int) = 0
    · refine ⟨0, ?_, by omega, by omega⟩
      refine Ev.neg hn ?_
      refine Ev.step (f := fun k => some (0, p + 1)) (fun k => ?_) (Ev.now _)
      simp only [spec_l20Rd_pick.j0, h1, he, beq_self_eq_true, if_true]
    · have hb : ((s.length : Int) == 0) = false := by simpa using he
      have hn1 : ¬ n = 0 := by omega
      by_cases hlt : p < (s.length : Int)
      · have hr := rd_in hs p
        have hw : wrap64 (rd s p) = rd s p := w64 (by omega) (by omega)
        have ht := tmod_in (rd s p) n hr.1 (by omega)
        refine ⟨Int.tmod (rd s p) n, ?_, ht.1, fun _ => ht.2⟩
        refine Ev.neg hn ?_
        refine Ev.step (f := fun k => some (Int.tmod (rd s p) n, p + 1)) (fun k => ?_) (Ev.now _)
        simp only [spec_l20Rd_pick.j0, h1, h2, hb, hw, if_pos hlt, if_pos hp, if_neg hn1]
        rfl
      · have hlp : 1 ≤ (s.length : Int) := by omega
        have m1 := tmod_in p (s.length : Int) hp hlp
        have h7 : wrap64 (wrap64 (p * 7) + 3) = p * 7 + 3 := by
          rw [w64 (x := p * 7) (by omega) (by omega), w64 (by omega) (by omega)]
        have m2 := tmod_in (p * 7 + 3) (s.length : Int) (by omega) hlp
        have b1 := rd_in hs (Int.tmod p (s.length : Int))
        have b2 := rd_in hs (Int.tmod (p * 7 + 3) (s.length : Int))
        have hd : 0 ≤ Int.tdiv p (s.length : Int) ∧ Int.tdiv p (s.length : Int) ≤ p := by
          rw [Int.tdiv_eq_ediv_of_nonneg hp]
          exact ⟨Int.ediv_nonneg hp (by omega), Int.ediv_le_self _ hp⟩
        generalize e1 : rd s (Int.tmod p (s.length : Int)) = B1 at *
        generalize e2 : rd s (Int.tmod (p * 7 + 3) (s.length : Int)) = B2 at *
        generalize e3 : Int.tdiv p (s.length : Int) = D at *
        obtain ⟨X, hX⟩ : ∃ X, X = wrap64 (wrap64 (wrap64 (wrap64 (wrap64 B1 * 131) + wrap64 (wrap64 B2 * 1117)) + wrap64 (p * 29)) + wrap64 (wrap64 D * 53)) := ⟨_, rfl⟩
        have hXv : X = B1 * 131 + B2 * 1117 + p * 29 + D * 53 := by
          rw [hX, w64 (x := B1) (by omega) (by omega), w64 (x := B1 * 131) (by omega) (by omega), w64 (x := B2) (by omega) (by omega), w64 (x := B2 * 1117) (by omega) (by omega), w64 (x := p * 29) (by omega) (by omega), w64 (x := D) (by omega) (by omega), w64 (x := D * 53) (by omega) (by omega), w64 (x := B1 * 131 + B2 * 1117) (by omega) (by omega), w64 (x := B1 * 131 + B2 * 1117 + p * 29) (by omega) (by omega), w64 (by omega) (by omega)]
        have hX0 : 0 ≤ X := by omega
        have hX1 : X < 4611686018427387904 := by omega
        have hY : 0 ≤ wrap64 (Int.tdiv X 64) ∧ wrap64 (Int.tdiv X 64) < 4611686018427387904 := by
          rw [Int.tdiv_eq_ediv_of_nonneg hX0, w64 (by omega) (by omega)]
          omega
        have hx := xor_ge X (wrap64 (Int.tdiv X 64)) hX0 hX1 hY.1 hY.2
        have ht := tmod_in _ n hx (by omega)
        refine ⟨_, ?_, ht.1, fun _ => ht.2⟩
        refine Ev.neg hn ?_
        refine Ev.step (f := fun k => some (Int.tmod (Go.bits .xor .i64 X (wrap64 (Int.tdiv X 64))) n, p + 1)) (fun k => ?_) (Ev.now _)
        simp only [spec_l20Rd_pick.j0, h1, h2, hb, h7, e1, e2, e3, if_neg hlt, if_neg he, if_pos m1.1, if_pos m1.2, if_pos m2.1, if_pos m2.2, if_neg hn1, ← hX]
        rfl
theorem odd_ev (s : List Int) (hs : codeOk s) (p n : Int) (hp : 0 ≤ p) (hp2 : p ≤ 1099511627776) (hl : s.length ≤ 140737488355328) :
    ∃ r q, Ev (fun k => spec_l20Rd_odd.f k s p n) (r, q) ∧ p ≤ q ∧ q ≤ p + 1 := by
  unfold spec_l20Rd_odd.f
  by_cases hn : n > 0
  · obtain ⟨r, hr, _, _⟩ := pick_ev s hs p n hp hp2 hl
    exact ⟨_, _, Ev.pos hn (Ev.bind hr (Ev.now _)), by omega, by omega⟩
  · exact ⟨_, _, Ev.neg hn (Ev.now _), by omega, by omega⟩
theorem open_ev (l : List Int) (hs : codeOk l) (hl : l.length ≤ 1048576) : ∃ s, spec_l20Open.f l = some (s, 0) ∧ codeOk s ∧ s.length ≤ 2000 := by
  unfold spec_l20Open.f
  by_cases h : (l.length : Int) > 2000
  · rw [if_pos h, if_pos (by omega)]
    exact ⟨_, rfl, fun x hx => hs x (List.mem_of_mem_take hx), by simp; omega⟩
  · rw [if_neg h]
    exact ⟨_, rfl, hs, by omega⟩
theorem codeOk_wf {l : List Int} (h : ∀ x ∈ l, (Lit.int .u8 x).wf = true) : codeOk l := fun x hx => by
  have := h x hx
  simp [Lit.wf, IntKind.min, IntKind.max, IntKind.bits, IntKind.signed] at this
  omega
/-! ## TextValid -/
def textOk (s : ByteArray) : Prop := s.size ≤ 20000 ∧ ∀ j : Nat, j < s.size → bt s j = 10 ∨ (32 ≤ bt s j ∧ bt s j ≤ 126)
/-! ## TextValid -/
open Classical in
theorem impl_text (s : ByteArray) (hl : s.size ≤ 140737488355328) : Ev (fun k => impl_TextValid.f k s) (decide (textOk s)) := by
  unfold impl_TextValid.f
  refine ev_scan (L := fun k i => impl_TextValid.l0 k s i) (n := s.size) (fun j => bt s j = 10 ∨ (32 ≤ bt s j ∧ bt s j ≤ 126)) ?_ ?_ ?_
  · intro i hi hp hr
    have h1 : wrap64 ((i : Int) + 1) = i + 1 := w64 (by omega) (by omega)
    refine Ev.up ?_
    simp only [impl_TextValid.l0, wbt, h1, impl_in]
    refine Ev.pos (by omega) (Ev.pos (by omega) ?_)
    by_cases h10 : bt s (i : Nat) = 10
    · exact Ev.pos h10 hr
    · refine Ev.neg h10 ?_
      have hq : 32 ≤ bt s (i : Nat) ∧ bt s (i : Nat) ≤ 126 := by omega
      simp only [Option.bind_some, decide_eq_true hq, if_true]
      exact hr
  · intro i hi _ hp
    refine Ev.eqr ?_ (decide_eq_false (fun h : textOk s => hp (h.2 i hi))).symm
    refine Ev.up ?_
    simp only [impl_TextValid.l0, wbt, impl_in]
    refine Ev.pos (by omega) (Ev.pos (by omega) (Ev.neg (by omega) ?_))
    have hq : ¬ (32 ≤ bt s (i : Nat) ∧ bt s (i : Nat) ≤ 126) := by omega
    simp only [Option.bind_some, decide_eq_false hq, Bool.false_eq_true, if_false]
    exact Ev.now _
  · intro hall
    refine Ev.up ?_
    simp only [impl_TextValid.l0]
    refine Ev.neg (by omega) (Ev.ok ?_)
    exact decide_eq_decide.mpr ⟨fun h => ⟨by omega, hall⟩, fun h => by have := h.1; omega⟩
/-! ## TextValid -/
open Classical in
theorem spec_text (s : ByteArray) (hl : s.size ≤ 140737488355328) : Ev (fun k => spec_TextValid.f k s) (decide (textOk s)) := by
  unfold spec_TextValid.f
  refine ev_scan (L := fun k i => spec_TextValid.l0 k s i) (n := s.size) (fun j => bt s j = 10 ∨ (32 ≤ bt s j ∧ bt s j ≤ 126)) ?_ ?_ ?_
  · intro i hi hp hr
    have h1 : wrap64 ((i : Int) + 1) = i + 1 := w64 (by omega) (by omega)
    refine Ev.up ?_
    simp only [spec_TextValid.l0, wbt, h1, spec_in]
    refine Ev.pos (by omega) (Ev.pos (by omega) ?_)
    by_cases h10 : bt s (i : Nat) = 10
    · exact Ev.pos h10 hr
    · refine Ev.neg h10 ?_
      have hq : 32 ≤ bt s (i : Nat) ∧ bt s (i : Nat) ≤ 126 := by omega
      simp only [Option.bind_some, decide_eq_true hq, if_true]
      exact hr
  · intro i hi _ hp
    refine Ev.eqr ?_ (decide_eq_false (fun h : textOk s => hp (h.2 i hi))).symm
    refine Ev.up ?_
    simp only [spec_TextValid.l0, wbt, spec_in]
    refine Ev.pos (by omega) (Ev.pos (by omega) (Ev.neg (by omega) ?_))
    have hq : ¬ (32 ≤ bt s (i : Nat) ∧ bt s (i : Nat) ≤ 126) := by omega
    simp only [Option.bind_some, decide_eq_false hq, Bool.false_eq_true, if_false]
    exact Ev.now _
  · intro hall
    refine Ev.up ?_
    simp only [spec_TextValid.l0]
    refine Ev.neg (by omega) (Ev.ok ?_)
    exact decide_eq_decide.mpr ⟨fun h => ⟨by omega, hall⟩, fun h => by have := h.1; omega⟩
open Classical in
theorem alive_ev : Ev (fun k => laws_alive.f k) true := by
  have h := impl_text (⟨#[97]⟩ : ByteArray) (by decide)
  have ht : textOk (⟨#[97]⟩ : ByteArray) := ⟨by decide, fun j hj => by
    have hz : (⟨#[97]⟩ : ByteArray).size = 1 := rfl
    obtain rfl : j = 0 := by omega
    exact .inr (by decide)⟩
  rw [decide_eq_true ht] at h
  exact Ev.bind h (Ev.now _)
/-! ## EditsValid: both are the same condition -/
def editOk (s : ByteArray) (e : S44) : Prop := (0 ≤ e.f1 ∧ e.f1 ≤ (s.size : Int)) ∧ (0 ≤ e.f0 ∧ e.f0 ≤ e.f1) ∧ textOk e.f2
def apartOk (l : List S44) (i : Nat) : Prop := 0 < i → ¬ (rd_T44 l i).f0 < (rd_T44 l ((i : Int) - 1)).f1 ∧ ¬ (rd_T44 l i).f0 = (rd_T44 l ((i : Int) - 1)).f0
def editsOk (s : ByteArray) (l : List S44) : Prop := textOk s ∧ l.length ≤ 20 ∧ ∀ i : Nat, i < l.length → editOk s (rd_T44 l i) ∧ apartOk l i
def sizedE (l : List S44) : Prop := l.length ≤ 1099511627776 ∧ ∀ e ∈ l, e.f2.size ≤ 140737488355328
theorem rdE (l : List S44) (i : Nat) (h : i < l.length) : rd_T44 l (i : Int) = l[i] := by
  simp [rd_T44, List.getD_eq_getElem?_getD, List.getElem?_eq_getElem h]
open Classical in
theorem impl_edits (s : ByteArray) (l : List S44) (hs : s.size ≤ 140737488355328) (hl : sizedE l) : Ev (fun k => impl_EditsValid.f k s l) (decide (editsOk s l)) := by
  have hlen := hl.1
  unfold impl_EditsValid.f
  refine Ev.bind (impl_text s hs) ?_
  by_cases ht : textOk s
  · refine Ev.pos (decide_eq_true ht) ?_
    by_cases h20 : (l.length : Int) > 20
    · have hno : decide (editsOk s l) = false := decide_eq_false (fun h => by have := h.2.1; omega)
      rw [hno]
      refine Ev.up ?_
      simp only [impl_EditsValid.j0]
      exact Ev.pos (decide_eq_true h20) (Ev.now _)
    · refine Ev.up ?_
      simp only [impl_EditsValid.j0]
      refine Ev.neg (by simpa using h20) ?_
      refine ev_scan (L := fun k i => impl_EditsValid.l0 k s l l (l.length : Int) i) (n := l.length) (fun i => editOk s (rd_T44 l i) ∧ apartOk l i) ?_ ?_ ?_
      · intro i hi hp hr
        have ht := impl_text (rd_T44 l i).f2 (by rw [rdE _ _ hi]; exact hl.2 _ (List.getElem_mem hi))
        have h1 : wrap64 ((i : Int) + 1) = i + 1 := w64 (by omega) (by have := hl.1; omega)
        refine Ev.up ?_
        simp only [impl_EditsValid.l0, impl_in]
        refine Ev.pos (by omega) (Ev.pos (by omega) (Ev.pos (by omega) ?_))
        simp only [Option.bind_some, decide_eq_true hp.1.1, decide_eq_true hp.1.2.1, if_true]
        refine Ev.bind ht ?_
        simp only [decide_eq_true hp.1.2.2, Bool.not_true]
        refine Ev.up ?_
        simp only [impl_EditsValid.j2, Bool.false_eq_true, if_false, h1]
        by_cases h0 : (i : Int) > 0
        · have h2 : wrap64 ((i : Int) - 1) = i - 1 := w64 (by omega) (by omega)
          have ha := hp.2 (by omega)
          simp only [h2]
          exact Ev.pos h0 (Ev.pos (by omega) (Ev.pos (by omega) (Ev.neg ha.1 (Ev.neg ha.2 hr))))
        · exact Ev.neg h0 hr
      · intro i hi _ hp
        have hno : decide (editsOk s l) = false := decide_eq_false (fun h => hp (h.2.2 i hi))
        rw [hno]
        have ht := impl_text (rd_T44 l i).f2 (by rw [rdE _ _ hi]; exact hl.2 _ (List.getElem_mem hi))
        have hj : Ev (fun k => impl_EditsValid.j2 k s l i l (l.length : Int) i true ((rd_T44 l i).f0) ((rd_T44 l i).f1) ((rd_T44 l i).f2)) false := by
          refine Ev.up ?_
          simp only [impl_EditsValid.j2, if_true]
          exact Ev.now _
        refine Ev.up ?_
        simp only [impl_EditsValid.l0, impl_in]
        refine Ev.pos (by omega) (Ev.pos (by omega) (Ev.pos (by omega) ?_))
        by_cases h1 : 0 ≤ (rd_T44 l i).f1 ∧ (rd_T44 l i).f1 ≤ (s.size : Int)
        · by_cases h2 : 0 ≤ (rd_T44 l i).f0 ∧ (rd_T44 l i).f0 ≤ (rd_T44 l i).f1
          · simp only [Option.bind_some, decide_eq_true h1, decide_eq_true h2, if_true]
            refine Ev.bind ht ?_
            by_cases h3 : textOk (rd_T44 l i).f2
            · have ha : ¬ apartOk l i := fun h => hp ⟨⟨h1, h2, h3⟩, h⟩
              simp only [decide_eq_true h3, Bool.not_true]
              refine Ev.up ?_
              simp only [impl_EditsValid.j2, Bool.false_eq_true, if_false]
              by_cases h0 : (i : Int) > 0
              · have h4 : wrap64 ((i : Int) - 1) = i - 1 := w64 (by omega) (by omega)
                simp only [h4]
                refine Ev.pos h0 (Ev.pos (by omega) (Ev.pos (by omega) ?_))
                by_cases ha1 : (rd_T44 l i).f0 < (rd_T44 l ((i : Int) - 1)).f1
                · exact Ev.pos ha1 (Ev.now _)
                · refine Ev.neg ha1 ?_
                  by_cases ha2 : (rd_T44 l i).f0 = (rd_T44 l ((i : Int) - 1)).f0
                  · exact Ev.pos ha2 (Ev.now _)
                  · exact absurd (fun _ => ⟨ha1, ha2⟩) ha
              · exact absurd (fun h => absurd h (by omega)) ha
            · simp only [decide_eq_false h3, Bool.not_false]
              exact hj
          · simp only [Option.bind_some, decide_eq_true h1, decide_eq_false h2, if_true, Bool.false_eq_true, if_false]
            exact hj
        · simp only [Option.bind_some, decide_eq_false h1, Bool.false_eq_true, if_false]
          exact hj
      · intro hall
        refine Ev.up ?_
        simp only [impl_EditsValid.l0]
        exact Ev.neg (by omega) (Ev.ok (decide_eq_true (show editsOk s l from ⟨ht, by omega, hall⟩)).symm)
  · have hno : decide (editsOk s l) = false := decide_eq_false (fun h => ht h.1)
    rw [hno]
    refine Ev.neg (by simp [ht]) (Ev.up ?_)
    simp only [impl_EditsValid.j0, if_true]
    exact Ev.now _
/-! ## texts as bytes -/
def L (s : ByteArray) : List UInt8 := s.data.toList
def mk (b : List UInt8) : ByteArray := ⟨b.toArray⟩
theorem L_mk (b : List UInt8) : L (mk b) = b := by simp [L, mk]
theorem mk_L (s : ByteArray) : mk (L s) = s := by cases s; simp [L, mk]
theorem L_inj {s t : ByteArray} (h : L s = L t) : s = t := by rw [← mk_L s, h, mk_L]
theorem L_append (s t : ByteArray) : L (s ++ t) = L s ++ L t := by simp [L, ByteArray.data_append]
theorem L_length (s : ByteArray) : (L s).length = s.size := by cases s; simp [L, ByteArray.size]
theorem L_extract (s : ByteArray) (a b : Nat) : L (s.extract a b) = ((L s).take b).drop a := by
  simp [L, ByteArray.data_extract, List.drop_take]
/-! ## ApplyEdits: both are the same text -/
/-- What the edits make of the text from a place on. -/
def appL (s : List UInt8) : List S44 → Nat → List UInt8
  | [], at_ => s.drop at_
  | e :: r, at_ => (s.take e.f0.toNat).drop at_ ++ L e.f2 ++ appL s r e.f1.toNat
/-- Edits that stand one behind the other from a place on. -/
def Chain (n : Nat) : List S44 → Nat → Prop
  | [], at_ => at_ ≤ n
  | e :: r, at_ => (at_ : Int) ≤ e.f0 ∧ e.f0 ≤ e.f1 ∧ e.f1 ≤ (n : Int) ∧ Chain n r e.f1.toNat
theorem chain_drop {s : ByteArray} {l : List S44} (h : editsOk s l) : ∀ (d i : Nat), i + d = l.length → Chain s.size (l.drop i) (if i = 0 then 0 else (rd_T44 l ((i : Int) - 1)).f1.toNat) := by
  intro d
  induction d with
  | zero =>
    intro i hi
    rw [List.drop_of_length_le (by omega)]
    by_cases h0 : i = 0
    · simp [h0, Chain]
    · rw [if_neg h0]
      have e1 : ((i : Int) - 1) = ((i - 1 : Nat) : Int) := by omega
      have hp := (h.2.2 (i - 1) (by omega)).1.1
      rw [e1]
      show (rd_T44 l ((i - 1 : Nat) : Int)).f1.toNat ≤ s.size
      omega
  | succ d ih =>
    intro i hi
    have hlt : i < l.length := by omega
    have h1 := h.2.2 i hlt
    have hn := ih (i + 1) (by omega)
    rw [List.drop_eq_getElem_cons hlt, ← rdE l i hlt]
    have e2 : (((i + 1 : Nat) : Int) - 1) = (i : Int) := by omega
    rw [if_neg (by omega), e2] at hn
    refine ⟨?_, h1.1.2.1.2, h1.1.1.2, hn⟩
    by_cases h0 : i = 0
    · rw [if_pos h0]; exact h1.1.2.1.1
    · rw [if_neg h0]
      have ha := (h1.2 (by omega)).1
      have e1 : ((i : Int) - 1) = ((i - 1 : Nat) : Int) := by omega
      have hp := (h.2.2 (i - 1) (by omega)).1.1.1
      rw [e1] at ha ⊢
      omega
theorem chain_of {s : ByteArray} {l : List S44} (h : editsOk s l) : Chain s.size l 0 := by
  have := chain_drop h l.length 0 (by omega)
  simpa using this
theorem Chain.le {n : Nat} : ∀ {l : List S44} {at_ : Nat}, Chain n l at_ → at_ ≤ n
  | [], _, h => h
  | e :: r, at_, h => by have h1 := h.1; have h2 := h.2.1; have h3 := h.2.2.1; omega
/-- The result and whether it is a text. -/
noncomputable def fin (b : List UInt8) : ByteArray × Bool := open Classical in if textOk (mk b) then (mk b, true) else ((⟨#[]⟩ : ByteArray), false)
noncomputable def applyM (s : ByteArray) (l : List S44) : ByteArray × Bool := open Classical in if editsOk s l then fin (appL (L s) l 0) else ((⟨#[]⟩ : ByteArray), false)
theorem size_of_L {s : ByteArray} {b : List UInt8} (h : L s = b) : s.size = b.length := by rw [← h, L_length]
theorem impl_apply_loop (s : ByteArray) (l : List S44) (hok : editsOk s l) (d : Nat) : ∀ (i : Nat) (acc : ByteArray) (at_ : Nat), i + d = l.length → Chain s.size (l.drop i) at_ → acc.size ≤ i * 50000 →
    Ev (fun k => impl_ApplyEdits.l0 k s l acc at_ i) (fin (L acc ++ appL (L s) (l.drop i) at_)) := by
  have hs : s.size ≤ 20000 := hok.1.1
  have hl : l.length ≤ 20 := hok.2.1
  induction d with
  | zero =>
    intro i acc at_ hi hc ha
    rw [List.drop_of_length_le (by omega)] at hc ⊢
    have hat : at_ ≤ s.size := hc
    have hx : L (acc ++ s.extract at_ s.size) = L acc ++ appL (L s) [] at_ := by
      rw [L_append, L_extract, appL, List.take_of_length_le (by rw [L_length]; exact Nat.le_refl _)]
    have hm : acc ++ s.extract at_ s.size = mk (L acc ++ appL (L s) [] at_) := by rw [← hx, mk_L]
    refine Ev.up ?_
    simp only [impl_ApplyEdits.l0]
    refine Ev.neg (by omega) (Ev.up ?_)
    simp only [impl_ApplyEdits.e0, Int.toNat_natCast]
    refine Ev.pos (by omega) (Ev.pos (by omega) (Ev.pos (by rw [ByteArray.size_extract]; omega) ?_))
    have ht := impl_text (acc ++ s.extract at_ s.size) (by rw [ByteArray.size_append, ByteArray.size_extract]; omega)
    refine Ev.bind ht ?_
    rw [hm]
    unfold fin
    by_cases h : textOk (mk (L acc ++ appL (L s) [] at_))
    · rw [if_pos h]; exact Ev.pos (by simp [h]) (Ev.now _)
    · rw [if_neg h]; exact Ev.neg (by simp [h]) (Ev.now _)
  | succ d ih =>
    intro i acc at_ hi hc ha
    have hlt : i < l.length := by omega
    have h1 := (hok.2.2 i hlt).1
    rw [List.drop_eq_getElem_cons hlt, ← rdE l i hlt] at hc ⊢
    obtain ⟨c1, c2, c3, c4⟩ := hc
    have h2 : wrap64 ((i : Int) + 1) = ((i + 1 : Nat) : Int) := by rw [w64] <;> omega
    have hf2 : (rd_T44 l i).f2.size ≤ 20000 := h1.2.2.1
    have hsz : (acc ++ (s.extract at_ (rd_T44 l i).f0.toNat ++ (rd_T44 l i).f2)).size ≤ (i + 1) * 50000 := by
      rw [ByteArray.size_append, ByteArray.size_append, ByteArray.size_extract]; omega
    have hn := ih (i + 1) (acc ++ (s.extract at_ (rd_T44 l i).f0.toNat ++ (rd_T44 l i).f2)) (rd_T44 l i).f1.toNat (by omega) c4 hsz
    have e1 : L (acc ++ (s.extract at_ (rd_T44 l i).f0.toNat ++ (rd_T44 l i).f2)) ++ appL (L s) (l.drop (i + 1)) (rd_T44 l i).f1.toNat = L acc ++ appL (L s) (rd_T44 l i :: l.drop (i + 1)) at_ := by
      rw [L_append, L_append, L_extract, appL]; simp only [List.append_assoc]
    rw [e1] at hn
    refine Ev.up ?_
    simp only [impl_ApplyEdits.l0, Int.toNat_natCast, h2]
    have e2 : (((rd_T44 l i).f1.toNat : Nat) : Int) = (rd_T44 l i).f1 := by omega
    rw [e2] at hn
    refine Ev.pos (by omega) (Ev.pos (by omega) (Ev.pos (by omega) (Ev.pos c1 (Ev.pos (by omega) (Ev.pos ?_ (Ev.pos ?_ hn))))))
    · rw [ByteArray.size_extract]; omega
    · rw [ByteArray.size_append] at hsz; omega
theorem impl_apply (s : ByteArray) (l : List S44) (hs : s.size ≤ 140737488355328) (hl : sizedE l) : Ev (fun k => impl_ApplyEdits.f k s l) (applyM s l) := by
  unfold impl_ApplyEdits.f applyM
  refine Ev.bind (impl_edits s l hs hl) ?_
  by_cases h : editsOk s l
  · rw [if_pos h]
    have hz : (⟨#[]⟩ : ByteArray).size = 0 := rfl
    have h2 := impl_apply_loop s l h l.length 0 (⟨#[]⟩ : ByteArray) 0 (by omega) (by simpa using chain_of h) (by omega)
    have e : L (⟨#[]⟩ : ByteArray) = [] := rfl
    rw [e] at h2
    simp only [List.drop_zero, List.nil_append] at h2
    exact Ev.pos (by simp [h]) h2
  · rw [if_neg h]
    exact Ev.neg (by simp [h]) (Ev.now _)
/-! ## more about what edits make of a text -/
theorem appL_split (s : List UInt8) (n : Nat) (hn : s.length = n) : ∀ (l : List S44) (a m : Nat), Chain n l m → a ≤ m → appL s l a = (s.take m).drop a ++ appL s l m
  | [], a, m, hc, ha => by
    have hm : m ≤ n := hc
    simp only [appL]
    rw [show s.drop m = (s.drop a).drop (m - a) by rw [List.drop_drop]; congr 1; omega, List.drop_take, List.take_append_drop]
  | e :: r, a, m, hc, ha => by
    have h1 := hc.1
    simp only [appL]
    rw [← List.append_assoc, ← List.append_assoc]
    congr 2
    rw [List.drop_take, List.drop_take, List.drop_take, show s.drop m = (s.drop a).drop (m - a) by rw [List.drop_drop]; congr 1; omega]
    rw [show e.f0.toNat - a = (m - a) + (e.f0.toNat - m) by omega, List.take_add]
def more : List S44 → Int
  | [] => 0
  | e :: r => (e.f2.size : Int) - (e.f1 - e.f0) + more r
theorem appL_length (s : List UInt8) (n : Nat) (hn : s.length = n) : ∀ (l : List S44) (a : Nat), Chain n l a → ((appL s l a).length : Int) = n - a + more l
  | [], a, hc => by
    have : a ≤ n := hc
    simp only [appL, more, List.length_drop]
    omega
  | e :: r, a, hc => by
    obtain ⟨h1, h2, h3, h4⟩ := hc
    have ih := appL_length s n hn r e.f1.toNat h4
    simp only [appL, more, List.length_append, List.length_drop, List.length_take, L_length]
    have h5 := h4.le
    omega
theorem applyM_ok {s : ByteArray} {l : List S44} (h : (applyM s l).2 = true) : editsOk s l ∧ textOk (mk (appL (L s) l 0)) ∧ (applyM s l).1 = mk (appL (L s) l 0) := by
  unfold applyM at h ⊢
  by_cases he : editsOk s l
  · rw [if_pos he] at h ⊢
    unfold fin at h ⊢
    by_cases ht : textOk (mk (appL (L s) l 0))
    · rw [if_pos ht]
      exact ⟨he, ht, rfl⟩
    · rw [if_neg ht] at h
      cases h
  · rw [if_neg he] at h
    cases h
theorem applyM_no {s : ByteArray} {l : List S44} (h : (applyM s l).2 = false) : (applyM s l).1 = (⟨#[]⟩ : ByteArray) := by
  unfold applyM at h ⊢
  by_cases he : editsOk s l
  · rw [if_pos he] at h ⊢
    unfold fin at h ⊢
    by_cases ht : textOk (mk (appL (L s) l 0))
    · rw [if_pos ht] at h; cases h
    · rw [if_neg ht]
  · rw [if_neg he]
theorem applyM_yes {s : ByteArray} {l : List S44} (h1 : editsOk s l) (h2 : textOk (mk (appL (L s) l 0))) : applyM s l = (mk (appL (L s) l 0), true) := by
  unfold applyM
  rw [if_pos h1]
  unfold fin
  rw [if_pos h2]
/-- Single edits. -/
theorem rdE_one (e : S44) : rd_T44 [e] ((0 : Nat) : Int) = e := by rw [rdE _ _ (by simp)]; rfl
theorem editsOk_one {s : ByteArray} {e : S44} (ht : textOk s) (h : editOk s e) : editsOk s [e] :=
  ⟨ht, by simp, fun i hi => by
    obtain rfl : i = 0 := by simpa using hi
    rw [rdE_one]
    exact ⟨h, fun h0 => absurd h0 (by omega)⟩⟩
/-- One edit after the later ones: the text after it and them. -/
theorem step_back (s : List UInt8) (n : Nat) (hn : s.length = n) (e : S44) (r : List S44) (hc : Chain n (e :: r) 0) : appL (appL s r 0) [e] 0 = appL s (e :: r) 0 := by
  obtain ⟨h1, h2, h3, h4⟩ := hc
  have hsp := appL_split s n hn r 0 e.f1.toNat h4 (by omega)
  have hle := h4.le
  simp only [appL]
  rw [hsp]
  simp only [List.drop_zero]
  rw [List.take_append_of_le_length (by rw [List.length_take]; omega), List.take_take, Nat.min_eq_left (by omega)]
  congr 1
  rw [List.drop_append, List.drop_of_length_le (by rw [List.length_take]; omega), List.nil_append, List.length_take, show e.f1.toNat - min e.f1.toNat s.length = 0 by omega]
  simp
/-! ## sameEdits -/
theorem same_ev (l : List S44) (hl : l.length ≤ 1048576) : Ev (fun k => laws_sameEdits.f k l l) true := by
  unfold laws_sameEdits.f
  refine Ev.pos rfl ?_
  refine ev_scan (L := fun k i => laws_sameEdits.l0 k l l i) (n := l.length) (fun _ => True) ?_ (fun i _ _ h => absurd trivial h) ?_
  · intro i hi _ h
    have h1 : wrap64 ((i : Int) + 1) = i + 1 := w64 (by omega) (by omega)
    refine Ev.up ?_
    simp only [laws_sameEdits.l0, h1]
    exact Ev.pos (by omega) (Ev.pos (by omega) (Ev.pos (by omega) (Ev.neg (by simp) h)))
  · intro _
    refine Ev.up ?_
    simp only [laws_sameEdits.l0]
    exact Ev.neg (by omega) (Ev.now _)
/-! ## texts in parts -/
def pk (c : UInt8) : List UInt8 → List UInt8 → List (List UInt8) × List UInt8
  | acc, [] => ([], acc)
  | acc, b :: l => if b = c then (acc :: (pk c [] l).1, (pk c [] l).2) else pk c (acc ++ [b]) l
theorem pk_nil (c : UInt8) (acc : List UInt8) : pk c acc [] = ([], acc) := rfl
theorem pk_cons (c : UInt8) (acc : List UInt8) (b : UInt8) (l : List UInt8) : pk c acc (b :: l) = if b = c then (acc :: (pk c [] l).1, (pk c [] l).2) else pk c (acc ++ [b]) l := rfl
theorem index_here (c : UInt8) (l : List UInt8) : ∀ acc : List UInt8, (∀ b ∈ acc, b ≠ c) → Go.Lib.index (acc ++ c :: l) [c] = (acc.length : Int)
  | [], _ => by
    rw [Go.Lib.index_one]
    simp [Go.Lib.indexByte]
  | a :: acc, h => by
    have ih := index_here c l acc (fun b hb => h b (List.mem_cons_of_mem _ hb))
    rw [Go.Lib.index_one] at ih ⊢
    have ha : (a == c) = false := beq_eq_false_iff_ne.mpr (h a (List.mem_cons_self))
    have hn : ((acc.length : Int) == -1) = false := beq_eq_false_iff_ne.mpr (by omega)
    rw [List.cons_append, Go.Lib.indexByte, ha, ih, hn]
    simp
theorem splitK_pk (c : UInt8) (sv : Nat) (hsv : sv ≤ 1) : ∀ (l acc : List UInt8), (∀ b ∈ acc, b ≠ c) → Go.Lib.splitK [c] sv (l.count c) (acc ++ l) = (pk c acc l).1.map (fun u => u ++ ([c].take sv)) ++ [(pk c acc l).2]
  | [], acc, h => by simp [Go.Lib.splitK, pk_nil]
  | b :: l, acc, h => by
    rw [pk_cons]
    by_cases e : b = c
    · subst e
      have hi := index_here b l acc h
      have hn : ((acc.length : Int) == -1) = false := beq_eq_false_iff_ne.mpr (by omega)
      have ih := splitK_pk b sv hsv l [] (by simp)
      rw [if_pos rfl, List.count_cons_self, Go.Lib.splitK, hi, hn]
      rw [List.nil_append] at ih
      simp only [Bool.false_eq_true, if_false, Int.toNat_natCast, List.length_singleton, List.map_cons, List.cons_append]
      rw [show (acc ++ b :: l).drop (acc.length + 1) = l by rw [List.drop_append]; simp, ih]
      congr 1
      rw [List.take_append, List.take_of_length_le (by omega)]
      congr 1
      have : sv = 0 ∨ sv = 1 := by omega
      rcases this with rfl | rfl <;> simp
    · rw [if_neg e, List.count_cons_of_ne (by simpa using e), ← splitK_pk c sv hsv l (acc ++ [b]) (fun x hx => by
        rcases List.mem_append.mp hx with h1 | h1
        · exact h x h1
        · rw [List.mem_singleton.mp h1]; exact e), List.append_assoc]
      rfl
theorem map_mk_L (ws : List ByteArray) : (ws.map L).map mk = ws := by
  rw [List.map_map]
  conv => rhs; rw [← List.map_id ws]
  exact List.map_congr_left (fun w _ => mk_L w)
theorem splitB_pk (c : UInt8) (sv : Nat) (hsv : sv ≤ 1) (s : ByteArray) : Go.Lib.splitB ⟨#[c]⟩ sv (Go.Lib.countB s ⟨#[c]⟩) s = (pk c [] (L s)).1.map (fun u => mk (u ++ ([c].take sv))) ++ [mk (pk c [] (L s)).2] := by
  have h1 := Go.Lib.splitB_data ⟨#[c]⟩ sv (Go.Lib.countB s ⟨#[c]⟩) s
  have h2 : Go.Lib.countB s ⟨#[c]⟩ = (L s).count c := Go.Lib.count_one c (L s)
  have h3 := splitK_pk c sv hsv (L s) [] (by simp)
  rw [List.nil_append] at h3
  rw [h2] at h1 ⊢
  have h4 : (Go.Lib.splitB ⟨#[c]⟩ sv ((L s).count c) s).map L = (pk c [] (L s)).1.map (fun u => u ++ ([c].take sv)) ++ [(pk c [] (L s)).2] := h1.trans h3
  have h5 := congrArg (List.map mk) h4
  rw [map_mk_L] at h5
  rw [h5]
  simp
theorem pk_no (c : UInt8) : ∀ (l acc : List UInt8), (∀ b ∈ acc, b ≠ c) → (∀ u ∈ (pk c acc l).1, ∀ b ∈ u, b ≠ c) ∧ (∀ b ∈ (pk c acc l).2, b ≠ c)
  | [], acc, h => by
    rw [pk_nil]
    exact ⟨fun u hu => by simp at hu, h⟩
  | b :: l, acc, h => by
    rw [pk_cons]
    by_cases e : b = c
    · have ih := pk_no c l [] (by simp)
      rw [if_pos e]
      refine ⟨fun u hu => ?_, ih.2⟩
      rcases List.mem_cons.mp hu with rfl | hu
      · exact h
      · exact ih.1 u hu
    · rw [if_neg e]
      exact pk_no c l (acc ++ [b]) (fun x hx => by
        rcases List.mem_append.mp hx with h1 | h1
        · exact h x h1
        · rw [List.mem_singleton.mp h1]; exact e)
theorem pk_flat (c : UInt8) : ∀ (l acc : List UInt8), ((pk c acc l).1.map (fun u => u ++ [c])).flatten ++ (pk c acc l).2 = acc ++ l
  | [], acc => by simp [pk_nil]
  | b :: l, acc => by
    rw [pk_cons]
    by_cases e : b = c
    · have ih := pk_flat c l []
      rw [List.nil_append] at ih
      rw [if_pos e, List.map_cons, List.flatten_cons, List.append_assoc, ih, e]
      simp
    · have ih := pk_flat c l (acc ++ [b])
      rw [if_neg e, ih]
      simp
theorem join_none (ws : List (List UInt8)) : Go.Lib.join ws [] = ws.flatten := by
  unfold Go.Lib.join
  induction ws with
  | nil => rfl
  | cons w r ih =>
    cases r with
    | nil => simp [List.intercalate]
    | cons x r =>
      have e : List.intercalate [] (w :: x :: r) = w ++ ([] ++ List.intercalate [] (x :: r)) := by simp [List.intercalate]
      rw [e, ih]
      simp
theorem toList_L (s : ByteArray) : s.toList = L s := Go.Lib.toList_data s
theorem toList_eq_iff (s t : ByteArray) : s.toList = t.toList ↔ s = t := by
  rw [toList_L, toList_L]
  exact ⟨L_inj, fun h => by rw [h]⟩
/-! ## the lines of a text -/
def cat (ws : List ByteArray) : List UInt8 := (ws.map L).flatten
theorem cat_nil : cat [] = [] := rfl
theorem cat_cons (w : ByteArray) (ws : List ByteArray) : cat (w :: ws) = L w ++ cat ws := by simp [cat]
theorem cat_append (a b : List ByteArray) : cat (a ++ b) = cat a ++ cat b := by simp [cat]
theorem cat_one (w : ByteArray) : cat [w] = L w := by simp [cat]
def opt (p : ByteArray) : List ByteArray := if p.size = 0 then [] else [p]
theorem cat_opt (p : ByteArray) : cat (opt p) = L p := by
  unfold opt
  split
  · rename_i h
    have : L p = [] := List.eq_nil_of_length_eq_zero (by rw [L_length]; exact h)
    rw [this]; rfl
  · exact cat_one p
def NL (w : ByteArray) : Prop := ∃ u, L w = u ++ [10]
def noNL (p : ByteArray) : Prop := ∀ b ∈ L p, b ≠ (10 : UInt8)
theorem NL_ne {w p : ByteArray} (h : NL w) (hp : noNL p) : w ≠ p := by
  rintro rfl
  obtain ⟨u, hu⟩ := h
  exact hp 10 (by rw [hu]; simp) rfl
theorem NL_pos {w : ByteArray} (h : NL w) : 1 ≤ w.size := by
  obtain ⟨u, hu⟩ := h
  rw [← L_length, hu]; simp
theorem suffix_NL {w : ByteArray} (h : NL w) : Go.Lib.hasSuffix w.data.toList (⟨#[10]⟩ : ByteArray).data.toList = true := by
  obtain ⟨u, hu⟩ := h
  have hu' : w.data.toList = u ++ [10] := hu
  unfold Go.Lib.hasSuffix
  exact List.isSuffixOf_iff_suffix.2 ⟨u, hu'.symm⟩
theorem suffix_no {p : ByteArray} (h : noNL p) : Go.Lib.hasSuffix p.data.toList (⟨#[10]⟩ : ByteArray).data.toList = false := by
  rw [Bool.eq_false_iff]
  intro hs
  unfold Go.Lib.hasSuffix at hs
  obtain ⟨u, hu⟩ := List.isSuffixOf_iff_suffix.1 hs
  have hu' : u ++ [10] = L p := hu
  exact h 10 (by rw [← hu']; simp) rfl
def allN (s : ByteArray) : List ByteArray := (pk 10 [] (L s)).1.map (fun u => mk (u ++ [10]))
def lastN (s : ByteArray) : ByteArray := mk (pk 10 [] (L s)).2
theorem allN_NL (s : ByteArray) : ∀ w ∈ allN s, NL w := by
  intro w hw
  obtain ⟨u, _, rfl⟩ := List.mem_map.mp hw
  exact ⟨u, L_mk _⟩
theorem lastN_no (s : ByteArray) : noNL (lastN s) := by
  intro b hb
  rw [lastN, L_mk] at hb
  exact (pk_no 10 (L s) [] (by simp)).2 b hb
theorem cat_mk (us : List (List UInt8)) : cat (us.map (fun u => mk (u ++ [10]))) = (us.map (fun u => u ++ [10])).flatten := by
  unfold cat
  rw [List.map_map]
  congr 1
theorem allN_cat (s : ByteArray) : cat (allN s) ++ L (lastN s) = L s := by
  rw [allN, lastN, cat_mk, L_mk, pk_flat, List.nil_append]
theorem splitAfter_is (s : ByteArray) (hs : s.size < 4294967281) : strings_SplitAfter.f s ⟨#[10]⟩ = some (allN s ++ [lastN s]) := by
  unfold strings_SplitAfter.f
  rw [if_pos ⟨rfl, hs⟩, splitB_pk 10 1 (Nat.le_refl 1) s]
  rfl
theorem len_cat : ∀ (ws : List ByteArray), (∀ w ∈ ws, 1 ≤ w.size) → ws.length ≤ (cat ws).length
  | [], _ => by simp
  | w :: ws, h => by
    have h1 := h w (List.mem_cons_self)
    have h2 := len_cat ws (fun x hx => h x (List.mem_cons_of_mem _ hx))
    rw [cat_cons, List.length_append, List.length_cons, L_length]
    omega
theorem bt_L (s : ByteArray) (i : Nat) (h : i < (L s).length) : bt s (i : Int) = (((L s)[i]).toNat : Int) := by
  have h' : i < s.size := by rw [← L_length]; exact h
  simp [bt, L, h']
  rfl
theorem spec_lines_loop (s : ByteArray) (hs : s.size ≤ 20000) (d : Nat) : ∀ (i f : Nat) (acc : List ByteArray), i + d = s.size → f ≤ i → acc.length ≤ i →
    Ev (fun k => spec_l16Lines.l0 k s acc f i) (acc ++ (pk 10 (((L s).take i).drop f) ((L s).drop i)).1.map (fun u => mk (u ++ [10])) ++ opt (mk (pk 10 (((L s).take i).drop f) ((L s).drop i)).2)) := by
  have hl := L_length s
  induction d with
  | zero =>
    intro i f acc hi hf ha
    rw [List.drop_of_length_le (l := L s) (by omega), List.take_of_length_le (by omega), pk_nil, List.map_nil, List.append_nil]
    refine Ev.up ?_
    simp only [spec_l16Lines.l0]
    refine Ev.neg (by omega) ?_
    have hz : (mk ((L s).drop f)).size = s.size - f := by rw [← L_length, L_mk, List.length_drop, hl]
    by_cases h : (f : Int) < (s.size : Int)
    · have ho : opt (mk ((L s).drop f)) = [mk ((L s).drop f)] := by unfold opt; rw [hz, if_neg (by omega)]
      rw [ho]
      refine Ev.pos h (Ev.pos (by omega) (Ev.pos (by omega) (Ev.pos (by omega) (Ev.ok ?_))))
      have e : s.extract (f : Int).toNat s.size = mk ((L s).drop f) := by
        apply L_inj
        rw [L_extract, L_mk, Int.toNat_natCast, List.take_of_length_le (by omega)]
      rw [e]
    · have ho : opt (mk ((L s).drop f)) = [] := by unfold opt; rw [hz, if_pos (by omega)]
      rw [ho, List.append_nil]
      exact Ev.neg h (Ev.now _)
  | succ d ih =>
    intro i f acc hi hf ha
    have hlt : i < (L s).length := by omega
    have w1 : ∀ _ : Unit, wrap64 ((i : Int) + 1) = ((i + 1 : Nat) : Int) := fun _ => by rw [w64] <;> omega
    have hb := bt_L s i hlt
    rw [List.drop_eq_getElem_cons hlt, pk_cons]
    refine Ev.up ?_
    simp only [spec_l16Lines.l0, w1 ()]
    refine Ev.pos (by omega) (Ev.pos (by omega) ?_)
    by_cases e : (L s)[i] = 10
    · have e' : bt s (i : Int) = 10 := by rw [hb, e]; rfl
      rw [if_pos e]
      have h1 := ih (i + 1) (i + 1) (acc ++ [mk (((L s).take i).drop f ++ [10])]) (by omega) (by omega) (by simp; omega)
      rw [List.drop_of_length_le (l := (L s).take (i + 1)) (by simp; omega)] at h1
      have ex : s.extract (f : Int).toNat (((i + 1 : Nat) : Int)).toNat = mk (((L s).take i).drop f ++ [10]) := by
        apply L_inj
        rw [L_extract, L_mk, Int.toNat_natCast, Int.toNat_natCast, List.take_succ_eq_append_getElem hlt, e, List.drop_append_of_le_length (by simp; omega)]
      refine Ev.pos e' (Ev.pos (by omega) (Ev.pos (by omega) (Ev.pos (by omega) (Ev.pos (by omega) ?_))))
      rw [ex]
      simp only [List.map_cons]
      refine Ev.eqr h1 ?_
      simp
    · have e' : ¬ bt s (i : Int) = 10 := by
        rw [hb]
        intro h
        apply e
        apply UInt8.toNat_inj.mp
        show ((L s)[i]).toNat = 10
        omega
      rw [if_neg e]
      have h1 := ih (i + 1) f acc (by omega) (by omega) (by omega)
      rw [List.take_succ_eq_append_getElem hlt, List.drop_append_of_le_length (by simp; omega)] at h1
      exact Ev.neg e' h1
theorem spec_lines_ev (s : ByteArray) (hs : s.size ≤ 20000) : Ev (fun k => spec_l16Lines.f k s) (allN s ++ opt (lastN s)) := by
  have h := spec_lines_loop s hs s.size 0 0 [] (by omega) (by omega) (by simp)
  rw [List.nil_append] at h
  exact h
theorem pre_ex : ∀ (N M : List ByteArray), ∃ P N1 M1, N = P ++ N1 ∧ M = P ++ M1 ∧ ∀ x xs y ys, N1 = x :: xs → M1 = y :: ys → x ≠ y
  | [], M => ⟨[], [], M, rfl, rfl, fun x xs y ys h => by simp at h⟩
  | n :: N, [] => ⟨[], n :: N, [], rfl, rfl, fun x xs y ys _ h => by simp at h⟩
  | n :: N, m :: M => by
    by_cases h : n = m
    · subst h
      obtain ⟨P, N1, M1, h1, h2, h3⟩ := pre_ex N M
      exact ⟨n :: P, N1, M1, by rw [h1]; rfl, by rw [h2]; rfl, h3⟩
    · exact ⟨[], n :: N, m :: M, rfl, rfl, fun x xs y ys h1 h2 => by
        obtain ⟨rfl, _⟩ := List.cons.inj h1
        obtain ⟨rfl, _⟩ := List.cons.inj h2
        exact h⟩
theorem suf_ex (N M : List ByteArray) : ∃ Q N2 M2, N = N2 ++ Q ∧ M = M2 ++ Q ∧ ∀ xs x ys y, N2 = xs ++ [x] → M2 = ys ++ [y] → x ≠ y := by
  obtain ⟨P, N1, M1, h1, h2, h3⟩ := pre_ex N.reverse M.reverse
  refine ⟨P.reverse, N1.reverse, M1.reverse, ?_, ?_, fun xs x ys y e1 e2 => ?_⟩
  · have := congrArg List.reverse h1
    simpa using this
  · have := congrArg List.reverse h2
    simpa using this
  · refine h3 x xs.reverse y ys.reverse ?_ ?_
    · have := congrArg List.reverse e1
      simpa using this
    · have := congrArg List.reverse e2
      simpa using this
/-! ## LineEdits: program and reference -/
theorem rd_app (P : List ByteArray) (x : ByteArray) (R : List ByteArray) (i : Nat) (h : i = P.length) : rdOf ByteArray.empty (P ++ x :: R) (i : Int) = x := by
  rw [rdOf_nat _ _ _ (by rw [h, List.length_append, List.length_cons]; omega)]
  subst h
  simp
/-- Where two lists of pieces stand apart at their heads, the program goes on to their ends. -/
theorem impl_le_stop (a : ByteArray) (N M : List ByteArray) (p r : ByteArray) (hN : ∀ w ∈ N, NL w) (hM : ∀ w ∈ M, NL w) (hp : noNL p) (hr : noNL r) (hs : ∀ w ∈ N ++ [p], w.size ≤ 20000)
    (hap : ∀ x xs y ys, N = x :: xs → M = y :: ys → x ≠ y) (f : Int) (res : List S44)
    (h : Ev (fun k => impl_LineEdits.l1 k (N ++ [p]) (M ++ [r]) f (a.size : Int)) res) : Ev (fun k => impl_LineEdits.l0 k a (N ++ [p]) (M ++ [r]) f) res := by
  have hj : Ev (fun k => impl_LineEdits.j2 k a (N ++ [p]) (M ++ [r]) f) res := by
    refine Ev.up ?_
    simp only [impl_LineEdits.j2]
    exact h
  refine Ev.up ?_
  simp only [impl_LineEdits.l0]
  refine Ev.pos (by simp) (Ev.pos (by simp) (Ev.pos (by simp) (Ev.pos (by simp) ?_)))
  have key : ∀ x y, x ∈ N ++ [p] → x = y → (∃ xs, N ++ [p] = x :: xs) → (∃ ys, M ++ [r] = y :: ys) → noNL x := by
    rintro x y hx rfl ⟨xs, e1⟩ ⟨ys, e2⟩
    cases N with
    | nil =>
      obtain ⟨rfl, _⟩ := List.cons.inj e1
      exact hp
    | cons n N =>
      obtain ⟨rfl, _⟩ := List.cons.inj e1
      cases M with
      | nil =>
        obtain ⟨rfl, _⟩ := List.cons.inj e2
        exact absurd rfl (NL_ne (hN _ (List.mem_cons_self)) hr)
      | cons m M =>
        obtain ⟨rfl, _⟩ := List.cons.inj e2
        exact absurd rfl (hap _ _ _ _ rfl rfl)
  obtain ⟨x, xs, ex⟩ : ∃ x xs, N ++ [p] = x :: xs := by cases N <;> exact ⟨_, _, rfl⟩
  obtain ⟨y, ys, ey⟩ : ∃ y ys, M ++ [r] = y :: ys := by cases M <;> exact ⟨_, _, rfl⟩
  have rx : rdOf ByteArray.empty (N ++ [p]) 0 = x := by rw [ex]; exact rd_app [] x xs 0 rfl
  have ry : rdOf ByteArray.empty (M ++ [r]) 0 = y := by rw [ey]; exact rd_app [] y ys 0 rfl
  rw [rx, ry]
  by_cases hxy : x = y
  · have hn := key x y (by rw [ex]; exact List.mem_cons_self) hxy ⟨xs, ex⟩ ⟨ys, ey⟩
    refine Ev.pos ((toList_eq_iff x y).mpr hxy) ?_
    have hsz := hs x (by rw [ex]; exact List.mem_cons_self)
    unfold strings_HasSuffix.f
    rw [if_pos (by omega), suffix_no hn]
    simp only [Option.bind_some, Bool.false_eq_true, if_false]
    exact hj
  · exact Ev.neg (fun e => hxy ((toList_eq_iff x y).mp e)) hj
theorem impl_le_head (a : ByteArray) (N M : List ByteArray) (hN : N ≠ []) (hM : M ≠ []) (res : List S44) : ∀ (P : List ByteArray) (f : Nat), (∀ w ∈ P, NL w) → f + (cat P).length ≤ 20000 →
    Ev (fun k => impl_LineEdits.l0 k a N M ((f + (cat P).length : Nat) : Int)) res → Ev (fun k => impl_LineEdits.l0 k a (P ++ N) (P ++ M) (f : Int)) res
  | [], f => fun _ _ h => by
    rw [cat_nil] at h
    exact h
  | w :: P, f => fun hP hf h => by
    have hw := hP w (List.mem_cons_self)
    rw [cat_cons, List.length_append, L_length] at h hf
    have ih := impl_le_head a N M hN hM res P (f + w.size) (fun x hx => hP x (List.mem_cons_of_mem _ hx)) (by omega) (by rw [Nat.add_assoc]; exact h)
    have rx : rdOf ByteArray.empty (w :: P ++ N) 0 = w := rd_app [] w (P ++ N) 0 rfl
    have ry : rdOf ByteArray.empty (w :: P ++ M) 0 = w := rd_app [] w (P ++ M) 0 rfl
    have w1 : ∀ _ : Unit, wrap64 ((f : Int) + (w.size : Int)) = ((f + w.size : Nat) : Int) := fun _ => by rw [w64] <;> omega
    refine Ev.up ?_
    simp only [impl_LineEdits.l0, rx, ry, w1 ()]
    unfold strings_HasSuffix.f
    rw [if_pos (show w.size ≤ 9223372036854775807 by omega), suffix_NL hw]
    simp only [Option.bind_some, if_true]
    refine Ev.pos (by simp only [List.cons_append, List.length_cons]; omega) (Ev.pos (by simp only [List.cons_append, List.length_cons]; omega) (Ev.pos (by simp only [List.cons_append, List.length_cons]; omega) (Ev.pos (by simp only [List.cons_append, List.length_cons]; omega) ?_)))
    exact Ev.pos (by simp only [List.cons_append, List.length_cons]; omega) (Ev.pos (by simp only [List.cons_append, List.length_cons]; omega) ih)
theorem impl_le_end (f e : Int) (X Y : List ByteArray) (hY : Y.length ≤ 100000) (hc : (cat Y).length ≤ 100000) (hap : ∀ xs x ys y, X = xs ++ [x] → Y = ys ++ [y] → x ≠ y) (hX : X.length ≤ 100000) :
    Ev (fun k => impl_LineEdits.l1 k X Y f e) [(⟨f, e, mk (cat Y)⟩ : S44)] := by
  have hj : strings_Join.f Y (⟨#[]⟩ : ByteArray) = some (mk (cat Y)) := by
    have e0 : Go.Lib.join (Y.map (fun x => x.data.toList)) (⟨#[]⟩ : ByteArray).data.toList = cat Y := join_none _
    unfold strings_Join.f
    rw [if_pos (by omega), e0, if_pos (by omega)]
    rfl
  have hout : Ev (fun k => (strings_Join.f Y (⟨#[]⟩ : ByteArray)).bind fun t => (some (([(⟨f, e, t⟩ : S44)] : List S44)))) [(⟨f, e, mk (cat Y)⟩ : S44)] := by
    rw [hj]
    exact Ev.now _
  refine Ev.up ?_
  simp only [impl_LineEdits.l1]
  by_cases hx0 : (X.length : Int) > 0
  · refine Ev.pos hx0 ?_
    by_cases hy0 : (Y.length : Int) > 0
    · obtain ⟨xs, x, ex⟩ : ∃ xs x, X = xs ++ [x] := ⟨X.dropLast, X.getLast (by intro h; rw [h] at hx0; simp at hx0), (List.dropLast_concat_getLast _).symm⟩
      obtain ⟨ys, y, ey⟩ : ∃ ys y, Y = ys ++ [y] := ⟨Y.dropLast, Y.getLast (by intro h; rw [h] at hy0; simp at hy0), (List.dropLast_concat_getLast _).symm⟩
      have hne := hap xs x ys y ex ey
      have lx : X.length = xs.length + 1 := by rw [ex]; simp
      have ly : Y.length = ys.length + 1 := by rw [ey]; simp
      have w1 : ∀ _ : Unit, wrap64 ((X.length : Int) - 1) = (xs.length : Int) := fun _ => by rw [w64] <;> omega
      have w2 : ∀ _ : Unit, wrap64 ((Y.length : Int) - 1) = (ys.length : Int) := fun _ => by rw [w64] <;> omega
      have rx : rdOf ByteArray.empty X (xs.length : Int) = x := by rw [ex]; exact rd_app xs x [] xs.length rfl
      have ry : rdOf ByteArray.empty Y (ys.length : Int) = y := by rw [ey]; exact rd_app ys y [] ys.length rfl
      simp only [w1 (), w2 (), rx, ry]
      refine Ev.pos hy0 (Ev.pos (by omega) (Ev.pos (by omega) (Ev.pos (by omega) (Ev.pos (by omega) ?_))))
      exact Ev.neg (fun h => hne ((toList_eq_iff x y).mp h)) hout
    · exact Ev.neg hy0 hout
  · exact Ev.neg hx0 hout
theorem impl_le_tail (f : Int) (X Y : List ByteArray) (res : List S44) (hX : X.length ≤ 50000) (hY : Y.length ≤ 50000) : ∀ (Q : List ByteArray) (e : Nat), (cat Q).length ≤ e → e ≤ 20000 → Q.length ≤ 50000 →
    Ev (fun k => impl_LineEdits.l1 k X Y f ((e - (cat Q).length : Nat) : Int)) res → Ev (fun k => impl_LineEdits.l1 k (X ++ Q.reverse) (Y ++ Q.reverse) f (e : Int)) res
  | [], e => fun _ _ _ h => by
    rw [cat_nil] at h
    simpa using h
  | q :: Q, e => fun hq he hl h => by
    rw [cat_cons, List.length_append, L_length] at h hq
    simp only [List.length_cons] at hl
    have ih := impl_le_tail f X Y res hX hY Q (e - q.size) (by omega) (by omega) (by omega) (by rw [Nat.sub_sub]; exact h)
    have ex : X ++ (q :: Q).reverse = (X ++ Q.reverse) ++ [q] := by simp
    have ey : Y ++ (q :: Q).reverse = (Y ++ Q.reverse) ++ [q] := by simp
    rw [ex, ey]
    have lx : ((X ++ Q.reverse) ++ [q]).length = (X ++ Q.reverse).length + 1 := by simp; omega
    have ly : ((Y ++ Q.reverse) ++ [q]).length = (Y ++ Q.reverse).length + 1 := by simp; omega
    have bx : (X ++ Q.reverse).length ≤ 100000 := by simp; omega
    have by_ : (Y ++ Q.reverse).length ≤ 100000 := by simp; omega
    have w1 : ∀ _ : Unit, wrap64 ((((X ++ Q.reverse) ++ [q]).length : Int) - 1) = ((X ++ Q.reverse).length : Int) := fun _ => by rw [w64] <;> omega
    have w2 : ∀ _ : Unit, wrap64 ((((Y ++ Q.reverse) ++ [q]).length : Int) - 1) = ((Y ++ Q.reverse).length : Int) := fun _ => by rw [w64] <;> omega
    have w3 : ∀ _ : Unit, wrap64 ((e : Int) - (q.size : Int)) = ((e - q.size : Nat) : Int) := fun _ => by rw [w64] <;> omega
    have rx : rdOf ByteArray.empty ((X ++ Q.reverse) ++ [q]) ((X ++ Q.reverse).length : Int) = q := rd_app _ q [] _ rfl
    have ry : rdOf ByteArray.empty ((Y ++ Q.reverse) ++ [q]) ((Y ++ Q.reverse).length : Int) = q := rd_app _ q [] _ rfl
    refine Ev.up ?_
    simp only [impl_LineEdits.l1, w1 (), w2 (), rx, ry, w3 (), Int.toNat_natCast]
    rw [List.take_left, List.take_left]
    generalize X ++ Q.reverse = X' at *
    generalize Y ++ Q.reverse = Y' at *
    refine Ev.pos (by omega) (Ev.pos (by omega) (Ev.pos (by omega) (Ev.pos (by omega) (Ev.pos (by omega) (Ev.pos (by omega) ?_)))))
    exact Ev.pos trivial (Ev.pos (by omega) (Ev.pos (by omega) ih))
/-! ## LineEdits: the reference, and both -/
theorem spec_le_end (a b : ByteArray) (A B A2 B2 Q : List ByteArray) (hA : A = A2 ++ Q) (hB : B = B2 ++ Q) (h f e : Nat) (h1 : h ≤ A2.length) (h2 : h ≤ B2.length) (lA : A.length ≤ 100000) (lB : B.length ≤ 100000)
    (sa : a.size ≤ 20000) (sb : b.size ≤ 20000) (hf : f + e ≤ b.size) (hap : ∀ xs x ys y, A2 = xs ++ [x] → B2 = ys ++ [y] → h ≤ xs.length → h ≤ ys.length → x ≠ y) :
    Ev (fun k => spec_LineEdits.l1 k a b ([] : List S44) A B (h : Int) (f : Int) (Q.length : Int) (e : Int)) [(⟨(f : Int), (a.size : Int) - e, b.extract f (b.size - e)⟩ : S44)] := by
  have wa : ∀ _ : Unit, wrap64 ((a.size : Int) - (e : Int)) = (a.size : Int) - e := fun _ => w64 (by omega) (by omega)
  have wb : ∀ _ : Unit, wrap64 ((b.size : Int) - (e : Int)) = ((b.size - e : Nat) : Int) := fun _ => by rw [w64] <;> omega
  have la : A.length = A2.length + Q.length := by rw [hA, List.length_append]
  have lb : B.length = B2.length + Q.length := by rw [hB, List.length_append]
  have w1 : ∀ _ : Unit, wrap64 ((A.length : Int) - (h : Int)) = ((A.length - h : Nat) : Int) := fun _ => by rw [w64] <;> omega
  have w2 : ∀ _ : Unit, wrap64 ((B.length : Int) - (h : Int)) = ((B.length - h : Nat) : Int) := fun _ => by rw [w64] <;> omega
  have hout : Ev (fun k => (if 0 ≤ (f : Int) then (if (f : Int) ≤ ((b.size - e : Nat) : Int) then (if ((b.size - e : Nat) : Int) ≤ (b.size : Int) then (if ([] : List S44).length < 4398046511104 then (some (([] : List S44) ++ [(⟨(f : Int), (a.size : Int) - e, b.extract ((f : Int)).toNat (((b.size - e : Nat) : Int)).toNat⟩ : S44)])) else (none)) else (none)) else (none)) else (none))) [(⟨(f : Int), (a.size : Int) - e, b.extract f (b.size - e)⟩ : S44)] := by
    refine Ev.pos (by omega) (Ev.pos (by omega) (Ev.pos (by omega) (Ev.pos (by simp) (Ev.ok ?_))))
    rw [Int.toNat_natCast, Int.toNat_natCast]
    rfl
  refine Ev.up ?_
  simp only [spec_LineEdits.l1, wa (), wb (), w1 (), w2 ()]
  by_cases c1 : (Q.length : Int) < ((A.length - h : Nat) : Int)
  · refine Ev.pos c1 ?_
    by_cases c2 : (Q.length : Int) < ((B.length - h : Nat) : Int)
    · obtain ⟨xs, x, ex⟩ : ∃ xs x, A2 = xs ++ [x] := ⟨A2.dropLast, A2.getLast (by intro h0; rw [h0] at la h1; simp at la h1; omega), (List.dropLast_concat_getLast _).symm⟩
      obtain ⟨ys, y, ey⟩ : ∃ ys y, B2 = ys ++ [y] := ⟨B2.dropLast, B2.getLast (by intro h0; rw [h0] at lb h2; simp at lb h2; omega), (List.dropLast_concat_getLast _).symm⟩
      have lx : A2.length = xs.length + 1 := by rw [ex]; simp
      have ly : B2.length = ys.length + 1 := by rw [ey]; simp
      have hne := hap xs x ys y ex ey (by omega) (by omega)
      have w3 : ∀ _ : Unit, wrap64 (wrap64 ((A.length : Int) - 1) - (Q.length : Int)) = (xs.length : Int) := fun _ => by rw [w64 (x := (A.length : Int) - 1) (by omega) (by omega), w64] <;> omega
      have w4 : ∀ _ : Unit, wrap64 (wrap64 ((B.length : Int) - 1) - (Q.length : Int)) = (ys.length : Int) := fun _ => by rw [w64 (x := (B.length : Int) - 1) (by omega) (by omega), w64] <;> omega
      have rx : rdOf ByteArray.empty A (xs.length : Int) = x := by rw [hA, ex, List.append_assoc]; exact rd_app xs x Q xs.length rfl
      have ry : rdOf ByteArray.empty B (ys.length : Int) = y := by rw [hB, ey, List.append_assoc]; exact rd_app ys y Q ys.length rfl
      simp only [w3 (), w4 (), rx, ry]
      refine Ev.pos c2 (Ev.pos (by omega) (Ev.pos (by omega) (Ev.pos (by omega) (Ev.pos (by omega) ?_))))
      exact Ev.neg (fun h0 => hne ((toList_eq_iff x y).mp h0)) hout
    · exact Ev.neg c2 hout
  · exact Ev.neg c1 hout
theorem spec_le_tail (a b : ByteArray) (A B A2 B2 : List ByteArray) (h f : Nat) (h1 : h ≤ A2.length) (h2 : h ≤ B2.length) (lA : A.length ≤ 100000) (lB : B.length ≤ 100000) (res : List S44) : ∀ (Q' Q : List ByteArray), A = A2 ++ Q'.reverse ++ Q → B = B2 ++ Q'.reverse ++ Q → (cat Q').length + (cat Q).length ≤ 20000 →
    Ev (fun k => spec_LineEdits.l1 k a b ([] : List S44) A B (h : Int) (f : Int) ((Q'.length + Q.length : Nat) : Int) (((cat Q').length + (cat Q).length : Nat) : Int)) res →
    Ev (fun k => spec_LineEdits.l1 k a b ([] : List S44) A B (h : Int) (f : Int) (Q.length : Int) ((cat Q).length : Int)) res
  | [], Q => fun _ _ _ hr => by
    rw [cat_nil] at hr
    simpa using hr
  | q :: Q', Q => fun hA hB hl hr => by
    rw [cat_cons, List.length_append, L_length] at hl hr
    have hA' : A = A2 ++ Q'.reverse ++ (q :: Q) := by rw [hA]; simp
    have hB' : B = B2 ++ Q'.reverse ++ (q :: Q) := by rw [hB]; simp
    have ih := spec_le_tail a b A B A2 B2 h f h1 h2 lA lB res Q' (q :: Q) hA' hB' (by rw [cat_cons, List.length_append, L_length]; omega) (by
      rw [cat_cons, List.length_append, L_length, List.length_cons]
      rw [List.length_cons] at hr
      have e1 : Q'.length + (Q.length + 1) = Q'.length + 1 + Q.length := by omega
      have e2 : (cat Q').length + (q.size + (cat Q).length) = q.size + (cat Q').length + (cat Q).length := by omega
      rw [e1, e2]
      exact hr)
    rw [cat_cons, List.length_append, L_length, List.length_cons] at ih
    have la : A.length = (A2 ++ Q'.reverse).length + 1 + Q.length := by rw [hA']; simp; omega
    have lb : B.length = (B2 ++ Q'.reverse).length + 1 + Q.length := by rw [hB']; simp; omega
    have g1 : h ≤ (A2 ++ Q'.reverse).length := by simp; omega
    have g2 : h ≤ (B2 ++ Q'.reverse).length := by simp; omega
    have rx : rdOf ByteArray.empty A ((A2 ++ Q'.reverse).length : Int) = q := by rw [hA']; exact rd_app _ q Q _ rfl
    have ry : rdOf ByteArray.empty B ((B2 ++ Q'.reverse).length : Int) = q := by rw [hB']; exact rd_app _ q Q _ rfl
    generalize A2 ++ Q'.reverse = A3 at *
    generalize B2 ++ Q'.reverse = B3 at *
    have w1 : ∀ _ : Unit, wrap64 ((A.length : Int) - (h : Int)) = ((A.length - h : Nat) : Int) := fun _ => by rw [w64] <;> omega
    have w2 : ∀ _ : Unit, wrap64 ((B.length : Int) - (h : Int)) = ((B.length - h : Nat) : Int) := fun _ => by rw [w64] <;> omega
    have w3 : ∀ _ : Unit, wrap64 (wrap64 ((A.length : Int) - 1) - (Q.length : Int)) = (A3.length : Int) := fun _ => by rw [w64 (x := (A.length : Int) - 1) (by omega) (by omega), w64] <;> omega
    have w4 : ∀ _ : Unit, wrap64 (wrap64 ((B.length : Int) - 1) - (Q.length : Int)) = (B3.length : Int) := fun _ => by rw [w64 (x := (B.length : Int) - 1) (by omega) (by omega), w64] <;> omega
    have w5 : ∀ _ : Unit, wrap64 ((Q.length : Int) + 1) = ((Q.length + 1 : Nat) : Int) := fun _ => by rw [w64] <;> omega
    have w6 : ∀ _ : Unit, wrap64 (((cat Q).length : Int) + (q.size : Int)) = ((q.size + (cat Q).length : Nat) : Int) := fun _ => by rw [w64] <;> omega
    refine Ev.up ?_
    simp only [spec_LineEdits.l1, w1 (), w2 (), w3 (), w4 (), rx, ry, w5 (), w6 ()]
    refine Ev.pos (by omega) (Ev.pos (by omega) (Ev.pos (by omega) (Ev.pos (by omega) (Ev.pos (by omega) (Ev.pos (by omega) ?_)))))
    exact Ev.pos trivial ih
theorem spec_le_head (a b : ByteArray) (A B A1 B1 : List ByteArray) (lA : A.length ≤ 100000) (lB : B.length ≤ 100000) (hap : ∀ x xs y ys, A1 = x :: xs → B1 = y :: ys → x ≠ y) (res : List S44) : ∀ (P P0 : List ByteArray) (f : Nat), A = P0 ++ (P ++ A1) → B = P0 ++ (P ++ B1) → f + (cat P).length ≤ 20000 →
    Ev (fun k => spec_LineEdits.l1 k a b ([] : List S44) A B ((P0.length + P.length : Nat) : Int) ((f + (cat P).length : Nat) : Int) 0 0) res →
    Ev (fun k => spec_LineEdits.l0 k a b ([] : List S44) A B (P0.length : Int) (f : Int)) res
  | [], P0, f => fun hA hB hf hr => by
    rw [cat_nil] at hr
    rw [List.nil_append] at hA hB
    have hj : Ev (fun k => spec_LineEdits.j2 k a b ([] : List S44) A B (P0.length : Int) (f : Int)) res := by
      refine Ev.up ?_
      simp only [spec_LineEdits.j2]
      simpa using hr
    refine Ev.up ?_
    simp only [spec_LineEdits.l0]
    by_cases c1 : (P0.length : Int) < (A.length : Int)
    · refine Ev.pos c1 ?_
      by_cases c2 : (P0.length : Int) < (B.length : Int)
      · obtain ⟨x, xs, ex⟩ : ∃ x xs, A1 = x :: xs := by
          cases A1 with
          | nil => rw [hA] at c1; simp at c1
          | cons x xs => exact ⟨x, xs, rfl⟩
        obtain ⟨y, ys, ey⟩ : ∃ y ys, B1 = y :: ys := by
          cases B1 with
          | nil => rw [hB] at c2; simp at c2
          | cons x xs => exact ⟨x, xs, rfl⟩
        have rx : rdOf ByteArray.empty A (P0.length : Int) = x := by rw [hA, ex]; exact rd_app P0 x xs _ rfl
        have ry : rdOf ByteArray.empty B (P0.length : Int) = y := by rw [hB, ey]; exact rd_app P0 y ys _ rfl
        rw [rx, ry]
        exact Ev.pos c2 (Ev.pos (by omega) (Ev.neg (fun h => hap x xs y ys ex ey ((toList_eq_iff x y).mp h)) hj))
      · exact Ev.neg c2 hj
    · exact Ev.neg c1 hj
  | w :: P, P0, f => fun hA hB hf hr => by
    rw [cat_cons, List.length_append, L_length] at hf hr
    have hA' : A = (P0 ++ [w]) ++ (P ++ A1) := by rw [hA]; simp
    have hB' : B = (P0 ++ [w]) ++ (P ++ B1) := by rw [hB]; simp
    have ih := spec_le_head a b A B A1 B1 lA lB hap res P (P0 ++ [w]) (f + w.size) hA' hB' (by omega) (by
      have e1 : (P0 ++ [w]).length + P.length = P0.length + (w :: P).length := by simp; omega
      have e2 : f + w.size + (cat P).length = f + (w.size + (cat P).length) := by omega
      rw [e1, e2]
      exact hr)
    have e1 : (P0 ++ [w]).length = P0.length + 1 := by simp
    rw [e1] at ih
    have rx : rdOf ByteArray.empty A (P0.length : Int) = w := by rw [hA]; exact rd_app P0 w (P ++ A1) _ rfl
    have ry : rdOf ByteArray.empty B (P0.length : Int) = w := by rw [hB]; exact rd_app P0 w (P ++ B1) _ rfl
    have la : P0.length < A.length := by rw [hA]; simp
    have lb : P0.length < B.length := by rw [hB]; simp
    have w1 : ∀ _ : Unit, wrap64 ((P0.length : Int) + 1) = ((P0.length + 1 : Nat) : Int) := fun _ => by rw [w64] <;> omega
    have w2 : ∀ _ : Unit, wrap64 ((f : Int) + (w.size : Int)) = ((f + w.size : Nat) : Int) := fun _ => by rw [w64] <;> omega
    refine Ev.up ?_
    simp only [spec_LineEdits.l0, rx, ry, w1 (), w2 ()]
    exact Ev.pos (by omega) (Ev.pos (by omega) (Ev.pos (by omega) (Ev.pos trivial ih)))
/-- What both find: the one edit, and what it is. -/
theorem le_edit (a b : ByteArray) (ta : a.size ≤ 20000) (tb : b.size ≤ 20000) (hne : a ≠ b) : ∃ e : S44,
    Ev (fun k => impl_LineEdits.l0 k a (allN a ++ [lastN a]) (allN b ++ [lastN b]) 0) [e] ∧
    Ev (fun k => spec_LineEdits.l0 k a b ([] : List S44) (allN a ++ opt (lastN a)) (allN b ++ opt (lastN b)) 0 0) [e] ∧
    ∃ f g : Nat, e.f0 = (f : Int) ∧ e.f1 = (g : Int) ∧ f ≤ g ∧ g ≤ a.size ∧ (∃ u v, L b = u ++ L e.f2 ++ v) ∧ L b = (L a).take f ++ L e.f2 ++ (L a).drop g := by
  have ca := allN_cat a
  have cb := allN_cat b
  have nA := allN_NL a
  have nB := allN_NL b
  have hp := lastN_no a
  have hr := lastN_no b
  have sA := L_length a
  have sB := L_length b
  obtain ⟨P, N1, M1, eN, eM, hap⟩ := pre_ex (allN a) (allN b)
  generalize allN a = N at *
  generalize allN b = M at *
  generalize lastN a = p at *
  generalize lastN b = r at *
  have hPR : N1 = [] → M1 = [] → p ≠ r := by
    rintro rfl rfl rfl
    apply hne
    apply L_inj
    rw [← ca, ← cb, eN, eM]
  have nP : ∀ w ∈ P, NL w := fun w hw => nA w (by rw [eN]; exact List.mem_append_left _ hw)
  have nN1 : ∀ w ∈ N1, NL w := fun w hw => nA w (by rw [eN]; exact List.mem_append_right _ hw)
  have nM1 : ∀ w ∈ M1, NL w := fun w hw => nB w (by rw [eM]; exact List.mem_append_right _ hw)
  rw [eN, cat_append] at ca
  rw [eM, cat_append] at cb
  have lenA : (cat P).length + (cat N1).length + p.size = a.size := by rw [← sA, ← ca]; simp [L_length]; omega
  have lenB : (cat P).length + (cat M1).length + r.size = b.size := by rw [← sB, ← cb]; simp [L_length]; omega
  have lP := len_cat P (fun w hw => NL_pos (nP w hw))
  have lN1 := len_cat N1 (fun w hw => NL_pos (nN1 w hw))
  have lM1 := len_cat M1 (fun w hw => NL_pos (nM1 w hw))
  have optl : ∀ q : ByteArray, (opt q).length ≤ 1 := fun q => by unfold opt; split <;> simp
  have op := optl p
  have or_ := optl r
  have hszN : ∀ w ∈ N1 ++ [p], w.size ≤ 20000 := by
    intro w hw
    rcases List.mem_append.mp hw with h | h
    · obtain ⟨s, t, est⟩ := List.append_of_mem h
      have := congrArg (fun l => (cat l).length) est
      simp only [cat_append, cat_cons, List.length_append, L_length] at this
      omega
    · rw [List.mem_singleton.mp h]; omega
  have hapS : ∀ x xs y ys, N1 ++ opt p = x :: xs → M1 ++ opt r = y :: ys → x ≠ y := by
    intro x xs y ys e1 e2
    have po : ∀ (q z : ByteArray) zs, opt q = z :: zs → z = q := fun q z zs h => by
      unfold opt at h
      split at h
      · simp at h
      · exact (List.cons.inj h).1.symm
    cases N1 with
    | nil =>
      have hx : x = p := po p x xs e1
      cases M1 with
      | nil =>
        have hy : y = r := po r y ys e2
        rw [hx, hy]
        exact hPR rfl rfl
      | cons m M1 =>
        obtain ⟨rfl, _⟩ := List.cons.inj e2
        rw [hx]
        exact fun h => NL_ne (nM1 _ (List.mem_cons_self)) hp h.symm
    | cons n N1 =>
      obtain ⟨rfl, _⟩ := List.cons.inj e1
      cases M1 with
      | nil =>
        have hy : y = r := po r y ys e2
        rw [hy]
        exact NL_ne (nN1 _ (List.mem_cons_self)) hr
      | cons m M1 =>
        obtain ⟨rfl, _⟩ := List.cons.inj e2
        exact hap _ _ _ _ rfl rfl
  have eA : (P ++ N1) ++ opt p = [] ++ (P ++ (N1 ++ opt p)) := by simp
  have eB : (P ++ M1) ++ opt r = [] ++ (P ++ (M1 ++ opt r)) := by simp
  have eX : (P ++ N1) ++ [p] = P ++ (N1 ++ [p]) := by simp
  have eY : (P ++ M1) ++ [r] = P ++ (M1 ++ [r]) := by simp
  have gA : ((P ++ N1) ++ opt p).length ≤ 100000 := by simp only [List.length_append]; omega
  have gB : ((P ++ M1) ++ opt r).length ≤ 100000 := by simp only [List.length_append]; omega
  have goI : ∀ res, Ev (fun k => impl_LineEdits.l1 k (N1 ++ [p]) (M1 ++ [r]) ((cat P).length : Int) (a.size : Int)) res → Ev (fun k => impl_LineEdits.l0 k a (N ++ [p]) (M ++ [r]) 0) res := by
    intro res h
    rw [eN, eM, eX, eY]
    refine impl_le_head a (N1 ++ [p]) (M1 ++ [r]) (by simp) (by simp) res P 0 nP (by omega) ?_
    rw [Nat.zero_add]
    exact impl_le_stop a N1 M1 p r nN1 nM1 hp hr hszN hap _ res h
  have goS : ∀ res, Ev (fun k => spec_LineEdits.l1 k a b ([] : List S44) ((P ++ N1) ++ opt p) ((P ++ M1) ++ opt r) (P.length : Int) ((cat P).length : Int) 0 0) res → Ev (fun k => spec_LineEdits.l0 k a b ([] : List S44) (N ++ opt p) (M ++ opt r) 0 0) res := by
    intro res h
    rw [eN, eM]
    refine spec_le_head a b _ _ (N1 ++ opt p) (M1 ++ opt r) gA gB hapS res P [] 0 eA eB (by omega) ?_
    simp only [List.length_nil, Nat.zero_add]
    exact h
  clear eA eB eX eY
  by_cases hpr : p = r
  · subst hpr
    obtain ⟨Q, N2, M2, fN, fM, hapT⟩ := suf_ex N1 M1
    rw [fN, cat_append] at ca
    rw [fM, cat_append] at cb
    have cN := congrArg List.length (congrArg cat fN)
    have cM := congrArg List.length (congrArg cat fM)
    rw [cat_append, List.length_append] at cN cM
    have kN := congrArg List.length fN
    have kM := congrArg List.length fM
    rw [List.length_append] at kN kM
    have cr : ∀ Z : List ByteArray, (cat Z.reverse).length = (cat Z).length := fun Z => by simp [cat, List.length_flatten, List.sum_reverse]
    have qI : ((Q ++ [p]).reverse).reverse = Q ++ [p] := List.reverse_reverse _
    refine ⟨⟨((cat P).length : Int), ((a.size - ((cat Q).length + p.size) : Nat) : Int), mk (cat M2)⟩, ?_, ?_, (cat P).length, a.size - ((cat Q).length + p.size), rfl, rfl, by omega, by omega, ⟨cat P, cat Q ++ L p, ?_⟩, ?_⟩
    · apply goI
      have h1 := impl_le_end ((cat P).length : Int) ((a.size - ((cat Q).length + p.size) : Nat) : Int) N2 M2 (by omega) (by omega) hapT (by omega)
      have h2 := impl_le_tail ((cat P).length : Int) N2 M2 _ (by omega) (by omega) ((Q ++ [p]).reverse) a.size (by rw [cr, cat_append, cat_one, List.length_append, L_length]; omega) ta (by simp; omega) (by rw [cr, cat_append, cat_one, List.length_append, L_length]; exact h1)
      rw [qI] at h2
      rw [fN, fM, List.append_assoc, List.append_assoc]
      exact h2
    · apply goS
      have h1 := spec_le_end a b ((P ++ N1) ++ opt p) ((P ++ M1) ++ opt p) (P ++ N2) (P ++ M2) (Q ++ opt p) (by rw [fN]; simp) (by rw [fM]; simp) P.length (cat P).length ((cat Q).length + p.size) (by simp) (by simp) gA gB ta tb (by omega) (by
        intro xs x ys y e1 e2 l1 l2
        cases hN2 : N2.reverse with
        | nil =>
          have : N2 = [] := by simpa using hN2
          subst this
          have := congrArg List.length e1
          simp at this
          omega
        | cons z Z =>
          cases hM2 : M2.reverse with
          | nil =>
            have : M2 = [] := by simpa using hM2
            subst this
            have := congrArg List.length e2
            simp at this
            omega
          | cons z' Z' =>
            have e3 : N2 = Z.reverse ++ [z] := by have := congrArg List.reverse hN2; simpa using this
            have e4 : M2 = Z'.reverse ++ [z'] := by have := congrArg List.reverse hM2; simpa using this
            have hzz := hapT _ _ _ _ e3 e4
            rw [e3, ← List.append_assoc] at e1
            rw [e4, ← List.append_assoc] at e2
            have f1 := (List.append_inj_right' e1 rfl)
            have f2 := (List.append_inj_right' e2 rfl)
            rw [← (List.cons.inj f1).1, ← (List.cons.inj f2).1]
            exact hzz)
      have h2 := spec_le_tail a b ((P ++ N1) ++ opt p) ((P ++ M1) ++ opt p) (P ++ N2) (P ++ M2) P.length (cat P).length (by simp) (by simp) gA gB [(⟨((cat P).length : Int), (a.size : Int) - ((cat Q).length + p.size : Nat), b.extract (cat P).length (b.size - ((cat Q).length + p.size))⟩ : S44)] ((Q ++ opt p).reverse) [] (by rw [fN]; simp) (by rw [fM]; simp) (by rw [cr, cat_append, cat_opt, List.length_append, L_length, cat_nil, List.length_nil]; omega) (by
        simp only [cr, cat_append, cat_opt, List.length_append, L_length, cat_nil, List.length_nil, List.length_reverse, Nat.add_zero] at h1 ⊢
        exact h1)
      have e5 : (a.size : Int) - (((cat Q).length + p.size : Nat) : Int) = ((a.size - ((cat Q).length + p.size) : Nat) : Int) := by omega
      have e6 : b.extract (cat P).length (b.size - ((cat Q).length + p.size)) = mk (cat M2) := by
        apply L_inj
        rw [L_extract, L_mk, ← cb]
        have e7 : cat P ++ (cat M2 ++ cat Q) ++ L p = (cat P ++ cat M2) ++ (cat Q ++ L p) := by simp
        rw [e7, show b.size - ((cat Q).length + p.size) = (cat P ++ cat M2).length by rw [List.length_append]; omega, List.take_left, List.drop_left]
      rw [e5, e6] at h2
      exact h2
    · rw [← cb, L_mk]
      simp
    · rw [← cb, L_mk, ← ca]
      have e7 : cat P ++ (cat N2 ++ cat Q) ++ L p = (cat P ++ cat N2) ++ (cat Q ++ L p) := by simp
      have e8 : a.size - ((cat Q).length + p.size) = (cat P ++ cat N2).length := by rw [List.length_append]; omega
      rw [e8, e7, List.drop_left, List.append_assoc (cat P) (cat N2), List.take_left]
      simp
  · refine ⟨⟨((cat P).length : Int), (a.size : Int), mk (cat M1 ++ L r)⟩, ?_, ?_, (cat P).length, a.size, rfl, rfl, by omega, by omega, ⟨cat P, [], ?_⟩, ?_⟩
    · apply goI
      have h1 := impl_le_end ((cat P).length : Int) (a.size : Int) (N1 ++ [p]) (M1 ++ [r]) (by simp; omega) (by rw [cat_append, cat_one, List.length_append, L_length]; omega) (by
        intro xs x ys y e1 e2
        have f1 := (List.cons.inj (List.append_inj_right' e1 rfl)).1
        have f2 := (List.cons.inj (List.append_inj_right' e2 rfl)).1
        rw [← f1, ← f2]
        exact hpr) (by simp; omega)
      rw [cat_append, cat_one] at h1
      exact h1
    · apply goS
      have h1 := spec_le_end a b ((P ++ N1) ++ opt p) ((P ++ M1) ++ opt r) ((P ++ N1) ++ opt p) ((P ++ M1) ++ opt r) [] (by simp) (by simp) P.length (cat P).length 0 (by simp) (by simp) gA gB ta tb (by omega) (by
        intro xs x ys y e1 e2 l1 l2
        have lastOf : ∀ (W : List ByteArray) (q x : ByteArray) (xs : List ByteArray), (∀ w ∈ W, NL w) → P ++ W ++ opt q = xs ++ [x] → P.length ≤ xs.length → (x = q ∧ q.size ≠ 0) ∨ (q.size = 0 ∧ NL x) := by
          intro W q x xs hW e l
          by_cases hq : q.size = 0
          · refine .inr ⟨hq, ?_⟩
            have : opt q = [] := by unfold opt; rw [if_pos hq]
            rw [this, List.append_nil] at e
            cases hWr : W.reverse with
            | nil =>
              have : W = [] := by simpa using hWr
              subst this
              have := congrArg List.length e
              simp at this
              omega
            | cons z Z =>
              have e3 : W = Z.reverse ++ [z] := by have := congrArg List.reverse hWr; simpa using this
              rw [e3, ← List.append_assoc] at e
              rw [← (List.cons.inj (List.append_inj_right' e rfl)).1]
              exact hW z (by rw [e3]; simp)
          · have : opt q = [q] := by unfold opt; rw [if_neg hq]
            rw [this] at e
            exact .inl ⟨((List.cons.inj (List.append_inj_right' e rfl)).1).symm, hq⟩
        rcases lastOf N1 p x xs nN1 e1 l1 with ⟨h1, h1'⟩ | ⟨h1, h1'⟩ <;> rcases lastOf M1 r y ys nM1 e2 l2 with ⟨h2, h2'⟩ | ⟨h2, h2'⟩
        · rw [h1, h2]; exact hpr
        · rw [h1]; exact fun h => NL_ne h2' hp h.symm
        · rw [h2]; exact NL_ne h1' hr
        · exfalso
          apply hpr
          apply L_inj
          rw [List.eq_nil_of_length_eq_zero (show (L p).length = 0 by rw [L_length]; exact h1), List.eq_nil_of_length_eq_zero (show (L r).length = 0 by rw [L_length]; exact h2)])
      have e6 : b.extract (cat P).length (b.size - 0) = mk (cat M1 ++ L r) := by
        apply L_inj
        rw [L_extract, L_mk, Nat.sub_zero, List.take_of_length_le (by omega), ← cb, List.append_assoc, List.drop_left]
      rw [e6] at h1
      simpa using h1
    · rw [← cb, L_mk]
      simp
    · rw [← cb, L_mk, ← ca]
      have e8 : a.size = (cat P ++ cat N1 ++ L p).length := by rw [List.length_append, List.length_append, L_length]; omega
      rw [e8, List.drop_length, List.append_assoc (cat P) (cat N1), List.take_left]
      simp
/-! ## LineEdits: what both answer -/
open Classical in
theorem le_model (a b : ByteArray) (ha : a.size ≤ 140737488351232) (hb : b.size ≤ 140737488351232) : ∃ es : List S44, ((es = [] ∧ ¬ (textOk a ∧ textOk b ∧ a ≠ b)) ∨ (textOk a ∧ textOk b ∧ a ≠ b ∧ ∃ e, es = [e] ∧ ∃ f g : Nat, e.f0 = (f : Int) ∧ e.f1 = (g : Int) ∧ f ≤ g ∧ g ≤ a.size ∧ (∃ u v, L b = u ++ L e.f2 ++ v) ∧ L b = (L a).take f ++ L e.f2 ++ (L a).drop g)) ∧ es.length ≤ 1 ∧ (∀ e ∈ es, e.f2.size ≤ 20000) ∧ Ev (fun k => impl_LineEdits.f k a b) es ∧ Ev (fun k => spec_LineEdits.f k a b) es := by
  have hnoI : Ev (fun k => impl_LineEdits.j0 k a b true) ([] : List S44) := by
    refine Ev.up ?_
    simp only [impl_LineEdits.j0, if_true]
    exact Ev.now _
  have hnoS : Ev (fun k => spec_LineEdits.j0 k a b ([] : List S44) true) ([] : List S44) := by
    refine Ev.up ?_
    simp only [spec_LineEdits.j0, if_true]
    exact Ev.now _
  unfold impl_LineEdits.f spec_LineEdits.f
  simp only [Option.bind_some]
  by_cases ta : textOk a
  · have hta : decide (textOk a) = true := decide_eq_true ta
    have ia := impl_text a (by omega)
    have sa := spec_text a (by omega)
    rw [hta] at ia sa
    by_cases tb : textOk b
    · have htb : decide (textOk b) = true := decide_eq_true tb
      have ib := impl_text b (by omega)
      have sb := spec_text b (by omega)
      rw [htb] at ib sb
      by_cases hab : a = b
      · have hl : (a.toList == b.toList) = true := by rw [hab]; simp
        refine ⟨[], .inl ⟨rfl, fun h => h.2.2 hab⟩, by simp, by simp, Ev.bind ia (Ev.pos rfl (Ev.bind ib (Ev.pos rfl ?_))), Ev.bind sa (Ev.pos rfl (Ev.bind sb (Ev.pos rfl ?_)))⟩
        · rw [hl]; exact hnoI
        · rw [hl]; exact hnoS
      · have hl : (a.toList == b.toList) = false := beq_eq_false_iff_ne.mpr (fun h => hab ((toList_eq_iff a b).mp h))
        obtain ⟨e, h1, h2, f, g, g1, g2, g3, g4, ⟨u, v, huv⟩, g6⟩ := le_edit a b ta.1 tb.1 hab
        have hz : e.f2.size ≤ 20000 := by
          have := congrArg List.length huv
          simp only [List.length_append, L_length] at this
          have := tb.1
          omega
        refine ⟨[e], .inr ⟨ta, tb, hab, e, rfl, f, g, g1, g2, g3, g4, ⟨u, v, huv⟩, g6⟩, by simp, fun x hx => by rw [List.mem_singleton.mp hx]; exact hz, Ev.bind ia (Ev.pos rfl (Ev.bind ib (Ev.pos rfl ?_))), Ev.bind sa (Ev.pos rfl (Ev.bind sb (Ev.pos rfl ?_)))⟩
        · rw [hl]
          refine Ev.up ?_
          simp only [impl_LineEdits.j0, Bool.false_eq_true, if_false, splitAfter_is a (by have := ta.1; omega), splitAfter_is b (by have := tb.1; omega), Option.bind_some]
          exact h1
        · rw [hl]
          refine Ev.up ?_
          simp only [spec_LineEdits.j0, Bool.false_eq_true, if_false]
          exact Ev.bind (spec_lines_ev a ta.1) (Ev.bind (spec_lines_ev b tb.1) h2)
    · have htb : decide (textOk b) = false := decide_eq_false tb
      have ib := impl_text b (by omega)
      have sb := spec_text b (by omega)
      rw [htb] at ib sb
      exact ⟨[], .inl ⟨rfl, fun h => tb h.2.1⟩, by simp, by simp, Ev.bind ia (Ev.pos rfl (Ev.bind ib (Ev.neg (by simp) hnoI))), Ev.bind sa (Ev.pos rfl (Ev.bind sb (Ev.neg (by simp) hnoS)))⟩
  · have hta : decide (textOk a) = false := decide_eq_false ta
    have ia := impl_text a (by omega)
    have sa := spec_text a (by omega)
    rw [hta] at ia sa
    exact ⟨[], .inl ⟨rfl, fun h => ta h.1⟩, by simp, by simp, Ev.bind ia (Ev.neg (by simp) hnoI), Ev.bind sa (Ev.neg (by simp) hnoS)⟩
/-! ## the drawn texts -/
theorem rdOf_size (m : Nat) (ws : List ByteArray) (h : ∀ w ∈ ws, w.size ≤ m) (i : Int) : (rdOf ByteArray.empty ws i).size ≤ m := by
  unfold rdOf
  rw [List.getD_eq_getElem?_getD]
  by_cases hi : i.toNat < ws.length
  · rw [List.getElem?_eq_getElem hi]
    exact h _ (List.getElem_mem hi)
  · rw [List.getElem?_eq_none (by omega)]
    show ByteArray.empty.size ≤ m
    rw [ByteArray.size_empty]
    omega
theorem drawlines_loop (s : List Int) (hs : codeOk s) (hl : s.length ≤ 2000) (d : Nat) : ∀ (a b : ByteArray) (p : Int), 0 ≤ p → p ≤ 1000000 - 10 * d → d ≤ 6 → a.size ≤ 100 - 10 * d → b.size ≤ 100 - 10 * d →
    ∃ x y, Ev (fun k => spec_DrawLineEdits.l0 k a b (d : Int) s p) (x, y) ∧ x.size ≤ 200 ∧ y.size ≤ 200 := by
  induction d with
  | zero =>
    intro a b p hp hp2 _ ha hb
    obtain ⟨r, q, h1, _, _⟩ := odd_ev s hs p 12 (by omega) (by omega) (by omega)
    cases r with
    | false =>
      refine ⟨a, b, Ev.up ?_, by omega, by omega⟩
      simp only [spec_DrawLineEdits.l0]
      exact Ev.neg (by omega) (Ev.bind h1 (Ev.neg (by simp) (Ev.now _)))
    | true =>
      refine ⟨a, b ++ (⟨#[1]⟩ : ByteArray), Ev.up ?_, by omega, ?_⟩
      · simp only [spec_DrawLineEdits.l0]
        exact Ev.neg (by omega) (Ev.bind h1 (Ev.pos rfl (Ev.pos (by omega) (Ev.now _))))
      · rw [ByteArray.size_append, show (⟨#[1]⟩ : ByteArray).size = 1 from rfl]; omega
  | succ d ih =>
    intro a b p hp hp2 hd ha hb
    obtain ⟨r1, h1, h1a, h1b⟩ := pick_ev s hs p 4 (by omega) (by omega) (by omega)
    obtain ⟨r2, h2, h2a, h2b⟩ := pick_ev s hs (p + 1) 4 (by omega) (by omega) (by omega)
    have h1c := h1b (by omega)
    have w1 : ∀ _ : Unit, wrap64 (((d + 1 : Nat) : Int) - 1) = (d : Int) := fun _ => by rw [w64] <;> omega
    have z1 := rdOf_size 4 [(⟨#[97, 10]⟩ : ByteArray), (⟨#[98, 10]⟩ : ByteArray), (⟨#[10]⟩ : ByteArray), (⟨#[99, 99, 10]⟩ : ByteArray)] (by decide) r1
    obtain ⟨line, hline⟩ : ∃ line, rdOf ByteArray.empty [(⟨#[97, 10]⟩ : ByteArray), (⟨#[98, 10]⟩ : ByteArray), (⟨#[10]⟩ : ByteArray), (⟨#[99, 99, 10]⟩ : ByteArray)] r1 = line := ⟨_, rfl⟩
    rw [hline] at z1
    have sa : (a ++ line).size = a.size + line.size := ByteArray.size_append
    have sb : (b ++ line).size = b.size + line.size := ByteArray.size_append
    by_cases c : r2 > 0
    · obtain ⟨x, y, h3, h4⟩ := ih (a ++ line) (b ++ line) (p + 1 + 1) (by omega) (by omega) (by omega) (by omega) (by omega)
      refine ⟨x, y, Ev.up ?_, h4⟩
      simp only [spec_DrawLineEdits.l0, Option.bind_some, w1 ()]
      refine Ev.pos (by omega) (Ev.bind h1 ?_)
      simp only [hline]
      exact Ev.pos h1a (Ev.pos h1c (Ev.pos (by omega) (Ev.bind h2 (Ev.pos c (Ev.pos (by omega) h3)))))
    · obtain ⟨r3, h5, h5a, h5b⟩ := pick_ev s hs (p + 1 + 1) 3 (by omega) (by omega) (by omega)
      have h5c := h5b (by omega)
      have z2 := rdOf_size 4 [(⟨#[]⟩ : ByteArray), (⟨#[110, 101, 119, 10]⟩ : ByteArray), (⟨#[120]⟩ : ByteArray)] (by decide) r3
      obtain ⟨other, hother⟩ : ∃ other, rdOf ByteArray.empty [(⟨#[]⟩ : ByteArray), (⟨#[110, 101, 119, 10]⟩ : ByteArray), (⟨#[120]⟩ : ByteArray)] r3 = other := ⟨_, rfl⟩
      rw [hother] at z2
      have sc : (b ++ other).size = b.size + other.size := ByteArray.size_append
      obtain ⟨x, y, h3, h4⟩ := ih (a ++ line) (b ++ other) (p + 1 + 1 + 1) (by omega) (by omega) (by omega) (by omega) (by omega)
      refine ⟨x, y, Ev.up ?_, h4⟩
      simp only [spec_DrawLineEdits.l0, Option.bind_some, w1 ()]
      refine Ev.pos (by omega) (Ev.bind h1 ?_)
      simp only [hline]
      refine Ev.pos h1a (Ev.pos h1c (Ev.pos (by omega) (Ev.bind h2 (Ev.neg c (Ev.bind h5 ?_)))))
      simp only [hother]
      exact Ev.pos h5a (Ev.pos h5c (Ev.pos (by omega) h3))
theorem drawlines_ev (l : List Int) (hs : codeOk l) (hl : l.length ≤ 1048576) : ∃ a b, Ev (fun k => spec_DrawLineEdits.f k l) (a, b) ∧ a.size ≤ 200 ∧ b.size ≤ 200 := by
  unfold spec_DrawLineEdits.f
  obtain ⟨s, h1, h2, h3⟩ := open_ev l hs hl
  obtain ⟨r, h4, h4a, h4b⟩ := pick_ev s h2 0 6 (by omega) (by omega) (by omega)
  have h4c := h4b (by omega)
  obtain ⟨d, rfl⟩ := Int.eq_ofNat_of_zero_le h4a
  obtain ⟨x, y, h5, h6⟩ := drawlines_loop s h2 h3 d (⟨#[]⟩ : ByteArray) (⟨#[]⟩ : ByteArray) (0 + 1) (by omega) (by omega) (by omega) (by rw [show (⟨#[]⟩ : ByteArray).size = 0 from rfl]; omega) (by rw [show (⟨#[]⟩ : ByteArray).size = 0 from rfl]; omega)
  refine ⟨x, y, ?_, h6⟩
  simp only [h1, Option.bind_some]
  exact Ev.bind h4 h5
/-! ## the law -/
theorem textOk_part {b t : ByteArray} (h : textOk b) (u v : List UInt8) (e : L b = u ++ L t ++ v) : textOk t := by
  have hl := congrArg List.length e
  simp only [List.length_append, L_length] at hl
  have hb := h.1
  refine ⟨by omega, fun j hj => ?_⟩
  have h1 := h.2 (u.length + j) (by omega)
  have hj' : j < (L t).length := by rw [L_length]; exact hj
  rw [bt_L b (u.length + j) (by rw [L_length]; omega)] at h1
  rw [bt_L t j hj']
  have e2 : (L b)[u.length + j]'(by rw [L_length]; omega) = (L t)[j] := by
    simp only [e]
    rw [List.getElem_append_left (by simp; omega), List.getElem_append_right (by omega)]
    simp
  rw [e2] at h1
  exact h1
theorem le_apply {a b : ByteArray} (ta : textOk a) (tb : textOk b) {e : S44} {f g : Nat} (h0 : e.f0 = (f : Int)) (h1 : e.f1 = (g : Int)) (h2 : f ≤ g) (h3 : g ≤ a.size) (h4 : ∃ u v, L b = u ++ L e.f2 ++ v) (h5 : L b = (L a).take f ++ L e.f2 ++ (L a).drop g) :
    applyM a [e] = (b, true) := by
  obtain ⟨u, v, huv⟩ := h4
  have he : editOk a e := ⟨⟨by omega, by omega⟩, ⟨by omega, by omega⟩, textOk_part tb u v huv⟩
  have hm : mk (appL (L a) [e] 0) = b := by
    apply L_inj
    rw [L_mk, h5]
    simp [appL, h0, h1]
  rw [applyM_yes (editsOk_one ta he) (by rw [hm]; exact tb), hm]
open Classical in
theorem FnLineEdits (l : List Int) (_ : l.length ≤ 9223372036854775807) (hwf : ∀ x ∈ l, (Lit.int .u8 x).wf = true) : ∃ k, laws_FnLineEdits.f k l = some true := by
  refine Ev.rounds (g := fun k => laws_FnLineEdits.f k l) ?_
  unfold laws_FnLineEdits.f
  by_cases hbig : (l.length : Int) > 1048576
  · exact Ev.pos hbig (Ev.now _)
  refine Ev.neg hbig ?_
  obtain ⟨a, b, hd, ha, hb⟩ := drawlines_ev l (codeOk_wf hwf) (by omega)
  obtain ⟨es, hes, h1, h2, hi, hs⟩ := le_model a b (by omega) (by omega)
  have hse : sizedE es := ⟨by omega, fun e he => by have := h2 e he; omega⟩
  have sa := spec_text a (by omega)
  have sb := spec_text b (by omega)
  refine Ev.bind hd (Ev.bind hi (Ev.bind hs (Ev.bind (same_ev es (by omega)) (Ev.pos rfl (Ev.bind sa ?_)))))
  have hno : es = [] → Ev (fun k => laws_FnLineEdits.j0 k a b es true) true := by
    rintro rfl
    refine Ev.up ?_
    simp only [laws_FnLineEdits.j0, if_true]
    exact Ev.pos rfl (Ev.bind alive_ev (Ev.now _))
  by_cases ta : textOk a
  · refine Ev.pos (decide_eq_true ta) (Ev.bind sb ?_)
    by_cases tb : textOk b
    · rw [decide_eq_true tb]
      refine Ev.up ?_
      simp only [laws_FnLineEdits.j0, Bool.not_true, Bool.false_eq_true, if_false]
      have hia := impl_apply a es (by omega) hse
      by_cases hab : a = b
      · have e0 : es = [] := by
          rcases hes with h | h
          · exact h.1
          · exact absurd hab h.2.2.1
        subst e0
        have hz : appL (L a) [] 0 = L a := by simp [appL]
        have ho : editsOk a [] := ⟨ta, by simp, fun i hi => by simp at hi⟩
        rw [applyM_yes ho (by rw [hz, mk_L]; exact ta), hz, mk_L] at hia
        refine Ev.bind hia (Ev.pos rfl (Ev.pos (by rw [hab]) (Ev.pos (by simp) (Ev.ok ?_))))
        rw [hab]
        simp
      · rcases hes with h | ⟨_, _, _, e, rfl, f, g, g1, g2, g3, g4, g5, g6⟩
        · exact absurd ⟨ta, tb, hab⟩ h.2
        · rw [le_apply ta tb g1 g2 g3 g4 g5 g6] at hia
          refine Ev.bind hia (Ev.pos rfl (Ev.pos rfl (Ev.pos (by simp) (Ev.ok ?_))))
          have hl : (a.toList == b.toList) = false := beq_eq_false_iff_ne.mpr (fun h => hab ((toList_eq_iff a b).mp h))
          rw [hl]
          rfl
    · rw [decide_eq_false tb]
      refine hno ?_
      rcases hes with h | h
      · exact h.1
      · exact absurd h.2.1 tb
  · refine Ev.neg (by simp [ta]) (hno ?_)
    rcases hes with h | h
    · exact h.1
    · exact absurd h.1 ta
end Go.Proofs.YtghkbkbommobaaaDoor.Pure
