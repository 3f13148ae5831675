/- The functions of the program that one law uses, as plain Lean functions, and the contracts that tie the machine to them, walked by the machine. No condition. -/
import Derived.Test.YtghkbkbommobaaaPx0
import Derived.Test.YtghkbkbommobaaaPx7
import Derived.Test.YtghkbkbommobaaaPx8
import Derived.Test.YtghkbkbommobaaaPx9
import Derived.Test.YtghkbkbommobaaaPx11
namespace Go.Proofs.Ytghkbkbommobaaa.P
open Go.RowKit Go.Proofs.Ytghkbkbommobaaa.Copy Go.Proofs.Ytghkbkbommobaaa.Lib Go.Proofs.YtghkbkbommobaaaW.PrintWords Go.Proofs.YtghkbkbommobaaaW.PrintLast Go.Proofs.YtghkbkbommobaaaW.PrintMore
attribute [local go_sem] max2_int min2_int max_two min_two max_three min_three max_four min_four   -- for this text's walks alone
set_option linter.unusedVariables false
set_option linter.unusedSimpArgs false

/-! ### spec_ApplyEdits: function 35 -/
def spec_ApplyEdits.l0 : Nat → ByteArray → List (S42) → ByteArray → Int → Int → Option (ByteArray × Bool)
  | 0, _, _, _, _, _ => none
  | k + 1, x0, x1, x6, x7, x8 => if x8 < (x1.length : Int) then (if 0 ≤ x8 then (if 0 ≤ x7 then (if x7 ≤ ((rd_T42 x1 x8).f0) then (if ((rd_T42 x1 x8).f0) ≤ (x0.size : Int) then (if x6.size + (x0.extract (x7 : Int).toNat (((rd_T42 x1 x8).f0) : Int).toNat).size ≤ 9223372036854775807 then (if (x6 ++ (x0.extract (x7 : Int).toNat (((rd_T42 x1 x8).f0) : Int).toNat)).size + ((rd_T42 x1 x8).f2).size ≤ 9223372036854775807 then (spec_ApplyEdits.l0 k x0 x1 ((x6 ++ (x0.extract (x7 : Int).toNat (((rd_T42 x1 x8).f0) : Int).toNat)) ++ ((rd_T42 x1 x8).f2)) ((rd_T42 x1 x8).f1) (wrap64 (x8 + 1))) else (none)) else (none)) else (none)) else (none)) else (none)) else (none)) else (if 0 ≤ x7 then (if x7 ≤ (x0.size : Int) then (if x6.size + (x0.extract (x7 : Int).toNat x0.size).size ≤ 9223372036854775807 then ((spec_TextValid.f k (x6 ++ (x0.extract (x7 : Int).toNat x0.size))).bind fun t382 => (if t382 = true then (some (x6 ++ (x0.extract (x7 : Int).toNat x0.size), true)) else (some ((⟨#[]⟩ : ByteArray), false)))) else (none)) else (none)) else (none))
def spec_ApplyEdits.f (k : Nat) (a0 : ByteArray) (l1 : List (S42)) : Option (ByteArray × Bool) := (spec_EditsValid.f k a0 l1).bind fun t378 => (if t378 = true then (spec_ApplyEdits.l0 k a0 l1 (⟨#[]⟩ : ByteArray) 0 0) else (some ((⟨#[]⟩ : ByteArray), false)))
theorem spec_ApplyEdits.mono_l : ∀ k, (∀ y0 y1 y2 y3 y4, LeO (spec_ApplyEdits.l0 k y0 y1 y2 y3 y4) (spec_ApplyEdits.l0 (k + 1) y0 y1 y2 y3 y4))
  | 0 => fun _ _ _ _ _ r h => by simp [spec_ApplyEdits.l0] at h
  | k + 1 => by
    have ih0 := spec_ApplyEdits.mono_l k
    · intro y0 y1 y2 y3 y4
      unfold spec_ApplyEdits.l0
      repeat' first
      | (with_reducible exact ih0 _ _ _ _ _)
      | (with_reducible exact spec_EditsValid.mono _ _ _)
      | (with_reducible exact spec_TextValid.mono _ _)
      | (with_reducible exact LeO.refl _)
      | (with_reducible exact LeO.none _)
      | (with_reducible refine LeO.ite ?_ ?_)
      | (with_reducible refine LeO.bind ?_ (fun _ => ?_))
      | exact ih0 _ _ _ _ _
      | exact spec_EditsValid.mono _ _ _
      | exact spec_TextValid.mono _ _
      | exact LeO.none _
      | refine LeO.ite ?_ ?_
      | refine LeO.bind ?_ (fun _ => ?_)
theorem spec_ApplyEdits.mono : ∀ a0 a1 k, LeO (spec_ApplyEdits.f k a0 a1) (spec_ApplyEdits.f (k + 1) a0 a1) := by
  intro a0 a1 k
  have ih0 := spec_ApplyEdits.mono_l k
  unfold spec_ApplyEdits.f
  repeat' first
      | (with_reducible exact ih0 _ _ _ _ _)
      | (with_reducible exact spec_EditsValid.mono _ _ _)
      | (with_reducible exact spec_TextValid.mono _ _)
      | (with_reducible exact LeO.refl _)
      | (with_reducible exact LeO.none _)
      | (with_reducible refine LeO.ite ?_ ?_)
      | (with_reducible refine LeO.bind ?_ (fun _ => ?_))
      | exact ih0 _ _ _ _ _
      | exact spec_EditsValid.mono _ _ _
      | exact spec_TextValid.mono _ _
      | exact LeO.none _
      | refine LeO.ite ?_ ?_
      | refine LeO.bind ?_ (fun _ => ?_)
set_option maxHeartbeats 8000000 in
set_option maxRecDepth 100000 in
theorem spec_ApplyEdits.calls (k : Nat) (a0 : ByteArray) (A1 : Option Addr) (c1 : Nat) (l1 : List (S42)) (r1 : ByteArray) (r2 : Bool) (w : World) (hr1 : Kd.C k42 w A1 l1.length l1) (hc1 : l1.length ≤ c1) (h : spec_ApplyEdits.f k a0 l1 = some (r1, r2)) :
    Calls Try.prog 35 #[.string a0, .slice A1 l1.length c1] w fun e w' => e = .returned (.tuple #[.string r1, .bool r2]) ∧ Below w.heap.size w w' := by
  have HR1 := Aside0.mk hr1
  have HC1 := Aside0.mk hc1
  clear hr1 hc1
  have HB := Aside0.mk (Below.refl w.heap.size w)
  have H : ((spec_EditsValid.f k a0 l1).bind fun t378 => (if t378 = true then (spec_ApplyEdits.l0 k a0 l1 (⟨#[]⟩ : ByteArray) 0 0) else (some ((⟨#[]⟩ : ByteArray), false)))) = some (r1, r2) := h
  clear h
  replace H := Option.bind_eq_some_iff.mp H
  obtain ⟨t378, A30, H⟩ := H
  replace H : (if t378 = true then (spec_ApplyEdits.l0 k a0 l1 (⟨#[]⟩ : ByteArray) 0 0) else (some ((⟨#[]⟩ : ByteArray), false))) = some (r1, r2) := H
  have A3 := Aside0.mk A30
  clear A30
  by_cases c4 : t378 = true
  · subst c4
    have H1 : (spec_ApplyEdits.l0 k a0 l1 (⟨#[]⟩ : ByteArray) 0 0) = some (r1, r2) := by rw [if_pos rfl] at H; exact H
    clear H
    have H := H1
    clear H1
    have H' := Aside0.mk H
    clear H
    go_enter Try.func35, Try.ntmps35
    go_wp2_with (first | (go_at_call 30; (with_reducible refine (spec_EditsValid.calls k a0 _ _ l1 true _ ?side1 ?side2 A3.out).mono ?_); (case side1 => repeat (first | exact HR1.out | (with_reducible refine Kd.C_alloc ?_ _) | (with_reducible refine Kd.C_drewN ?_ _) | (with_reducible refine Kd.C_drew ?_))); (case side2 => exact HC1.out); rintro e w5 ⟨rfl, hb⟩; have n0_ := Aside0.mk (below_step (by repeat (first | (with_reducible first | exact HB.out | apply below_alloc | apply pw_below_drewN | apply below_drew1) | exact HB.out)) hb); clear HB; have HB := n0_; clear n0_; (try clear hb); (try clear hb2); (try clear hk); (try clear hi)))
    repeat (go_quiet (first | (go_at_call 30; (with_reducible refine (spec_EditsValid.calls k a0 _ _ l1 true _ ?side1 ?side2 A3.out).mono ?_); (case side1 => repeat (first | exact HR1.out | (with_reducible refine Kd.C_alloc ?_ _) | (with_reducible refine Kd.C_drewN ?_ _) | (with_reducible refine Kd.C_drew ?_))); (case side2 => exact HC1.out); rintro e w5 ⟨rfl, hb⟩; have n0_ := Aside0.mk (below_step (by repeat (first | (with_reducible first | exact HB.out | apply below_alloc | apply pw_below_drewN | apply below_drew1) | exact HB.out)) hb); clear HB; have HB := n0_; clear n0_; (try clear hb); (try clear hb2); (try clear hk); (try clear hi))); try go_wp2_with (first | (go_at_call 30; (with_reducible refine (spec_EditsValid.calls k a0 _ _ l1 true _ ?side1 ?side2 A3.out).mono ?_); (case side1 => repeat (first | exact HR1.out | (with_reducible refine Kd.C_alloc ?_ _) | (with_reducible refine Kd.C_drewN ?_ _) | (with_reducible refine Kd.C_drew ?_))); (case side2 => exact HC1.out); rintro e w5 ⟨rfl, hb⟩; have n0_ := Aside0.mk (below_step (by repeat (first | (with_reducible first | exact HB.out | apply below_alloc | apply pw_below_drewN | apply below_drew1) | exact HB.out)) hb); clear HB; have HB := n0_; clear n0_; (try clear hb); (try clear hb2); (try clear hk); (try clear hi))))
    go_loopg [6, 7, 8] k (fun kq v6 v7 v8 w' => ∃ (x6_1 : ByteArray) (x7_1 : Int) (x8_1 : Int), v6 = .string x6_1 ∧ v7 = .int .i64 x7_1 ∧ v8 = .int .i64 x8_1 ∧ Aside0 (spec_ApplyEdits.l0 kq a0 l1 x6_1 x7_1 x8_1 = some (r1, r2)) ∧ Aside0 (kq ≤ k) ∧ Aside0 (Below w.heap.size w w'))
    case atStart => exact ⟨((⟨#[]⟩ : ByteArray)), (0), (0), (by first | rfl | (simp; done) | (simp [*]; done)), (by first | rfl | (simp; done) | (simp [*]; done)), (by first | rfl | (simp; done) | (simp [*]; done)), H', ⟨Nat.le_refl _⟩, ⟨by repeat (first | (with_reducible first | exact HB.out | apply below_alloc | apply pw_below_drewN | apply below_drew1) | exact HB.out)⟩⟩
    case round =>
      clear H'
      try clear c1
      try clear p2
      try clear c3
      try clear c4
      obtain ⟨x6_1, x7_1, x8_1, rfl, rfl, rfl, HA, HK1, HB⟩ := hrel
      cases gk with
      | zero => exact absurd HA.out (by simp [spec_ApplyEdits.l0])
      | succ k1 =>
        have H := HA.out
        clear HA
        simp only [spec_ApplyEdits.l0] at H
        by_cases c6 : x8_1 < (l1.length : Int)
        · rw [if_pos c6] at H
          have c6b0 : decide (x8_1 < (l1.length : Int)) = true := decide_eq_true c6
          clear c6
          by_cases c7 : 0 ≤ x8_1
          · rw [if_pos c7] at H
            have c7b0 : decide (0 ≤ x8_1) = true := decide_eq_true c7
            clear c7
            by_cases c8 : 0 ≤ x7_1
            · rw [if_pos c8] at H
              have c8b0 := eq_true c8
              have c8b1 : decide (0 ≤ x7_1) = true := decide_eq_true c8
              clear c8
              by_cases c9 : x7_1 ≤ ((rd_T42 l1 x8_1).f0)
              · rw [if_pos c9] at H
                have c9b0 := eq_true c9
                have c9b1 : decide (x7_1 ≤ ((rd_T42 l1 x8_1).f0)) = true := decide_eq_true c9
                clear c9
                by_cases c10 : ((rd_T42 l1 x8_1).f0) ≤ (a0.size : Int)
                · rw [if_pos c10] at H
                  have c10b0 := eq_true c10
                  have c10b1 : decide (((rd_T42 l1 x8_1).f0) ≤ (a0.size : Int)) = true := decide_eq_true c10
                  clear c10
                  by_cases c11 : x6_1.size + (a0.extract (x7_1 : Int).toNat (((rd_T42 l1 x8_1).f0) : Int).toNat).size ≤ 9223372036854775807
                  · rw [if_pos c11] at H
                    have c11b0 := eq_true c11
                    have c11b1 : decide (x6_1.size + (a0.extract (x7_1 : Int).toNat (((rd_T42 l1 x8_1).f0) : Int).toNat).size ≤ 9223372036854775807) = true := decide_eq_true c11
                    try have c11b2 : (9223372036854775807 < x6_1.size + (a0.extract (x7_1 : Int).toNat (((rd_T42 l1 x8_1).f0) : Int).toNat).size) = False := eq_false (Nat.not_lt.2 c11)
                    by_cases c12 : (x6_1 ++ (a0.extract (x7_1 : Int).toNat (((rd_T42 l1 x8_1).f0) : Int).toNat)).size + ((rd_T42 l1 x8_1).f2).size ≤ 9223372036854775807
                    · rw [if_pos c12] at H
                      have c12b0 := eq_true c12
                      have c12b1 : decide ((x6_1 ++ (a0.extract (x7_1 : Int).toNat (((rd_T42 l1 x8_1).f0) : Int).toNat)).size + ((rd_T42 l1 x8_1).f2).size ≤ 9223372036854775807) = true := decide_eq_true c12
                      try have c12b2 : (9223372036854775807 < (x6_1 ++ (a0.extract (x7_1 : Int).toNat (((rd_T42 l1 x8_1).f0) : Int).toNat)).size + ((rd_T42 l1 x8_1).f2).size) = False := eq_false (Nat.not_lt.2 c12)
                      have H' := Aside0.mk H
                      clear H
                      have p379 : 0 ≤ (x8_1 : Int) := of_decide_eq_true (by first | (with_reducible assumption) | assumption)
                      have q379 : x8_1 < (l1.length : Int) := of_decide_eq_true (by first | (with_reducible assumption) | assumption)
                      obtain ⟨ad379, e379, hx379_0, hx379_1, hx379_2⟩ := at_T42 HR1.out x8_1 p379 q379
                      cases e379
                      replace hx379_0 := (HB.out.cell (World.block_lt_of_cell? w _ hx379_0)).trans hx379_0
                      replace hx379_1 := (HB.out.cell (World.block_lt_of_cell? w _ hx379_1)).trans hx379_1
                      replace hx379_2 := (HB.out.cell (World.block_lt_of_cell? w _ hx379_2)).trans hx379_2
                      replace p379 := eq_true p379
                      replace q379 := eq_true q379
                      have p380 : 0 ≤ (x8_1 : Int) := of_decide_eq_true (by first | (with_reducible assumption) | assumption)
                      have q380 : x8_1 < (l1.length : Int) := of_decide_eq_true (by first | (with_reducible assumption) | assumption)
                      obtain ⟨ad380, e380, hx380_0, hx380_1, hx380_2⟩ := at_T42 HR1.out x8_1 p380 q380
                      obtain rfl : ad379 = ad380 := (by injection e380)
                      replace hx380_0 := (HB.out.cell (World.block_lt_of_cell? w _ hx380_0)).trans hx380_0
                      replace hx380_1 := (HB.out.cell (World.block_lt_of_cell? w _ hx380_1)).trans hx380_1
                      replace hx380_2 := (HB.out.cell (World.block_lt_of_cell? w _ hx380_2)).trans hx380_2
                      replace p380 := eq_true p380
                      replace q380 := eq_true q380
                      have p381 : 0 ≤ (x8_1 : Int) := of_decide_eq_true (by first | (with_reducible assumption) | assumption)
                      have q381 : x8_1 < (l1.length : Int) := of_decide_eq_true (by first | (with_reducible assumption) | assumption)
                      obtain ⟨ad381, e381, hx381_0, hx381_1, hx381_2⟩ := at_T42 HR1.out x8_1 p381 q381
                      obtain rfl : ad379 = ad381 := (by injection e381)
                      replace hx381_0 := (HB.out.cell (World.block_lt_of_cell? w _ hx381_0)).trans hx381_0
                      replace hx381_1 := (HB.out.cell (World.block_lt_of_cell? w _ hx381_1)).trans hx381_1
                      replace hx381_2 := (HB.out.cell (World.block_lt_of_cell? w _ hx381_2)).trans hx381_2
                      replace p381 := eq_true p381
                      replace q381 := eq_true q381
                      go_wp2
                      repeat (go_quiet (fail); try go_wp2)
                      go_roundg k1
                      case measure => have := HK1.out; omega
                      case rel => exact ⟨((x6_1 ++ (a0.extract (x7_1 : Int).toNat (((rd_T42 l1 x8_1).f0) : Int).toNat)) ++ ((rd_T42 l1 x8_1).f2)), ((rd_T42 l1 x8_1).f1), (wrap64 (x8_1 + 1)), (by first | rfl | (simp; done) | (simp [*]; done)), (by first | rfl | (simp; done) | (simp [*]; done)), (by first | rfl | (simp; done) | (simp [*]; done)), H', ⟨by have := HK1.out; omega⟩, ⟨by repeat (first | (with_reducible first | exact HB.out | apply below_alloc | apply pw_below_drewN | apply below_drew1) | exact HB.out)⟩⟩
                    · rw [if_neg c12] at H
                      exact absurd H (by simp)
                  · rw [if_neg c11] at H
                    exact absurd H (by simp)
                · rw [if_neg c10] at H
                  exact absurd H (by simp)
              · rw [if_neg c9] at H
                exact absurd H (by simp)
            · rw [if_neg c8] at H
              exact absurd H (by simp)
          · rw [if_neg c7] at H
            exact absurd H (by simp)
        · rw [if_neg c6] at H
          have c6b0 : decide (x8_1 < (l1.length : Int)) = false := decide_eq_false c6
          clear c6
          by_cases c13 : 0 ≤ x7_1
          · rw [if_pos c13] at H
            have c13b0 := eq_true c13
            have c13b1 : decide (0 ≤ x7_1) = true := decide_eq_true c13
            clear c13
            by_cases c14 : x7_1 ≤ (a0.size : Int)
            · rw [if_pos c14] at H
              have c14b0 := eq_true c14
              have c14b1 : decide (x7_1 ≤ (a0.size : Int)) = true := decide_eq_true c14
              clear c14
              by_cases c15 : x6_1.size + (a0.extract (x7_1 : Int).toNat a0.size).size ≤ 9223372036854775807
              · rw [if_pos c15] at H
                have c15b0 := eq_true c15
                have c15b1 : decide (x6_1.size + (a0.extract (x7_1 : Int).toNat a0.size).size ≤ 9223372036854775807) = true := decide_eq_true c15
                try have c15b2 : (9223372036854775807 < x6_1.size + (a0.extract (x7_1 : Int).toNat a0.size).size) = False := eq_false (Nat.not_lt.2 c15)
                replace H := Option.bind_eq_some_iff.mp H
                obtain ⟨t382, A160, H⟩ := H
                replace H : (if t382 = true then (some (x6_1 ++ (a0.extract (x7_1 : Int).toNat a0.size), true)) else (some ((⟨#[]⟩ : ByteArray), false))) = some (r1, r2) := H
                have A16 := Aside0.mk A160
                clear A160
                by_cases c17 : t382 = true
                · subst c17
                  have H1 : (some (x6_1 ++ (a0.extract (x7_1 : Int).toNat a0.size), true)) = some (r1, r2) := by rw [if_pos rfl] at H; exact H
                  clear H
                  have H := H1
                  clear H1
                  simp only [Option.some.injEq, Prod.mk.injEq] at H
                  obtain ⟨rfl, rfl⟩ := H
                  go_wp2_with (first | (go_at_call 68; (with_reducible refine (spec_TextValid.calls k1 (x6_1 ++ (a0.extract (x7_1 : Int).toNat a0.size)) true _ A16.out).mono ?_); rintro e w' ⟨rfl, ⟨nd, rfl⟩⟩; (try first | exact ⟨rfl, _, World.drewN_drewN _ _ _⟩ | exact ⟨rfl, _, Eq.trans (World.drewN_drewN _ _ _) (congrArg (World.drewN _) (Nat.add_assoc _ _ _))⟩)))
                  repeat (go_quiet (first | (go_at_call 68; (with_reducible refine (spec_TextValid.calls k1 (x6_1 ++ (a0.extract (x7_1 : Int).toNat a0.size)) true _ A16.out).mono ?_); rintro e w' ⟨rfl, ⟨nd, rfl⟩⟩; (try first | exact ⟨rfl, _, World.drewN_drewN _ _ _⟩ | exact ⟨rfl, _, Eq.trans (World.drewN_drewN _ _ _) (congrArg (World.drewN _) (Nat.add_assoc _ _ _))⟩))); try go_wp2_with (first | (go_at_call 68; (with_reducible refine (spec_TextValid.calls k1 (x6_1 ++ (a0.extract (x7_1 : Int).toNat a0.size)) true _ A16.out).mono ?_); rintro e w' ⟨rfl, ⟨nd, rfl⟩⟩; (try first | exact ⟨rfl, _, World.drewN_drewN _ _ _⟩ | exact ⟨rfl, _, Eq.trans (World.drewN_drewN _ _ _) (congrArg (World.drewN _) (Nat.add_assoc _ _ _))⟩))))
                  go_ret2
                  exact ⟨by first | rfl | (simp [errW_none, errW_some] <;> rfl) | (simp [*, errW_none, errW_some] <;> rfl), by repeat (first | (with_reducible first | exact HB.out | apply below_alloc | apply pw_below_drewN | apply below_drew1) | exact HB.out)⟩
                · replace c17 := Bool.eq_false_iff.mpr c17
                  subst c17
                  have H1 : (some ((⟨#[]⟩ : ByteArray), false)) = some (r1, r2) := by rw [if_neg (show ¬ (false = true) by decide)] at H; exact H
                  clear H
                  have H := H1
                  clear H1
                  simp only [Option.some.injEq, Prod.mk.injEq] at H
                  obtain ⟨rfl, rfl⟩ := H
                  go_wp2_with (first | (go_at_call 68; (with_reducible refine (spec_TextValid.calls k1 (x6_1 ++ (a0.extract (x7_1 : Int).toNat a0.size)) false _ A16.out).mono ?_); rintro e w' ⟨rfl, ⟨nd, rfl⟩⟩; (try first | exact ⟨rfl, _, World.drewN_drewN _ _ _⟩ | exact ⟨rfl, _, Eq.trans (World.drewN_drewN _ _ _) (congrArg (World.drewN _) (Nat.add_assoc _ _ _))⟩)))
                  repeat (go_quiet (first | (go_at_call 68; (with_reducible refine (spec_TextValid.calls k1 (x6_1 ++ (a0.extract (x7_1 : Int).toNat a0.size)) false _ A16.out).mono ?_); rintro e w' ⟨rfl, ⟨nd, rfl⟩⟩; (try first | exact ⟨rfl, _, World.drewN_drewN _ _ _⟩ | exact ⟨rfl, _, Eq.trans (World.drewN_drewN _ _ _) (congrArg (World.drewN _) (Nat.add_assoc _ _ _))⟩))); try go_wp2_with (first | (go_at_call 68; (with_reducible refine (spec_TextValid.calls k1 (x6_1 ++ (a0.extract (x7_1 : Int).toNat a0.size)) false _ A16.out).mono ?_); rintro e w' ⟨rfl, ⟨nd, rfl⟩⟩; (try first | exact ⟨rfl, _, World.drewN_drewN _ _ _⟩ | exact ⟨rfl, _, Eq.trans (World.drewN_drewN _ _ _) (congrArg (World.drewN _) (Nat.add_assoc _ _ _))⟩))))
                  go_ret2
                  exact ⟨by first | rfl | (simp [errW_none, errW_some] <;> rfl) | (simp [*, errW_none, errW_some] <;> rfl), by repeat (first | (with_reducible first | exact HB.out | apply below_alloc | apply pw_below_drewN | apply below_drew1) | exact HB.out)⟩
              · rw [if_neg c15] at H
                exact absurd H (by simp)
            · rw [if_neg c14] at H
              exact absurd H (by simp)
          · rw [if_neg c13] at H
            exact absurd H (by simp)
  · replace c4 := Bool.eq_false_iff.mpr c4
    subst c4
    have H1 : (some ((⟨#[]⟩ : ByteArray), false)) = some (r1, r2) := by rw [if_neg (show ¬ (false = true) by decide)] at H; exact H
    clear H
    have H := H1
    clear H1
    simp only [Option.some.injEq, Prod.mk.injEq] at H
    obtain ⟨rfl, rfl⟩ := H
    go_enter Try.func35, Try.ntmps35
    go_wp2_with (first | (go_at_call 30; (with_reducible refine (spec_EditsValid.calls k a0 _ _ l1 false _ ?side1 ?side2 A3.out).mono ?_); (case side1 => repeat (first | exact HR1.out | (with_reducible refine Kd.C_alloc ?_ _) | (with_reducible refine Kd.C_drewN ?_ _) | (with_reducible refine Kd.C_drew ?_))); (case side2 => exact HC1.out); rintro e w18 ⟨rfl, hb⟩; have n0_ := Aside0.mk (below_step (by repeat (first | (with_reducible first | exact HB.out | apply below_alloc | apply pw_below_drewN | apply below_drew1) | exact HB.out)) hb); clear HB; have HB := n0_; clear n0_; (try clear hb); (try clear hb2); (try clear hk); (try clear hi)))
    repeat (go_quiet (first | (go_at_call 30; (with_reducible refine (spec_EditsValid.calls k a0 _ _ l1 false _ ?side1 ?side2 A3.out).mono ?_); (case side1 => repeat (first | exact HR1.out | (with_reducible refine Kd.C_alloc ?_ _) | (with_reducible refine Kd.C_drewN ?_ _) | (with_reducible refine Kd.C_drew ?_))); (case side2 => exact HC1.out); rintro e w18 ⟨rfl, hb⟩; have n0_ := Aside0.mk (below_step (by repeat (first | (with_reducible first | exact HB.out | apply below_alloc | apply pw_below_drewN | apply below_drew1) | exact HB.out)) hb); clear HB; have HB := n0_; clear n0_; (try clear hb); (try clear hb2); (try clear hk); (try clear hi))); try go_wp2_with (first | (go_at_call 30; (with_reducible refine (spec_EditsValid.calls k a0 _ _ l1 false _ ?side1 ?side2 A3.out).mono ?_); (case side1 => repeat (first | exact HR1.out | (with_reducible refine Kd.C_alloc ?_ _) | (with_reducible refine Kd.C_drewN ?_ _) | (with_reducible refine Kd.C_drew ?_))); (case side2 => exact HC1.out); rintro e w18 ⟨rfl, hb⟩; have n0_ := Aside0.mk (below_step (by repeat (first | (with_reducible first | exact HB.out | apply below_alloc | apply pw_below_drewN | apply below_drew1) | exact HB.out)) hb); clear HB; have HB := n0_; clear n0_; (try clear hb); (try clear hb2); (try clear hk); (try clear hi))))
    go_ret2
    exact ⟨by first | rfl | (simp [errW_none, errW_some] <;> rfl) | (simp [*, errW_none, errW_some] <;> rfl), by repeat (first | (with_reducible first | exact HB.out | apply below_alloc | apply pw_below_drewN | apply below_drew1) | exact HB.out)⟩

-- NOT PRINTED: function 84 (abi_NoEscape)

-- NOT PRINTED: function 82 (strings_Builder_copyCheck)

-- NOT PRINTED: function 72 (strings_Builder_WriteString)

-- NOT PRINTED: function 73 (strings_Builder_String)

/-! ### impl_ApplyEdits: function 36 -/
theorem isBuilderF_below {T e : TypeId} {B b : Nat} {bs : List Value} {w w1 : World} (h : Go.Lib.IsBuilderF T e B b bs w) (hb : Below w.heap.size w w1) : Go.Lib.IsBuilderF T e B b bs w1 := by
  have key : ∀ p, Go.Lib.BuilderAtF T e B b p bs w → Go.Lib.BuilderAtF T e B b p bs w1 := by
    rintro p ⟨hB, v, h1, ⟨h2, h3⟩, h4⟩
    refine ⟨hB, v, (hb.block b (Array.getElem?_eq_some_iff.mp h1).1).trans h1, ⟨h2, ?_⟩, h4⟩
    rcases h3 with h3 | ⟨g, cap, cur, fz, rfl, h5, h6, h7⟩
    · exact .inl h3
    · exact .inr ⟨g, cap, cur, fz, rfl, h5, (hb.block g (Array.getElem?_eq_some_iff.mp h6).1).trans h6, h7⟩
  rcases h with h | h
  · exact .inl (key _ h)
  · exact .inr (key _ h)
theorem strCells_append (s t : ByteArray) : Go.Lib.strCells (s ++ t) = Go.Lib.strCells s ++ Go.Lib.strCells t := by
  simp [Go.Lib.strCells, ByteArray.data_append]
theorem builder_string (B b : Nat) (s : ByteArray) (w : World) (h : Go.Lib.IsBuilderF 73 5 B b (Go.Lib.strCells s) w) (hBw : B ≤ w.heap.size) :
    Calls Try.prog 73 #[.pointer (some ⟨b, 0, none⟩)] w fun e w' => e = .returned (.string s) ∧ Go.Lib.IsBuilderF 73 5 B b (Go.Lib.strCells s) w' ∧ Below B w w' :=
  (Builder_String_any_k B b s.data.toList w h hBw).mono fun e w' ⟨he, hi, hb, _⟩ => ⟨he.trans (by simp), hi, hb⟩
mutual
def impl_ApplyEdits.l0 : Nat → ByteArray → List (S42) → ByteArray → Int → Int → Option (ByteArray × Bool)
  | 0, _, _, _, _, _ => none
  | k + 1, x0, x1, acc, at_, i => if i < (x1.length : Int) then (if 0 ≤ i then (if 0 ≤ at_ then (if at_ ≤ (rd_T42 x1 i).f0 then (if (rd_T42 x1 i).f0 ≤ (x0.size : Int) then (if (x0.extract at_.toNat (rd_T42 x1 i).f0.toNat).size + (rd_T42 x1 i).f2.size ≤ 9223372036854775807 then (if acc.size + (x0.extract at_.toNat (rd_T42 x1 i).f0.toNat ++ (rd_T42 x1 i).f2).size ≤ 140737488355328 then (impl_ApplyEdits.l0 k x0 x1 (acc ++ (x0.extract at_.toNat (rd_T42 x1 i).f0.toNat ++ (rd_T42 x1 i).f2)) (rd_T42 x1 i).f1 (wrap64 (i + 1))) else none) else none) else none) else none) else none) else none) else (impl_ApplyEdits.e0 k x0 acc at_)
def impl_ApplyEdits.e0 : Nat → ByteArray → ByteArray → Int → Option (ByteArray × Bool)
  | 0, _, _, _ => none
  | k + 1, x0, acc, at_ => if 0 ≤ at_ then (if at_ ≤ (x0.size : Int) then (if acc.size + (x0.extract at_.toNat x0.size).size ≤ 140737488355328 then ((impl_TextValid.f k (acc ++ x0.extract at_.toNat x0.size)).bind fun t => if t = true then (some (acc ++ x0.extract at_.toNat x0.size, true)) else (some (⟨#[]⟩, false))) else none) else none) else none
end
def impl_ApplyEdits.f (k : Nat) (a0 : ByteArray) (l1 : List (S42)) : Option (ByteArray × Bool) := (impl_EditsValid.f k a0 l1).bind fun t => if t = true then (impl_ApplyEdits.l0 k a0 l1 (⟨#[]⟩ : ByteArray) 0 0) else (some ((⟨#[]⟩ : ByteArray), false))
theorem impl_ApplyEdits.mono_l : ∀ k, (∀ y0 y1 y2 y3 y4, LeO (impl_ApplyEdits.l0 k y0 y1 y2 y3 y4) (impl_ApplyEdits.l0 (k + 1) y0 y1 y2 y3 y4)) ∧ (∀ y0 y1 y2, LeO (impl_ApplyEdits.e0 k y0 y1 y2) (impl_ApplyEdits.e0 (k + 1) y0 y1 y2))
  | 0 => ⟨fun _ _ _ _ _ r h => by simp [impl_ApplyEdits.l0] at h, fun _ _ _ r h => by simp [impl_ApplyEdits.e0] at h⟩
  | k + 1 => by
    obtain ⟨ih0, ih1⟩ := impl_ApplyEdits.mono_l k
    refine ⟨?_, ?_⟩
    · intro y0 y1 y2 y3 y4
      unfold impl_ApplyEdits.l0
      repeat' first
      | (with_reducible exact ih0 _ _ _ _ _)
      | (with_reducible exact ih1 _ _ _)
      | (with_reducible exact impl_EditsValid.mono _ _ _)
      | (with_reducible exact impl_TextValid.mono _ _)
      | (with_reducible exact LeO.refl _)
      | (with_reducible exact LeO.none _)
      | (with_reducible refine LeO.ite ?_ ?_)
      | (with_reducible refine LeO.bind ?_ (fun _ => ?_))
      | exact ih0 _ _ _ _ _
      | exact ih1 _ _ _
      | exact impl_EditsValid.mono _ _ _
      | exact impl_TextValid.mono _ _
      | exact LeO.none _
      | refine LeO.ite ?_ ?_
      | refine LeO.bind ?_ (fun _ => ?_)
    · intro y0 y1 y2
      unfold impl_ApplyEdits.e0
      repeat' first
      | (with_reducible exact ih0 _ _ _ _ _)
      | (with_reducible exact ih1 _ _ _)
      | (with_reducible exact impl_EditsValid.mono _ _ _)
      | (with_reducible exact impl_TextValid.mono _ _)
      | (with_reducible exact LeO.refl _)
      | (with_reducible exact LeO.none _)
      | (with_reducible refine LeO.ite ?_ ?_)
      | (with_reducible refine LeO.bind ?_ (fun _ => ?_))
      | exact ih0 _ _ _ _ _
      | exact ih1 _ _ _
      | exact impl_EditsValid.mono _ _ _
      | exact impl_TextValid.mono _ _
      | exact LeO.none _
      | refine LeO.ite ?_ ?_
      | refine LeO.bind ?_ (fun _ => ?_)
theorem impl_ApplyEdits.mono : ∀ a0 a1 k, LeO (impl_ApplyEdits.f k a0 a1) (impl_ApplyEdits.f (k + 1) a0 a1) := by
  intro a0 a1 k
  obtain ⟨ih0, ih1⟩ := impl_ApplyEdits.mono_l k
  unfold impl_ApplyEdits.f
  repeat' first
      | (with_reducible exact ih0 _ _ _ _ _)
      | (with_reducible exact ih1 _ _ _)
      | (with_reducible exact impl_EditsValid.mono _ _ _)
      | (with_reducible exact impl_TextValid.mono _ _)
      | (with_reducible exact LeO.refl _)
      | (with_reducible exact LeO.none _)
      | (with_reducible refine LeO.ite ?_ ?_)
      | (with_reducible refine LeO.bind ?_ (fun _ => ?_))
      | exact ih0 _ _ _ _ _
      | exact ih1 _ _ _
      | exact impl_EditsValid.mono _ _ _
      | exact impl_TextValid.mono _ _
      | exact LeO.none _
      | refine LeO.ite ?_ ?_
      | refine LeO.bind ?_ (fun _ => ?_)
set_option maxHeartbeats 8000000 in
set_option maxRecDepth 100000 in
theorem impl_ApplyEdits.calls (k : Nat) (a0 : ByteArray) (A1 : Option Addr) (c1 : Nat) (l1 : List (S42)) (r1 : ByteArray) (r2 : Bool) (w : World) (hr1 : Kd.C k42 w A1 l1.length l1) (hc1 : l1.length ≤ c1) (h : impl_ApplyEdits.f k a0 l1 = some (r1, r2)) :
    Calls Try.prog 36 #[.string a0, .slice A1 l1.length c1] w fun e w' => e = .returned (.tuple #[.string r1, .bool r2]) ∧ Below w.heap.size w w' := by
  have hu42 := Try.underlying42
  have HR1 := Aside0.mk hr1
  have HC1 := Aside0.mk hc1
  clear hr1 hc1
  unfold impl_ApplyEdits.f at h
  obtain ⟨t, A1_, H⟩ := Option.bind_eq_some_iff.mp h
  have A1' := Aside0.mk A1_
  clear h A1_
  by_cases c5 : t = true
  · subst c5
    rw [if_pos rfl] at H
    have H' := Aside0.mk H
    clear H
    go_enter Try.func36, Try.ntmps36
    go_wp2_with (first | (go_at_call 32; (with_reducible refine (impl_EditsValid.calls k a0 A1 c1 l1 true _ HR1.out HC1.out A1'.out).mono ?_); rintro e w1 ⟨rfl, hb1⟩; have HB := Aside0.mk hb1; clear hb1) | ((with_reducible refine gate_dst (N := 6) rfl ?_); refine box_event ?hg (N := 6) ?hd (cs := #[.pointer none, .slice none 0 0]) (t := 73) ?hr ?_; (case hd => rfl); (case hg => rfl); (case hr => first | (go_simp; done) | (go_simp; rfl)); intro gb hg w2 hbox hb; have BX := Aside0.mk hbox; have GW := Aside0.mk hg; have HB2 := Aside0.mk hb; clear hg hbox hb))
    have HBW : Aside0 (Below w.heap.size w w2) := ⟨below_then HB.out HB.out.size HB2.out⟩
    have HI0 : Aside0 (Go.Lib.IsBuilderF 73 5 w.heap.size gb (Go.Lib.strCells (⟨#[]⟩ : ByteArray)) w2) := ⟨.inl ⟨by rw [GW.out]; exact HB.out.size, .slice none 0 0, BX.out, ⟨rfl, .inl ⟨rfl, rfl⟩⟩, by simp [Value.ownBlock]⟩⟩
    have GE : Aside0 (w.heap.size ≤ gb) := ⟨by rw [GW.out]; exact HB.out.size⟩
    clear HB HB2 BX GW
    go_loopg [7, 16] k (fun kq v7 v16 w' => ∃ (acc : ByteArray) (at_ i : Int), v7 = .int .i64 at_ ∧ v16 = .int .i64 i ∧ Aside0 (impl_ApplyEdits.l0 kq a0 l1 acc at_ i = some (r1, r2)) ∧ Aside0 (kq ≤ k) ∧ Aside0 (Go.Lib.IsBuilderF 73 5 w.heap.size gb (Go.Lib.strCells acc) w') ∧ Aside0 (Below w.heap.size w w'))
    case atStart => exact ⟨_, 0, 0, rfl, rfl, H', ⟨Nat.le_refl _⟩, HI0, HBW⟩
    case round =>
      clear H' HI0 HBW
      obtain ⟨acc, at_, i, rfl, rfl, HA, HK, HI, HB⟩ := hrel
      cases gk with
      | zero => exact absurd HA.out (by simp [impl_ApplyEdits.l0])
      | succ k2 =>
        have H := HA.out
        clear HA
        simp only [impl_ApplyEdits.l0] at H
        by_cases c7 : i < (l1.length : Int)
        · rw [if_pos c7] at H
          have c7b0 : decide (i < (l1.length : Int)) = true := decide_eq_true c7
          by_cases c8 : 0 ≤ i
          · rw [if_pos c8] at H
            have c8b0 : decide (0 ≤ i) = true := decide_eq_true c8
            by_cases d1 : 0 ≤ at_
            · rw [if_pos d1] at H
              by_cases d2 : at_ ≤ (rd_T42 l1 i).f0
              · rw [if_pos d2] at H
                by_cases d3 : (rd_T42 l1 i).f0 ≤ (a0.size : Int)
                · rw [if_pos d3] at H
                  by_cases d4 : (a0.extract at_.toNat (rd_T42 l1 i).f0.toNat).size + (rd_T42 l1 i).f2.size ≤ 9223372036854775807
                  · rw [if_pos d4] at H
                    by_cases d5 : acc.size + (a0.extract at_.toNat (rd_T42 l1 i).f0.toNat ++ (rd_T42 l1 i).f2).size ≤ 140737488355328
                    · rw [if_pos d5] at H
                      have H' := Aside0.mk H
                      clear H
                      obtain ⟨ad, e126, hx0, hx1, hx2⟩ := at_T42 HR1.out i c8 c7
                      have D1 := Aside0.mk d1
                      have D2 := Aside0.mk d2
                      have D3 := Aside0.mk d3
                      have D4 := Aside0.mk d4
                      have D5 := Aside0.mk d5
                      cases e126
                      replace hx0 := (HB.out.cell (World.block_lt_of_cell? w _ hx0)).trans hx0
                      replace hx1 := (HB.out.cell (World.block_lt_of_cell? w _ hx1)).trans hx1
                      replace hx2 := (HB.out.cell (World.block_lt_of_cell? w _ hx2)).trans hx2
                      have p126 := eq_true c8
                      have q126 := eq_true c7
                      clear c7 c8 d1 d2 d3 d4 d5
                      go_upto_region 7 with (fail)
                      go_cut [9] (fun v9 wc => ∃ g : Nat, v9 = .pointer (some ⟨g, 0, none⟩) ∧ Aside0 (wc.heap[g]? = some (.cells #[.int .i64 (rd_T42 l1 i).f0, .int .i64 (rd_T42 l1 i).f1, .string (rd_T42 l1 i).f2] 42 (0, 0))) ∧ Aside0 (Go.Lib.IsBuilderF 73 5 w.heap.size gb (Go.Lib.strCells acc) wc) ∧ Aside0 (Below w.heap.size w wc) ∧ Aside0 (g ≠ gb) ∧ Aside0 (w.heap.size ≤ g))
                      case first =>
                        go_wp2_with (first | ((with_reducible refine gate_dst (N := 9) rfl ?_); (try (refine gate_guard (by rfl) ?_; dsimp only)); refine box_event ?hg (N := 9) ?hd (cs := #[.int .i64 0, .int .i64 0, .string (⟨#[]⟩ : ByteArray)]) (t := 42) ?hr ?_; (case hd => rfl); (case hg => rfl); (case hr => first | (go_simp; done) | (go_simp; rfl)); intro g hg w11 hbox hb; have BK := Aside0.mk hbox; have HG := Aside0.mk hg; have HBN := Aside0.mk hb; clear hb hbox hg; have hcz0 := (blk_cell BK.out 0).trans rfl; have hcz1 := (blk_cell BK.out 1).trans rfl; have hcz2 := (blk_cell BK.out 2).trans rfl; have hfz0 := blk_frozen BK.out 0; have hfz1 := blk_frozen BK.out 1; have hfz2 := blk_frozen BK.out 2))
                        go_meet
                        case rel =>
                          have hge : wr.heap.size ≤ g := by rw [HG.out]; exact Nat.le_refl _
                          have hbl := below_set (j := 2) (v := .string (rd_T42 l1 i).f2) (below_set (j := 1) (v := .int .i64 (rd_T42 l1 i).f1) (below_set (j := 0) (v := .int .i64 (rd_T42 l1 i).f0) HBN.out hge) hge) hge
                          refine ⟨g, rfl, ⟨blk_put (blk_put (blk_put BK.out 0 _ rfl) 1 _ rfl) 2 _ rfl⟩, ⟨isBuilderF_below HI.out hbl⟩, ⟨below_then HB.out HB.out.size hbl⟩, ⟨?_⟩, ⟨Nat.le_trans HB.out.size hge⟩⟩
                          have hlt : gb < wr.heap.size := by
                            rcases HI.out with h | h
                            · exact h.lt
                            · exact h.lt
                          omega
                      case rest =>
                        obtain ⟨g, rfl, BK, HI2, HB2, HN, HGE⟩ := hcut
                        go_upto_region 8 with (fail)
                        have hcz0 := (blk_cell BK.out 0).trans rfl
                        have hcz1 := (blk_cell BK.out 1).trans rfl
                        have hcz2 := (blk_cell BK.out 2).trans rfl
                        have d1 := D1.out
                        have d2 := D2.out
                        have d3 := D3.out
                        have d4 : (9223372036854775807 < (rd_T42 l1 i).f0.toNat - at_.toNat + (rd_T42 l1 i).f2.size) = False := eq_false (by have := D4.out; rw [ByteArray.size_extract] at this; omega)
                        go_still_tail 8, (by kernel_rfl)
                        clear d4 hcz0 hcz1 hcz2 hx0 hx1 hx2
                        change wpList _ _ _ _ _ wc.drew
                        obtain ⟨wd, hwd⟩ : ∃ wd, wd = wc.drew := ⟨_, rfl⟩
                        have HI3 : Aside0 (Go.Lib.IsBuilderF 73 5 w.heap.size gb (Go.Lib.strCells acc) wd) := ⟨by rw [hwd]; exact HI2.out⟩
                        have HB3 : Aside0 (Below w.heap.size w wd) := ⟨by rw [hwd]; exact below_drew HB2.out⟩
                        have BK3 : Aside0 (wd.heap[g]? = some (.cells #[.int .i64 (rd_T42 l1 i).f0, .int .i64 (rd_T42 l1 i).f1, .string (rd_T42 l1 i).f2] 42 (0, 0))) := ⟨by rw [hwd]; exact BK.out⟩
                        rw [← hwd]
                        clear hwd HI2 HB2 BK
                        go_wp2_with (first | (go_at_call 72; (with_reducible refine (Builder_WriteString_k w.heap.size gb (Go.Lib.strCells acc) (a0.extract at_.toNat (rd_T42 l1 i).f0.toNat ++ (rd_T42 l1 i).f2) _ HI3.out (by rw [Go.Lib.strCells_length]; exact D5.out) HB3.out.size).mono ?_); rintro e w5 ⟨rfl, hb5, hbel5, hoth5⟩; have HI5 : Aside0 (Go.Lib.IsBuilderF 73 5 w.heap.size gb (Go.Lib.strCells (acc ++ (a0.extract at_.toNat (rd_T42 l1 i).f0.toNat ++ (rd_T42 l1 i).f2))) w5) := ⟨.inr (by rw [strCells_append]; exact hb5)⟩; have HB5 := Aside0.mk (HB3.out.trans hbel5); have BK5 := Aside0.mk (hoth5 g _ BK3.out (by intro e; exact HN.out (Option.some.inj e)) (by intro c fz e; injection e with _ e _; exact absurd e (by decide))); clear hb5 hbel5 hoth5 HI3 HB3 BK3; have hcz1 := (blk_cell BK5.out 1).trans rfl))
                        go_roundg k2
                        case measure => have := HK.out; omega
                        case rel => exact ⟨_, _, _, rfl, rfl, H', ⟨by have := HK.out; omega⟩, HI5, HB5⟩
                    · rw [if_neg d5] at H; cases H
                  · rw [if_neg d4] at H; cases H
                · rw [if_neg d3] at H; cases H
              · rw [if_neg d2] at H; cases H
            · rw [if_neg d1] at H; cases H
          · rw [if_neg c8] at H; cases H
        · rw [if_neg c7] at H
          have c7b0 : decide (i < (l1.length : Int)) = false := decide_eq_false c7
          cases k2 with
          | zero => exact absurd H (by simp [impl_ApplyEdits.e0])
          | succ k3 =>
            simp only [impl_ApplyEdits.e0] at H
            by_cases d1 : 0 ≤ at_
            · rw [if_pos d1] at H
              by_cases d2 : at_ ≤ (a0.size : Int)
              · rw [if_pos d2] at H
                by_cases d3 : acc.size + (a0.extract at_.toNat a0.size).size ≤ 140737488355328
                · rw [if_pos d3] at H
                  obtain ⟨t, A2_, H⟩ := Option.bind_eq_some_iff.mp H
                  have A2' := Aside0.mk A2_
                  have D3 := Aside0.mk d3
                  clear A2_ d3 c7
                  by_cases c9 : t = true
                  · subst c9
                    rw [if_pos rfl] at H
                    simp only [Option.some.injEq, Prod.mk.injEq] at H
                    obtain ⟨rfl, rfl⟩ := H
                    go_wp2_with (first | (go_at_call 72; (with_reducible refine (Builder_WriteString_k w.heap.size gb (Go.Lib.strCells acc) (a0.extract at_.toNat a0.size) _ HI.out (by rw [Go.Lib.strCells_length]; exact D3.out) HB.out.size).mono ?_); rintro e w5 ⟨rfl, hb5, hbel5, hoth5⟩; have HI5 : Aside0 (Go.Lib.IsBuilderF 73 5 w.heap.size gb (Go.Lib.strCells (acc ++ a0.extract at_.toNat a0.size)) w5) := ⟨.inr (by rw [strCells_append]; exact hb5)⟩; have HB5 := Aside0.mk (HB.out.trans hbel5); clear hb5 hbel5 hoth5 HI HB) | (go_at_call 73; (with_reducible refine (builder_string w.heap.size gb _ _ HI5.out HB5.out.size).mono ?_); rintro e w6 ⟨rfl, hi6, hb6⟩; have HI6 := Aside0.mk hi6; have HB6 := Aside0.mk (HB5.out.trans hb6); clear hi6 hb6 HI5 HB5) | (go_at_call 66; (with_reducible refine (impl_TextValid.calls k3 _ true _ A2'.out).mono ?_); rintro e w7 ⟨rfl, hd7⟩; have HI7 := Aside0.mk (isBuilderF_below HI6.out hd7.below); have HB7 := Aside0.mk (below_then HB6.out HB6.out.size hd7.below); clear hd7 HI6 HB6) | (go_at_call 73; (with_reducible refine (builder_string w.heap.size gb _ _ HI7.out HB7.out.size).mono ?_); rintro e w8 ⟨rfl, hi8, hb8⟩; have HB8 := Aside0.mk (HB7.out.trans hb8); clear hi8 hb8 HI7 HB7))
                    go_ret2
                    exact ⟨rfl, HB8.out⟩
                  · obtain rfl : t = false := by simpa using c9
                    rw [if_neg (by simp)] at H
                    simp only [Option.some.injEq, Prod.mk.injEq] at H
                    obtain ⟨rfl, rfl⟩ := H
                    go_wp2_with (first | (go_at_call 72; (with_reducible refine (Builder_WriteString_k w.heap.size gb (Go.Lib.strCells acc) (a0.extract at_.toNat a0.size) _ HI.out (by rw [Go.Lib.strCells_length]; exact D3.out) HB.out.size).mono ?_); rintro e w5 ⟨rfl, hb5, hbel5, hoth5⟩; have HI5 : Aside0 (Go.Lib.IsBuilderF 73 5 w.heap.size gb (Go.Lib.strCells (acc ++ a0.extract at_.toNat a0.size)) w5) := ⟨.inr (by rw [strCells_append]; exact hb5)⟩; have HB5 := Aside0.mk (HB.out.trans hbel5); clear hb5 hbel5 hoth5 HI HB) | (go_at_call 73; (with_reducible refine (builder_string w.heap.size gb _ _ HI5.out HB5.out.size).mono ?_); rintro e w6 ⟨rfl, hi6, hb6⟩; have HI6 := Aside0.mk hi6; have HB6 := Aside0.mk (HB5.out.trans hb6); clear hi6 hb6 HI5 HB5) | (go_at_call 66; (with_reducible refine (impl_TextValid.calls k3 _ false _ A2'.out).mono ?_); rintro e w7 ⟨rfl, hd7⟩; have HB7 := Aside0.mk (below_then HB6.out HB6.out.size hd7.below); clear hd7 HI6 HB6))
                    go_ret2
                    exact ⟨rfl, HB7.out⟩
                · rw [if_neg d3] at H; cases H
              · rw [if_neg d2] at H; cases H
            · rw [if_neg d1] at H; cases H
  · obtain rfl : t = false := by simpa using c5
    rw [if_neg (by simp)] at H
    simp only [Option.some.injEq, Prod.mk.injEq] at H
    obtain ⟨rfl, rfl⟩ := H
    go_enter Try.func36, Try.ntmps36
    go_wp2_with (first | (go_at_call 32; (with_reducible refine (impl_EditsValid.calls k a0 A1 c1 l1 false _ HR1.out HC1.out A1'.out).mono ?_); rintro e w1 ⟨rfl, hb1⟩; have HB := Aside0.mk hb1; clear hb1))
    go_ret2
    exact ⟨rfl, HB.out⟩

end Go.Proofs.Ytghkbkbommobaaa.P
