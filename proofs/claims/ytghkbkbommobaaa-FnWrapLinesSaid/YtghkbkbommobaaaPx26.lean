/- The functions of the program that one law uses, as plain Lean functions, and the contracts that tie the machine to them, walked by the machine. No condition. -/
import Derived.Test.YtghkbkbommobaaaPx0
import Derived.Test.YtghkbkbommobaaaPx2
import Derived.Test.YtghkbkbommobaaaPx5
import Derived.Test.YtghkbkbommobaaaPx16
import Derived.Test.YtghkbkbommobaaaPx18
namespace Go.Proofs.Ytghkbkbommobaaa.P
open Go.RowKit Go.Proofs.Ytghkbkbommobaaa.Copy Go.Proofs.Ytghkbkbommobaaa.Lib Go.Proofs.YtghkbkbommobaaaW.PrintWords Go.Proofs.YtghkbkbommobaaaW.PrintLast Go.Proofs.YtghkbkbommobaaaW.PrintMore
attribute [local go_sem] max2_int min2_int max_two min_two max_three min_three max_four min_four   -- for this text's walks alone
set_option linter.unusedVariables false
set_option linter.unusedSimpArgs false

/-! ### impl_WrapCost: function 46 -/
mutual
def impl_WrapCost.l0 : Nat → List ByteArray → Int → List Int → Int → Int → List Int → Int → Int → Option (Int)
  | 0, _, _, _, _, _, _, _, _ => none
  | k + 1, x0, x1, x2, x7, x8, x16, x17, x18 => if x18 < x17 then (if 0 ≤ x18 then (if x18 < (x16.length : Int) then ((impl_in.f (rd x16 x18) 1 (wrap64 ((x0.length : Int) - x8))).bind fun t466 => (if t466 = true then (if 0 ≤ x8 then (if x8 ≤ (wrap64 (x8 + (rd x16 x18))) then (if (wrap64 (x8 + (rd x16 x18))) ≤ (x0.length : Int) then ((impl_lineLen.f ((x0.take ((wrap64 (x8 + (rd x16 x18))) : Int).toNat).drop (x8 : Int).toNat)).bind fun t468 => (impl_WrapCost.j1 k x0 x1 x2 x7 x8 x18 (rd x16 x18) x16 x17 x18 (decide (t468 > x1)))) else (none)) else (none)) else (none)) else (impl_WrapCost.j1 k x0 x1 x2 x7 x8 x18 (rd x16 x18) x16 x17 x18 true))) else (none)) else (none)) else (if x8 = (x0.length : Int) then (some x7) else (some (-1)))
def impl_WrapCost.j1 : Nat → List ByteArray → Int → List Int → Int → Int → Int → Int → List Int → Int → Int → Bool → Option (Int)
  | 0, _, _, _, _, _, _, _, _, _, _, _ => none
  | k + 1, x0, x1, x2, x7, x8, x9, x10, x16, x17, x18, x40 => if x40 = true then (some (-1)) else (if 0 ≤ x8 then (if x8 ≤ (wrap64 (x8 + x10)) then (if (wrap64 (x8 + x10)) ≤ (x0.length : Int) then ((impl_lineLen.f ((x0.take ((wrap64 (x8 + x10)) : Int).toNat).drop (x8 : Int).toNat)).bind fun t470 => (if (wrap64 (x9 + 1)) < (x2.length : Int) then (impl_WrapCost.l0 k x0 x1 x2 (wrap64 (x7 + (wrap64 ((wrap64 (x1 - t470)) * (wrap64 (x1 - t470)))))) (wrap64 (x8 + x10)) x16 x17 (wrap64 (x18 + 1))) else (impl_WrapCost.l0 k x0 x1 x2 x7 (wrap64 (x8 + x10)) x16 x17 (wrap64 (x18 + 1))))) else (none)) else (none)) else (none))
end
def impl_WrapCost.f (k : Nat) (l0 : List ByteArray) (a1 : Int) (l2 : List Int) : Option (Int) := (impl_WordsFit.f k l0 a1).bind fun t464 => (if t464 = true then (impl_WrapCost.l0 k l0 a1 l2 0 0 l2 (l2.length : Int) 0) else (some (-1)))
theorem impl_WrapCost.mono_l : ∀ k, (∀ y0 y1 y2 y3 y4 y5 y6 y7, LeO (impl_WrapCost.l0 k y0 y1 y2 y3 y4 y5 y6 y7) (impl_WrapCost.l0 (k + 1) y0 y1 y2 y3 y4 y5 y6 y7)) ∧ (∀ y0 y1 y2 y3 y4 y5 y6 y7 y8 y9 y10, LeO (impl_WrapCost.j1 k y0 y1 y2 y3 y4 y5 y6 y7 y8 y9 y10) (impl_WrapCost.j1 (k + 1) y0 y1 y2 y3 y4 y5 y6 y7 y8 y9 y10))
  | 0 => ⟨fun _ _ _ _ _ _ _ _ r h => by simp [impl_WrapCost.l0] at h, fun _ _ _ _ _ _ _ _ _ _ _ r h => by simp [impl_WrapCost.j1] at h⟩
  | k + 1 => by
    obtain ⟨ih0, ih1⟩ := impl_WrapCost.mono_l k
    refine ⟨?_, ?_⟩
    · intro y0 y1 y2 y3 y4 y5 y6 y7
      unfold impl_WrapCost.l0
      repeat' first
      | (with_reducible exact ih0 _ _ _ _ _ _ _ _)
      | (with_reducible exact ih1 _ _ _ _ _ _ _ _ _ _ _)
      | (with_reducible exact impl_WordsFit.mono _ _ _)
      | (with_reducible exact LeO.refl _)
      | (with_reducible exact LeO.none _)
      | (with_reducible refine LeO.ite ?_ ?_)
      | (with_reducible refine LeO.bind ?_ (fun _ => ?_))
      | exact ih0 _ _ _ _ _ _ _ _
      | exact ih1 _ _ _ _ _ _ _ _ _ _ _
      | exact impl_WordsFit.mono _ _ _
      | exact LeO.none _
      | refine LeO.ite ?_ ?_
      | refine LeO.bind ?_ (fun _ => ?_)
    · intro y0 y1 y2 y3 y4 y5 y6 y7 y8 y9 y10
      unfold impl_WrapCost.j1
      repeat' first
      | (with_reducible exact ih0 _ _ _ _ _ _ _ _)
      | (with_reducible exact ih1 _ _ _ _ _ _ _ _ _ _ _)
      | (with_reducible exact impl_WordsFit.mono _ _ _)
      | (with_reducible exact LeO.refl _)
      | (with_reducible exact LeO.none _)
      | (with_reducible refine LeO.ite ?_ ?_)
      | (with_reducible refine LeO.bind ?_ (fun _ => ?_))
      | exact ih0 _ _ _ _ _ _ _ _
      | exact ih1 _ _ _ _ _ _ _ _ _ _ _
      | exact impl_WordsFit.mono _ _ _
      | exact LeO.none _
      | refine LeO.ite ?_ ?_
      | refine LeO.bind ?_ (fun _ => ?_)
theorem impl_WrapCost.mono : ∀ a0 a1 a2 k, LeO (impl_WrapCost.f k a0 a1 a2) (impl_WrapCost.f (k + 1) a0 a1 a2) := by
  intro a0 a1 a2 k
  obtain ⟨ih0, ih1⟩ := impl_WrapCost.mono_l k
  unfold impl_WrapCost.f
  repeat' first
      | (with_reducible exact ih0 _ _ _ _ _ _ _ _)
      | (with_reducible exact ih1 _ _ _ _ _ _ _ _ _ _ _)
      | (with_reducible exact impl_WordsFit.mono _ _ _)
      | (with_reducible exact LeO.refl _)
      | (with_reducible exact LeO.none _)
      | (with_reducible refine LeO.ite ?_ ?_)
      | (with_reducible refine LeO.bind ?_ (fun _ => ?_))
      | exact ih0 _ _ _ _ _ _ _ _
      | exact ih1 _ _ _ _ _ _ _ _ _ _ _
      | exact impl_WordsFit.mono _ _ _
      | exact LeO.none _
      | refine LeO.ite ?_ ?_
      | refine LeO.bind ?_ (fun _ => ?_)
set_option maxHeartbeats 8000000 in
set_option maxRecDepth 100000 in
theorem impl_WrapCost.calls (k : Nat) (A0 : Option Addr) (c0 : Nat) (l0 : List ByteArray) (a1 : Int) (A2 : Option Addr) (c2 : Nat) (l2 : List Int) (r : Int) (w : World) (hr0 : Kd.C Kd.string w A0 l0.length l0) (hc0 : l0.length ≤ c0) (hr2 : Kd.C (Kd.int .i64) w A2 l2.length l2) (hc2 : l2.length ≤ c2) (h : impl_WrapCost.f k l0 a1 l2 = some r) :
    Calls Try.prog 46 #[.slice A0 l0.length c0, .int .i64 a1, .slice A2 l2.length c2] w fun e w' => e = .returned (.int .i64 r) ∧ Below w.heap.size w w' := by
  have HR0 := Aside0.mk hr0
  have HC0 := Aside0.mk hc0
  clear hr0 hc0
  have HR2 := Aside0.mk hr2
  have HC2 := Aside0.mk hc2
  clear hr2 hc2
  have HB := Aside0.mk (Below.refl w.heap.size w)
  have H : ((impl_WordsFit.f k l0 a1).bind fun t464 => (if t464 = true then (impl_WrapCost.l0 k l0 a1 l2 0 0 l2 (l2.length : Int) 0) else (some (-1)))) = some r := h
  clear h
  replace H := Option.bind_eq_some_iff.mp H
  obtain ⟨t464, A40, H⟩ := H
  replace H : (if t464 = true then (impl_WrapCost.l0 k l0 a1 l2 0 0 l2 (l2.length : Int) 0) else (some (-1))) = some r := H
  have A4 := Aside0.mk A40
  clear A40
  by_cases c5 : t464 = true
  · subst c5
    have H1 : (impl_WrapCost.l0 k l0 a1 l2 0 0 l2 (l2.length : Int) 0) = some r := by rw [if_pos rfl] at H; exact H
    clear H
    have H := H1
    clear H1
    have H' := Aside0.mk H
    clear H
    go_enter Try.func46, Try.ntmps46
    go_wp2_with (first | ((with_reducible refine gate_callee (f := 25) rfl ?_); refine goesL_ (some 14) rfl rfl Try.func25 (by kernel_rfl) rfl #[.slice A0 l0.length c0, .int .i64 a1] rfl (by (try simp only [List.map_toArray, List.map_cons, List.map_nil]); first | done | rfl | (simp only [List.length_drop, List.length_take]; rfl)) ?_; (with_reducible refine (impl_WordsFit.calls k _ _ l0 a1 true _ ?side1 ?side2 A4.out).mono ?_); (case side1 => repeat (first | exact HR0.out | (with_reducible refine Kd.C_alloc ?_ _) | (with_reducible refine Kd.C_drewN ?_ _) | (with_reducible refine Kd.C_drew ?_))); (case side2 => exact HC0.out); rintro e w' ⟨rfl, ⟨nd, rfl⟩⟩; refine ⟨_, rfl, ?_⟩))
    go_loopg [7, 8, 18] k (fun kq v7 v8 v18 w' => ∃ (x7_1 : Int) (x8_1 : Int) (x18_1 : Int), v7 = .int .i64 x7_1 ∧ v8 = .int .i64 x8_1 ∧ v18 = .int .i64 x18_1 ∧ Aside0 (impl_WrapCost.l0 kq l0 a1 l2 x7_1 x8_1 l2 (l2.length : Int) x18_1 = some r) ∧ Aside0 (kq ≤ k) ∧ Aside0 (Below w.heap.size w w'))
    case atStart => exact ⟨(0), (0), (0), (by first | rfl | (simp; done) | (simp [*]; done)), (by first | rfl | (simp; done) | (simp [*]; done)), (by first | rfl | (simp; done) | (simp [*]; done)), H', ⟨Nat.le_refl _⟩, ⟨by repeat (first | (with_reducible first | exact HB.out | apply below_alloc | apply pw_below_drewN | apply below_drew1) | exact HB.out)⟩⟩
    case round =>
      clear H'
      try clear c2
      try clear p2
      try clear c4
      try clear c5
      obtain ⟨x7_1, x8_1, x18_1, rfl, rfl, rfl, HA, HK1, HB⟩ := hrel
      cases gk with
      | zero => exact absurd HA.out (by simp [impl_WrapCost.l0])
      | succ k1 =>
        have H := HA.out
        clear HA
        simp only [impl_WrapCost.l0] at H
        by_cases c6 : x18_1 < (l2.length : Int)
        · rw [if_pos c6] at H
          have c6b0 : decide (x18_1 < (l2.length : Int)) = true := decide_eq_true c6
          clear c6
          by_cases c7 : 0 ≤ x18_1
          · rw [if_pos c7] at H
            have c7b0 : decide (0 ≤ x18_1) = true := decide_eq_true c7
            clear c7
            by_cases c8 : x18_1 < (l2.length : Int)
            · rw [if_pos c8] at H
              have c8b0 : decide (x18_1 < (l2.length : Int)) = true := decide_eq_true c8
              clear c8
              have HC9 := Aside0.mk H
              clear H
              have p465 : 0 ≤ (x18_1 : Int) := of_decide_eq_true (by first | (with_reducible assumption) | assumption)
              have q465 : x18_1 < (l2.length : Int) := of_decide_eq_true (by first | (with_reducible assumption) | assumption)
              obtain ⟨ad465, e465, hx465_0⟩ := Kd.at_int HR2.out x18_1 p465 q465
              cases e465
              replace hx465_0 := (HB.out.cell (World.block_lt_of_cell? w _ hx465_0)).trans hx465_0
              replace p465 := eq_true p465
              replace q465 := eq_true q465
              go_upto_region 7 with (fail)
              go_cut [40] (fun v40 wc => ∃ (kq : Nat) (x40_8 : Bool), v40 = .bool x40_8 ∧ Aside0 (impl_WrapCost.j1 kq l0 a1 l2 x7_1 x8_1 x18_1 (rd l2 x18_1) l2 (l2.length : Int) x18_1 x40_8 = some r) ∧ Aside0 (kq ≤ k1) ∧ Aside0 (Below w.heap.size w wc))
              case first =>
                have H := HC9.out
                clear HC9
                replace H := Option.bind_eq_some_iff.mp H
                obtain ⟨t466, A100, H⟩ := H
                replace H : (if t466 = true then (if 0 ≤ x8_1 then (if x8_1 ≤ (wrap64 (x8_1 + (rd l2 x18_1))) then (if (wrap64 (x8_1 + (rd l2 x18_1))) ≤ (l0.length : Int) then ((impl_lineLen.f ((l0.take ((wrap64 (x8_1 + (rd l2 x18_1))) : Int).toNat).drop (x8_1 : Int).toNat)).bind fun t468 => (impl_WrapCost.j1 k1 l0 a1 l2 x7_1 x8_1 x18_1 (rd l2 x18_1) l2 (l2.length : Int) x18_1 (decide (t468 > a1)))) else (none)) else (none)) else (none)) else (impl_WrapCost.j1 k1 l0 a1 l2 x7_1 x8_1 x18_1 (rd l2 x18_1) l2 (l2.length : Int) x18_1 true)) = some r := H
                have A10 := Aside0.mk A100
                clear A100
                by_cases c11 : t466 = true
                · subst c11
                  have H1 : (if 0 ≤ x8_1 then (if x8_1 ≤ (wrap64 (x8_1 + (rd l2 x18_1))) then (if (wrap64 (x8_1 + (rd l2 x18_1))) ≤ (l0.length : Int) then ((impl_lineLen.f ((l0.take ((wrap64 (x8_1 + (rd l2 x18_1))) : Int).toNat).drop (x8_1 : Int).toNat)).bind fun t468 => (impl_WrapCost.j1 k1 l0 a1 l2 x7_1 x8_1 x18_1 (rd l2 x18_1) l2 (l2.length : Int) x18_1 (decide (t468 > a1)))) else (none)) else (none)) else (none)) = some r := by rw [if_pos rfl] at H; exact H
                  clear H
                  have H := H1
                  clear H1
                  by_cases c12 : 0 ≤ x8_1
                  · rw [if_pos c12] at H
                    have c12b0 := eq_true c12
                    have c12b1 : decide (0 ≤ x8_1) = true := decide_eq_true c12
                    clear c12
                    by_cases c13 : x8_1 ≤ (wrap64 (x8_1 + (rd l2 x18_1)))
                    · rw [if_pos c13] at H
                      have c13b0 := eq_true c13
                      have c13b1 : decide (x8_1 ≤ (wrap64 (x8_1 + (rd l2 x18_1)))) = true := decide_eq_true c13
                      by_cases c14 : (wrap64 (x8_1 + (rd l2 x18_1))) ≤ (l0.length : Int)
                      · rw [if_pos c14] at H
                        have c14b0 := eq_true c14
                        have c14b1 : decide ((wrap64 (x8_1 + (rd l2 x18_1))) ≤ (l0.length : Int)) = true := decide_eq_true c14
                        replace H := Option.bind_eq_some_iff.mp H
                        obtain ⟨t468, A150, H⟩ := H
                        replace H : (impl_WrapCost.j1 k1 l0 a1 l2 x7_1 x8_1 x18_1 (rd l2 x18_1) l2 (l2.length : Int) x18_1 (decide (t468 > a1))) = some r := H
                        have A15 := Aside0.mk A150
                        clear A150
                        have H' := Aside0.mk H
                        clear H
                        go_wp2_with (first | ((with_reducible refine gate_callee (f := 63) rfl ?_); refine goesL_ (some 28) rfl rfl Try.func63 (by kernel_rfl) rfl #[.int .i64 (rd l2 x18_1), .int .i64 1, .int .i64 (wrap64 ((l0.length : Int) - x8_1))] rfl (by (try simp only [List.map_toArray, List.map_cons, List.map_nil]); first | done | rfl | (simp only [List.length_drop, List.length_take]; rfl)) ?_; (with_reducible refine (impl_in.calls (rd l2 x18_1) 1 (wrap64 ((l0.length : Int) - x8_1)) true _ A10.out).mono ?_); rintro e w' ⟨rfl, ⟨nd, rfl⟩⟩; refine ⟨_, rfl, ?_⟩; obtain ⟨i016, hi016, _, hsz16, _⟩ := info_parts info9; obtain ⟨A16, hcut16, hA16, hC16⟩ := print_mid_of (P := Try.prog) Value.string (⟨#[]⟩ : ByteArray) 22 9 .i64 .i64 Try.underlying22 hi016 hsz16 A0 c0 l0 x8_1 (wrap64 (x8_1 + (rd l2 x18_1))) (of_decide_eq_true (by first | (with_reducible assumption) | assumption)) (by first | omega | exact of_decide_eq_true (by first | (with_reducible assumption) | assumption)) (of_decide_eq_true (by first | (with_reducible assumption) | assumption)) HC0.out; have HR467 := Aside0.mk (Kd.C_of_reads (h1 := fun _ => rfl) (hA16 _ (Kd.reads_of_C HR0.out))); have HC467 := Aside0.mk hC16; clear hA16 hC16 hi016 hsz16) | (go_at_call 79; (with_reducible refine (impl_lineLen.callsN _ _ _ ((l0.take ((wrap64 (x8_1 + (rd l2 x18_1))) : Int).toNat).drop (x8_1 : Int).toNat) (by have h_ : (wrap64 (x8_1 + (rd l2 x18_1))) ≤ (l0.length : Int) := of_decide_eq_true (by first | (with_reducible assumption) | assumption); simp only [List.length_drop, List.length_take]; omega) t468 _ ?side1 ?side2 A15.out).mono ?_); (case side1 => repeat (first | exact (Kd.C_below HR467.out (by repeat (first | (with_reducible first | exact HB.out | apply below_alloc | apply pw_below_drewN | apply below_drew1) | exact HB.out))) | (with_reducible refine Kd.C_alloc ?_ _) | (with_reducible refine Kd.C_drewN ?_ _) | (with_reducible refine Kd.C_drew ?_))); (case side2 => exact HC467.out); rintro e w17 ⟨rfl, hb⟩; have n0_ := Aside0.mk (below_step (by repeat (first | (with_reducible first | exact HB.out | apply below_alloc | apply pw_below_drewN | apply below_drew1) | exact HB.out)) hb); clear HB; have HB := n0_; clear n0_; (try clear hb); (try clear hb2); (try clear hk); (try clear hi)))
                        go_meet
                        case rel => exact ⟨_, (decide (t468 > a1)), (by first | rfl | (simp; done) | (simp [*]; done)), H', ⟨by have := HK1.out; first | omega | exact Nat.le_refl _⟩, ⟨by repeat (first | (with_reducible first | exact HB.out | apply below_alloc | apply pw_below_drewN | apply below_drew1) | exact HB.out)⟩⟩
                      · rw [if_neg c14] at H
                        exact absurd H (by simp)
                    · rw [if_neg c13] at H
                      exact absurd H (by simp)
                  · rw [if_neg c12] at H
                    exact absurd H (by simp)
                · replace c11 := Bool.eq_false_iff.mpr c11
                  subst c11
                  have H1 : (impl_WrapCost.j1 k1 l0 a1 l2 x7_1 x8_1 x18_1 (rd l2 x18_1) l2 (l2.length : Int) x18_1 true) = some r := by rw [if_neg (show ¬ (false = true) by decide)] at H; exact H
                  clear H
                  have H := H1
                  clear H1
                  have H' := Aside0.mk H
                  clear H
                  go_wp2_with (first | ((with_reducible refine gate_callee (f := 63) rfl ?_); refine goesL_ (some 28) rfl rfl Try.func63 (by kernel_rfl) rfl #[.int .i64 (rd l2 x18_1), .int .i64 1, .int .i64 (wrap64 ((l0.length : Int) - x8_1))] rfl (by (try simp only [List.map_toArray, List.map_cons, List.map_nil]); first | done | rfl | (simp only [List.length_drop, List.length_take]; rfl)) ?_; (with_reducible refine (impl_in.calls (rd l2 x18_1) 1 (wrap64 ((l0.length : Int) - x8_1)) false _ A10.out).mono ?_); rintro e w' ⟨rfl, ⟨nd, rfl⟩⟩; refine ⟨_, rfl, ?_⟩))
                  go_meet
                  case rel => exact ⟨_, (true), (by first | rfl | (simp; done) | (simp [*]; done)), H', ⟨by have := HK1.out; first | omega | exact Nat.le_refl _⟩, ⟨by repeat (first | (with_reducible first | exact HB.out | apply below_alloc | apply pw_below_drewN | apply below_drew1) | exact HB.out)⟩⟩
              case rest =>
                clear HC9
                try clear c1
                try clear c2
                try clear p2
                try clear c4
                try clear p4
                try clear q4
                try clear hx4
                try clear c5
                try clear c6
                try clear c6b0
                try clear p6
                try clear c7
                try clear c7b0
                try clear c8
                try clear c8b0
                try clear c11
                try clear c12
                try clear c12b0
                try clear c12b1
                try clear c13
                try clear c13b0
                try clear c13b1
                try clear c14
                try clear c14b0
                try clear c14b1
                try clear hx465_0
                try clear p2
                try clear p465
                try clear q465
                obtain ⟨kq, x40_8, rfl, HA, HJ8, HB⟩ := hcut
                cases kq with
                | zero => exact absurd HA.out (by simp [impl_WrapCost.j1])
                | succ kj8 =>
                  have H := HA.out
                  clear HA
                  simp only [impl_WrapCost.j1] at H
                  by_cases c18 : x40_8 = true
                  · subst c18
                    have H1 : (some (-1)) = some r := by rw [if_pos rfl] at H; exact H
                    clear H
                    have H := H1
                    clear H1
                    obtain rfl := Option.some.inj H
                    go_wp2
                    go_ret
                    exact ⟨by first | rfl | (simp [errW_none, errW_some] <;> rfl) | (simp [*, errW_none, errW_some] <;> rfl), by repeat (first | (with_reducible first | exact HB.out | apply below_alloc | apply pw_below_drewN | apply below_drew1) | exact HB.out)⟩
                  · replace c18 := Bool.eq_false_iff.mpr c18
                    subst c18
                    have H1 : (if 0 ≤ x8_1 then (if x8_1 ≤ (wrap64 (x8_1 + (rd l2 x18_1))) then (if (wrap64 (x8_1 + (rd l2 x18_1))) ≤ (l0.length : Int) then ((impl_lineLen.f ((l0.take ((wrap64 (x8_1 + (rd l2 x18_1))) : Int).toNat).drop (x8_1 : Int).toNat)).bind fun t470 => (if (wrap64 (x18_1 + 1)) < (l2.length : Int) then (impl_WrapCost.l0 kj8 l0 a1 l2 (wrap64 (x7_1 + (wrap64 ((wrap64 (a1 - t470)) * (wrap64 (a1 - t470)))))) (wrap64 (x8_1 + (rd l2 x18_1))) l2 (l2.length : Int) (wrap64 (x18_1 + 1))) else (impl_WrapCost.l0 kj8 l0 a1 l2 x7_1 (wrap64 (x8_1 + (rd l2 x18_1))) l2 (l2.length : Int) (wrap64 (x18_1 + 1))))) else (none)) else (none)) else (none)) = some r := by rw [if_neg (show ¬ (false = true) by decide)] at H; exact H
                    clear H
                    have H := H1
                    clear H1
                    by_cases c19 : 0 ≤ x8_1
                    · rw [if_pos c19] at H
                      have c19b0 := eq_true c19
                      have c19b1 : decide (0 ≤ x8_1) = true := decide_eq_true c19
                      clear c19
                      by_cases c20 : x8_1 ≤ (wrap64 (x8_1 + (rd l2 x18_1)))
                      · rw [if_pos c20] at H
                        have c20b0 := eq_true c20
                        have c20b1 : decide (x8_1 ≤ (wrap64 (x8_1 + (rd l2 x18_1)))) = true := decide_eq_true c20
                        by_cases c21 : (wrap64 (x8_1 + (rd l2 x18_1))) ≤ (l0.length : Int)
                        · rw [if_pos c21] at H
                          have c21b0 := eq_true c21
                          have c21b1 : decide ((wrap64 (x8_1 + (rd l2 x18_1))) ≤ (l0.length : Int)) = true := decide_eq_true c21
                          replace H := Option.bind_eq_some_iff.mp H
                          obtain ⟨t470, A220, H⟩ := H
                          replace H : (if (wrap64 (x18_1 + 1)) < (l2.length : Int) then (impl_WrapCost.l0 kj8 l0 a1 l2 (wrap64 (x7_1 + (wrap64 ((wrap64 (a1 - t470)) * (wrap64 (a1 - t470)))))) (wrap64 (x8_1 + (rd l2 x18_1))) l2 (l2.length : Int) (wrap64 (x18_1 + 1))) else (impl_WrapCost.l0 kj8 l0 a1 l2 x7_1 (wrap64 (x8_1 + (rd l2 x18_1))) l2 (l2.length : Int) (wrap64 (x18_1 + 1)))) = some r := H
                          have A22 := Aside0.mk A220
                          clear A220
                          by_cases c23 : (wrap64 (x18_1 + 1)) < (l2.length : Int)
                          · rw [if_pos c23] at H
                            have c23b0 : decide ((wrap64 (x18_1 + 1)) < (l2.length : Int)) = true := decide_eq_true c23
                            clear c23
                            have H' := Aside0.mk H
                            clear H
                            obtain ⟨i024, hi024, _, hsz24, _⟩ := info_parts info9
                            obtain ⟨A24, hcut24, hA24, hC24⟩ := print_mid_of (P := Try.prog) Value.string (⟨#[]⟩ : ByteArray) 22 9 .i64 .i64 Try.underlying22 hi024 hsz24 A0 c0 l0 x8_1 (wrap64 (x8_1 + (rd l2 x18_1))) (of_decide_eq_true (by first | (with_reducible assumption) | assumption)) (by first | omega | exact of_decide_eq_true (by first | (with_reducible assumption) | assumption)) (of_decide_eq_true (by first | (with_reducible assumption) | assumption)) HC0.out
                            have HR469 := Aside0.mk (Kd.C_of_reads (h1 := fun _ => rfl) (hA24 _ (Kd.reads_of_C HR0.out)))
                            have HC469 := Aside0.mk hC24
                            clear hA24 hC24 hi024 hsz24
                            go_wp2_with (first | (go_at_call 79; (with_reducible refine (impl_lineLen.callsN _ _ _ ((l0.take ((wrap64 (x8_1 + (rd l2 x18_1))) : Int).toNat).drop (x8_1 : Int).toNat) (by have h_ : (wrap64 (x8_1 + (rd l2 x18_1))) ≤ (l0.length : Int) := of_decide_eq_true (by first | (with_reducible assumption) | assumption); simp only [List.length_drop, List.length_take]; omega) t470 _ ?side1 ?side2 A22.out).mono ?_); (case side1 => repeat (first | exact (Kd.C_below HR469.out HB.out) | (with_reducible refine Kd.C_alloc ?_ _) | (with_reducible refine Kd.C_drewN ?_ _) | (with_reducible refine Kd.C_drew ?_))); (case side2 => exact HC469.out); rintro e w25 ⟨rfl, hb⟩; have n0_ := Aside0.mk (below_step (by repeat (first | (with_reducible first | exact HB.out | apply below_alloc | apply pw_below_drewN | apply below_drew1) | exact HB.out)) hb); clear HB; have HB := n0_; clear n0_; (try clear hb); (try clear hb2); (try clear hk); (try clear hi)))
                            go_roundg kj8
                            case measure => have := HK1.out; have := HJ8.out; omega
                            case rel => exact ⟨(wrap64 (x7_1 + (wrap64 ((wrap64 (a1 - t470)) * (wrap64 (a1 - t470)))))), (wrap64 (x8_1 + (rd l2 x18_1))), (wrap64 (x18_1 + 1)), (by first | rfl | (simp; done) | (simp [*]; done)), (by first | rfl | (simp; done) | (simp [*]; done)), (by first | rfl | (simp; done) | (simp [*]; done)), H', ⟨by have := HK1.out; have := HJ8.out; omega⟩, ⟨by repeat (first | (with_reducible first | exact HB.out | apply below_alloc | apply pw_below_drewN | apply below_drew1) | exact HB.out)⟩⟩
                          · rw [if_neg c23] at H
                            have c23b0 : decide ((wrap64 (x18_1 + 1)) < (l2.length : Int)) = false := decide_eq_false c23
                            clear c23
                            have H' := Aside0.mk H
                            clear H
                            obtain ⟨i026, hi026, _, hsz26, _⟩ := info_parts info9
                            obtain ⟨A26, hcut26, hA26, hC26⟩ := print_mid_of (P := Try.prog) Value.string (⟨#[]⟩ : ByteArray) 22 9 .i64 .i64 Try.underlying22 hi026 hsz26 A0 c0 l0 x8_1 (wrap64 (x8_1 + (rd l2 x18_1))) (of_decide_eq_true (by first | (with_reducible assumption) | assumption)) (by first | omega | exact of_decide_eq_true (by first | (with_reducible assumption) | assumption)) (of_decide_eq_true (by first | (with_reducible assumption) | assumption)) HC0.out
                            have HR469 := Aside0.mk (Kd.C_of_reads (h1 := fun _ => rfl) (hA26 _ (Kd.reads_of_C HR0.out)))
                            have HC469 := Aside0.mk hC26
                            clear hA26 hC26 hi026 hsz26
                            go_wp2_with (first | (go_at_call 79; (with_reducible refine (impl_lineLen.callsN _ _ _ ((l0.take ((wrap64 (x8_1 + (rd l2 x18_1))) : Int).toNat).drop (x8_1 : Int).toNat) (by have h_ : (wrap64 (x8_1 + (rd l2 x18_1))) ≤ (l0.length : Int) := of_decide_eq_true (by first | (with_reducible assumption) | assumption); simp only [List.length_drop, List.length_take]; omega) t470 _ ?side1 ?side2 A22.out).mono ?_); (case side1 => repeat (first | exact (Kd.C_below HR469.out HB.out) | (with_reducible refine Kd.C_alloc ?_ _) | (with_reducible refine Kd.C_drewN ?_ _) | (with_reducible refine Kd.C_drew ?_))); (case side2 => exact HC469.out); rintro e w27 ⟨rfl, hb⟩; have n0_ := Aside0.mk (below_step (by repeat (first | (with_reducible first | exact HB.out | apply below_alloc | apply pw_below_drewN | apply below_drew1) | exact HB.out)) hb); clear HB; have HB := n0_; clear n0_; (try clear hb); (try clear hb2); (try clear hk); (try clear hi)))
                            go_roundg kj8
                            case measure => have := HK1.out; have := HJ8.out; omega
                            case rel => exact ⟨(x7_1), (wrap64 (x8_1 + (rd l2 x18_1))), (wrap64 (x18_1 + 1)), (by first | rfl | (simp; done) | (simp [*]; done)), (by first | rfl | (simp; done) | (simp [*]; done)), (by first | rfl | (simp; done) | (simp [*]; done)), H', ⟨by have := HK1.out; have := HJ8.out; omega⟩, ⟨by repeat (first | (with_reducible first | exact HB.out | apply below_alloc | apply pw_below_drewN | apply below_drew1) | exact HB.out)⟩⟩
                        · rw [if_neg c21] at H
                          exact absurd H (by simp)
                      · rw [if_neg c20] at H
                        exact absurd H (by simp)
                    · rw [if_neg c19] at H
                      exact absurd H (by simp)
            · rw [if_neg c8] at H
              exact absurd H (by simp)
          · rw [if_neg c7] at H
            exact absurd H (by simp)
        · rw [if_neg c6] at H
          have c6b0 : decide (x18_1 < (l2.length : Int)) = false := decide_eq_false c6
          clear c6
          by_cases c28 : x8_1 = (l0.length : Int)
          · rw [if_pos c28] at H
            have c28b0 : (x8_1 == (l0.length : Int)) = true := beq_iff_eq.mpr c28
            have c28b1 : (x8_1 != (l0.length : Int)) = false := bne_eq_false_iff_eq.mpr c28
            clear c28
            obtain rfl := Option.some.inj H
            go_wp2
            go_ret
            exact ⟨by first | rfl | (simp [errW_none, errW_some] <;> rfl) | (simp [*, errW_none, errW_some] <;> rfl), by repeat (first | (with_reducible first | exact HB.out | apply below_alloc | apply pw_below_drewN | apply below_drew1) | exact HB.out)⟩
          · rw [if_neg c28] at H
            have c28b0 : (x8_1 == (l0.length : Int)) = false := beq_eq_false_iff_ne.mpr c28
            have c28b1 : (x8_1 != (l0.length : Int)) = true := bne_iff_ne.mpr c28
            obtain rfl := Option.some.inj H
            go_wp2
            go_ret
            exact ⟨by first | rfl | (simp [errW_none, errW_some] <;> rfl) | (simp [*, errW_none, errW_some] <;> rfl), by repeat (first | (with_reducible first | exact HB.out | apply below_alloc | apply pw_below_drewN | apply below_drew1) | exact HB.out)⟩
  · replace c5 := Bool.eq_false_iff.mpr c5
    subst c5
    have H1 : (some (-1)) = some r := by rw [if_neg (show ¬ (false = true) by decide)] at H; exact H
    clear H
    have H := H1
    clear H1
    obtain rfl := Option.some.inj H
    go_enter Try.func46, Try.ntmps46
    go_wp2_with (first | ((with_reducible refine gate_callee (f := 25) rfl ?_); refine goesL_ (some 14) rfl rfl Try.func25 (by kernel_rfl) rfl #[.slice A0 l0.length c0, .int .i64 a1] rfl (by (try simp only [List.map_toArray, List.map_cons, List.map_nil]); first | done | rfl | (simp only [List.length_drop, List.length_take]; rfl)) ?_; (with_reducible refine (impl_WordsFit.calls k _ _ l0 a1 false _ ?side1 ?side2 A4.out).mono ?_); (case side1 => repeat (first | exact HR0.out | (with_reducible refine Kd.C_alloc ?_ _) | (with_reducible refine Kd.C_drewN ?_ _) | (with_reducible refine Kd.C_drew ?_))); (case side2 => exact HC0.out); rintro e w' ⟨rfl, ⟨nd, rfl⟩⟩; refine ⟨_, rfl, ?_⟩))
    go_ret
    exact ⟨by first | rfl | (simp [errW_none, errW_some] <;> rfl) | (simp [*, errW_none, errW_some] <;> rfl), by repeat (first | (with_reducible first | exact HB.out | apply below_alloc | apply pw_below_drewN | apply below_drew1) | exact HB.out)⟩

/-! ### spec_DrawWrapLines: function 61 -/
def spec_DrawWrapLines.f (k : Nat) (l0 : List Int) : Option (List ByteArray × Int) := (spec_l20Open.f l0).bind fun bt471 => ((spec_l20Wrapped.f k bt471.1 bt471.2 9).bind fun bt474 => (some (bt474.1, bt474.2.1)))
theorem spec_DrawWrapLines.mono : ∀ a0 k, LeO (spec_DrawWrapLines.f k a0) (spec_DrawWrapLines.f (k + 1) a0) := by
  intro a0 k
  unfold spec_DrawWrapLines.f
  repeat' first
      | (with_reducible exact spec_l20Wrapped.mono _ _ _ _)
      | (with_reducible exact LeO.refl _)
      | (with_reducible exact LeO.none _)
      | (with_reducible refine LeO.ite ?_ ?_)
      | (with_reducible refine LeO.bind ?_ (fun _ => ?_))
      | exact spec_l20Wrapped.mono _ _ _ _
      | exact LeO.none _
      | refine LeO.ite ?_ ?_
      | refine LeO.bind ?_ (fun _ => ?_)
set_option maxHeartbeats 8000000 in
set_option maxRecDepth 100000 in
theorem spec_DrawWrapLines.calls (k : Nat) (A0 : Option Addr) (c0 : Nat) (l0 : List Int) (r1 : List ByteArray) (r2 : Int) (w : World) (hr0 : Kd.C (Kd.int .u8) w A0 l0.length l0) (hc0 : l0.length ≤ c0) (h : spec_DrawWrapLines.f k l0 = some (r1, r2)) :
    Calls Try.prog 61 #[.slice A0 l0.length c0] w fun e w' => ∃ v0_ : Value, e = .returned (.tuple #[v0_, .int .i64 r2]) ∧ Kd.R Kd.string 9 w' w.heap.size (fun _ => True) v0_ r1 ∧ Below w.heap.size w w' := by
  have HR0 := Aside0.mk hr0
  have HC0 := Aside0.mk hc0
  clear hr0 hc0
  have HB := Aside0.mk (Below.refl w.heap.size w)
  have H : ((spec_l20Open.f l0).bind fun bt471 => ((spec_l20Wrapped.f k bt471.1 bt471.2 9).bind fun bt474 => (some (bt474.1, bt474.2.1)))) = some (r1, r2) := h
  clear h
  replace H := Option.bind_eq_some_iff.mp H
  obtain ⟨⟨t471, t472⟩, A20, H⟩ := H
  replace H : ((spec_l20Wrapped.f k t471 t472 9).bind fun bt474 => (some (bt474.1, bt474.2.1))) = some (r1, r2) := H
  have A2 := Aside0.mk A20
  clear A20
  replace H := Option.bind_eq_some_iff.mp H
  obtain ⟨⟨t474, t477, t478⟩, A30, H⟩ := H
  replace H : (some (t474, t477)) = some (r1, r2) := H
  have A3 := Aside0.mk A30
  clear A30
  simp only [Option.some.injEq, Prod.mk.injEq] at H
  obtain ⟨rfl, rfl⟩ := H
  go_enter Try.func61, Try.ntmps61
  go_wp2_with (first | ((with_reducible refine gate_callee (f := 65) rfl ?_); refine goesL_ (some 5) rfl rfl Try.func65 (by kernel_rfl) rfl #[.slice A0 l0.length c0] rfl (by (try simp only [List.map_toArray, List.map_cons, List.map_nil]); first | done | rfl | (simp only [List.length_drop, List.length_take]; rfl)) ?_; (with_reducible refine (spec_l20Open.calls _ _ l0 t471 t472 w _ ?side1 ?side2 ?side3 A2.out).mono ?_); (case side1 => repeat (first | (with_reducible first | exact HB.out | apply below_alloc | apply pw_below_drewN | apply below_drew1) | exact HB.out)); (case side2 => exact HR0.out); (case side3 => exact HC0.out); rintro e w4 ⟨g473, rfl, hi, hb, hb2⟩; refine ⟨_, rfl, ?_⟩; have n0_ := Aside0.mk (hb); have n1_ := Aside0.mk (hi); clear HB; have HB := n0_; have HI473 := n1_; clear n0_ n1_; (try clear hb); (try clear hb2); (try clear hk); (try clear hi)) | ((with_reducible refine gate_callee (f := 64) rfl ?_); refine goesL_ (some 6) rfl rfl Try.func64 (by kernel_rfl) rfl #[.pointer (some ⟨g473, 0, none⟩), .int .i64 9] rfl (by (try simp only [List.map_toArray, List.map_cons, List.map_nil]); first | done | rfl | (simp only [List.length_drop, List.length_take]; rfl)) ?_; (with_reducible refine (spec_l20Wrapped.calls k g473 t471 t472 9 t474 t477 t478 w _ ?side1 ?side2 A3.out).mono ?_); (case side1 => repeat (first | (with_reducible first | exact HI473.out | apply IsS86.alloc | apply IsS86.drewN | apply IsS86.drew | apply IsS86.set_1) | exact HI473.out)); (case side2 => repeat (first | (with_reducible first | exact HB.out | apply below_alloc | apply pw_below_drewN | apply below_drew1 | refine below_set ?_ (IsS86.ge HI473.out)) | exact HB.out)); rintro e w5 ⟨v475, rfl, ho0, hi, hb, hk⟩; refine ⟨_, rfl, ?_⟩; have n0_ := Aside0.mk (Kd.R_lower ho0 (below_size (by repeat (first | (with_reducible first | exact HB.out | apply below_alloc | apply pw_below_drewN | apply below_drew1 | refine below_set ?_ (IsS86.ge HI473.out)) | exact HB.out)))); have n1_ := Aside0.mk (hb); have n2_ := Aside0.mk (hi); clear HB; clear HI473; have HO476 := n0_; have HB := n1_; have HI473 := n2_; clear n0_ n1_ n2_; (try clear hb); (try clear hb2); (try clear hk); (try clear hi); (try clear ho0)))
  go_ret2
  exact ⟨_, by first | rfl | (simp [errW_none, errW_some] <;> rfl) | (simp [*, errW_none, errW_some] <;> rfl), by (with_reducible repeat (first | apply Kd.R_alloc | apply Kd.R_drewN | apply Kd.R_drew)); exact HO476.out, by repeat (first | (with_reducible first | exact HB.out | apply below_alloc | apply pw_below_drewN | apply below_drew1 | refine below_set ?_ (IsS86.ge HI473.out)) | exact HB.out)⟩

end Go.Proofs.Ytghkbkbommobaaa.P
