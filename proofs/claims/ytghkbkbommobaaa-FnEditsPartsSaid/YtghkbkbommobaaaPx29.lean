/- The functions of the program that one law uses, as plain Lean functions, and the contracts that tie the machine to them, walked by the machine. No condition. -/
import Derived.Test.YtghkbkbommobaaaPx0
import Derived.Test.YtghkbkbommobaaaPx3
import Derived.Test.YtghkbkbommobaaaPx8
namespace Go.Proofs.Ytghkbkbommobaaa.P
open Go.RowKit Go.Proofs.Ytghkbkbommobaaa.Copy Go.Proofs.Ytghkbkbommobaaa.Lib Go.Proofs.YtghkbkbommobaaaW.PrintWords Go.Proofs.YtghkbkbommobaaaW.PrintLast Go.Proofs.YtghkbkbommobaaaW.PrintMore
attribute [local go_sem] max2_int min2_int max_two min_two max_three min_three max_four min_four   -- for this text's walks alone
set_option linter.unusedVariables false
set_option linter.unusedSimpArgs false

/-! ### impl_JoinEdits: function 39 -/
mutual
def impl_JoinEdits.j0 : Nat → ByteArray → List (S42) → List (S42) → Bool → Option ((List (S42)) × Bool)
  | 0, _, _, _, _ => none
  | k + 1, x0, x1, x2, x18 => if x18 = true then (some (([] : List (S42)), false)) else (impl_JoinEdits.l0 k x0 x1 x2 ([] : List (S42)))
def impl_JoinEdits.l0 : Nat → ByteArray → List (S42) → List (S42) → List (S42) → Option ((List (S42)) × Bool)
  | 0, _, _, _, _ => none
  | k + 1, x0, x1, x2, x8 => if (wrap64 ((x1.length : Int) + (x2.length : Int))) > 0 then (if (x2.length : Int) = 0 then (if 0 < (x1.length : Int) then (if x8.length < 4398046511104 then (if 1 ≤ (x1.length : Int) then (impl_JoinEdits.l0 k x0 (x1.drop 1) x2 (x8 ++ [(⟨(rd_T42 x1 0).f0, (rd_T42 x1 0).f1, (rd_T42 x1 0).f2⟩ : S42)])) else (none)) else (none)) else (none)) else (if (x1.length : Int) > 0 then (if 0 < (x1.length : Int) then (if 0 < (x2.length : Int) then (if ((rd_T42 x1 0).f0) ≤ ((rd_T42 x2 0).f0) then (if x8.length < 4398046511104 then (if 1 ≤ (x1.length : Int) then (impl_JoinEdits.l0 k x0 (x1.drop 1) x2 (x8 ++ [(⟨(rd_T42 x1 0).f0, (rd_T42 x1 0).f1, (rd_T42 x1 0).f2⟩ : S42)])) else (none)) else (none)) else (if x8.length < 4398046511104 then (if 1 ≤ (x2.length : Int) then (impl_JoinEdits.l0 k x0 x1 (x2.drop 1) (x8 ++ [(⟨(rd_T42 x2 0).f0, (rd_T42 x2 0).f1, (rd_T42 x2 0).f2⟩ : S42)])) else (none)) else (none))) else (none)) else (none)) else (if 0 < (x2.length : Int) then (if x8.length < 4398046511104 then (if 1 ≤ (x2.length : Int) then (impl_JoinEdits.l0 k x0 x1 (x2.drop 1) (x8 ++ [(⟨(rd_T42 x2 0).f0, (rd_T42 x2 0).f1, (rd_T42 x2 0).f2⟩ : S42)])) else (none)) else (none)) else (none)))) else ((impl_EditsValid.f k x0 x8).bind fun t552 => (if t552 = true then ((impl_Edit.f x8).bind fun t553 => (some (t553, true))) else (some (([] : List (S42)), false))))
end
def impl_JoinEdits.f (k : Nat) (a0 : ByteArray) (l1 : List (S42)) (l2 : List (S42)) : Option ((List (S42)) × Bool) := (impl_EditsValid.f k a0 l1).bind fun t512 => (if t512 = true then ((impl_EditsValid.f k a0 l2).bind fun t513 => (impl_JoinEdits.j0 k a0 l1 l2 (!t513))) else (impl_JoinEdits.j0 k a0 l1 l2 true))
theorem impl_JoinEdits.mono_l : ∀ k, (∀ y0 y1 y2 y3, LeO (impl_JoinEdits.j0 k y0 y1 y2 y3) (impl_JoinEdits.j0 (k + 1) y0 y1 y2 y3)) ∧ (∀ y0 y1 y2 y3, LeO (impl_JoinEdits.l0 k y0 y1 y2 y3) (impl_JoinEdits.l0 (k + 1) y0 y1 y2 y3))
  | 0 => ⟨fun _ _ _ _ r h => by simp [impl_JoinEdits.j0] at h, fun _ _ _ _ r h => by simp [impl_JoinEdits.l0] at h⟩
  | k + 1 => by
    obtain ⟨ih0, ih1⟩ := impl_JoinEdits.mono_l k
    refine ⟨?_, ?_⟩
    · intro y0 y1 y2 y3
      unfold impl_JoinEdits.j0
      repeat' first
      | (with_reducible exact ih0 _ _ _ _)
      | (with_reducible exact ih1 _ _ _ _)
      | (with_reducible exact impl_EditsValid.mono _ _ _)
      | (with_reducible exact LeO.refl _)
      | (with_reducible exact LeO.none _)
      | (with_reducible refine LeO.ite ?_ ?_)
      | (with_reducible refine LeO.bind ?_ (fun _ => ?_))
      | exact ih0 _ _ _ _
      | exact ih1 _ _ _ _
      | exact impl_EditsValid.mono _ _ _
      | exact LeO.none _
      | refine LeO.ite ?_ ?_
      | refine LeO.bind ?_ (fun _ => ?_)
    · intro y0 y1 y2 y3
      unfold impl_JoinEdits.l0
      repeat' first
      | (with_reducible exact ih0 _ _ _ _)
      | (with_reducible exact ih1 _ _ _ _)
      | (with_reducible exact impl_EditsValid.mono _ _ _)
      | (with_reducible exact LeO.refl _)
      | (with_reducible exact LeO.none _)
      | (with_reducible refine LeO.ite ?_ ?_)
      | (with_reducible refine LeO.bind ?_ (fun _ => ?_))
      | exact ih0 _ _ _ _
      | exact ih1 _ _ _ _
      | exact impl_EditsValid.mono _ _ _
      | exact LeO.none _
      | refine LeO.ite ?_ ?_
      | refine LeO.bind ?_ (fun _ => ?_)
theorem impl_JoinEdits.mono : ∀ a0 a1 a2 k, LeO (impl_JoinEdits.f k a0 a1 a2) (impl_JoinEdits.f (k + 1) a0 a1 a2) := by
  intro a0 a1 a2 k
  obtain ⟨ih0, ih1⟩ := impl_JoinEdits.mono_l k
  unfold impl_JoinEdits.f
  repeat' first
      | (with_reducible exact ih0 _ _ _ _)
      | (with_reducible exact ih1 _ _ _ _)
      | (with_reducible exact impl_EditsValid.mono _ _ _)
      | (with_reducible exact LeO.refl _)
      | (with_reducible exact LeO.none _)
      | (with_reducible refine LeO.ite ?_ ?_)
      | (with_reducible refine LeO.bind ?_ (fun _ => ?_))
      | exact ih0 _ _ _ _
      | exact ih1 _ _ _ _
      | exact impl_EditsValid.mono _ _ _
      | exact LeO.none _
      | refine LeO.ite ?_ ?_
      | refine LeO.bind ?_ (fun _ => ?_)
set_option maxHeartbeats 8000000 in
set_option maxRecDepth 100000 in
theorem impl_JoinEdits.calls (k : Nat) (a0 : ByteArray) (P1_ : Nat → Prop) (A1 : Option Addr) (c1 : Nat) (l1 : List (S42)) (P2_ : Nat → Prop) (A2 : Option Addr) (c2 : Nat) (l2 : List (S42)) (r1 : List (S42)) (r2 : Bool) (w : World) (hs1 : Kd.V k42 42 w w.heap.size (fun k_ => P1_ k_) (.slice A1 l1.length c1) l1) (hs2 : Kd.V k42 42 w w.heap.size (fun k_ => P2_ k_) (.slice A2 l2.length c2) l2) (h : impl_JoinEdits.f k a0 l1 l2 = some (r1, r2)) :
    Calls Try.prog 39 #[.string a0, .slice A1 l1.length c1, .slice A2 l2.length c2] w fun e w' => ∃ v0_ : Value, e = .returned (.tuple #[v0_, .bool r2]) ∧ Kd.R k42 42 w' w.heap.size (fun k_ => (w.heap.size ≤ k_)) v0_ r1 ∧ Below w.heap.size w w' := by
  have hu42 := Try.underlying42
  have HO1 := Aside0.mk (show Kd.V k42 42 w w.heap.size (fun k_ => ((P1_ k_ ∨ P2_ k_) ∨ w.heap.size ≤ k_)) (.slice A1 l1.length c1) l1 from Kd.V_mono hs1 (fun k_ hk => .inl (.inl hk)))
  have HO2 := Aside0.mk (show Kd.V k42 42 w w.heap.size (fun k_ => ((P1_ k_ ∨ P2_ k_) ∨ w.heap.size ≤ k_)) (.slice A2 l2.length c2) l2 from Kd.V_mono hs2 (fun k_ hk => .inl (.inr hk)))
  have HB := Aside0.mk (Below.refl w.heap.size w)
  have H : ((impl_EditsValid.f k a0 l1).bind fun t512 => (if t512 = true then ((impl_EditsValid.f k a0 l2).bind fun t513 => (impl_JoinEdits.j0 k a0 l1 l2 (!t513))) else (impl_JoinEdits.j0 k a0 l1 l2 true))) = some (r1, r2) := h
  clear h
  have HC4 := Aside0.mk H
  clear H
  go_enter Try.func39, Try.ntmps39
  go_upto_region 1 with (fail)
  repeat (go_quiet (fail); go_upto_region 1 with (fail))
  go_cut [18] (fun v18 wc => ∃ (kq : Nat) (x18_3 : Bool), v18 = .bool x18_3 ∧ Aside0 (impl_JoinEdits.j0 kq a0 l1 l2 x18_3 = some (r1, r2)) ∧ Aside0 (kq ≤ k) ∧ Aside0 (Kd.V k42 42 wc w.heap.size (fun k_ => ((P1_ k_ ∨ P2_ k_) ∨ w.heap.size ≤ k_)) (.slice A1 l1.length c1) l1) ∧ Aside0 (Kd.V k42 42 wc w.heap.size (fun k_ => ((P1_ k_ ∨ P2_ k_) ∨ w.heap.size ≤ k_)) (.slice A2 l2.length c2) l2) ∧ Aside0 (Below w.heap.size w wc))
  case first =>
    have H := HC4.out
    clear HC4
    replace H := Option.bind_eq_some_iff.mp H
    obtain ⟨t512, A50, H⟩ := H
    replace H : (if t512 = true then ((impl_EditsValid.f k a0 l2).bind fun t513 => (impl_JoinEdits.j0 k a0 l1 l2 (!t513))) else (impl_JoinEdits.j0 k a0 l1 l2 true)) = some (r1, r2) := H
    have A5 := Aside0.mk A50
    clear A50
    by_cases c6 : t512 = true
    · subst c6
      have H1 : ((impl_EditsValid.f k a0 l2).bind fun t513 => (impl_JoinEdits.j0 k a0 l1 l2 (!t513))) = some (r1, r2) := by rw [if_pos rfl] at H; exact H
      clear H
      have H := H1
      clear H1
      replace H := Option.bind_eq_some_iff.mp H
      obtain ⟨t513, A70, H⟩ := H
      replace H : (impl_JoinEdits.j0 k a0 l1 l2 (!t513)) = some (r1, r2) := H
      have A7 := Aside0.mk A70
      clear A70
      have H' := Aside0.mk H
      clear H
      go_wp2_with (first | (go_at_call 32; (with_reducible refine (impl_EditsValid.calls k a0 _ _ l1 true _ ?side1 ?side2 A5.out).mono ?_); (case side1 => repeat (first | exact (Kd.V_reads' HO1.out).2.2 | (with_reducible refine Kd.C_alloc ?_ _) | (with_reducible refine Kd.C_drewN ?_ _) | (with_reducible refine Kd.C_drew ?_))); (case side2 => exact (Kd.V_reads' HO1.out).2.1); rintro e w8 ⟨rfl, hb⟩; have n0_ := Aside0.mk (Kd.V_below (by (with_reducible repeat (first | apply Kd.V_alloc | apply Kd.V_drewN | apply Kd.V_drew)); exact HO1.out) hb); have n1_ := Aside0.mk (Kd.V_below (by (with_reducible repeat (first | apply Kd.V_alloc | apply Kd.V_drewN | apply Kd.V_drew)); exact HO2.out) hb); have n2_ := Aside0.mk (below_step (by repeat (first | (with_reducible first | exact HB.out | apply below_alloc | apply pw_below_drewN | apply below_drew1) | exact HB.out)) hb); clear HO1; clear HO2; clear HB; have HO1 := n0_; have HO2 := n1_; have HB := n2_; clear n0_ n1_ n2_; (try clear hb); (try clear hb2); (try clear hk); (try clear hi)) | (go_at_call 32; (with_reducible refine (impl_EditsValid.calls k a0 _ _ l2 t513 _ ?side1 ?side2 A7.out).mono ?_); (case side1 => repeat (first | exact (Kd.V_reads' HO2.out).2.2 | (with_reducible refine Kd.C_alloc ?_ _) | (with_reducible refine Kd.C_drewN ?_ _) | (with_reducible refine Kd.C_drew ?_))); (case side2 => exact (Kd.V_reads' HO2.out).2.1); rintro e w9 ⟨rfl, hb⟩; have n0_ := Aside0.mk (Kd.V_below (by (with_reducible repeat (first | apply Kd.V_alloc | apply Kd.V_drewN | apply Kd.V_drew)); exact HO1.out) hb); have n1_ := Aside0.mk (Kd.V_below (by (with_reducible repeat (first | apply Kd.V_alloc | apply Kd.V_drewN | apply Kd.V_drew)); exact HO2.out) hb); have n2_ := Aside0.mk (below_step (by repeat (first | (with_reducible first | exact HB.out | apply below_alloc | apply pw_below_drewN | apply below_drew1) | exact HB.out)) hb); clear HO1; clear HO2; clear HB; have HO1 := n0_; have HO2 := n1_; have HB := n2_; clear n0_ n1_ n2_; (try clear hb); (try clear hb2); (try clear hk); (try clear hi)))
      repeat (go_quiet (first | (go_at_call 32; (with_reducible refine (impl_EditsValid.calls k a0 _ _ l1 true _ ?side1 ?side2 A5.out).mono ?_); (case side1 => repeat (first | exact (Kd.V_reads' HO1.out).2.2 | (with_reducible refine Kd.C_alloc ?_ _) | (with_reducible refine Kd.C_drewN ?_ _) | (with_reducible refine Kd.C_drew ?_))); (case side2 => exact (Kd.V_reads' HO1.out).2.1); rintro e w8 ⟨rfl, hb⟩; have n0_ := Aside0.mk (Kd.V_below (by (with_reducible repeat (first | apply Kd.V_alloc | apply Kd.V_drewN | apply Kd.V_drew)); exact HO1.out) hb); have n1_ := Aside0.mk (Kd.V_below (by (with_reducible repeat (first | apply Kd.V_alloc | apply Kd.V_drewN | apply Kd.V_drew)); exact HO2.out) hb); have n2_ := Aside0.mk (below_step (by repeat (first | (with_reducible first | exact HB.out | apply below_alloc | apply pw_below_drewN | apply below_drew1) | exact HB.out)) hb); clear HO1; clear HO2; clear HB; have HO1 := n0_; have HO2 := n1_; have HB := n2_; clear n0_ n1_ n2_; (try clear hb); (try clear hb2); (try clear hk); (try clear hi)) | (go_at_call 32; (with_reducible refine (impl_EditsValid.calls k a0 _ _ l2 t513 _ ?side1 ?side2 A7.out).mono ?_); (case side1 => repeat (first | exact (Kd.V_reads' HO2.out).2.2 | (with_reducible refine Kd.C_alloc ?_ _) | (with_reducible refine Kd.C_drewN ?_ _) | (with_reducible refine Kd.C_drew ?_))); (case side2 => exact (Kd.V_reads' HO2.out).2.1); rintro e w9 ⟨rfl, hb⟩; have n0_ := Aside0.mk (Kd.V_below (by (with_reducible repeat (first | apply Kd.V_alloc | apply Kd.V_drewN | apply Kd.V_drew)); exact HO1.out) hb); have n1_ := Aside0.mk (Kd.V_below (by (with_reducible repeat (first | apply Kd.V_alloc | apply Kd.V_drewN | apply Kd.V_drew)); exact HO2.out) hb); have n2_ := Aside0.mk (below_step (by repeat (first | (with_reducible first | exact HB.out | apply below_alloc | apply pw_below_drewN | apply below_drew1) | exact HB.out)) hb); clear HO1; clear HO2; clear HB; have HO1 := n0_; have HO2 := n1_; have HB := n2_; clear n0_ n1_ n2_; (try clear hb); (try clear hb2); (try clear hk); (try clear hi))); try go_wp2_with (first | (go_at_call 32; (with_reducible refine (impl_EditsValid.calls k a0 _ _ l1 true _ ?side1 ?side2 A5.out).mono ?_); (case side1 => repeat (first | exact (Kd.V_reads' HO1.out).2.2 | (with_reducible refine Kd.C_alloc ?_ _) | (with_reducible refine Kd.C_drewN ?_ _) | (with_reducible refine Kd.C_drew ?_))); (case side2 => exact (Kd.V_reads' HO1.out).2.1); rintro e w8 ⟨rfl, hb⟩; have n0_ := Aside0.mk (Kd.V_below (by (with_reducible repeat (first | apply Kd.V_alloc | apply Kd.V_drewN | apply Kd.V_drew)); exact HO1.out) hb); have n1_ := Aside0.mk (Kd.V_below (by (with_reducible repeat (first | apply Kd.V_alloc | apply Kd.V_drewN | apply Kd.V_drew)); exact HO2.out) hb); have n2_ := Aside0.mk (below_step (by repeat (first | (with_reducible first | exact HB.out | apply below_alloc | apply pw_below_drewN | apply below_drew1) | exact HB.out)) hb); clear HO1; clear HO2; clear HB; have HO1 := n0_; have HO2 := n1_; have HB := n2_; clear n0_ n1_ n2_; (try clear hb); (try clear hb2); (try clear hk); (try clear hi)) | (go_at_call 32; (with_reducible refine (impl_EditsValid.calls k a0 _ _ l2 t513 _ ?side1 ?side2 A7.out).mono ?_); (case side1 => repeat (first | exact (Kd.V_reads' HO2.out).2.2 | (with_reducible refine Kd.C_alloc ?_ _) | (with_reducible refine Kd.C_drewN ?_ _) | (with_reducible refine Kd.C_drew ?_))); (case side2 => exact (Kd.V_reads' HO2.out).2.1); rintro e w9 ⟨rfl, hb⟩; have n0_ := Aside0.mk (Kd.V_below (by (with_reducible repeat (first | apply Kd.V_alloc | apply Kd.V_drewN | apply Kd.V_drew)); exact HO1.out) hb); have n1_ := Aside0.mk (Kd.V_below (by (with_reducible repeat (first | apply Kd.V_alloc | apply Kd.V_drewN | apply Kd.V_drew)); exact HO2.out) hb); have n2_ := Aside0.mk (below_step (by repeat (first | (with_reducible first | exact HB.out | apply below_alloc | apply pw_below_drewN | apply below_drew1) | exact HB.out)) hb); clear HO1; clear HO2; clear HB; have HO1 := n0_; have HO2 := n1_; have HB := n2_; clear n0_ n1_ n2_; (try clear hb); (try clear hb2); (try clear hk); (try clear hi))))
      go_meet
      case rel => exact ⟨_, (!t513), (by first | rfl | (simp; done) | (simp [*]; done)), H', ⟨by first | omega | exact Nat.le_refl _⟩, ⟨by (with_reducible repeat (first | apply Kd.V_alloc | apply Kd.V_drewN | apply Kd.V_drew)); exact HO1.out⟩, ⟨by (with_reducible repeat (first | apply Kd.V_alloc | apply Kd.V_drewN | apply Kd.V_drew)); exact HO2.out⟩, ⟨by repeat (first | (with_reducible first | exact HB.out | apply below_alloc | apply pw_below_drewN | apply below_drew1) | exact HB.out)⟩⟩
    · replace c6 := Bool.eq_false_iff.mpr c6
      subst c6
      have H1 : (impl_JoinEdits.j0 k a0 l1 l2 true) = some (r1, r2) := by rw [if_neg (show ¬ (false = true) by decide)] at H; exact H
      clear H
      have H := H1
      clear H1
      have H' := Aside0.mk H
      clear H
      go_wp2_with (first | (go_at_call 32; (with_reducible refine (impl_EditsValid.calls k a0 _ _ l1 false _ ?side1 ?side2 A5.out).mono ?_); (case side1 => repeat (first | exact (Kd.V_reads' HO1.out).2.2 | (with_reducible refine Kd.C_alloc ?_ _) | (with_reducible refine Kd.C_drewN ?_ _) | (with_reducible refine Kd.C_drew ?_))); (case side2 => exact (Kd.V_reads' HO1.out).2.1); rintro e w10 ⟨rfl, hb⟩; have n0_ := Aside0.mk (Kd.V_below (by (with_reducible repeat (first | apply Kd.V_alloc | apply Kd.V_drewN | apply Kd.V_drew)); exact HO1.out) hb); have n1_ := Aside0.mk (Kd.V_below (by (with_reducible repeat (first | apply Kd.V_alloc | apply Kd.V_drewN | apply Kd.V_drew)); exact HO2.out) hb); have n2_ := Aside0.mk (below_step (by repeat (first | (with_reducible first | exact HB.out | apply below_alloc | apply pw_below_drewN | apply below_drew1) | exact HB.out)) hb); clear HO1; clear HO2; clear HB; have HO1 := n0_; have HO2 := n1_; have HB := n2_; clear n0_ n1_ n2_; (try clear hb); (try clear hb2); (try clear hk); (try clear hi)))
      repeat (go_quiet (first | (go_at_call 32; (with_reducible refine (impl_EditsValid.calls k a0 _ _ l1 false _ ?side1 ?side2 A5.out).mono ?_); (case side1 => repeat (first | exact (Kd.V_reads' HO1.out).2.2 | (with_reducible refine Kd.C_alloc ?_ _) | (with_reducible refine Kd.C_drewN ?_ _) | (with_reducible refine Kd.C_drew ?_))); (case side2 => exact (Kd.V_reads' HO1.out).2.1); rintro e w10 ⟨rfl, hb⟩; have n0_ := Aside0.mk (Kd.V_below (by (with_reducible repeat (first | apply Kd.V_alloc | apply Kd.V_drewN | apply Kd.V_drew)); exact HO1.out) hb); have n1_ := Aside0.mk (Kd.V_below (by (with_reducible repeat (first | apply Kd.V_alloc | apply Kd.V_drewN | apply Kd.V_drew)); exact HO2.out) hb); have n2_ := Aside0.mk (below_step (by repeat (first | (with_reducible first | exact HB.out | apply below_alloc | apply pw_below_drewN | apply below_drew1) | exact HB.out)) hb); clear HO1; clear HO2; clear HB; have HO1 := n0_; have HO2 := n1_; have HB := n2_; clear n0_ n1_ n2_; (try clear hb); (try clear hb2); (try clear hk); (try clear hi))); try go_wp2_with (first | (go_at_call 32; (with_reducible refine (impl_EditsValid.calls k a0 _ _ l1 false _ ?side1 ?side2 A5.out).mono ?_); (case side1 => repeat (first | exact (Kd.V_reads' HO1.out).2.2 | (with_reducible refine Kd.C_alloc ?_ _) | (with_reducible refine Kd.C_drewN ?_ _) | (with_reducible refine Kd.C_drew ?_))); (case side2 => exact (Kd.V_reads' HO1.out).2.1); rintro e w10 ⟨rfl, hb⟩; have n0_ := Aside0.mk (Kd.V_below (by (with_reducible repeat (first | apply Kd.V_alloc | apply Kd.V_drewN | apply Kd.V_drew)); exact HO1.out) hb); have n1_ := Aside0.mk (Kd.V_below (by (with_reducible repeat (first | apply Kd.V_alloc | apply Kd.V_drewN | apply Kd.V_drew)); exact HO2.out) hb); have n2_ := Aside0.mk (below_step (by repeat (first | (with_reducible first | exact HB.out | apply below_alloc | apply pw_below_drewN | apply below_drew1) | exact HB.out)) hb); clear HO1; clear HO2; clear HB; have HO1 := n0_; have HO2 := n1_; have HB := n2_; clear n0_ n1_ n2_; (try clear hb); (try clear hb2); (try clear hk); (try clear hi))))
      go_meet
      case rel => exact ⟨_, (true), (by first | rfl | (simp; done) | (simp [*]; done)), H', ⟨by first | omega | exact Nat.le_refl _⟩, ⟨by (with_reducible repeat (first | apply Kd.V_alloc | apply Kd.V_drewN | apply Kd.V_drew)); exact HO1.out⟩, ⟨by (with_reducible repeat (first | apply Kd.V_alloc | apply Kd.V_drewN | apply Kd.V_drew)); exact HO2.out⟩, ⟨by repeat (first | (with_reducible first | exact HB.out | apply below_alloc | apply pw_below_drewN | apply below_drew1) | exact HB.out)⟩⟩
  case rest =>
    clear HC4
    try clear c1
    try clear c2
    try clear p2
    try clear c3
    try clear c6
    obtain ⟨kq, x18_3, rfl, HA, HJ3, HO_1, HO_2, HB⟩ := hcut
    cases kq with
    | zero => exact absurd HA.out (by simp [impl_JoinEdits.j0])
    | succ kj3 =>
      have H := HA.out
      clear HA
      simp only [impl_JoinEdits.j0] at H
      by_cases c11 : x18_3 = true
      · subst c11
        have H1 : (some (([] : List (S42)), false)) = some (r1, r2) := by rw [if_pos rfl] at H; exact H
        clear H
        have H := H1
        clear H1
        simp only [Option.some.injEq, Prod.mk.injEq] at H
        obtain ⟨rfl, rfl⟩ := H
        go_wp2
        repeat (go_quiet (fail); try go_wp2)
        go_ret2
        exact ⟨_, by first | rfl | (simp [errW_none, errW_some] <;> rfl) | (simp [*, errW_none, errW_some] <;> rfl), by first | exact Kd.R_nil _ _ _ _ _ | exact Kd.N_nil _ _ _ _ _ | exact Kd.V_nil _ _ _ _ _ | exact Kd.Q_nil _ _ _ _ _ | exact Kd.S_nil _ _ _ _ _, by repeat (first | (with_reducible first | exact HB.out | apply below_alloc | apply pw_below_drewN | apply below_drew1) | exact HB.out)⟩
      · replace c11 := Bool.eq_false_iff.mpr c11
        subst c11
        have H1 : (impl_JoinEdits.l0 kj3 a0 l1 l2 ([] : List (S42))) = some (r1, r2) := by rw [if_neg (show ¬ (false = true) by decide)] at H; exact H
        clear H
        have H := H1
        clear H1
        have H' := Aside0.mk H
        clear H
        go_wp2
        repeat (go_quiet (fail); try go_wp2)
        go_loopg [1, 2, 8] kj3 (fun kq v1 v2 v8 w' => ∃ (x1_2 : List (S42)) (x2_2 : List (S42)) (x8_2 : List (S42)), Aside0 (impl_JoinEdits.l0 kq a0 x1_2 x2_2 x8_2 = some (r1, r2)) ∧ Aside0 (kq ≤ kj3) ∧ Aside0 (Kd.V k42 42 w' w.heap.size (fun k_ => ((P1_ k_ ∨ P2_ k_) ∨ w.heap.size ≤ k_) ∧ some k_ ≠ (v8 : Value).ownBlock) v1 x1_2) ∧ Aside0 (Kd.V k42 42 w' w.heap.size (fun k_ => ((P1_ k_ ∨ P2_ k_) ∨ w.heap.size ≤ k_) ∧ some k_ ≠ (v8 : Value).ownBlock) v2 x2_2) ∧ Aside0 (Kd.R k42 42 w' w.heap.size (fun k_ => (w.heap.size ≤ k_)) v8 x8_2) ∧ Aside0 (Below w.heap.size w w'))
        case atStart => exact ⟨(l1), (l2), (([] : List (S42))), H', ⟨Nat.le_refl _⟩, ⟨by (with_reducible repeat (first | apply Kd.V_alloc | apply Kd.V_drewN | apply Kd.V_drew)); exact Kd.V_mono HO_1.out (fun _ hk => ⟨hk, (by simp [Value.ownBlock])⟩)⟩, ⟨by (with_reducible repeat (first | apply Kd.V_alloc | apply Kd.V_drewN | apply Kd.V_drew)); exact Kd.V_mono HO_2.out (fun _ hk => ⟨hk, (by simp [Value.ownBlock])⟩)⟩, ⟨by first | exact Kd.R_nil _ _ _ _ _ | exact Kd.N_nil _ _ _ _ _ | exact Kd.V_nil _ _ _ _ _ | exact Kd.Q_nil _ _ _ _ _ | exact Kd.S_nil _ _ _ _ _⟩, ⟨by repeat (first | (with_reducible first | exact HB.out | apply below_alloc | apply pw_below_drewN | apply below_drew1) | exact HB.out)⟩⟩
        case round =>
          clear H'
          try clear c1
          try clear c2
          try clear p2
          try clear c3
          try clear c6
          try clear c11
          try clear p2
          obtain ⟨x1_2, x2_2, x8_2, HA, HK2, HO_1, HO_2, HO_8, HB⟩ := hrel
          cases gk with
          | zero => exact absurd HA.out (by simp [impl_JoinEdits.l0])
          | succ k2 =>
            have H := HA.out
            clear HA
            simp only [impl_JoinEdits.l0] at H
            by_cases c12 : (wrap64 ((x1_2.length : Int) + (x2_2.length : Int))) > 0
            · rw [if_pos c12] at H
              have c12b0 : decide (0 < (wrap64 ((x1_2.length : Int) + (x2_2.length : Int)))) = true := decide_eq_true c12
              clear c12
              by_cases c13 : (x2_2.length : Int) = 0
              · rw [if_pos c13] at H
                have c13b0 : ((x2_2.length : Int) == 0) = true := beq_iff_eq.mpr c13
                have c13b1 : ((x2_2.length : Int) != 0) = false := bne_eq_false_iff_eq.mpr c13
                clear c13
                by_cases c14 : 0 < (x1_2.length : Int)
                · rw [if_pos c14] at H
                  have c14b0 : decide (0 < (x1_2.length : Int)) = true := decide_eq_true c14
                  have c14b1 : decide (0 < x1_2.length) = true := decide_eq_true (by omega)
                  clear c14
                  by_cases c15 : x8_2.length < 4398046511104
                  · rw [if_pos c15] at H
                    have LMc15 := Aside0.mk c15
                    clear c15
                    obtain ⟨y515, hy515⟩ : ∃ y_ : List (S42), y_ = (x8_2 ++ [(⟨(rd_T42 x1_2 0).f0, (rd_T42 x1_2 0).f1, (rd_T42 x1_2 0).f2⟩ : S42)]) := ⟨_, rfl⟩
                    replace H : (if 1 ≤ (x1_2.length : Int) then (impl_JoinEdits.l0 k2 a0 (x1_2.drop 1) x2_2 y515) else (none)) = some (r1, r2) := by first | (rw [hy515]; with_reducible exact H) | (have H2_ := (Option.bind_some _ _).symm.trans H; rw [hy515]; with_reducible exact H2_) | (have H2_ := (Option.bind_some _ _).symm.trans H; with_reducible exact H2_) | with_reducible exact H | (rw [hy515]; exact H) | exact H
                    have Ny515 := Aside0.mk hy515
                    clear hy515
                    by_cases c16 : 1 ≤ (x1_2.length : Int)
                    · rw [if_pos c16] at H
                      have c16b0 := eq_true c16
                      have c16b1 : decide (1 ≤ (x1_2.length : Int)) = true := decide_eq_true c16
                      clear c16
                      obtain ⟨y518, hy518⟩ : ∃ y_ : List (S42), y_ = (x1_2.drop 1) := ⟨_, rfl⟩
                      replace H : (impl_JoinEdits.l0 k2 a0 y518 x2_2 y515) = some (r1, r2) := by first | (rw [hy518]; with_reducible exact H) | (have H2_ := (Option.bind_some _ _).symm.trans H; rw [hy518]; with_reducible exact H2_) | (have H2_ := (Option.bind_some _ _).symm.trans H; with_reducible exact H2_) | with_reducible exact H | (rw [hy518]; exact H) | exact H
                      have Ny518 := Aside0.mk hy518
                      clear hy518
                      have H' := Aside0.mk H
                      clear H
                      obtain ⟨Ao17, co17, eo17⟩ := Kd.V_slice HO_1.out
                      subst eo17
                      obtain ⟨Ao18, co18, eo18⟩ := Kd.V_slice HO_2.out
                      subst eo18
                      have p514 : 0 ≤ (0 : Int) := (by omega)
                      have q514 : 0 < (x1_2.length : Int) := of_decide_eq_true (by first | (with_reducible assumption) | assumption)
                      obtain ⟨ad514, e514, hx514_0, hx514_1, hx514_2⟩ := at_T42 (Kd.V_reads' HO_1.out).2.2 0 p514 q514
                      cases e514
                      have qi514 : (0 < x1_2.length) = True := eq_true (by omega)
                      (try rw [show ((0 : Int)).toNat = 0 from rfl] at hx514_0)
                      (try rw [show 0 * 3 = 0 from rfl] at hx514_0)
                      (try rw [Addr.add_zero'] at hx514_0)
                      (try rw [show ((0 : Int)).toNat = 0 from rfl] at hx514_1)
                      (try rw [show 0 * 3 = 0 from rfl] at hx514_1)
                      (try rw [Addr.add_zero'] at hx514_1)
                      (try rw [show ((0 : Int)).toNat = 0 from rfl] at hx514_2)
                      (try rw [show 0 * 3 = 0 from rfl] at hx514_2)
                      (try rw [Addr.add_zero'] at hx514_2)
                      replace p514 := eq_true p514
                      replace q514 := eq_true q514
                      go_wp2_with (first | ((with_reducible refine gate_builtin (b := .append) (xs := #[.tmp 44, .tmp 48]) rfl ?_); (try (refine gate_guard (by rfl) ?_; dsimp only)); at_builtin; refine Kd.R_append k42 (w0 := w) w.heap.size rfl (.tmp 44) (.tmp 48) 35 42 (.agg #[(.int .i64 0), (.int .i64 0), (.string ⟨#[]⟩)]) 32 rfl Try.underlying35 info42 rfl (by decide) (by omega) u8 x8_2 (⟨(rd_T42 x1_2 0).f0, (rd_T42 x1_2 0).f1, (rd_T42 x1_2 0).f2⟩ : S42) [.int .i64 ((rd_T42 x1_2 0).f0), .int .i64 ((rd_T42 x1_2 0).f1), .string ((rd_T42 x1_2 0).f2)] (fun k_ => (w.heap.size ≤ k_)) (fun _ => False) rfl rfl ?aP (fun _ hk => hk.elim) ?aF ?aO ?aB ?aS ?aL ?_; (case aP => exact k42_mkM _ _ _ (⟨(rd_T42 x1_2 0).f0, (rd_T42 x1_2 0).f1, (rd_T42 x1_2 0).f2⟩ : S42)); (case aB => exact (by repeat (first | (with_reducible first | exact HB.out | apply below_alloc | apply pw_below_drewN | apply below_drew1) | exact HB.out))); (case aF => exact (fun k_ hk => (Nat.le_trans (below_size (by repeat (first | (with_reducible first | exact HB.out | apply below_alloc | apply pw_below_drewN | apply below_drew1) | exact HB.out))) hk))); (case aO => exact (by (with_reducible repeat (first | apply Kd.R_alloc | apply Kd.R_drewN | apply Kd.R_drew)); exact HO_8.out)); (case aS => exact (below_size (by repeat (first | (with_reducible first | exact HB.out | apply below_alloc | apply pw_below_drewN | apply below_drew1) | exact HB.out)))); (case aL => have := LMc15.out; omega); intro v516 w19 ho hb hg hat; rw [← Ny515.out] at ho; have n0_ := Aside0.mk (Kd.V_afterv (ok := (fun k_ => ((P1_ k_ ∨ P2_ k_) ∨ w.heap.size ≤ k_))) (by (with_reducible repeat (first | apply Kd.V_alloc | apply Kd.V_drewN | apply Kd.V_drew)); exact HO_1.out) hg hat); have n1_ := Aside0.mk (Kd.V_afterv (ok := (fun k_ => ((P1_ k_ ∨ P2_ k_) ∨ w.heap.size ≤ k_))) (by (with_reducible repeat (first | apply Kd.V_alloc | apply Kd.V_drewN | apply Kd.V_drew)); exact HO_2.out) hg hat); have n2_ := Aside0.mk (hb); have n3_ := Aside0.mk (ho); clear HO_1; clear HO_2; clear HB; clear HO_8; have HO_1 := n0_; have HO_2 := n1_; have HB := n2_; have HO517 := n3_; clear n0_ n1_ n2_ n3_; clear ho hb hg hat; have q20 : (1 : Int) ≤ ((x1_2.length : Int) : Int) := of_decide_eq_true (by first | (with_reducible assumption) | assumption); obtain ⟨i020, hi020, _, hsz20, _⟩ := info_parts info42; have hroom20 : x1_2.length ≤ co17 := (Kd.V_reads' HO_1.out).2.1; have hC20 : Kd.F k42 _ _ (some ad514) x1_2.length x1_2 := (Kd.V_at (base := w.heap.size) HO_1.out).2.2; have hcut20 := cut_from (P := Try.prog) 35 42 .i64 Try.underlying35 hi020 3 hsz20 (some ad514) x1_2.length co17 1 (by omega) q20; have hr20 := Kd.F_cut (m := (1 : Int).toNat) (c := co17) hC20 (by omega) hroom20; obtain ⟨A20, hA20⟩ : ∃ A1, A1 = (if co17 = (1 : Int).toNat then (some ad514) else ((some ad514) : Option Addr).map (·.add ((1 : Int).toNat * 3))) := ⟨_, rfl⟩; obtain ⟨c20, hc20⟩ : ∃ c1, c1 = co17 - (1 : Int).toNat := ⟨_, rfl⟩; have hy20 : y518.length = x1_2.length - (1 : Int).toNat := (by rw [Ny518.out, List.length_drop] <;> omega); rw [show (x1_2).drop (1 : Int).toNat = y518 from Ny518.out.symm] at hr20; replace hr20 : Kd.F k42 _ _ A20 y518.length y518 := (by rw [hA20]; exact hr20); rw [← hy20, ← hA20, ← hc20] at hcut20; have HO522 := Aside0.mk (show Kd.V k42 42 _ w.heap.size _ (.slice A20 y518.length c20) y518 from Kd.V_mk (by rw [hy20, hc20]; exact Nat.sub_le_sub_right hroom20 _) hr20); have HC522 := Aside0.mk (show y518.length ≤ c20 from by rw [hy20, hc20]; exact Nat.sub_le_sub_right hroom20 _); clear hr20 hC20 hroom20 hi020 hsz20 hc20; have KY20 := Aside0.mk hy20; have KA20 := Aside0.mk hA20; clear hy20 hA20; replace q20 := eq_true q20))
                      repeat (go_quiet (first | ((with_reducible refine gate_builtin (b := .append) (xs := #[.tmp 44, .tmp 48]) rfl ?_); (try (refine gate_guard (by rfl) ?_; dsimp only)); at_builtin; refine Kd.R_append k42 (w0 := w) w.heap.size rfl (.tmp 44) (.tmp 48) 35 42 (.agg #[(.int .i64 0), (.int .i64 0), (.string ⟨#[]⟩)]) 32 rfl Try.underlying35 info42 rfl (by decide) (by omega) u8 x8_2 (⟨(rd_T42 x1_2 0).f0, (rd_T42 x1_2 0).f1, (rd_T42 x1_2 0).f2⟩ : S42) [.int .i64 ((rd_T42 x1_2 0).f0), .int .i64 ((rd_T42 x1_2 0).f1), .string ((rd_T42 x1_2 0).f2)] (fun k_ => (w.heap.size ≤ k_)) (fun _ => False) rfl rfl ?aP (fun _ hk => hk.elim) ?aF ?aO ?aB ?aS ?aL ?_; (case aP => exact k42_mkM _ _ _ (⟨(rd_T42 x1_2 0).f0, (rd_T42 x1_2 0).f1, (rd_T42 x1_2 0).f2⟩ : S42)); (case aB => exact (by repeat (first | (with_reducible first | exact HB.out | apply below_alloc | apply pw_below_drewN | apply below_drew1) | exact HB.out))); (case aF => exact (fun k_ hk => (Nat.le_trans (below_size (by repeat (first | (with_reducible first | exact HB.out | apply below_alloc | apply pw_below_drewN | apply below_drew1) | exact HB.out))) hk))); (case aO => exact (by (with_reducible repeat (first | apply Kd.R_alloc | apply Kd.R_drewN | apply Kd.R_drew)); exact HO_8.out)); (case aS => exact (below_size (by repeat (first | (with_reducible first | exact HB.out | apply below_alloc | apply pw_below_drewN | apply below_drew1) | exact HB.out)))); (case aL => have := LMc15.out; omega); intro v516 w19 ho hb hg hat; rw [← Ny515.out] at ho; have n0_ := Aside0.mk (Kd.V_afterv (ok := (fun k_ => ((P1_ k_ ∨ P2_ k_) ∨ w.heap.size ≤ k_))) (by (with_reducible repeat (first | apply Kd.V_alloc | apply Kd.V_drewN | apply Kd.V_drew)); exact HO_1.out) hg hat); have n1_ := Aside0.mk (Kd.V_afterv (ok := (fun k_ => ((P1_ k_ ∨ P2_ k_) ∨ w.heap.size ≤ k_))) (by (with_reducible repeat (first | apply Kd.V_alloc | apply Kd.V_drewN | apply Kd.V_drew)); exact HO_2.out) hg hat); have n2_ := Aside0.mk (hb); have n3_ := Aside0.mk (ho); clear HO_1; clear HO_2; clear HB; clear HO_8; have HO_1 := n0_; have HO_2 := n1_; have HB := n2_; have HO517 := n3_; clear n0_ n1_ n2_ n3_; clear ho hb hg hat; have q20 : (1 : Int) ≤ ((x1_2.length : Int) : Int) := of_decide_eq_true (by first | (with_reducible assumption) | assumption); obtain ⟨i020, hi020, _, hsz20, _⟩ := info_parts info42; have hroom20 : x1_2.length ≤ co17 := (Kd.V_reads' HO_1.out).2.1; have hC20 : Kd.F k42 _ _ (some ad514) x1_2.length x1_2 := (Kd.V_at (base := w.heap.size) HO_1.out).2.2; have hcut20 := cut_from (P := Try.prog) 35 42 .i64 Try.underlying35 hi020 3 hsz20 (some ad514) x1_2.length co17 1 (by omega) q20; have hr20 := Kd.F_cut (m := (1 : Int).toNat) (c := co17) hC20 (by omega) hroom20; obtain ⟨A20, hA20⟩ : ∃ A1, A1 = (if co17 = (1 : Int).toNat then (some ad514) else ((some ad514) : Option Addr).map (·.add ((1 : Int).toNat * 3))) := ⟨_, rfl⟩; obtain ⟨c20, hc20⟩ : ∃ c1, c1 = co17 - (1 : Int).toNat := ⟨_, rfl⟩; have hy20 : y518.length = x1_2.length - (1 : Int).toNat := (by rw [Ny518.out, List.length_drop] <;> omega); rw [show (x1_2).drop (1 : Int).toNat = y518 from Ny518.out.symm] at hr20; replace hr20 : Kd.F k42 _ _ A20 y518.length y518 := (by rw [hA20]; exact hr20); rw [← hy20, ← hA20, ← hc20] at hcut20; have HO522 := Aside0.mk (show Kd.V k42 42 _ w.heap.size _ (.slice A20 y518.length c20) y518 from Kd.V_mk (by rw [hy20, hc20]; exact Nat.sub_le_sub_right hroom20 _) hr20); have HC522 := Aside0.mk (show y518.length ≤ c20 from by rw [hy20, hc20]; exact Nat.sub_le_sub_right hroom20 _); clear hr20 hC20 hroom20 hi020 hsz20 hc20; have KY20 := Aside0.mk hy20; have KA20 := Aside0.mk hA20; clear hy20 hA20; replace q20 := eq_true q20)); try go_wp2_with (first | ((with_reducible refine gate_builtin (b := .append) (xs := #[.tmp 44, .tmp 48]) rfl ?_); (try (refine gate_guard (by rfl) ?_; dsimp only)); at_builtin; refine Kd.R_append k42 (w0 := w) w.heap.size rfl (.tmp 44) (.tmp 48) 35 42 (.agg #[(.int .i64 0), (.int .i64 0), (.string ⟨#[]⟩)]) 32 rfl Try.underlying35 info42 rfl (by decide) (by omega) u8 x8_2 (⟨(rd_T42 x1_2 0).f0, (rd_T42 x1_2 0).f1, (rd_T42 x1_2 0).f2⟩ : S42) [.int .i64 ((rd_T42 x1_2 0).f0), .int .i64 ((rd_T42 x1_2 0).f1), .string ((rd_T42 x1_2 0).f2)] (fun k_ => (w.heap.size ≤ k_)) (fun _ => False) rfl rfl ?aP (fun _ hk => hk.elim) ?aF ?aO ?aB ?aS ?aL ?_; (case aP => exact k42_mkM _ _ _ (⟨(rd_T42 x1_2 0).f0, (rd_T42 x1_2 0).f1, (rd_T42 x1_2 0).f2⟩ : S42)); (case aB => exact (by repeat (first | (with_reducible first | exact HB.out | apply below_alloc | apply pw_below_drewN | apply below_drew1) | exact HB.out))); (case aF => exact (fun k_ hk => (Nat.le_trans (below_size (by repeat (first | (with_reducible first | exact HB.out | apply below_alloc | apply pw_below_drewN | apply below_drew1) | exact HB.out))) hk))); (case aO => exact (by (with_reducible repeat (first | apply Kd.R_alloc | apply Kd.R_drewN | apply Kd.R_drew)); exact HO_8.out)); (case aS => exact (below_size (by repeat (first | (with_reducible first | exact HB.out | apply below_alloc | apply pw_below_drewN | apply below_drew1) | exact HB.out)))); (case aL => have := LMc15.out; omega); intro v516 w19 ho hb hg hat; rw [← Ny515.out] at ho; have n0_ := Aside0.mk (Kd.V_afterv (ok := (fun k_ => ((P1_ k_ ∨ P2_ k_) ∨ w.heap.size ≤ k_))) (by (with_reducible repeat (first | apply Kd.V_alloc | apply Kd.V_drewN | apply Kd.V_drew)); exact HO_1.out) hg hat); have n1_ := Aside0.mk (Kd.V_afterv (ok := (fun k_ => ((P1_ k_ ∨ P2_ k_) ∨ w.heap.size ≤ k_))) (by (with_reducible repeat (first | apply Kd.V_alloc | apply Kd.V_drewN | apply Kd.V_drew)); exact HO_2.out) hg hat); have n2_ := Aside0.mk (hb); have n3_ := Aside0.mk (ho); clear HO_1; clear HO_2; clear HB; clear HO_8; have HO_1 := n0_; have HO_2 := n1_; have HB := n2_; have HO517 := n3_; clear n0_ n1_ n2_ n3_; clear ho hb hg hat; have q20 : (1 : Int) ≤ ((x1_2.length : Int) : Int) := of_decide_eq_true (by first | (with_reducible assumption) | assumption); obtain ⟨i020, hi020, _, hsz20, _⟩ := info_parts info42; have hroom20 : x1_2.length ≤ co17 := (Kd.V_reads' HO_1.out).2.1; have hC20 : Kd.F k42 _ _ (some ad514) x1_2.length x1_2 := (Kd.V_at (base := w.heap.size) HO_1.out).2.2; have hcut20 := cut_from (P := Try.prog) 35 42 .i64 Try.underlying35 hi020 3 hsz20 (some ad514) x1_2.length co17 1 (by omega) q20; have hr20 := Kd.F_cut (m := (1 : Int).toNat) (c := co17) hC20 (by omega) hroom20; obtain ⟨A20, hA20⟩ : ∃ A1, A1 = (if co17 = (1 : Int).toNat then (some ad514) else ((some ad514) : Option Addr).map (·.add ((1 : Int).toNat * 3))) := ⟨_, rfl⟩; obtain ⟨c20, hc20⟩ : ∃ c1, c1 = co17 - (1 : Int).toNat := ⟨_, rfl⟩; have hy20 : y518.length = x1_2.length - (1 : Int).toNat := (by rw [Ny518.out, List.length_drop] <;> omega); rw [show (x1_2).drop (1 : Int).toNat = y518 from Ny518.out.symm] at hr20; replace hr20 : Kd.F k42 _ _ A20 y518.length y518 := (by rw [hA20]; exact hr20); rw [← hy20, ← hA20, ← hc20] at hcut20; have HO522 := Aside0.mk (show Kd.V k42 42 _ w.heap.size _ (.slice A20 y518.length c20) y518 from Kd.V_mk (by rw [hy20, hc20]; exact Nat.sub_le_sub_right hroom20 _) hr20); have HC522 := Aside0.mk (show y518.length ≤ c20 from by rw [hy20, hc20]; exact Nat.sub_le_sub_right hroom20 _); clear hr20 hC20 hroom20 hi020 hsz20 hc20; have KY20 := Aside0.mk hy20; have KA20 := Aside0.mk hA20; clear hy20 hA20; replace q20 := eq_true q20)))
                      go_roundg k2
                      case measure => have := HJ3.out; have := HK2.out; omega
                      case rel => exact ⟨(y518), (x2_2), (y515), H', ⟨by have := HJ3.out; have := HK2.out; omega⟩, ⟨by (with_reducible repeat (first | apply Kd.V_alloc | apply Kd.V_drewN | apply Kd.V_drew)); exact HO522.out⟩, ⟨by (with_reducible repeat (first | apply Kd.V_alloc | apply Kd.V_drewN | apply Kd.V_drew)); exact HO_2.out⟩, ⟨by (with_reducible repeat (first | apply Kd.R_alloc | apply Kd.R_drewN | apply Kd.R_drew)); exact HO517.out⟩, ⟨by repeat (first | (with_reducible first | exact HB.out | apply below_alloc | apply pw_below_drewN | apply below_drew1) | exact HB.out)⟩⟩
                    · rw [if_neg c16] at H
                      exact absurd H (by simp)
                  · rw [if_neg c15] at H
                    exact absurd H (by simp)
                · rw [if_neg c14] at H
                  exact absurd H (by simp)
              · rw [if_neg c13] at H
                have c13b0 : ((x2_2.length : Int) == 0) = false := beq_eq_false_iff_ne.mpr c13
                have c13b1 : ((x2_2.length : Int) != 0) = true := bne_iff_ne.mpr c13
                have c13b2 : ¬ (x2_2 = []) := fun h_ => c13 (by rw [h_]; rfl)
                by_cases c21 : (x1_2.length : Int) > 0
                · rw [if_pos c21] at H
                  have c21b0 : decide (0 < (x1_2.length : Int)) = true := decide_eq_true c21
                  have c21b1 : decide (0 < x1_2.length) = true := decide_eq_true (by omega)
                  clear c21
                  by_cases c22 : 0 < (x1_2.length : Int)
                  · rw [if_pos c22] at H
                    have c22b0 : decide (0 < (x1_2.length : Int)) = true := decide_eq_true c22
                    have c22b1 : decide (0 < x1_2.length) = true := decide_eq_true (by omega)
                    clear c22
                    by_cases c23 : 0 < (x2_2.length : Int)
                    · rw [if_pos c23] at H
                      have c23b0 : decide (0 < (x2_2.length : Int)) = true := decide_eq_true c23
                      have c23b1 : decide (0 < x2_2.length) = true := decide_eq_true (by omega)
                      clear c23
                      by_cases c24 : ((rd_T42 x1_2 0).f0) ≤ ((rd_T42 x2_2 0).f0)
                      · rw [if_pos c24] at H
                        have c24b0 : decide (((rd_T42 x1_2 0).f0) ≤ ((rd_T42 x2_2 0).f0)) = true := decide_eq_true c24
                        clear c24
                        by_cases c25 : x8_2.length < 4398046511104
                        · rw [if_pos c25] at H
                          have LMc25 := Aside0.mk c25
                          clear c25
                          obtain ⟨y526, hy526⟩ : ∃ y_ : List (S42), y_ = (x8_2 ++ [(⟨(rd_T42 x1_2 0).f0, (rd_T42 x1_2 0).f1, (rd_T42 x1_2 0).f2⟩ : S42)]) := ⟨_, rfl⟩
                          replace H : (if 1 ≤ (x1_2.length : Int) then (impl_JoinEdits.l0 k2 a0 (x1_2.drop 1) x2_2 y526) else (none)) = some (r1, r2) := by first | (rw [hy526]; with_reducible exact H) | (have H2_ := (Option.bind_some _ _).symm.trans H; rw [hy526]; with_reducible exact H2_) | (have H2_ := (Option.bind_some _ _).symm.trans H; with_reducible exact H2_) | with_reducible exact H | (rw [hy526]; exact H) | exact H
                          have Ny526 := Aside0.mk hy526
                          clear hy526
                          by_cases c26 : 1 ≤ (x1_2.length : Int)
                          · rw [if_pos c26] at H
                            have c26b0 := eq_true c26
                            have c26b1 : decide (1 ≤ (x1_2.length : Int)) = true := decide_eq_true c26
                            clear c26
                            obtain ⟨y529, hy529⟩ : ∃ y_ : List (S42), y_ = (x1_2.drop 1) := ⟨_, rfl⟩
                            replace H : (impl_JoinEdits.l0 k2 a0 y529 x2_2 y526) = some (r1, r2) := by first | (rw [hy529]; with_reducible exact H) | (have H2_ := (Option.bind_some _ _).symm.trans H; rw [hy529]; with_reducible exact H2_) | (have H2_ := (Option.bind_some _ _).symm.trans H; with_reducible exact H2_) | with_reducible exact H | (rw [hy529]; exact H) | exact H
                            have Ny529 := Aside0.mk hy529
                            clear hy529
                            have H' := Aside0.mk H
                            clear H
                            obtain ⟨Ao27, co27, eo27⟩ := Kd.V_slice HO_1.out
                            subst eo27
                            obtain ⟨Ao28, co28, eo28⟩ := Kd.V_slice HO_2.out
                            subst eo28
                            have p523 : 0 ≤ (0 : Int) := (by omega)
                            have q523 : 0 < (x1_2.length : Int) := of_decide_eq_true (by first | (with_reducible assumption) | assumption)
                            obtain ⟨ad523, e523, hx523_0, hx523_1, hx523_2⟩ := at_T42 (Kd.V_reads' HO_1.out).2.2 0 p523 q523
                            cases e523
                            have qi523 : (0 < x1_2.length) = True := eq_true (by omega)
                            (try rw [show ((0 : Int)).toNat = 0 from rfl] at hx523_0)
                            (try rw [show 0 * 3 = 0 from rfl] at hx523_0)
                            (try rw [Addr.add_zero'] at hx523_0)
                            (try rw [show ((0 : Int)).toNat = 0 from rfl] at hx523_1)
                            (try rw [show 0 * 3 = 0 from rfl] at hx523_1)
                            (try rw [Addr.add_zero'] at hx523_1)
                            (try rw [show ((0 : Int)).toNat = 0 from rfl] at hx523_2)
                            (try rw [show 0 * 3 = 0 from rfl] at hx523_2)
                            (try rw [Addr.add_zero'] at hx523_2)
                            replace p523 := eq_true p523
                            replace q523 := eq_true q523
                            have p524 : 0 ≤ (0 : Int) := (by omega)
                            have q524 : 0 < (x2_2.length : Int) := of_decide_eq_true (by first | (with_reducible assumption) | assumption)
                            obtain ⟨ad524, e524, hx524_0, hx524_1, hx524_2⟩ := at_T42 (Kd.V_reads' HO_2.out).2.2 0 p524 q524
                            cases e524
                            have qi524 : (0 < x2_2.length) = True := eq_true (by omega)
                            (try rw [show ((0 : Int)).toNat = 0 from rfl] at hx524_0)
                            (try rw [show 0 * 3 = 0 from rfl] at hx524_0)
                            (try rw [Addr.add_zero'] at hx524_0)
                            (try rw [show ((0 : Int)).toNat = 0 from rfl] at hx524_1)
                            (try rw [show 0 * 3 = 0 from rfl] at hx524_1)
                            (try rw [Addr.add_zero'] at hx524_1)
                            (try rw [show ((0 : Int)).toNat = 0 from rfl] at hx524_2)
                            (try rw [show 0 * 3 = 0 from rfl] at hx524_2)
                            (try rw [Addr.add_zero'] at hx524_2)
                            replace p524 := eq_true p524
                            replace q524 := eq_true q524
                            have p525 : 0 ≤ (0 : Int) := (by omega)
                            have q525 : 0 < (x1_2.length : Int) := of_decide_eq_true (by first | (with_reducible assumption) | assumption)
                            obtain ⟨ad525, e525, hx525_0, hx525_1, hx525_2⟩ := at_T42 (Kd.V_reads' HO_1.out).2.2 0 p525 q525
                            obtain rfl : ad523 = ad525 := (by injection e525)
                            have qi525 : (0 < x1_2.length) = True := eq_true (by omega)
                            (try rw [show ((0 : Int)).toNat = 0 from rfl] at hx525_0)
                            (try rw [show 0 * 3 = 0 from rfl] at hx525_0)
                            (try rw [Addr.add_zero'] at hx525_0)
                            (try rw [show ((0 : Int)).toNat = 0 from rfl] at hx525_1)
                            (try rw [show 0 * 3 = 0 from rfl] at hx525_1)
                            (try rw [Addr.add_zero'] at hx525_1)
                            (try rw [show ((0 : Int)).toNat = 0 from rfl] at hx525_2)
                            (try rw [show 0 * 3 = 0 from rfl] at hx525_2)
                            (try rw [Addr.add_zero'] at hx525_2)
                            replace p525 := eq_true p525
                            replace q525 := eq_true q525
                            go_wp2_with (first | ((with_reducible refine gate_builtin (b := .append) (xs := #[.tmp 44, .tmp 48]) rfl ?_); (try (refine gate_guard (by rfl) ?_; dsimp only)); at_builtin; refine Kd.R_append k42 (w0 := w) w.heap.size rfl (.tmp 44) (.tmp 48) 35 42 (.agg #[(.int .i64 0), (.int .i64 0), (.string ⟨#[]⟩)]) 32 rfl Try.underlying35 info42 rfl (by decide) (by omega) u8 x8_2 (⟨(rd_T42 x1_2 0).f0, (rd_T42 x1_2 0).f1, (rd_T42 x1_2 0).f2⟩ : S42) [.int .i64 ((rd_T42 x1_2 0).f0), .int .i64 ((rd_T42 x1_2 0).f1), .string ((rd_T42 x1_2 0).f2)] (fun k_ => (w.heap.size ≤ k_)) (fun _ => False) rfl rfl ?aP (fun _ hk => hk.elim) ?aF ?aO ?aB ?aS ?aL ?_; (case aP => exact k42_mkM _ _ _ (⟨(rd_T42 x1_2 0).f0, (rd_T42 x1_2 0).f1, (rd_T42 x1_2 0).f2⟩ : S42)); (case aB => exact (by repeat (first | (with_reducible first | exact HB.out | apply below_alloc | apply pw_below_drewN | apply below_drew1) | exact HB.out))); (case aF => exact (fun k_ hk => (Nat.le_trans (below_size (by repeat (first | (with_reducible first | exact HB.out | apply below_alloc | apply pw_below_drewN | apply below_drew1) | exact HB.out))) hk))); (case aO => exact (by (with_reducible repeat (first | apply Kd.R_alloc | apply Kd.R_drewN | apply Kd.R_drew)); exact HO_8.out)); (case aS => exact (below_size (by repeat (first | (with_reducible first | exact HB.out | apply below_alloc | apply pw_below_drewN | apply below_drew1) | exact HB.out)))); (case aL => have := LMc25.out; omega); intro v527 w29 ho hb hg hat; rw [← Ny526.out] at ho; have n0_ := Aside0.mk (Kd.V_afterv (ok := (fun k_ => ((P1_ k_ ∨ P2_ k_) ∨ w.heap.size ≤ k_))) (by (with_reducible repeat (first | apply Kd.V_alloc | apply Kd.V_drewN | apply Kd.V_drew)); exact HO_1.out) hg hat); have n1_ := Aside0.mk (Kd.V_afterv (ok := (fun k_ => ((P1_ k_ ∨ P2_ k_) ∨ w.heap.size ≤ k_))) (by (with_reducible repeat (first | apply Kd.V_alloc | apply Kd.V_drewN | apply Kd.V_drew)); exact HO_2.out) hg hat); have n2_ := Aside0.mk (hb); have n3_ := Aside0.mk (ho); clear HO_1; clear HO_2; clear HB; clear HO_8; have HO_1 := n0_; have HO_2 := n1_; have HB := n2_; have HO528 := n3_; clear n0_ n1_ n2_ n3_; clear ho hb hg hat; have q30 : (1 : Int) ≤ ((x1_2.length : Int) : Int) := of_decide_eq_true (by first | (with_reducible assumption) | assumption); obtain ⟨i030, hi030, _, hsz30, _⟩ := info_parts info42; have hroom30 : x1_2.length ≤ co27 := (Kd.V_reads' HO_1.out).2.1; have hC30 : Kd.F k42 _ _ (some ad523) x1_2.length x1_2 := (Kd.V_at (base := w.heap.size) HO_1.out).2.2; have hcut30 := cut_from (P := Try.prog) 35 42 .i64 Try.underlying35 hi030 3 hsz30 (some ad523) x1_2.length co27 1 (by omega) q30; have hr30 := Kd.F_cut (m := (1 : Int).toNat) (c := co27) hC30 (by omega) hroom30; obtain ⟨A30, hA30⟩ : ∃ A1, A1 = (if co27 = (1 : Int).toNat then (some ad523) else ((some ad523) : Option Addr).map (·.add ((1 : Int).toNat * 3))) := ⟨_, rfl⟩; obtain ⟨c30, hc30⟩ : ∃ c1, c1 = co27 - (1 : Int).toNat := ⟨_, rfl⟩; have hy30 : y529.length = x1_2.length - (1 : Int).toNat := (by rw [Ny529.out, List.length_drop] <;> omega); rw [show (x1_2).drop (1 : Int).toNat = y529 from Ny529.out.symm] at hr30; replace hr30 : Kd.F k42 _ _ A30 y529.length y529 := (by rw [hA30]; exact hr30); rw [← hy30, ← hA30, ← hc30] at hcut30; have HO533 := Aside0.mk (show Kd.V k42 42 _ w.heap.size _ (.slice A30 y529.length c30) y529 from Kd.V_mk (by rw [hy30, hc30]; exact Nat.sub_le_sub_right hroom30 _) hr30); have HC533 := Aside0.mk (show y529.length ≤ c30 from by rw [hy30, hc30]; exact Nat.sub_le_sub_right hroom30 _); clear hr30 hC30 hroom30 hi030 hsz30 hc30; have KY30 := Aside0.mk hy30; have KA30 := Aside0.mk hA30; clear hy30 hA30; replace q30 := eq_true q30))
                            repeat (go_quiet (first | ((with_reducible refine gate_builtin (b := .append) (xs := #[.tmp 44, .tmp 48]) rfl ?_); (try (refine gate_guard (by rfl) ?_; dsimp only)); at_builtin; refine Kd.R_append k42 (w0 := w) w.heap.size rfl (.tmp 44) (.tmp 48) 35 42 (.agg #[(.int .i64 0), (.int .i64 0), (.string ⟨#[]⟩)]) 32 rfl Try.underlying35 info42 rfl (by decide) (by omega) u8 x8_2 (⟨(rd_T42 x1_2 0).f0, (rd_T42 x1_2 0).f1, (rd_T42 x1_2 0).f2⟩ : S42) [.int .i64 ((rd_T42 x1_2 0).f0), .int .i64 ((rd_T42 x1_2 0).f1), .string ((rd_T42 x1_2 0).f2)] (fun k_ => (w.heap.size ≤ k_)) (fun _ => False) rfl rfl ?aP (fun _ hk => hk.elim) ?aF ?aO ?aB ?aS ?aL ?_; (case aP => exact k42_mkM _ _ _ (⟨(rd_T42 x1_2 0).f0, (rd_T42 x1_2 0).f1, (rd_T42 x1_2 0).f2⟩ : S42)); (case aB => exact (by repeat (first | (with_reducible first | exact HB.out | apply below_alloc | apply pw_below_drewN | apply below_drew1) | exact HB.out))); (case aF => exact (fun k_ hk => (Nat.le_trans (below_size (by repeat (first | (with_reducible first | exact HB.out | apply below_alloc | apply pw_below_drewN | apply below_drew1) | exact HB.out))) hk))); (case aO => exact (by (with_reducible repeat (first | apply Kd.R_alloc | apply Kd.R_drewN | apply Kd.R_drew)); exact HO_8.out)); (case aS => exact (below_size (by repeat (first | (with_reducible first | exact HB.out | apply below_alloc | apply pw_below_drewN | apply below_drew1) | exact HB.out)))); (case aL => have := LMc25.out; omega); intro v527 w29 ho hb hg hat; rw [← Ny526.out] at ho; have n0_ := Aside0.mk (Kd.V_afterv (ok := (fun k_ => ((P1_ k_ ∨ P2_ k_) ∨ w.heap.size ≤ k_))) (by (with_reducible repeat (first | apply Kd.V_alloc | apply Kd.V_drewN | apply Kd.V_drew)); exact HO_1.out) hg hat); have n1_ := Aside0.mk (Kd.V_afterv (ok := (fun k_ => ((P1_ k_ ∨ P2_ k_) ∨ w.heap.size ≤ k_))) (by (with_reducible repeat (first | apply Kd.V_alloc | apply Kd.V_drewN | apply Kd.V_drew)); exact HO_2.out) hg hat); have n2_ := Aside0.mk (hb); have n3_ := Aside0.mk (ho); clear HO_1; clear HO_2; clear HB; clear HO_8; have HO_1 := n0_; have HO_2 := n1_; have HB := n2_; have HO528 := n3_; clear n0_ n1_ n2_ n3_; clear ho hb hg hat; have q30 : (1 : Int) ≤ ((x1_2.length : Int) : Int) := of_decide_eq_true (by first | (with_reducible assumption) | assumption); obtain ⟨i030, hi030, _, hsz30, _⟩ := info_parts info42; have hroom30 : x1_2.length ≤ co27 := (Kd.V_reads' HO_1.out).2.1; have hC30 : Kd.F k42 _ _ (some ad523) x1_2.length x1_2 := (Kd.V_at (base := w.heap.size) HO_1.out).2.2; have hcut30 := cut_from (P := Try.prog) 35 42 .i64 Try.underlying35 hi030 3 hsz30 (some ad523) x1_2.length co27 1 (by omega) q30; have hr30 := Kd.F_cut (m := (1 : Int).toNat) (c := co27) hC30 (by omega) hroom30; obtain ⟨A30, hA30⟩ : ∃ A1, A1 = (if co27 = (1 : Int).toNat then (some ad523) else ((some ad523) : Option Addr).map (·.add ((1 : Int).toNat * 3))) := ⟨_, rfl⟩; obtain ⟨c30, hc30⟩ : ∃ c1, c1 = co27 - (1 : Int).toNat := ⟨_, rfl⟩; have hy30 : y529.length = x1_2.length - (1 : Int).toNat := (by rw [Ny529.out, List.length_drop] <;> omega); rw [show (x1_2).drop (1 : Int).toNat = y529 from Ny529.out.symm] at hr30; replace hr30 : Kd.F k42 _ _ A30 y529.length y529 := (by rw [hA30]; exact hr30); rw [← hy30, ← hA30, ← hc30] at hcut30; have HO533 := Aside0.mk (show Kd.V k42 42 _ w.heap.size _ (.slice A30 y529.length c30) y529 from Kd.V_mk (by rw [hy30, hc30]; exact Nat.sub_le_sub_right hroom30 _) hr30); have HC533 := Aside0.mk (show y529.length ≤ c30 from by rw [hy30, hc30]; exact Nat.sub_le_sub_right hroom30 _); clear hr30 hC30 hroom30 hi030 hsz30 hc30; have KY30 := Aside0.mk hy30; have KA30 := Aside0.mk hA30; clear hy30 hA30; replace q30 := eq_true q30)); try go_wp2_with (first | ((with_reducible refine gate_builtin (b := .append) (xs := #[.tmp 44, .tmp 48]) rfl ?_); (try (refine gate_guard (by rfl) ?_; dsimp only)); at_builtin; refine Kd.R_append k42 (w0 := w) w.heap.size rfl (.tmp 44) (.tmp 48) 35 42 (.agg #[(.int .i64 0), (.int .i64 0), (.string ⟨#[]⟩)]) 32 rfl Try.underlying35 info42 rfl (by decide) (by omega) u8 x8_2 (⟨(rd_T42 x1_2 0).f0, (rd_T42 x1_2 0).f1, (rd_T42 x1_2 0).f2⟩ : S42) [.int .i64 ((rd_T42 x1_2 0).f0), .int .i64 ((rd_T42 x1_2 0).f1), .string ((rd_T42 x1_2 0).f2)] (fun k_ => (w.heap.size ≤ k_)) (fun _ => False) rfl rfl ?aP (fun _ hk => hk.elim) ?aF ?aO ?aB ?aS ?aL ?_; (case aP => exact k42_mkM _ _ _ (⟨(rd_T42 x1_2 0).f0, (rd_T42 x1_2 0).f1, (rd_T42 x1_2 0).f2⟩ : S42)); (case aB => exact (by repeat (first | (with_reducible first | exact HB.out | apply below_alloc | apply pw_below_drewN | apply below_drew1) | exact HB.out))); (case aF => exact (fun k_ hk => (Nat.le_trans (below_size (by repeat (first | (with_reducible first | exact HB.out | apply below_alloc | apply pw_below_drewN | apply below_drew1) | exact HB.out))) hk))); (case aO => exact (by (with_reducible repeat (first | apply Kd.R_alloc | apply Kd.R_drewN | apply Kd.R_drew)); exact HO_8.out)); (case aS => exact (below_size (by repeat (first | (with_reducible first | exact HB.out | apply below_alloc | apply pw_below_drewN | apply below_drew1) | exact HB.out)))); (case aL => have := LMc25.out; omega); intro v527 w29 ho hb hg hat; rw [← Ny526.out] at ho; have n0_ := Aside0.mk (Kd.V_afterv (ok := (fun k_ => ((P1_ k_ ∨ P2_ k_) ∨ w.heap.size ≤ k_))) (by (with_reducible repeat (first | apply Kd.V_alloc | apply Kd.V_drewN | apply Kd.V_drew)); exact HO_1.out) hg hat); have n1_ := Aside0.mk (Kd.V_afterv (ok := (fun k_ => ((P1_ k_ ∨ P2_ k_) ∨ w.heap.size ≤ k_))) (by (with_reducible repeat (first | apply Kd.V_alloc | apply Kd.V_drewN | apply Kd.V_drew)); exact HO_2.out) hg hat); have n2_ := Aside0.mk (hb); have n3_ := Aside0.mk (ho); clear HO_1; clear HO_2; clear HB; clear HO_8; have HO_1 := n0_; have HO_2 := n1_; have HB := n2_; have HO528 := n3_; clear n0_ n1_ n2_ n3_; clear ho hb hg hat; have q30 : (1 : Int) ≤ ((x1_2.length : Int) : Int) := of_decide_eq_true (by first | (with_reducible assumption) | assumption); obtain ⟨i030, hi030, _, hsz30, _⟩ := info_parts info42; have hroom30 : x1_2.length ≤ co27 := (Kd.V_reads' HO_1.out).2.1; have hC30 : Kd.F k42 _ _ (some ad523) x1_2.length x1_2 := (Kd.V_at (base := w.heap.size) HO_1.out).2.2; have hcut30 := cut_from (P := Try.prog) 35 42 .i64 Try.underlying35 hi030 3 hsz30 (some ad523) x1_2.length co27 1 (by omega) q30; have hr30 := Kd.F_cut (m := (1 : Int).toNat) (c := co27) hC30 (by omega) hroom30; obtain ⟨A30, hA30⟩ : ∃ A1, A1 = (if co27 = (1 : Int).toNat then (some ad523) else ((some ad523) : Option Addr).map (·.add ((1 : Int).toNat * 3))) := ⟨_, rfl⟩; obtain ⟨c30, hc30⟩ : ∃ c1, c1 = co27 - (1 : Int).toNat := ⟨_, rfl⟩; have hy30 : y529.length = x1_2.length - (1 : Int).toNat := (by rw [Ny529.out, List.length_drop] <;> omega); rw [show (x1_2).drop (1 : Int).toNat = y529 from Ny529.out.symm] at hr30; replace hr30 : Kd.F k42 _ _ A30 y529.length y529 := (by rw [hA30]; exact hr30); rw [← hy30, ← hA30, ← hc30] at hcut30; have HO533 := Aside0.mk (show Kd.V k42 42 _ w.heap.size _ (.slice A30 y529.length c30) y529 from Kd.V_mk (by rw [hy30, hc30]; exact Nat.sub_le_sub_right hroom30 _) hr30); have HC533 := Aside0.mk (show y529.length ≤ c30 from by rw [hy30, hc30]; exact Nat.sub_le_sub_right hroom30 _); clear hr30 hC30 hroom30 hi030 hsz30 hc30; have KY30 := Aside0.mk hy30; have KA30 := Aside0.mk hA30; clear hy30 hA30; replace q30 := eq_true q30)))
                            go_roundg k2
                            case measure => have := HJ3.out; have := HK2.out; omega
                            case rel => exact ⟨(y529), (x2_2), (y526), H', ⟨by have := HJ3.out; have := HK2.out; omega⟩, ⟨by (with_reducible repeat (first | apply Kd.V_alloc | apply Kd.V_drewN | apply Kd.V_drew)); exact HO533.out⟩, ⟨by (with_reducible repeat (first | apply Kd.V_alloc | apply Kd.V_drewN | apply Kd.V_drew)); exact HO_2.out⟩, ⟨by (with_reducible repeat (first | apply Kd.R_alloc | apply Kd.R_drewN | apply Kd.R_drew)); exact HO528.out⟩, ⟨by repeat (first | (with_reducible first | exact HB.out | apply below_alloc | apply pw_below_drewN | apply below_drew1) | exact HB.out)⟩⟩
                          · rw [if_neg c26] at H
                            exact absurd H (by simp)
                        · rw [if_neg c25] at H
                          exact absurd H (by simp)
                      · rw [if_neg c24] at H
                        have c24b0 : decide (((rd_T42 x1_2 0).f0) ≤ ((rd_T42 x2_2 0).f0)) = false := decide_eq_false c24
                        clear c24
                        by_cases c31 : x8_2.length < 4398046511104
                        · rw [if_pos c31] at H
                          have LMc31 := Aside0.mk c31
                          clear c31
                          obtain ⟨y535, hy535⟩ : ∃ y_ : List (S42), y_ = (x8_2 ++ [(⟨(rd_T42 x2_2 0).f0, (rd_T42 x2_2 0).f1, (rd_T42 x2_2 0).f2⟩ : S42)]) := ⟨_, rfl⟩
                          replace H : (if 1 ≤ (x2_2.length : Int) then (impl_JoinEdits.l0 k2 a0 x1_2 (x2_2.drop 1) y535) else (none)) = some (r1, r2) := by first | (rw [hy535]; with_reducible exact H) | (have H2_ := (Option.bind_some _ _).symm.trans H; rw [hy535]; with_reducible exact H2_) | (have H2_ := (Option.bind_some _ _).symm.trans H; with_reducible exact H2_) | with_reducible exact H | (rw [hy535]; exact H) | exact H
                          have Ny535 := Aside0.mk hy535
                          clear hy535
                          by_cases c32 : 1 ≤ (x2_2.length : Int)
                          · rw [if_pos c32] at H
                            have c32b0 := eq_true c32
                            have c32b1 : decide (1 ≤ (x2_2.length : Int)) = true := decide_eq_true c32
                            clear c32
                            obtain ⟨y538, hy538⟩ : ∃ y_ : List (S42), y_ = (x2_2.drop 1) := ⟨_, rfl⟩
                            replace H : (impl_JoinEdits.l0 k2 a0 x1_2 y538 y535) = some (r1, r2) := by first | (rw [hy538]; with_reducible exact H) | (have H2_ := (Option.bind_some _ _).symm.trans H; rw [hy538]; with_reducible exact H2_) | (have H2_ := (Option.bind_some _ _).symm.trans H; with_reducible exact H2_) | with_reducible exact H | (rw [hy538]; exact H) | exact H
                            have Ny538 := Aside0.mk hy538
                            clear hy538
                            have H' := Aside0.mk H
                            clear H
                            obtain ⟨Ao33, co33, eo33⟩ := Kd.V_slice HO_1.out
                            subst eo33
                            obtain ⟨Ao34, co34, eo34⟩ := Kd.V_slice HO_2.out
                            subst eo34
                            have p523 : 0 ≤ (0 : Int) := (by omega)
                            have q523 : 0 < (x1_2.length : Int) := of_decide_eq_true (by first | (with_reducible assumption) | assumption)
                            obtain ⟨ad523, e523, hx523_0, hx523_1, hx523_2⟩ := at_T42 (Kd.V_reads' HO_1.out).2.2 0 p523 q523
                            cases e523
                            have qi523 : (0 < x1_2.length) = True := eq_true (by omega)
                            (try rw [show ((0 : Int)).toNat = 0 from rfl] at hx523_0)
                            (try rw [show 0 * 3 = 0 from rfl] at hx523_0)
                            (try rw [Addr.add_zero'] at hx523_0)
                            (try rw [show ((0 : Int)).toNat = 0 from rfl] at hx523_1)
                            (try rw [show 0 * 3 = 0 from rfl] at hx523_1)
                            (try rw [Addr.add_zero'] at hx523_1)
                            (try rw [show ((0 : Int)).toNat = 0 from rfl] at hx523_2)
                            (try rw [show 0 * 3 = 0 from rfl] at hx523_2)
                            (try rw [Addr.add_zero'] at hx523_2)
                            replace p523 := eq_true p523
                            replace q523 := eq_true q523
                            have p524 : 0 ≤ (0 : Int) := (by omega)
                            have q524 : 0 < (x2_2.length : Int) := of_decide_eq_true (by first | (with_reducible assumption) | assumption)
                            obtain ⟨ad524, e524, hx524_0, hx524_1, hx524_2⟩ := at_T42 (Kd.V_reads' HO_2.out).2.2 0 p524 q524
                            cases e524
                            have qi524 : (0 < x2_2.length) = True := eq_true (by omega)
                            (try rw [show ((0 : Int)).toNat = 0 from rfl] at hx524_0)
                            (try rw [show 0 * 3 = 0 from rfl] at hx524_0)
                            (try rw [Addr.add_zero'] at hx524_0)
                            (try rw [show ((0 : Int)).toNat = 0 from rfl] at hx524_1)
                            (try rw [show 0 * 3 = 0 from rfl] at hx524_1)
                            (try rw [Addr.add_zero'] at hx524_1)
                            (try rw [show ((0 : Int)).toNat = 0 from rfl] at hx524_2)
                            (try rw [show 0 * 3 = 0 from rfl] at hx524_2)
                            (try rw [Addr.add_zero'] at hx524_2)
                            replace p524 := eq_true p524
                            replace q524 := eq_true q524
                            have p534 : 0 ≤ (0 : Int) := (by omega)
                            have q534 : 0 < (x2_2.length : Int) := of_decide_eq_true (by first | (with_reducible assumption) | assumption)
                            obtain ⟨ad534, e534, hx534_0, hx534_1, hx534_2⟩ := at_T42 (Kd.V_reads' HO_2.out).2.2 0 p534 q534
                            obtain rfl : ad524 = ad534 := (by injection e534)
                            have qi534 : (0 < x2_2.length) = True := eq_true (by omega)
                            (try rw [show ((0 : Int)).toNat = 0 from rfl] at hx534_0)
                            (try rw [show 0 * 3 = 0 from rfl] at hx534_0)
                            (try rw [Addr.add_zero'] at hx534_0)
                            (try rw [show ((0 : Int)).toNat = 0 from rfl] at hx534_1)
                            (try rw [show 0 * 3 = 0 from rfl] at hx534_1)
                            (try rw [Addr.add_zero'] at hx534_1)
                            (try rw [show ((0 : Int)).toNat = 0 from rfl] at hx534_2)
                            (try rw [show 0 * 3 = 0 from rfl] at hx534_2)
                            (try rw [Addr.add_zero'] at hx534_2)
                            replace p534 := eq_true p534
                            replace q534 := eq_true q534
                            go_wp2_with (first | ((with_reducible refine gate_builtin (b := .append) (xs := #[.tmp 52, .tmp 56]) rfl ?_); (try (refine gate_guard (by rfl) ?_; dsimp only)); at_builtin; refine Kd.R_append k42 (w0 := w) w.heap.size rfl (.tmp 52) (.tmp 56) 35 42 (.agg #[(.int .i64 0), (.int .i64 0), (.string ⟨#[]⟩)]) 32 rfl Try.underlying35 info42 rfl (by decide) (by omega) u8 x8_2 (⟨(rd_T42 x2_2 0).f0, (rd_T42 x2_2 0).f1, (rd_T42 x2_2 0).f2⟩ : S42) [.int .i64 ((rd_T42 x2_2 0).f0), .int .i64 ((rd_T42 x2_2 0).f1), .string ((rd_T42 x2_2 0).f2)] (fun k_ => (w.heap.size ≤ k_)) (fun _ => False) rfl rfl ?aP (fun _ hk => hk.elim) ?aF ?aO ?aB ?aS ?aL ?_; (case aP => exact k42_mkM _ _ _ (⟨(rd_T42 x2_2 0).f0, (rd_T42 x2_2 0).f1, (rd_T42 x2_2 0).f2⟩ : S42)); (case aB => exact (by repeat (first | (with_reducible first | exact HB.out | apply below_alloc | apply pw_below_drewN | apply below_drew1) | exact HB.out))); (case aF => exact (fun k_ hk => (Nat.le_trans (below_size (by repeat (first | (with_reducible first | exact HB.out | apply below_alloc | apply pw_below_drewN | apply below_drew1) | exact HB.out))) hk))); (case aO => exact (by (with_reducible repeat (first | apply Kd.R_alloc | apply Kd.R_drewN | apply Kd.R_drew)); exact HO_8.out)); (case aS => exact (below_size (by repeat (first | (with_reducible first | exact HB.out | apply below_alloc | apply pw_below_drewN | apply below_drew1) | exact HB.out)))); (case aL => have := LMc31.out; omega); intro v536 w35 ho hb hg hat; rw [← Ny535.out] at ho; have n0_ := Aside0.mk (Kd.V_afterv (ok := (fun k_ => ((P1_ k_ ∨ P2_ k_) ∨ w.heap.size ≤ k_))) (by (with_reducible repeat (first | apply Kd.V_alloc | apply Kd.V_drewN | apply Kd.V_drew)); exact HO_1.out) hg hat); have n1_ := Aside0.mk (Kd.V_afterv (ok := (fun k_ => ((P1_ k_ ∨ P2_ k_) ∨ w.heap.size ≤ k_))) (by (with_reducible repeat (first | apply Kd.V_alloc | apply Kd.V_drewN | apply Kd.V_drew)); exact HO_2.out) hg hat); have n2_ := Aside0.mk (hb); have n3_ := Aside0.mk (ho); clear HO_1; clear HO_2; clear HB; clear HO_8; have HO_1 := n0_; have HO_2 := n1_; have HB := n2_; have HO537 := n3_; clear n0_ n1_ n2_ n3_; clear ho hb hg hat; have q36 : (1 : Int) ≤ ((x2_2.length : Int) : Int) := of_decide_eq_true (by first | (with_reducible assumption) | assumption); obtain ⟨i036, hi036, _, hsz36, _⟩ := info_parts info42; have hroom36 : x2_2.length ≤ co34 := (Kd.V_reads' HO_2.out).2.1; have hC36 : Kd.F k42 _ _ (some ad524) x2_2.length x2_2 := (Kd.V_at (base := w.heap.size) HO_2.out).2.2; have hcut36 := cut_from (P := Try.prog) 35 42 .i64 Try.underlying35 hi036 3 hsz36 (some ad524) x2_2.length co34 1 (by omega) q36; have hr36 := Kd.F_cut (m := (1 : Int).toNat) (c := co34) hC36 (by omega) hroom36; obtain ⟨A36, hA36⟩ : ∃ A1, A1 = (if co34 = (1 : Int).toNat then (some ad524) else ((some ad524) : Option Addr).map (·.add ((1 : Int).toNat * 3))) := ⟨_, rfl⟩; obtain ⟨c36, hc36⟩ : ∃ c1, c1 = co34 - (1 : Int).toNat := ⟨_, rfl⟩; have hy36 : y538.length = x2_2.length - (1 : Int).toNat := (by rw [Ny538.out, List.length_drop] <;> omega); rw [show (x2_2).drop (1 : Int).toNat = y538 from Ny538.out.symm] at hr36; replace hr36 : Kd.F k42 _ _ A36 y538.length y538 := (by rw [hA36]; exact hr36); rw [← hy36, ← hA36, ← hc36] at hcut36; have HO542 := Aside0.mk (show Kd.V k42 42 _ w.heap.size _ (.slice A36 y538.length c36) y538 from Kd.V_mk (by rw [hy36, hc36]; exact Nat.sub_le_sub_right hroom36 _) hr36); have HC542 := Aside0.mk (show y538.length ≤ c36 from by rw [hy36, hc36]; exact Nat.sub_le_sub_right hroom36 _); clear hr36 hC36 hroom36 hi036 hsz36 hc36; have KY36 := Aside0.mk hy36; have KA36 := Aside0.mk hA36; clear hy36 hA36; replace q36 := eq_true q36))
                            repeat (go_quiet (first | ((with_reducible refine gate_builtin (b := .append) (xs := #[.tmp 52, .tmp 56]) rfl ?_); (try (refine gate_guard (by rfl) ?_; dsimp only)); at_builtin; refine Kd.R_append k42 (w0 := w) w.heap.size rfl (.tmp 52) (.tmp 56) 35 42 (.agg #[(.int .i64 0), (.int .i64 0), (.string ⟨#[]⟩)]) 32 rfl Try.underlying35 info42 rfl (by decide) (by omega) u8 x8_2 (⟨(rd_T42 x2_2 0).f0, (rd_T42 x2_2 0).f1, (rd_T42 x2_2 0).f2⟩ : S42) [.int .i64 ((rd_T42 x2_2 0).f0), .int .i64 ((rd_T42 x2_2 0).f1), .string ((rd_T42 x2_2 0).f2)] (fun k_ => (w.heap.size ≤ k_)) (fun _ => False) rfl rfl ?aP (fun _ hk => hk.elim) ?aF ?aO ?aB ?aS ?aL ?_; (case aP => exact k42_mkM _ _ _ (⟨(rd_T42 x2_2 0).f0, (rd_T42 x2_2 0).f1, (rd_T42 x2_2 0).f2⟩ : S42)); (case aB => exact (by repeat (first | (with_reducible first | exact HB.out | apply below_alloc | apply pw_below_drewN | apply below_drew1) | exact HB.out))); (case aF => exact (fun k_ hk => (Nat.le_trans (below_size (by repeat (first | (with_reducible first | exact HB.out | apply below_alloc | apply pw_below_drewN | apply below_drew1) | exact HB.out))) hk))); (case aO => exact (by (with_reducible repeat (first | apply Kd.R_alloc | apply Kd.R_drewN | apply Kd.R_drew)); exact HO_8.out)); (case aS => exact (below_size (by repeat (first | (with_reducible first | exact HB.out | apply below_alloc | apply pw_below_drewN | apply below_drew1) | exact HB.out)))); (case aL => have := LMc31.out; omega); intro v536 w35 ho hb hg hat; rw [← Ny535.out] at ho; have n0_ := Aside0.mk (Kd.V_afterv (ok := (fun k_ => ((P1_ k_ ∨ P2_ k_) ∨ w.heap.size ≤ k_))) (by (with_reducible repeat (first | apply Kd.V_alloc | apply Kd.V_drewN | apply Kd.V_drew)); exact HO_1.out) hg hat); have n1_ := Aside0.mk (Kd.V_afterv (ok := (fun k_ => ((P1_ k_ ∨ P2_ k_) ∨ w.heap.size ≤ k_))) (by (with_reducible repeat (first | apply Kd.V_alloc | apply Kd.V_drewN | apply Kd.V_drew)); exact HO_2.out) hg hat); have n2_ := Aside0.mk (hb); have n3_ := Aside0.mk (ho); clear HO_1; clear HO_2; clear HB; clear HO_8; have HO_1 := n0_; have HO_2 := n1_; have HB := n2_; have HO537 := n3_; clear n0_ n1_ n2_ n3_; clear ho hb hg hat; have q36 : (1 : Int) ≤ ((x2_2.length : Int) : Int) := of_decide_eq_true (by first | (with_reducible assumption) | assumption); obtain ⟨i036, hi036, _, hsz36, _⟩ := info_parts info42; have hroom36 : x2_2.length ≤ co34 := (Kd.V_reads' HO_2.out).2.1; have hC36 : Kd.F k42 _ _ (some ad524) x2_2.length x2_2 := (Kd.V_at (base := w.heap.size) HO_2.out).2.2; have hcut36 := cut_from (P := Try.prog) 35 42 .i64 Try.underlying35 hi036 3 hsz36 (some ad524) x2_2.length co34 1 (by omega) q36; have hr36 := Kd.F_cut (m := (1 : Int).toNat) (c := co34) hC36 (by omega) hroom36; obtain ⟨A36, hA36⟩ : ∃ A1, A1 = (if co34 = (1 : Int).toNat then (some ad524) else ((some ad524) : Option Addr).map (·.add ((1 : Int).toNat * 3))) := ⟨_, rfl⟩; obtain ⟨c36, hc36⟩ : ∃ c1, c1 = co34 - (1 : Int).toNat := ⟨_, rfl⟩; have hy36 : y538.length = x2_2.length - (1 : Int).toNat := (by rw [Ny538.out, List.length_drop] <;> omega); rw [show (x2_2).drop (1 : Int).toNat = y538 from Ny538.out.symm] at hr36; replace hr36 : Kd.F k42 _ _ A36 y538.length y538 := (by rw [hA36]; exact hr36); rw [← hy36, ← hA36, ← hc36] at hcut36; have HO542 := Aside0.mk (show Kd.V k42 42 _ w.heap.size _ (.slice A36 y538.length c36) y538 from Kd.V_mk (by rw [hy36, hc36]; exact Nat.sub_le_sub_right hroom36 _) hr36); have HC542 := Aside0.mk (show y538.length ≤ c36 from by rw [hy36, hc36]; exact Nat.sub_le_sub_right hroom36 _); clear hr36 hC36 hroom36 hi036 hsz36 hc36; have KY36 := Aside0.mk hy36; have KA36 := Aside0.mk hA36; clear hy36 hA36; replace q36 := eq_true q36)); try go_wp2_with (first | ((with_reducible refine gate_builtin (b := .append) (xs := #[.tmp 52, .tmp 56]) rfl ?_); (try (refine gate_guard (by rfl) ?_; dsimp only)); at_builtin; refine Kd.R_append k42 (w0 := w) w.heap.size rfl (.tmp 52) (.tmp 56) 35 42 (.agg #[(.int .i64 0), (.int .i64 0), (.string ⟨#[]⟩)]) 32 rfl Try.underlying35 info42 rfl (by decide) (by omega) u8 x8_2 (⟨(rd_T42 x2_2 0).f0, (rd_T42 x2_2 0).f1, (rd_T42 x2_2 0).f2⟩ : S42) [.int .i64 ((rd_T42 x2_2 0).f0), .int .i64 ((rd_T42 x2_2 0).f1), .string ((rd_T42 x2_2 0).f2)] (fun k_ => (w.heap.size ≤ k_)) (fun _ => False) rfl rfl ?aP (fun _ hk => hk.elim) ?aF ?aO ?aB ?aS ?aL ?_; (case aP => exact k42_mkM _ _ _ (⟨(rd_T42 x2_2 0).f0, (rd_T42 x2_2 0).f1, (rd_T42 x2_2 0).f2⟩ : S42)); (case aB => exact (by repeat (first | (with_reducible first | exact HB.out | apply below_alloc | apply pw_below_drewN | apply below_drew1) | exact HB.out))); (case aF => exact (fun k_ hk => (Nat.le_trans (below_size (by repeat (first | (with_reducible first | exact HB.out | apply below_alloc | apply pw_below_drewN | apply below_drew1) | exact HB.out))) hk))); (case aO => exact (by (with_reducible repeat (first | apply Kd.R_alloc | apply Kd.R_drewN | apply Kd.R_drew)); exact HO_8.out)); (case aS => exact (below_size (by repeat (first | (with_reducible first | exact HB.out | apply below_alloc | apply pw_below_drewN | apply below_drew1) | exact HB.out)))); (case aL => have := LMc31.out; omega); intro v536 w35 ho hb hg hat; rw [← Ny535.out] at ho; have n0_ := Aside0.mk (Kd.V_afterv (ok := (fun k_ => ((P1_ k_ ∨ P2_ k_) ∨ w.heap.size ≤ k_))) (by (with_reducible repeat (first | apply Kd.V_alloc | apply Kd.V_drewN | apply Kd.V_drew)); exact HO_1.out) hg hat); have n1_ := Aside0.mk (Kd.V_afterv (ok := (fun k_ => ((P1_ k_ ∨ P2_ k_) ∨ w.heap.size ≤ k_))) (by (with_reducible repeat (first | apply Kd.V_alloc | apply Kd.V_drewN | apply Kd.V_drew)); exact HO_2.out) hg hat); have n2_ := Aside0.mk (hb); have n3_ := Aside0.mk (ho); clear HO_1; clear HO_2; clear HB; clear HO_8; have HO_1 := n0_; have HO_2 := n1_; have HB := n2_; have HO537 := n3_; clear n0_ n1_ n2_ n3_; clear ho hb hg hat; have q36 : (1 : Int) ≤ ((x2_2.length : Int) : Int) := of_decide_eq_true (by first | (with_reducible assumption) | assumption); obtain ⟨i036, hi036, _, hsz36, _⟩ := info_parts info42; have hroom36 : x2_2.length ≤ co34 := (Kd.V_reads' HO_2.out).2.1; have hC36 : Kd.F k42 _ _ (some ad524) x2_2.length x2_2 := (Kd.V_at (base := w.heap.size) HO_2.out).2.2; have hcut36 := cut_from (P := Try.prog) 35 42 .i64 Try.underlying35 hi036 3 hsz36 (some ad524) x2_2.length co34 1 (by omega) q36; have hr36 := Kd.F_cut (m := (1 : Int).toNat) (c := co34) hC36 (by omega) hroom36; obtain ⟨A36, hA36⟩ : ∃ A1, A1 = (if co34 = (1 : Int).toNat then (some ad524) else ((some ad524) : Option Addr).map (·.add ((1 : Int).toNat * 3))) := ⟨_, rfl⟩; obtain ⟨c36, hc36⟩ : ∃ c1, c1 = co34 - (1 : Int).toNat := ⟨_, rfl⟩; have hy36 : y538.length = x2_2.length - (1 : Int).toNat := (by rw [Ny538.out, List.length_drop] <;> omega); rw [show (x2_2).drop (1 : Int).toNat = y538 from Ny538.out.symm] at hr36; replace hr36 : Kd.F k42 _ _ A36 y538.length y538 := (by rw [hA36]; exact hr36); rw [← hy36, ← hA36, ← hc36] at hcut36; have HO542 := Aside0.mk (show Kd.V k42 42 _ w.heap.size _ (.slice A36 y538.length c36) y538 from Kd.V_mk (by rw [hy36, hc36]; exact Nat.sub_le_sub_right hroom36 _) hr36); have HC542 := Aside0.mk (show y538.length ≤ c36 from by rw [hy36, hc36]; exact Nat.sub_le_sub_right hroom36 _); clear hr36 hC36 hroom36 hi036 hsz36 hc36; have KY36 := Aside0.mk hy36; have KA36 := Aside0.mk hA36; clear hy36 hA36; replace q36 := eq_true q36)))
                            go_roundg k2
                            case measure => have := HJ3.out; have := HK2.out; omega
                            case rel => exact ⟨(x1_2), (y538), (y535), H', ⟨by have := HJ3.out; have := HK2.out; omega⟩, ⟨by (with_reducible repeat (first | apply Kd.V_alloc | apply Kd.V_drewN | apply Kd.V_drew)); exact HO_1.out⟩, ⟨by (with_reducible repeat (first | apply Kd.V_alloc | apply Kd.V_drewN | apply Kd.V_drew)); exact HO542.out⟩, ⟨by (with_reducible repeat (first | apply Kd.R_alloc | apply Kd.R_drewN | apply Kd.R_drew)); exact HO537.out⟩, ⟨by repeat (first | (with_reducible first | exact HB.out | apply below_alloc | apply pw_below_drewN | apply below_drew1) | exact HB.out)⟩⟩
                          · rw [if_neg c32] at H
                            exact absurd H (by simp)
                        · rw [if_neg c31] at H
                          exact absurd H (by simp)
                    · rw [if_neg c23] at H
                      exact absurd H (by simp)
                  · rw [if_neg c22] at H
                    exact absurd H (by simp)
                · rw [if_neg c21] at H
                  have c21b0 : decide (0 < (x1_2.length : Int)) = false := decide_eq_false c21
                  have c21b1 : decide (0 < x1_2.length) = false := decide_eq_false (by omega)
                  clear c21
                  by_cases c37 : 0 < (x2_2.length : Int)
                  · rw [if_pos c37] at H
                    have c37b0 : decide (0 < (x2_2.length : Int)) = true := decide_eq_true c37
                    have c37b1 : decide (0 < x2_2.length) = true := decide_eq_true (by omega)
                    clear c37
                    by_cases c38 : x8_2.length < 4398046511104
                    · rw [if_pos c38] at H
                      have LMc38 := Aside0.mk c38
                      clear c38
                      obtain ⟨y544, hy544⟩ : ∃ y_ : List (S42), y_ = (x8_2 ++ [(⟨(rd_T42 x2_2 0).f0, (rd_T42 x2_2 0).f1, (rd_T42 x2_2 0).f2⟩ : S42)]) := ⟨_, rfl⟩
                      replace H : (if 1 ≤ (x2_2.length : Int) then (impl_JoinEdits.l0 k2 a0 x1_2 (x2_2.drop 1) y544) else (none)) = some (r1, r2) := by first | (rw [hy544]; with_reducible exact H) | (have H2_ := (Option.bind_some _ _).symm.trans H; rw [hy544]; with_reducible exact H2_) | (have H2_ := (Option.bind_some _ _).symm.trans H; with_reducible exact H2_) | with_reducible exact H | (rw [hy544]; exact H) | exact H
                      have Ny544 := Aside0.mk hy544
                      clear hy544
                      by_cases c39 : 1 ≤ (x2_2.length : Int)
                      · rw [if_pos c39] at H
                        have c39b0 := eq_true c39
                        have c39b1 : decide (1 ≤ (x2_2.length : Int)) = true := decide_eq_true c39
                        clear c39
                        obtain ⟨y547, hy547⟩ : ∃ y_ : List (S42), y_ = (x2_2.drop 1) := ⟨_, rfl⟩
                        replace H : (impl_JoinEdits.l0 k2 a0 x1_2 y547 y544) = some (r1, r2) := by first | (rw [hy547]; with_reducible exact H) | (have H2_ := (Option.bind_some _ _).symm.trans H; rw [hy547]; with_reducible exact H2_) | (have H2_ := (Option.bind_some _ _).symm.trans H; with_reducible exact H2_) | with_reducible exact H | (rw [hy547]; exact H) | exact H
                        have Ny547 := Aside0.mk hy547
                        clear hy547
                        have H' := Aside0.mk H
                        clear H
                        obtain ⟨Ao40, co40, eo40⟩ := Kd.V_slice HO_1.out
                        subst eo40
                        obtain ⟨Ao41, co41, eo41⟩ := Kd.V_slice HO_2.out
                        subst eo41
                        have p543 : 0 ≤ (0 : Int) := (by omega)
                        have q543 : 0 < (x2_2.length : Int) := of_decide_eq_true (by first | (with_reducible assumption) | assumption)
                        obtain ⟨ad543, e543, hx543_0, hx543_1, hx543_2⟩ := at_T42 (Kd.V_reads' HO_2.out).2.2 0 p543 q543
                        cases e543
                        have qi543 : (0 < x2_2.length) = True := eq_true (by omega)
                        (try rw [show ((0 : Int)).toNat = 0 from rfl] at hx543_0)
                        (try rw [show 0 * 3 = 0 from rfl] at hx543_0)
                        (try rw [Addr.add_zero'] at hx543_0)
                        (try rw [show ((0 : Int)).toNat = 0 from rfl] at hx543_1)
                        (try rw [show 0 * 3 = 0 from rfl] at hx543_1)
                        (try rw [Addr.add_zero'] at hx543_1)
                        (try rw [show ((0 : Int)).toNat = 0 from rfl] at hx543_2)
                        (try rw [show 0 * 3 = 0 from rfl] at hx543_2)
                        (try rw [Addr.add_zero'] at hx543_2)
                        replace p543 := eq_true p543
                        replace q543 := eq_true q543
                        go_wp2_with (first | ((with_reducible refine gate_builtin (b := .append) (xs := #[.tmp 52, .tmp 56]) rfl ?_); (try (refine gate_guard (by rfl) ?_; dsimp only)); at_builtin; refine Kd.R_append k42 (w0 := w) w.heap.size rfl (.tmp 52) (.tmp 56) 35 42 (.agg #[(.int .i64 0), (.int .i64 0), (.string ⟨#[]⟩)]) 32 rfl Try.underlying35 info42 rfl (by decide) (by omega) u8 x8_2 (⟨(rd_T42 x2_2 0).f0, (rd_T42 x2_2 0).f1, (rd_T42 x2_2 0).f2⟩ : S42) [.int .i64 ((rd_T42 x2_2 0).f0), .int .i64 ((rd_T42 x2_2 0).f1), .string ((rd_T42 x2_2 0).f2)] (fun k_ => (w.heap.size ≤ k_)) (fun _ => False) rfl rfl ?aP (fun _ hk => hk.elim) ?aF ?aO ?aB ?aS ?aL ?_; (case aP => exact k42_mkM _ _ _ (⟨(rd_T42 x2_2 0).f0, (rd_T42 x2_2 0).f1, (rd_T42 x2_2 0).f2⟩ : S42)); (case aB => exact (by repeat (first | (with_reducible first | exact HB.out | apply below_alloc | apply pw_below_drewN | apply below_drew1) | exact HB.out))); (case aF => exact (fun k_ hk => (Nat.le_trans (below_size (by repeat (first | (with_reducible first | exact HB.out | apply below_alloc | apply pw_below_drewN | apply below_drew1) | exact HB.out))) hk))); (case aO => exact (by (with_reducible repeat (first | apply Kd.R_alloc | apply Kd.R_drewN | apply Kd.R_drew)); exact HO_8.out)); (case aS => exact (below_size (by repeat (first | (with_reducible first | exact HB.out | apply below_alloc | apply pw_below_drewN | apply below_drew1) | exact HB.out)))); (case aL => have := LMc38.out; omega); intro v545 w42 ho hb hg hat; rw [← Ny544.out] at ho; have n0_ := Aside0.mk (Kd.V_afterv (ok := (fun k_ => ((P1_ k_ ∨ P2_ k_) ∨ w.heap.size ≤ k_))) (by (with_reducible repeat (first | apply Kd.V_alloc | apply Kd.V_drewN | apply Kd.V_drew)); exact HO_1.out) hg hat); have n1_ := Aside0.mk (Kd.V_afterv (ok := (fun k_ => ((P1_ k_ ∨ P2_ k_) ∨ w.heap.size ≤ k_))) (by (with_reducible repeat (first | apply Kd.V_alloc | apply Kd.V_drewN | apply Kd.V_drew)); exact HO_2.out) hg hat); have n2_ := Aside0.mk (hb); have n3_ := Aside0.mk (ho); clear HO_1; clear HO_2; clear HB; clear HO_8; have HO_1 := n0_; have HO_2 := n1_; have HB := n2_; have HO546 := n3_; clear n0_ n1_ n2_ n3_; clear ho hb hg hat; have q43 : (1 : Int) ≤ ((x2_2.length : Int) : Int) := of_decide_eq_true (by first | (with_reducible assumption) | assumption); obtain ⟨i043, hi043, _, hsz43, _⟩ := info_parts info42; have hroom43 : x2_2.length ≤ co41 := (Kd.V_reads' HO_2.out).2.1; have hC43 : Kd.F k42 _ _ (some ad543) x2_2.length x2_2 := (Kd.V_at (base := w.heap.size) HO_2.out).2.2; have hcut43 := cut_from (P := Try.prog) 35 42 .i64 Try.underlying35 hi043 3 hsz43 (some ad543) x2_2.length co41 1 (by omega) q43; have hr43 := Kd.F_cut (m := (1 : Int).toNat) (c := co41) hC43 (by omega) hroom43; obtain ⟨A43, hA43⟩ : ∃ A1, A1 = (if co41 = (1 : Int).toNat then (some ad543) else ((some ad543) : Option Addr).map (·.add ((1 : Int).toNat * 3))) := ⟨_, rfl⟩; obtain ⟨c43, hc43⟩ : ∃ c1, c1 = co41 - (1 : Int).toNat := ⟨_, rfl⟩; have hy43 : y547.length = x2_2.length - (1 : Int).toNat := (by rw [Ny547.out, List.length_drop] <;> omega); rw [show (x2_2).drop (1 : Int).toNat = y547 from Ny547.out.symm] at hr43; replace hr43 : Kd.F k42 _ _ A43 y547.length y547 := (by rw [hA43]; exact hr43); rw [← hy43, ← hA43, ← hc43] at hcut43; have HO551 := Aside0.mk (show Kd.V k42 42 _ w.heap.size _ (.slice A43 y547.length c43) y547 from Kd.V_mk (by rw [hy43, hc43]; exact Nat.sub_le_sub_right hroom43 _) hr43); have HC551 := Aside0.mk (show y547.length ≤ c43 from by rw [hy43, hc43]; exact Nat.sub_le_sub_right hroom43 _); clear hr43 hC43 hroom43 hi043 hsz43 hc43; have KY43 := Aside0.mk hy43; have KA43 := Aside0.mk hA43; clear hy43 hA43; replace q43 := eq_true q43))
                        repeat (go_quiet (first | ((with_reducible refine gate_builtin (b := .append) (xs := #[.tmp 52, .tmp 56]) rfl ?_); (try (refine gate_guard (by rfl) ?_; dsimp only)); at_builtin; refine Kd.R_append k42 (w0 := w) w.heap.size rfl (.tmp 52) (.tmp 56) 35 42 (.agg #[(.int .i64 0), (.int .i64 0), (.string ⟨#[]⟩)]) 32 rfl Try.underlying35 info42 rfl (by decide) (by omega) u8 x8_2 (⟨(rd_T42 x2_2 0).f0, (rd_T42 x2_2 0).f1, (rd_T42 x2_2 0).f2⟩ : S42) [.int .i64 ((rd_T42 x2_2 0).f0), .int .i64 ((rd_T42 x2_2 0).f1), .string ((rd_T42 x2_2 0).f2)] (fun k_ => (w.heap.size ≤ k_)) (fun _ => False) rfl rfl ?aP (fun _ hk => hk.elim) ?aF ?aO ?aB ?aS ?aL ?_; (case aP => exact k42_mkM _ _ _ (⟨(rd_T42 x2_2 0).f0, (rd_T42 x2_2 0).f1, (rd_T42 x2_2 0).f2⟩ : S42)); (case aB => exact (by repeat (first | (with_reducible first | exact HB.out | apply below_alloc | apply pw_below_drewN | apply below_drew1) | exact HB.out))); (case aF => exact (fun k_ hk => (Nat.le_trans (below_size (by repeat (first | (with_reducible first | exact HB.out | apply below_alloc | apply pw_below_drewN | apply below_drew1) | exact HB.out))) hk))); (case aO => exact (by (with_reducible repeat (first | apply Kd.R_alloc | apply Kd.R_drewN | apply Kd.R_drew)); exact HO_8.out)); (case aS => exact (below_size (by repeat (first | (with_reducible first | exact HB.out | apply below_alloc | apply pw_below_drewN | apply below_drew1) | exact HB.out)))); (case aL => have := LMc38.out; omega); intro v545 w42 ho hb hg hat; rw [← Ny544.out] at ho; have n0_ := Aside0.mk (Kd.V_afterv (ok := (fun k_ => ((P1_ k_ ∨ P2_ k_) ∨ w.heap.size ≤ k_))) (by (with_reducible repeat (first | apply Kd.V_alloc | apply Kd.V_drewN | apply Kd.V_drew)); exact HO_1.out) hg hat); have n1_ := Aside0.mk (Kd.V_afterv (ok := (fun k_ => ((P1_ k_ ∨ P2_ k_) ∨ w.heap.size ≤ k_))) (by (with_reducible repeat (first | apply Kd.V_alloc | apply Kd.V_drewN | apply Kd.V_drew)); exact HO_2.out) hg hat); have n2_ := Aside0.mk (hb); have n3_ := Aside0.mk (ho); clear HO_1; clear HO_2; clear HB; clear HO_8; have HO_1 := n0_; have HO_2 := n1_; have HB := n2_; have HO546 := n3_; clear n0_ n1_ n2_ n3_; clear ho hb hg hat; have q43 : (1 : Int) ≤ ((x2_2.length : Int) : Int) := of_decide_eq_true (by first | (with_reducible assumption) | assumption); obtain ⟨i043, hi043, _, hsz43, _⟩ := info_parts info42; have hroom43 : x2_2.length ≤ co41 := (Kd.V_reads' HO_2.out).2.1; have hC43 : Kd.F k42 _ _ (some ad543) x2_2.length x2_2 := (Kd.V_at (base := w.heap.size) HO_2.out).2.2; have hcut43 := cut_from (P := Try.prog) 35 42 .i64 Try.underlying35 hi043 3 hsz43 (some ad543) x2_2.length co41 1 (by omega) q43; have hr43 := Kd.F_cut (m := (1 : Int).toNat) (c := co41) hC43 (by omega) hroom43; obtain ⟨A43, hA43⟩ : ∃ A1, A1 = (if co41 = (1 : Int).toNat then (some ad543) else ((some ad543) : Option Addr).map (·.add ((1 : Int).toNat * 3))) := ⟨_, rfl⟩; obtain ⟨c43, hc43⟩ : ∃ c1, c1 = co41 - (1 : Int).toNat := ⟨_, rfl⟩; have hy43 : y547.length = x2_2.length - (1 : Int).toNat := (by rw [Ny547.out, List.length_drop] <;> omega); rw [show (x2_2).drop (1 : Int).toNat = y547 from Ny547.out.symm] at hr43; replace hr43 : Kd.F k42 _ _ A43 y547.length y547 := (by rw [hA43]; exact hr43); rw [← hy43, ← hA43, ← hc43] at hcut43; have HO551 := Aside0.mk (show Kd.V k42 42 _ w.heap.size _ (.slice A43 y547.length c43) y547 from Kd.V_mk (by rw [hy43, hc43]; exact Nat.sub_le_sub_right hroom43 _) hr43); have HC551 := Aside0.mk (show y547.length ≤ c43 from by rw [hy43, hc43]; exact Nat.sub_le_sub_right hroom43 _); clear hr43 hC43 hroom43 hi043 hsz43 hc43; have KY43 := Aside0.mk hy43; have KA43 := Aside0.mk hA43; clear hy43 hA43; replace q43 := eq_true q43)); try go_wp2_with (first | ((with_reducible refine gate_builtin (b := .append) (xs := #[.tmp 52, .tmp 56]) rfl ?_); (try (refine gate_guard (by rfl) ?_; dsimp only)); at_builtin; refine Kd.R_append k42 (w0 := w) w.heap.size rfl (.tmp 52) (.tmp 56) 35 42 (.agg #[(.int .i64 0), (.int .i64 0), (.string ⟨#[]⟩)]) 32 rfl Try.underlying35 info42 rfl (by decide) (by omega) u8 x8_2 (⟨(rd_T42 x2_2 0).f0, (rd_T42 x2_2 0).f1, (rd_T42 x2_2 0).f2⟩ : S42) [.int .i64 ((rd_T42 x2_2 0).f0), .int .i64 ((rd_T42 x2_2 0).f1), .string ((rd_T42 x2_2 0).f2)] (fun k_ => (w.heap.size ≤ k_)) (fun _ => False) rfl rfl ?aP (fun _ hk => hk.elim) ?aF ?aO ?aB ?aS ?aL ?_; (case aP => exact k42_mkM _ _ _ (⟨(rd_T42 x2_2 0).f0, (rd_T42 x2_2 0).f1, (rd_T42 x2_2 0).f2⟩ : S42)); (case aB => exact (by repeat (first | (with_reducible first | exact HB.out | apply below_alloc | apply pw_below_drewN | apply below_drew1) | exact HB.out))); (case aF => exact (fun k_ hk => (Nat.le_trans (below_size (by repeat (first | (with_reducible first | exact HB.out | apply below_alloc | apply pw_below_drewN | apply below_drew1) | exact HB.out))) hk))); (case aO => exact (by (with_reducible repeat (first | apply Kd.R_alloc | apply Kd.R_drewN | apply Kd.R_drew)); exact HO_8.out)); (case aS => exact (below_size (by repeat (first | (with_reducible first | exact HB.out | apply below_alloc | apply pw_below_drewN | apply below_drew1) | exact HB.out)))); (case aL => have := LMc38.out; omega); intro v545 w42 ho hb hg hat; rw [← Ny544.out] at ho; have n0_ := Aside0.mk (Kd.V_afterv (ok := (fun k_ => ((P1_ k_ ∨ P2_ k_) ∨ w.heap.size ≤ k_))) (by (with_reducible repeat (first | apply Kd.V_alloc | apply Kd.V_drewN | apply Kd.V_drew)); exact HO_1.out) hg hat); have n1_ := Aside0.mk (Kd.V_afterv (ok := (fun k_ => ((P1_ k_ ∨ P2_ k_) ∨ w.heap.size ≤ k_))) (by (with_reducible repeat (first | apply Kd.V_alloc | apply Kd.V_drewN | apply Kd.V_drew)); exact HO_2.out) hg hat); have n2_ := Aside0.mk (hb); have n3_ := Aside0.mk (ho); clear HO_1; clear HO_2; clear HB; clear HO_8; have HO_1 := n0_; have HO_2 := n1_; have HB := n2_; have HO546 := n3_; clear n0_ n1_ n2_ n3_; clear ho hb hg hat; have q43 : (1 : Int) ≤ ((x2_2.length : Int) : Int) := of_decide_eq_true (by first | (with_reducible assumption) | assumption); obtain ⟨i043, hi043, _, hsz43, _⟩ := info_parts info42; have hroom43 : x2_2.length ≤ co41 := (Kd.V_reads' HO_2.out).2.1; have hC43 : Kd.F k42 _ _ (some ad543) x2_2.length x2_2 := (Kd.V_at (base := w.heap.size) HO_2.out).2.2; have hcut43 := cut_from (P := Try.prog) 35 42 .i64 Try.underlying35 hi043 3 hsz43 (some ad543) x2_2.length co41 1 (by omega) q43; have hr43 := Kd.F_cut (m := (1 : Int).toNat) (c := co41) hC43 (by omega) hroom43; obtain ⟨A43, hA43⟩ : ∃ A1, A1 = (if co41 = (1 : Int).toNat then (some ad543) else ((some ad543) : Option Addr).map (·.add ((1 : Int).toNat * 3))) := ⟨_, rfl⟩; obtain ⟨c43, hc43⟩ : ∃ c1, c1 = co41 - (1 : Int).toNat := ⟨_, rfl⟩; have hy43 : y547.length = x2_2.length - (1 : Int).toNat := (by rw [Ny547.out, List.length_drop] <;> omega); rw [show (x2_2).drop (1 : Int).toNat = y547 from Ny547.out.symm] at hr43; replace hr43 : Kd.F k42 _ _ A43 y547.length y547 := (by rw [hA43]; exact hr43); rw [← hy43, ← hA43, ← hc43] at hcut43; have HO551 := Aside0.mk (show Kd.V k42 42 _ w.heap.size _ (.slice A43 y547.length c43) y547 from Kd.V_mk (by rw [hy43, hc43]; exact Nat.sub_le_sub_right hroom43 _) hr43); have HC551 := Aside0.mk (show y547.length ≤ c43 from by rw [hy43, hc43]; exact Nat.sub_le_sub_right hroom43 _); clear hr43 hC43 hroom43 hi043 hsz43 hc43; have KY43 := Aside0.mk hy43; have KA43 := Aside0.mk hA43; clear hy43 hA43; replace q43 := eq_true q43)))
                        go_roundg k2
                        case measure => have := HJ3.out; have := HK2.out; omega
                        case rel => exact ⟨(x1_2), (y547), (y544), H', ⟨by have := HJ3.out; have := HK2.out; omega⟩, ⟨by (with_reducible repeat (first | apply Kd.V_alloc | apply Kd.V_drewN | apply Kd.V_drew)); exact HO_1.out⟩, ⟨by (with_reducible repeat (first | apply Kd.V_alloc | apply Kd.V_drewN | apply Kd.V_drew)); exact HO551.out⟩, ⟨by (with_reducible repeat (first | apply Kd.R_alloc | apply Kd.R_drewN | apply Kd.R_drew)); exact HO546.out⟩, ⟨by repeat (first | (with_reducible first | exact HB.out | apply below_alloc | apply pw_below_drewN | apply below_drew1) | exact HB.out)⟩⟩
                      · rw [if_neg c39] at H
                        exact absurd H (by simp)
                    · rw [if_neg c38] at H
                      exact absurd H (by simp)
                  · rw [if_neg c37] at H
                    exact absurd H (by simp)
            · rw [if_neg c12] at H
              have c12b0 : decide (0 < (wrap64 ((x1_2.length : Int) + (x2_2.length : Int)))) = false := decide_eq_false c12
              clear c12
              replace H := Option.bind_eq_some_iff.mp H
              obtain ⟨t552, A440, H⟩ := H
              replace H : (if t552 = true then ((impl_Edit.f x8_2).bind fun t553 => (some (t553, true))) else (some (([] : List (S42)), false))) = some (r1, r2) := H
              have A44 := Aside0.mk A440
              clear A440
              by_cases c45 : t552 = true
              · subst c45
                have H1 : ((impl_Edit.f x8_2).bind fun t553 => (some (t553, true))) = some (r1, r2) := by rw [if_pos rfl] at H; exact H
                clear H
                have H := H1
                clear H1
                replace H := Option.bind_eq_some_iff.mp H
                obtain ⟨t553, A460, H⟩ := H
                replace H : (some (t553, true)) = some (r1, r2) := H
                have A46 := Aside0.mk A460
                clear A460
                simp only [Option.some.injEq, Prod.mk.injEq] at H
                obtain ⟨rfl, rfl⟩ := H
                obtain ⟨Ao47, co47, eo47⟩ := Kd.V_slice HO_1.out
                subst eo47
                obtain ⟨Ao48, co48, eo48⟩ := Kd.V_slice HO_2.out
                subst eo48
                obtain ⟨Ao49, co49, eo49⟩ := Kd.R_slice HO_8.out
                subst eo49
                go_wp2_with (first | (go_at_call 32; (with_reducible refine (impl_EditsValid.calls k2 a0 _ _ x8_2 true _ ?side1 ?side2 A44.out).mono ?_); (case side1 => repeat (first | exact (Kd.R_reads' HO_8.out).2.2 | (with_reducible refine Kd.C_alloc ?_ _) | (with_reducible refine Kd.C_drewN ?_ _) | (with_reducible refine Kd.C_drew ?_))); (case side2 => exact (Kd.R_reads' HO_8.out).2.1); rintro e w50 ⟨rfl, hb⟩; have n0_ := Aside0.mk (Kd.V_below (by (with_reducible repeat (first | apply Kd.V_alloc | apply Kd.V_drewN | apply Kd.V_drew)); exact HO_1.out) hb); have n1_ := Aside0.mk (Kd.V_below (by (with_reducible repeat (first | apply Kd.V_alloc | apply Kd.V_drewN | apply Kd.V_drew)); exact HO_2.out) hb); have n2_ := Aside0.mk (Kd.R_below (by (with_reducible repeat (first | apply Kd.R_alloc | apply Kd.R_drewN | apply Kd.R_drew)); exact HO_8.out) hb); have n3_ := Aside0.mk (below_step (by repeat (first | (with_reducible first | exact HB.out | apply below_alloc | apply pw_below_drewN | apply below_drew1) | exact HB.out)) hb); clear HO_1; clear HO_2; clear HO_8; clear HB; have HO_1 := n0_; have HO_2 := n1_; have HO_8 := n2_; have HB := n3_; clear n0_ n1_ n2_ n3_; (try clear hb); (try clear hb2); (try clear hk); (try clear hi)) | (go_at_call 76; (with_reducible refine (impl_Edit.calls _ _ x8_2 t553 _ ?side1 ?side2 A46.out).mono ?_); (case side1 => repeat (first | exact (Kd.R_reads' HO_8.out).2.2 | (with_reducible refine Kd.C_alloc ?_ _) | (with_reducible refine Kd.C_drewN ?_ _) | (with_reducible refine Kd.C_drew ?_))); (case side2 => exact (Kd.R_reads' HO_8.out).2.1); rintro e w51 ⟨v554, rfl, ho0, hb⟩; have n0_ := Aside0.mk (Kd.V_elder' (by (with_reducible repeat (first | apply Kd.V_alloc | apply Kd.V_drewN | apply Kd.V_drew)); exact HO_1.out) (Kd.R_base ho0) hb); have n1_ := Aside0.mk (Kd.V_elder' (by (with_reducible repeat (first | apply Kd.V_alloc | apply Kd.V_drewN | apply Kd.V_drew)); exact HO_2.out) (Kd.R_base ho0) hb); have n2_ := Aside0.mk (Kd.R_elder' (by (with_reducible repeat (first | apply Kd.R_alloc | apply Kd.R_drewN | apply Kd.R_drew)); exact HO_8.out) (Kd.R_base ho0) hb); have n3_ := Aside0.mk (Kd.R_lower (Kd.R_new' (Kd.R_newM (M := fun k_ => (w.heap.size ≤ k_)) ho0 (below_size (by repeat (first | (with_reducible first | exact HB.out | apply below_alloc | apply pw_below_drewN | apply below_drew1) | exact HB.out))) (fun k_ h_ => h_)) (Kd.R_lt (by (with_reducible repeat (first | apply Kd.R_alloc | apply Kd.R_drewN | apply Kd.R_drew)); exact HO_8.out))) (below_size (by repeat (first | (with_reducible first | exact HB.out | apply below_alloc | apply pw_below_drewN | apply below_drew1) | exact HB.out)))); have n4_ := Aside0.mk (below_step (by repeat (first | (with_reducible first | exact HB.out | apply below_alloc | apply pw_below_drewN | apply below_drew1) | exact HB.out)) hb); clear HO_1; clear HO_2; clear HO_8; clear HB; have HO_1 := n0_; have HO_2 := n1_; have HO_8 := n2_; have HO555 := n3_; have HB := n4_; clear n0_ n1_ n2_ n3_ n4_; (try clear hb); (try clear hb2); (try clear hk); (try clear hi); (try clear ho0)))
                repeat (go_quiet (first | (go_at_call 32; (with_reducible refine (impl_EditsValid.calls k2 a0 _ _ x8_2 true _ ?side1 ?side2 A44.out).mono ?_); (case side1 => repeat (first | exact (Kd.R_reads' HO_8.out).2.2 | (with_reducible refine Kd.C_alloc ?_ _) | (with_reducible refine Kd.C_drewN ?_ _) | (with_reducible refine Kd.C_drew ?_))); (case side2 => exact (Kd.R_reads' HO_8.out).2.1); rintro e w50 ⟨rfl, hb⟩; have n0_ := Aside0.mk (Kd.V_below (by (with_reducible repeat (first | apply Kd.V_alloc | apply Kd.V_drewN | apply Kd.V_drew)); exact HO_1.out) hb); have n1_ := Aside0.mk (Kd.V_below (by (with_reducible repeat (first | apply Kd.V_alloc | apply Kd.V_drewN | apply Kd.V_drew)); exact HO_2.out) hb); have n2_ := Aside0.mk (Kd.R_below (by (with_reducible repeat (first | apply Kd.R_alloc | apply Kd.R_drewN | apply Kd.R_drew)); exact HO_8.out) hb); have n3_ := Aside0.mk (below_step (by repeat (first | (with_reducible first | exact HB.out | apply below_alloc | apply pw_below_drewN | apply below_drew1) | exact HB.out)) hb); clear HO_1; clear HO_2; clear HO_8; clear HB; have HO_1 := n0_; have HO_2 := n1_; have HO_8 := n2_; have HB := n3_; clear n0_ n1_ n2_ n3_; (try clear hb); (try clear hb2); (try clear hk); (try clear hi)) | (go_at_call 76; (with_reducible refine (impl_Edit.calls _ _ x8_2 t553 _ ?side1 ?side2 A46.out).mono ?_); (case side1 => repeat (first | exact (Kd.R_reads' HO_8.out).2.2 | (with_reducible refine Kd.C_alloc ?_ _) | (with_reducible refine Kd.C_drewN ?_ _) | (with_reducible refine Kd.C_drew ?_))); (case side2 => exact (Kd.R_reads' HO_8.out).2.1); rintro e w51 ⟨v554, rfl, ho0, hb⟩; have n0_ := Aside0.mk (Kd.V_elder' (by (with_reducible repeat (first | apply Kd.V_alloc | apply Kd.V_drewN | apply Kd.V_drew)); exact HO_1.out) (Kd.R_base ho0) hb); have n1_ := Aside0.mk (Kd.V_elder' (by (with_reducible repeat (first | apply Kd.V_alloc | apply Kd.V_drewN | apply Kd.V_drew)); exact HO_2.out) (Kd.R_base ho0) hb); have n2_ := Aside0.mk (Kd.R_elder' (by (with_reducible repeat (first | apply Kd.R_alloc | apply Kd.R_drewN | apply Kd.R_drew)); exact HO_8.out) (Kd.R_base ho0) hb); have n3_ := Aside0.mk (Kd.R_lower (Kd.R_new' (Kd.R_newM (M := fun k_ => (w.heap.size ≤ k_)) ho0 (below_size (by repeat (first | (with_reducible first | exact HB.out | apply below_alloc | apply pw_below_drewN | apply below_drew1) | exact HB.out))) (fun k_ h_ => h_)) (Kd.R_lt (by (with_reducible repeat (first | apply Kd.R_alloc | apply Kd.R_drewN | apply Kd.R_drew)); exact HO_8.out))) (below_size (by repeat (first | (with_reducible first | exact HB.out | apply below_alloc | apply pw_below_drewN | apply below_drew1) | exact HB.out)))); have n4_ := Aside0.mk (below_step (by repeat (first | (with_reducible first | exact HB.out | apply below_alloc | apply pw_below_drewN | apply below_drew1) | exact HB.out)) hb); clear HO_1; clear HO_2; clear HO_8; clear HB; have HO_1 := n0_; have HO_2 := n1_; have HO_8 := n2_; have HO555 := n3_; have HB := n4_; clear n0_ n1_ n2_ n3_ n4_; (try clear hb); (try clear hb2); (try clear hk); (try clear hi); (try clear ho0))); try go_wp2_with (first | (go_at_call 32; (with_reducible refine (impl_EditsValid.calls k2 a0 _ _ x8_2 true _ ?side1 ?side2 A44.out).mono ?_); (case side1 => repeat (first | exact (Kd.R_reads' HO_8.out).2.2 | (with_reducible refine Kd.C_alloc ?_ _) | (with_reducible refine Kd.C_drewN ?_ _) | (with_reducible refine Kd.C_drew ?_))); (case side2 => exact (Kd.R_reads' HO_8.out).2.1); rintro e w50 ⟨rfl, hb⟩; have n0_ := Aside0.mk (Kd.V_below (by (with_reducible repeat (first | apply Kd.V_alloc | apply Kd.V_drewN | apply Kd.V_drew)); exact HO_1.out) hb); have n1_ := Aside0.mk (Kd.V_below (by (with_reducible repeat (first | apply Kd.V_alloc | apply Kd.V_drewN | apply Kd.V_drew)); exact HO_2.out) hb); have n2_ := Aside0.mk (Kd.R_below (by (with_reducible repeat (first | apply Kd.R_alloc | apply Kd.R_drewN | apply Kd.R_drew)); exact HO_8.out) hb); have n3_ := Aside0.mk (below_step (by repeat (first | (with_reducible first | exact HB.out | apply below_alloc | apply pw_below_drewN | apply below_drew1) | exact HB.out)) hb); clear HO_1; clear HO_2; clear HO_8; clear HB; have HO_1 := n0_; have HO_2 := n1_; have HO_8 := n2_; have HB := n3_; clear n0_ n1_ n2_ n3_; (try clear hb); (try clear hb2); (try clear hk); (try clear hi)) | (go_at_call 76; (with_reducible refine (impl_Edit.calls _ _ x8_2 t553 _ ?side1 ?side2 A46.out).mono ?_); (case side1 => repeat (first | exact (Kd.R_reads' HO_8.out).2.2 | (with_reducible refine Kd.C_alloc ?_ _) | (with_reducible refine Kd.C_drewN ?_ _) | (with_reducible refine Kd.C_drew ?_))); (case side2 => exact (Kd.R_reads' HO_8.out).2.1); rintro e w51 ⟨v554, rfl, ho0, hb⟩; have n0_ := Aside0.mk (Kd.V_elder' (by (with_reducible repeat (first | apply Kd.V_alloc | apply Kd.V_drewN | apply Kd.V_drew)); exact HO_1.out) (Kd.R_base ho0) hb); have n1_ := Aside0.mk (Kd.V_elder' (by (with_reducible repeat (first | apply Kd.V_alloc | apply Kd.V_drewN | apply Kd.V_drew)); exact HO_2.out) (Kd.R_base ho0) hb); have n2_ := Aside0.mk (Kd.R_elder' (by (with_reducible repeat (first | apply Kd.R_alloc | apply Kd.R_drewN | apply Kd.R_drew)); exact HO_8.out) (Kd.R_base ho0) hb); have n3_ := Aside0.mk (Kd.R_lower (Kd.R_new' (Kd.R_newM (M := fun k_ => (w.heap.size ≤ k_)) ho0 (below_size (by repeat (first | (with_reducible first | exact HB.out | apply below_alloc | apply pw_below_drewN | apply below_drew1) | exact HB.out))) (fun k_ h_ => h_)) (Kd.R_lt (by (with_reducible repeat (first | apply Kd.R_alloc | apply Kd.R_drewN | apply Kd.R_drew)); exact HO_8.out))) (below_size (by repeat (first | (with_reducible first | exact HB.out | apply below_alloc | apply pw_below_drewN | apply below_drew1) | exact HB.out)))); have n4_ := Aside0.mk (below_step (by repeat (first | (with_reducible first | exact HB.out | apply below_alloc | apply pw_below_drewN | apply below_drew1) | exact HB.out)) hb); clear HO_1; clear HO_2; clear HO_8; clear HB; have HO_1 := n0_; have HO_2 := n1_; have HO_8 := n2_; have HO555 := n3_; have HB := n4_; clear n0_ n1_ n2_ n3_ n4_; (try clear hb); (try clear hb2); (try clear hk); (try clear hi); (try clear ho0))))
                go_ret2
                exact ⟨_, by first | rfl | (simp [errW_none, errW_some] <;> rfl) | (simp [*, errW_none, errW_some] <;> rfl), by (with_reducible repeat (first | apply Kd.R_alloc | apply Kd.R_drewN | apply Kd.R_drew)); exact Kd.R_mono HO555.out (fun _ hk => hk.1.1), by repeat (first | (with_reducible first | exact HB.out | apply below_alloc | apply pw_below_drewN | apply below_drew1) | exact HB.out)⟩
              · replace c45 := Bool.eq_false_iff.mpr c45
                subst c45
                have H1 : (some (([] : List (S42)), false)) = some (r1, r2) := by rw [if_neg (show ¬ (false = true) by decide)] at H; exact H
                clear H
                have H := H1
                clear H1
                simp only [Option.some.injEq, Prod.mk.injEq] at H
                obtain ⟨rfl, rfl⟩ := H
                obtain ⟨Ao52, co52, eo52⟩ := Kd.V_slice HO_1.out
                subst eo52
                obtain ⟨Ao53, co53, eo53⟩ := Kd.V_slice HO_2.out
                subst eo53
                obtain ⟨Ao54, co54, eo54⟩ := Kd.R_slice HO_8.out
                subst eo54
                go_wp2_with (first | (go_at_call 32; (with_reducible refine (impl_EditsValid.calls k2 a0 _ _ x8_2 false _ ?side1 ?side2 A44.out).mono ?_); (case side1 => repeat (first | exact (Kd.R_reads' HO_8.out).2.2 | (with_reducible refine Kd.C_alloc ?_ _) | (with_reducible refine Kd.C_drewN ?_ _) | (with_reducible refine Kd.C_drew ?_))); (case side2 => exact (Kd.R_reads' HO_8.out).2.1); rintro e w55 ⟨rfl, hb⟩; have n0_ := Aside0.mk (Kd.V_below (by (with_reducible repeat (first | apply Kd.V_alloc | apply Kd.V_drewN | apply Kd.V_drew)); exact HO_1.out) hb); have n1_ := Aside0.mk (Kd.V_below (by (with_reducible repeat (first | apply Kd.V_alloc | apply Kd.V_drewN | apply Kd.V_drew)); exact HO_2.out) hb); have n2_ := Aside0.mk (Kd.R_below (by (with_reducible repeat (first | apply Kd.R_alloc | apply Kd.R_drewN | apply Kd.R_drew)); exact HO_8.out) hb); have n3_ := Aside0.mk (below_step (by repeat (first | (with_reducible first | exact HB.out | apply below_alloc | apply pw_below_drewN | apply below_drew1) | exact HB.out)) hb); clear HO_1; clear HO_2; clear HO_8; clear HB; have HO_1 := n0_; have HO_2 := n1_; have HO_8 := n2_; have HB := n3_; clear n0_ n1_ n2_ n3_; (try clear hb); (try clear hb2); (try clear hk); (try clear hi)))
                repeat (go_quiet (first | (go_at_call 32; (with_reducible refine (impl_EditsValid.calls k2 a0 _ _ x8_2 false _ ?side1 ?side2 A44.out).mono ?_); (case side1 => repeat (first | exact (Kd.R_reads' HO_8.out).2.2 | (with_reducible refine Kd.C_alloc ?_ _) | (with_reducible refine Kd.C_drewN ?_ _) | (with_reducible refine Kd.C_drew ?_))); (case side2 => exact (Kd.R_reads' HO_8.out).2.1); rintro e w55 ⟨rfl, hb⟩; have n0_ := Aside0.mk (Kd.V_below (by (with_reducible repeat (first | apply Kd.V_alloc | apply Kd.V_drewN | apply Kd.V_drew)); exact HO_1.out) hb); have n1_ := Aside0.mk (Kd.V_below (by (with_reducible repeat (first | apply Kd.V_alloc | apply Kd.V_drewN | apply Kd.V_drew)); exact HO_2.out) hb); have n2_ := Aside0.mk (Kd.R_below (by (with_reducible repeat (first | apply Kd.R_alloc | apply Kd.R_drewN | apply Kd.R_drew)); exact HO_8.out) hb); have n3_ := Aside0.mk (below_step (by repeat (first | (with_reducible first | exact HB.out | apply below_alloc | apply pw_below_drewN | apply below_drew1) | exact HB.out)) hb); clear HO_1; clear HO_2; clear HO_8; clear HB; have HO_1 := n0_; have HO_2 := n1_; have HO_8 := n2_; have HB := n3_; clear n0_ n1_ n2_ n3_; (try clear hb); (try clear hb2); (try clear hk); (try clear hi))); try go_wp2_with (first | (go_at_call 32; (with_reducible refine (impl_EditsValid.calls k2 a0 _ _ x8_2 false _ ?side1 ?side2 A44.out).mono ?_); (case side1 => repeat (first | exact (Kd.R_reads' HO_8.out).2.2 | (with_reducible refine Kd.C_alloc ?_ _) | (with_reducible refine Kd.C_drewN ?_ _) | (with_reducible refine Kd.C_drew ?_))); (case side2 => exact (Kd.R_reads' HO_8.out).2.1); rintro e w55 ⟨rfl, hb⟩; have n0_ := Aside0.mk (Kd.V_below (by (with_reducible repeat (first | apply Kd.V_alloc | apply Kd.V_drewN | apply Kd.V_drew)); exact HO_1.out) hb); have n1_ := Aside0.mk (Kd.V_below (by (with_reducible repeat (first | apply Kd.V_alloc | apply Kd.V_drewN | apply Kd.V_drew)); exact HO_2.out) hb); have n2_ := Aside0.mk (Kd.R_below (by (with_reducible repeat (first | apply Kd.R_alloc | apply Kd.R_drewN | apply Kd.R_drew)); exact HO_8.out) hb); have n3_ := Aside0.mk (below_step (by repeat (first | (with_reducible first | exact HB.out | apply below_alloc | apply pw_below_drewN | apply below_drew1) | exact HB.out)) hb); clear HO_1; clear HO_2; clear HO_8; clear HB; have HO_1 := n0_; have HO_2 := n1_; have HO_8 := n2_; have HB := n3_; clear n0_ n1_ n2_ n3_; (try clear hb); (try clear hb2); (try clear hk); (try clear hi))))
                go_ret2
                exact ⟨_, by first | rfl | (simp [errW_none, errW_some] <;> rfl) | (simp [*, errW_none, errW_some] <;> rfl), by first | exact Kd.R_nil _ _ _ _ _ | exact Kd.N_nil _ _ _ _ _ | exact Kd.V_nil _ _ _ _ _ | exact Kd.Q_nil _ _ _ _ _ | exact Kd.S_nil _ _ _ _ _, by repeat (first | (with_reducible first | exact HB.out | apply below_alloc | apply pw_below_drewN | apply below_drew1) | exact HB.out)⟩

end Go.Proofs.Ytghkbkbommobaaa.P
