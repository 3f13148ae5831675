/- The functions of the program that one law uses, as plain Lean functions, and the contracts that tie the machine to them, walked by the machine. No condition. -/
import Derived.Test.YtghkbkbommobaaaDoorPx0
import Derived.Test.YtghkbkbommobaaaDoorPx6
namespace Go.Proofs.YtghkbkbommobaaaDoor.P
open Go.RowKit Go.Proofs.YtghkbkbommobaaaDoor.Copy Go.Proofs.YtghkbkbommobaaaDoor.Strs Go.Proofs.YtghkbkbommobaaaDoor.Lib Go.Proofs.YtghkbkbommobaaaDoorW.PrintWords Go.Proofs.YtghkbkbommobaaaDoorW.PrintLast Go.Proofs.YtghkbkbommobaaaDoorW.PrintMore
attribute [local go_sem] max2_int min2_int max_two min_two max_three min_three max_four min_four   -- for this text's walks alone
set_option linter.unusedVariables false
set_option linter.unusedSimpArgs false

/-! ### impl_WrapLines: function 42 -/
mutual
def impl_WrapLines.l0 : Nat → List ByteArray → Int → List Int → List Int → Int → Option (List Int)
  | 0, _, _, _, _, _ => none
  | k + 1, x0, x1, x5, x6, x7 => if x7 ≥ 0 then (if 0 ≤ x7 then (if x7 < (x5.length : Int) then (impl_WrapLines.l1 k x0 x1 (x5.set (x7 : Int).toNat (-1)) x6 x7 1) else (none)) else (none)) else (impl_WrapLines.l2 k x0 x6 ([] : List Int) 0)
def impl_WrapLines.l1 : Nat → List ByteArray → Int → List Int → List Int → Int → Int → Option (List Int)
  | 0, _, _, _, _, _, _ => none
  | k + 1, x0, x1, x5, x6, x7, x8 => if (wrap64 (x7 + x8)) ≤ (x0.length : Int) then (if 0 ≤ x7 then (if x7 ≤ (wrap64 (x7 + x8)) then ((impl_lineLen.f ((x0.take ((wrap64 (x7 + x8)) : Int).toNat).drop (x7 : Int).toNat)).bind fun t180 => (impl_WrapLines.j2 k x0 x1 x5 x6 x7 x8 (decide (t180 ≤ x1)))) else (none)) else (none)) else (impl_WrapLines.j2 k x0 x1 x5 x6 x7 x8 false)
def impl_WrapLines.j2 : Nat → List ByteArray → Int → List Int → List Int → Int → Int → Bool → Option (List Int)
  | 0, _, _, _, _, _, _, _ => none
  | k + 1, x0, x1, x5, x6, x7, x8, x51 => if x51 = true then (if 0 ≤ x7 then (if x7 ≤ (wrap64 (x7 + x8)) then (if (wrap64 (x7 + x8)) ≤ (x0.length : Int) then ((impl_lineLen.f ((x0.take ((wrap64 (x7 + x8)) : Int).toNat).drop (x7 : Int).toNat)).bind fun t182 => (if 0 ≤ (wrap64 (x7 + x8)) then (if (wrap64 (x7 + x8)) < (x5.length : Int) then (if (wrap64 (x7 + x8)) = (x0.length : Int) then (if x7 < (x5.length : Int) then (if (rd x5 x7) < 0 then (if x7 < (x6.length : Int) then (impl_WrapLines.l1 k x0 x1 (x5.set (x7 : Int).toNat 0) (x6.set (x7 : Int).toNat x8) x7 (wrap64 (x8 + 1))) else (none)) else (if 0 ≤ (rd x5 x7) then (if x7 < (x6.length : Int) then (impl_WrapLines.l1 k x0 x1 (x5.set (x7 : Int).toNat 0) (x6.set (x7 : Int).toNat x8) x7 (wrap64 (x8 + 1))) else (none)) else (impl_WrapLines.l1 k x0 x1 x5 x6 x7 (wrap64 (x8 + 1))))) else (none)) else (if x7 < (x5.length : Int) then (if (rd x5 x7) < 0 then (if x7 < (x6.length : Int) then (impl_WrapLines.l1 k x0 x1 (x5.set (x7 : Int).toNat (wrap64 ((wrap64 ((wrap64 (x1 - t182)) * (wrap64 (x1 - t182)))) + (rd x5 (wrap64 (x7 + x8)))))) (x6.set (x7 : Int).toNat x8) x7 (wrap64 (x8 + 1))) else (none)) else (if (wrap64 ((wrap64 ((wrap64 (x1 - t182)) * (wrap64 (x1 - t182)))) + (rd x5 (wrap64 (x7 + x8))))) ≤ (rd x5 x7) then (if x7 < (x6.length : Int) then (impl_WrapLines.l1 k x0 x1 (x5.set (x7 : Int).toNat (wrap64 ((wrap64 ((wrap64 (x1 - t182)) * (wrap64 (x1 - t182)))) + (rd x5 (wrap64 (x7 + x8)))))) (x6.set (x7 : Int).toNat x8) x7 (wrap64 (x8 + 1))) else (none)) else (impl_WrapLines.l1 k x0 x1 x5 x6 x7 (wrap64 (x8 + 1))))) else (none))) else (none)) else (none))) else (none)) else (none)) else (none)) else (impl_WrapLines.l0 k x0 x1 x5 x6 (wrap64 (x7 - 1)))
def impl_WrapLines.l2 : Nat → List ByteArray → List Int → List Int → Int → Option (List Int)
  | 0, _, _, _, _ => none
  | k + 1, x0, x6, x11, x12 => if x12 < (x0.length : Int) then (if 0 ≤ x12 then (if x12 < (x6.length : Int) then (if x11.length < 17592186044416 then (impl_WrapLines.l2 k x0 x6 (x11 ++ [rd x6 x12]) (wrap64 (x12 + (rd x6 x12)))) else (none)) else (none)) else (none)) else ((impl_copied_int.f x11).bind fun t201 => (some t201))
end
def impl_WrapLines.f (k : Nat) (l0 : List ByteArray) (a1 : Int) : Option (List Int) := (impl_WordsFit.f k l0 a1).bind fun t171 => (if t171 = true then (if 0 ≤ (wrap64 ((l0.length : Int) + 1)) then (if (wrap64 ((l0.length : Int) + 1) : Int).toNat ≤ 35184372088832 then (impl_WrapLines.l0 k l0 a1 (List.replicate (wrap64 ((l0.length : Int) + 1) : Int).toNat 0) (List.replicate (wrap64 ((l0.length : Int) + 1) : Int).toNat 0) (wrap64 ((l0.length : Int) - 1))) else (none)) else (none)) else (some ([] : List Int)))
theorem impl_WrapLines.mono_l : ∀ k, (∀ y0 y1 y2 y3 y4, LeO (impl_WrapLines.l0 k y0 y1 y2 y3 y4) (impl_WrapLines.l0 (k + 1) y0 y1 y2 y3 y4)) ∧ (∀ y0 y1 y2 y3 y4 y5, LeO (impl_WrapLines.l1 k y0 y1 y2 y3 y4 y5) (impl_WrapLines.l1 (k + 1) y0 y1 y2 y3 y4 y5)) ∧ (∀ y0 y1 y2 y3 y4 y5 y6, LeO (impl_WrapLines.j2 k y0 y1 y2 y3 y4 y5 y6) (impl_WrapLines.j2 (k + 1) y0 y1 y2 y3 y4 y5 y6)) ∧ (∀ y0 y1 y2 y3, LeO (impl_WrapLines.l2 k y0 y1 y2 y3) (impl_WrapLines.l2 (k + 1) y0 y1 y2 y3))
  | 0 => ⟨fun _ _ _ _ _ r h => by simp [impl_WrapLines.l0] at h, fun _ _ _ _ _ _ r h => by simp [impl_WrapLines.l1] at h, fun _ _ _ _ _ _ _ r h => by simp [impl_WrapLines.j2] at h, fun _ _ _ _ r h => by simp [impl_WrapLines.l2] at h⟩
  | k + 1 => by
    obtain ⟨ih0, ih1, ih2, ih3⟩ := impl_WrapLines.mono_l k
    refine ⟨?_, ?_, ?_, ?_⟩
    · intro y0 y1 y2 y3 y4
      unfold impl_WrapLines.l0
      repeat' first
      | (with_reducible exact ih0 _ _ _ _ _)
      | (with_reducible exact ih1 _ _ _ _ _ _)
      | (with_reducible exact ih2 _ _ _ _ _ _ _)
      | (with_reducible exact ih3 _ _ _ _)
      | (with_reducible exact impl_WordsFit.mono _ _ _)
      | (with_reducible exact LeO.refl _)
      | (with_reducible exact LeO.none _)
      | (with_reducible refine LeO.ite ?_ ?_)
      | (with_reducible refine LeO.bind ?_ (fun _ => ?_))
      | exact ih0 _ _ _ _ _
      | exact ih1 _ _ _ _ _ _
      | exact ih2 _ _ _ _ _ _ _
      | exact ih3 _ _ _ _
      | exact impl_WordsFit.mono _ _ _
      | exact LeO.none _
      | refine LeO.ite ?_ ?_
      | refine LeO.bind ?_ (fun _ => ?_)
    · intro y0 y1 y2 y3 y4 y5
      unfold impl_WrapLines.l1
      repeat' first
      | (with_reducible exact ih0 _ _ _ _ _)
      | (with_reducible exact ih1 _ _ _ _ _ _)
      | (with_reducible exact ih2 _ _ _ _ _ _ _)
      | (with_reducible exact ih3 _ _ _ _)
      | (with_reducible exact impl_WordsFit.mono _ _ _)
      | (with_reducible exact LeO.refl _)
      | (with_reducible exact LeO.none _)
      | (with_reducible refine LeO.ite ?_ ?_)
      | (with_reducible refine LeO.bind ?_ (fun _ => ?_))
      | exact ih0 _ _ _ _ _
      | exact ih1 _ _ _ _ _ _
      | exact ih2 _ _ _ _ _ _ _
      | exact ih3 _ _ _ _
      | exact impl_WordsFit.mono _ _ _
      | exact LeO.none _
      | refine LeO.ite ?_ ?_
      | refine LeO.bind ?_ (fun _ => ?_)
    · intro y0 y1 y2 y3 y4 y5 y6
      unfold impl_WrapLines.j2
      repeat' first
      | (with_reducible exact ih0 _ _ _ _ _)
      | (with_reducible exact ih1 _ _ _ _ _ _)
      | (with_reducible exact ih2 _ _ _ _ _ _ _)
      | (with_reducible exact ih3 _ _ _ _)
      | (with_reducible exact impl_WordsFit.mono _ _ _)
      | (with_reducible exact LeO.refl _)
      | (with_reducible exact LeO.none _)
      | (with_reducible refine LeO.ite ?_ ?_)
      | (with_reducible refine LeO.bind ?_ (fun _ => ?_))
      | exact ih0 _ _ _ _ _
      | exact ih1 _ _ _ _ _ _
      | exact ih2 _ _ _ _ _ _ _
      | exact ih3 _ _ _ _
      | exact impl_WordsFit.mono _ _ _
      | exact LeO.none _
      | refine LeO.ite ?_ ?_
      | refine LeO.bind ?_ (fun _ => ?_)
    · intro y0 y1 y2 y3
      unfold impl_WrapLines.l2
      repeat' first
      | (with_reducible exact ih0 _ _ _ _ _)
      | (with_reducible exact ih1 _ _ _ _ _ _)
      | (with_reducible exact ih2 _ _ _ _ _ _ _)
      | (with_reducible exact ih3 _ _ _ _)
      | (with_reducible exact impl_WordsFit.mono _ _ _)
      | (with_reducible exact LeO.refl _)
      | (with_reducible exact LeO.none _)
      | (with_reducible refine LeO.ite ?_ ?_)
      | (with_reducible refine LeO.bind ?_ (fun _ => ?_))
      | exact ih0 _ _ _ _ _
      | exact ih1 _ _ _ _ _ _
      | exact ih2 _ _ _ _ _ _ _
      | exact ih3 _ _ _ _
      | exact impl_WordsFit.mono _ _ _
      | exact LeO.none _
      | refine LeO.ite ?_ ?_
      | refine LeO.bind ?_ (fun _ => ?_)
theorem impl_WrapLines.mono : ∀ a0 a1 k, LeO (impl_WrapLines.f k a0 a1) (impl_WrapLines.f (k + 1) a0 a1) := by
  intro a0 a1 k
  obtain ⟨ih0, ih1, ih2, ih3⟩ := impl_WrapLines.mono_l k
  unfold impl_WrapLines.f
  repeat' first
      | (with_reducible exact ih0 _ _ _ _ _)
      | (with_reducible exact ih1 _ _ _ _ _ _)
      | (with_reducible exact ih2 _ _ _ _ _ _ _)
      | (with_reducible exact ih3 _ _ _ _)
      | (with_reducible exact impl_WordsFit.mono _ _ _)
      | (with_reducible exact LeO.refl _)
      | (with_reducible exact LeO.none _)
      | (with_reducible refine LeO.ite ?_ ?_)
      | (with_reducible refine LeO.bind ?_ (fun _ => ?_))
      | exact ih0 _ _ _ _ _
      | exact ih1 _ _ _ _ _ _
      | exact ih2 _ _ _ _ _ _ _
      | exact ih3 _ _ _ _
      | exact impl_WordsFit.mono _ _ _
      | exact LeO.none _
      | refine LeO.ite ?_ ?_
      | refine LeO.bind ?_ (fun _ => ?_)
set_option maxHeartbeats 8000000 in
set_option maxRecDepth 100000 in
theorem impl_WrapLines.calls (k : Nat) (A0 : Option Addr) (c0 : Nat) (l0 : List ByteArray) (a1 : Int) (r : List Int) (w : World) (hr0 : Kd.C Kd.string w A0 l0.length l0) (hc0 : l0.length ≤ c0) (h : impl_WrapLines.f k l0 a1 = some r) :
    Calls Tryd.prog 42 #[.slice A0 l0.length c0, .int .i64 a1] w fun e w' => ∃ v0_ : Value, e = .returned (v0_) ∧ Kd.R (Kd.int .i64) 3 w' w.heap.size (fun _ => True) v0_ r ∧ Below w.heap.size w w' := by
  have HR0 := Aside0.mk hr0
  have HC0 := Aside0.mk hc0
  clear hr0 hc0
  have HB := Aside0.mk (Below.refl w.heap.size w)
  have H : ((impl_WordsFit.f k l0 a1).bind fun t171 => (if t171 = true then (if 0 ≤ (wrap64 ((l0.length : Int) + 1)) then (if (wrap64 ((l0.length : Int) + 1) : Int).toNat ≤ 35184372088832 then (impl_WrapLines.l0 k l0 a1 (List.replicate (wrap64 ((l0.length : Int) + 1) : Int).toNat 0) (List.replicate (wrap64 ((l0.length : Int) + 1) : Int).toNat 0) (wrap64 ((l0.length : Int) - 1))) else (none)) else (none)) else (some ([] : List Int)))) = some r := h
  clear h
  replace H := Option.bind_eq_some_iff.mp H
  obtain ⟨t171, A30, H⟩ := H
  replace H : (if t171 = true then (if 0 ≤ (wrap64 ((l0.length : Int) + 1)) then (if (wrap64 ((l0.length : Int) + 1) : Int).toNat ≤ 35184372088832 then (impl_WrapLines.l0 k l0 a1 (List.replicate (wrap64 ((l0.length : Int) + 1) : Int).toNat 0) (List.replicate (wrap64 ((l0.length : Int) + 1) : Int).toNat 0) (wrap64 ((l0.length : Int) - 1))) else (none)) else (none)) else (some ([] : List Int))) = some r := H
  have A3 := Aside0.mk A30
  clear A30
  by_cases c4 : t171 = true
  · subst c4
    have H1 : (if 0 ≤ (wrap64 ((l0.length : Int) + 1)) then (if (wrap64 ((l0.length : Int) + 1) : Int).toNat ≤ 35184372088832 then (impl_WrapLines.l0 k l0 a1 (List.replicate (wrap64 ((l0.length : Int) + 1) : Int).toNat 0) (List.replicate (wrap64 ((l0.length : Int) + 1) : Int).toNat 0) (wrap64 ((l0.length : Int) - 1))) else (none)) else (none)) = some r := by rw [if_pos rfl] at H; exact H
    clear H
    have H := H1
    clear H1
    obtain ⟨ji5, hji5⟩ : ∃ j_ : Int, (wrap64 ((l0.length : Int) + 1)) = j_ := ⟨_, rfl⟩
    replace H : (if 0 ≤ (ji5) then (if (ji5 : Int).toNat ≤ 35184372088832 then (impl_WrapLines.l0 k l0 a1 (List.replicate (ji5 : Int).toNat 0) (List.replicate (ji5 : Int).toNat 0) (wrap64 ((l0.length : Int) - 1))) else (none)) else (none)) = some r := by first | (rw [hji5] at H; exact H) | (simp only [hji5] at H ⊢; exact H)
    (try rw [hji5] at A3)
    have hji5w : (IntKind.i64.wrap ((l0.length : Int) + 1)) = ji5 := (i64_w _).trans hji5
    by_cases c6 : 0 ≤ (ji5)
    · rw [if_pos c6] at H
      have c6b0 := eq_true c6
      have c6b1 : decide (0 ≤ (ji5)) = true := decide_eq_true c6
      clear c6
      by_cases c7 : (ji5 : Int).toNat ≤ 35184372088832
      · rw [if_pos c7] at H
        have c7b0 := eq_true c7
        have c7b1 : decide ((ji5 : Int).toNat ≤ 35184372088832) = true := decide_eq_true c7
        clear c7
        obtain ⟨y172, hy172⟩ : ∃ y_ : List Int, y_ = (List.replicate (ji5 : Int).toNat 0) := ⟨_, rfl⟩
        replace H : (impl_WrapLines.l0 k l0 a1 y172 (List.replicate (ji5 : Int).toNat 0) (wrap64 ((l0.length : Int) - 1))) = some r := by first | (rw [hy172]; with_reducible exact H) | (have H2_ := (Option.bind_some _ _).symm.trans H; rw [hy172]; with_reducible exact H2_) | (have H2_ := (Option.bind_some _ _).symm.trans H; with_reducible exact H2_) | with_reducible exact H | (rw [hy172]; exact H) | exact H
        have Ny172 := Aside0.mk hy172
        clear hy172
        obtain ⟨y175, hy175⟩ : ∃ y_ : List Int, y_ = (List.replicate (ji5 : Int).toNat 0) := ⟨_, rfl⟩
        replace H : (impl_WrapLines.l0 k l0 a1 y172 y175 (wrap64 ((l0.length : Int) - 1))) = some r := by first | (rw [hy175]; with_reducible exact H) | (have H2_ := (Option.bind_some _ _).symm.trans H; rw [hy175]; with_reducible exact H2_) | (have H2_ := (Option.bind_some _ _).symm.trans H; with_reducible exact H2_) | with_reducible exact H | (rw [hy175]; exact H) | exact H
        have Ny175 := Aside0.mk hy175
        clear hy175
        have H' := Aside0.mk H
        clear H
        go_enter Tryd.func42, Tryd.ntmps42
        go_wp2_with (first | ((with_reducible refine gate_callee (f := 55) rfl ?_); refine goesL_ (some 15) rfl rfl Tryd.func55 (by kernel_rfl) rfl #[.slice A0 l0.length c0, .int .i64 a1] rfl (by (try simp only [List.map_toArray, List.map_cons, List.map_nil]); first | done | rfl | (simp only [List.length_drop, List.length_take]; rfl)) ?_; (with_reducible refine (impl_WordsFit.calls k _ _ l0 a1 true _ ?side1 ?side2 A3.out).mono ?_); (case side1 => repeat (first | exact HR0.out | (with_reducible refine Kd.C_alloc ?_ _) | (with_reducible refine Kd.C_drewN ?_ _) | (with_reducible refine Kd.C_drew ?_))); (case side2 => exact HC0.out); rintro e w' ⟨rfl, ⟨nd, rfl⟩⟩; refine ⟨_, rfl, ?_⟩) | ((with_reducible refine gate_dst (N := 20) rfl ?_); refine Kd.R_make (Kd.int .i64) _ 3 rfl (N := 20) rfl 63 _ _ rfl ji5 rfl rfl Tryd.underlying63 (.int .i64 0) 8 info3 rfl (by decide) (by omega) 0 (ok := fun _ => True) (okp := fun _ => True) rfl (fun _ hk => hk) trivial (of_decide_eq_true (by first | (with_reducible assumption) | assumption)) (Nat.le_trans (Nat.mul_le_mul_right _ (of_decide_eq_true (by first | (with_reducible assumption) | assumption) : ji5.toNat ≤ 35184372088832)) (by omega)) (Below.refl _ _) (Nat.le_refl _) ?_; intro v173 w8 ho9 hb hg_ hnew_; clear hg_ hnew_; (first | rw [← Ny172.out] at ho9 | (simp only [Int.reduceToNat] at ho9; rw [← Ny172.out] at ho9)); have n0_ := Aside0.mk (Kd.R_lower ho9 (below_size (by repeat (first | (with_reducible first | exact HB.out | apply below_alloc | apply pw_below_drewN | apply below_drew1) | exact HB.out)))); have n1_ := Aside0.mk (below_step (by repeat (first | (with_reducible first | exact HB.out | apply below_alloc | apply pw_below_drewN | apply below_drew1) | exact HB.out)) hb); clear HB; have HO174 := n0_; have HB := n1_; clear n0_ n1_; clear hb ho9) | ((with_reducible refine gate_dst (N := 24) rfl ?_); refine Kd.R_make (Kd.int .i64) _ 3 rfl (N := 24) rfl 63 _ _ rfl ji5 rfl rfl Tryd.underlying63 (.int .i64 0) 8 info3 rfl (by decide) (by omega) 0 (ok := fun _ => True) (okp := fun _ => True) rfl (fun _ hk => hk) trivial (of_decide_eq_true (by first | (with_reducible assumption) | assumption)) (Nat.le_trans (Nat.mul_le_mul_right _ (of_decide_eq_true (by first | (with_reducible assumption) | assumption) : ji5.toNat ≤ 35184372088832)) (by omega)) (Below.refl _ _) (Nat.le_refl _) ?_; intro v176 w10 ho11 hb hg_ hnew_; clear hg_ hnew_; (first | rw [← Ny175.out] at ho11 | (simp only [Int.reduceToNat] at ho11; rw [← Ny175.out] at ho11)); have n0_ := Aside0.mk (Kd.R_elder' (by (with_reducible repeat (first | apply Kd.R_alloc | apply Kd.R_drewN | apply Kd.R_drew)); exact HO174.out) (Kd.R_base ho11) hb); have n1_ := Aside0.mk (Kd.R_lower (Kd.R_new' ho11 (Kd.R_lt (by (with_reducible repeat (first | apply Kd.R_alloc | apply Kd.R_drewN | apply Kd.R_drew)); exact HO174.out))) (below_size (by repeat (first | (with_reducible first | exact HB.out | apply below_alloc | apply pw_below_drewN | apply below_drew1) | exact HB.out)))); have n2_ := Aside0.mk (below_step (by repeat (first | (with_reducible first | exact HB.out | apply below_alloc | apply pw_below_drewN | apply below_drew1) | exact HB.out)) hb); clear HO174; clear HB; have HO174 := n0_; have HO177 := n1_; have HB := n2_; clear n0_ n1_ n2_; clear hb ho11))
        go_loopg [7] k (fun kq v7 w' => ∃ (x5_1 : List Int) (x6_1 : List Int) (x7_1 : Int), v7 = .int .i64 x7_1 ∧ Aside0 (impl_WrapLines.l0 kq l0 a1 x5_1 x6_1 x7_1 = some r) ∧ Aside0 (kq ≤ k) ∧ Aside0 (Kd.R (Kd.int .i64) 3 w' w.heap.size (fun k_ => some k_ ≠ (v176 : Value).ownBlock) v173 x5_1) ∧ Aside0 (Kd.R (Kd.int .i64) 3 w' w.heap.size (fun k_ => some k_ ≠ (v173 : Value).ownBlock) v176 x6_1) ∧ Aside0 (Below w.heap.size w w'))
        case atStart => exact ⟨(y172), (y175), (wrap64 ((l0.length : Int) - 1)), (by first | rfl | (simp; done) | (simp [*]; done)), H', ⟨Nat.le_refl _⟩, ⟨by (with_reducible repeat (first | apply Kd.R_alloc | apply Kd.R_drewN | apply Kd.R_drew)); exact Kd.R_mono HO174.out (fun _ hk => hk.2)⟩, ⟨by (with_reducible repeat (first | apply Kd.R_alloc | apply Kd.R_drewN | apply Kd.R_drew)); exact Kd.R_mono HO177.out (fun _ hk => hk.2)⟩, ⟨by repeat (first | (with_reducible first | exact HB.out | apply below_alloc | apply pw_below_drewN | apply below_drew1) | exact HB.out)⟩⟩
        case round =>
          clear H'
          try clear p2
          try clear c4
          try clear c5
          try clear c6
          try clear c6b0
          try clear c6b1
          try clear p6
          try clear c7
          try clear c7b0
          try clear c7b1
          obtain ⟨x5_1, x6_1, x7_1, rfl, HA, HK1, HO_5, HO_6, HB⟩ := hrel
          cases gk with
          | zero => exact absurd HA.out (by simp [impl_WrapLines.l0])
          | succ k1 =>
            have H := HA.out
            clear HA
            simp only [impl_WrapLines.l0] at H
            by_cases c12 : x7_1 ≥ 0
            · rw [if_pos c12] at H
              have c12b0 : decide (0 ≤ x7_1) = true := decide_eq_true c12
              clear c12
              by_cases c13 : 0 ≤ x7_1
              · rw [if_pos c13] at H
                have c13b0 : decide (0 ≤ x7_1) = true := decide_eq_true c13
                clear c13
                by_cases c14 : x7_1 < (x5_1.length : Int)
                · rw [if_pos c14] at H
                  have c14b0 : decide (x7_1 < (x5_1.length : Int)) = true := decide_eq_true c14
                  clear c14
                  obtain ⟨y178, hy178⟩ : ∃ y_ : List Int, y_ = (x5_1.set (x7_1 : Int).toNat (-1)) := ⟨_, rfl⟩
                  replace H : (impl_WrapLines.l1 k1 l0 a1 y178 x6_1 x7_1 1) = some r := by first | (rw [hy178]; with_reducible exact H) | (have H2_ := (Option.bind_some _ _).symm.trans H; rw [hy178]; with_reducible exact H2_) | (have H2_ := (Option.bind_some _ _).symm.trans H; with_reducible exact H2_) | with_reducible exact H | (rw [hy178]; exact H) | exact H
                  have Ny178 := Aside0.mk hy178
                  clear hy178
                  have H' := Aside0.mk H
                  clear H
                  have p15 : 0 ≤ (x7_1 : Int) := of_decide_eq_true (by first | (with_reducible assumption) | assumption)
                  have q15 : (x7_1 : Int) < ((x5_1.length : Int) : Int) := of_decide_eq_true (by first | (with_reducible assumption) | assumption)
                  obtain ⟨go15, co15, eo15, gb15, gl15, cl15, HG15⟩ := Kd.R_form HO_5.out (by omega)
                  (first | cases eo15 | (injection eo15 with ea_ en_ ec_; (first | subst ea_ | (injection ea_ with ea_; subst ea_)); subst ec_; clear en_))
                  have GB15 := Aside0.mk gb15
                  have GG15 := Aside0.mk HG15
                  clear gb15 gl15 HG15
                  obtain ⟨hx15_0, hf15_0⟩ := Kd.R_celln 0 HO_5.out (x7_1 : Int) p15 q15
                  replace p15 := eq_true p15
                  replace q15 := eq_true q15
                  have HP16 := Kd.R_putg HO_5.out (x7_1 : Int) (-1)
                  go_wp2_with (first | ((with_reducible refine gate_store (t := 3) (p := 34) rfl ?_); refine store_event (t := 3) (p := 34) (v := ?vo_w17) (w1 := (wr.setCell ⟨go15, (x7_1 : Int).toNat, none⟩ (.int .i64 (-1)))) ?hg ?ho ?hn ?hr ?_; (case ho => rfl); (case hg => rfl); (case hn => rfl); (case hr => first | (go_simp; done) | (go_simp; rfl)); intro w17 hw; have hg : wr.grownBy w17 (some go15) := (by rw [hw]; exact HP16.2); have hp_ : Kd.R (Kd.int .i64) 3 w17 w.heap.size (fun k_ => some k_ ≠ (v176 : Value).ownBlock) (.slice (some ⟨go15, 0, none⟩) x5_1.length co15) y178 := (by rw [hw, Ny178.out]; exact HP16.1); clear HP16; have n0_ := Aside0.mk (hp_); have n1_ := Aside0.mk (Kd.R_after (v := (.slice (some ⟨go15, 0, none⟩) x5_1.length co15)) (v1 := (.slice (some ⟨go15, 0, none⟩) x5_1.length co15)) (ok := (fun _ => True)) (by (with_reducible repeat (first | apply Kd.R_alloc | apply Kd.R_drewN | apply Kd.R_drew)); exact Kd.R_mono HO_6.out (fun _ hk => ⟨trivial, hk⟩)) hg (.inl rfl)); have n2_ := Aside0.mk ((by rw [hw]; exact below_set (HB.out) GB15.out : Below w.heap.size w w17)); clear HO_5; clear HO_6; clear HB; have HO_5 := n0_; have HO_6 := n1_; have HB := n2_; clear n0_ n1_ n2_; clear hg hw hp_))
                  go_loopg [8] k1 (fun kq v8 w' => ∃ (x5_2 : List Int) (x6_2 : List Int) (x8_2 : Int), v8 = .int .i64 x8_2 ∧ Aside0 (impl_WrapLines.l1 kq l0 a1 x5_2 x6_2 x7_1 x8_2 = some r) ∧ Aside0 (kq ≤ k1) ∧ Aside0 (Kd.R (Kd.int .i64) 3 w' w.heap.size (fun k_ => some k_ ≠ (v176 : Value).ownBlock) (.slice (some ⟨go15, 0, none⟩) x5_1.length co15) x5_2) ∧ Aside0 (Kd.R (Kd.int .i64) 3 w' w.heap.size (fun k_ => some k_ ≠ ((.slice (some ⟨go15, 0, none⟩) x5_1.length co15) : Value).ownBlock) v176 x6_2) ∧ Aside0 (Below w.heap.size w w'))
                  case atStart => exact ⟨(y178), (x6_1), (1), (by first | rfl | (simp; done) | (simp [*]; done)), H', ⟨Nat.le_refl _⟩, ⟨by (with_reducible repeat (first | apply Kd.R_alloc | apply Kd.R_drewN | apply Kd.R_drew)); exact HO_5.out⟩, ⟨by (with_reducible repeat (first | apply Kd.R_alloc | apply Kd.R_drewN | apply Kd.R_drew)); exact Kd.R_mono HO_6.out (fun _ hk => hk.2)⟩, ⟨by repeat (first | (with_reducible first | exact HB.out | apply below_alloc | apply pw_below_drewN | apply below_drew1) | exact HB.out)⟩⟩
                  case round =>
                    clear H'
                    try clear c1
                    try clear p1
                    try clear q1
                    try clear hx1
                    try clear p2
                    try clear c4
                    try clear c5
                    try clear c6
                    try clear c6b0
                    try clear c6b1
                    try clear p6
                    try clear c7
                    try clear c7b0
                    try clear c7b1
                    try clear c12
                    try clear c12b0
                    try clear c13
                    try clear c13b0
                    try clear c14
                    try clear c14b0
                    try clear p15
                    try clear q15
                    try clear hx15
                    try clear hf15
                    try clear hx15_0
                    try clear p15
                    try clear p2
                    try clear p6
                    try clear q15
                    obtain ⟨x5_2, x6_2, x8_2, rfl, HA, HK2, HO_5, HO_6, HB⟩ := hrel
                    have hl5_2 := (Kd.R_reads' HO_5.out).1
                    rw [hl5_2] at HO_5
                    (try simp only [hl5_2])
                    (try simp only [hl5_2] at HO_6)
                    cases gk with
                    | zero => exact absurd HA.out (by simp [impl_WrapLines.l1])
                    | succ k2 =>
                      have H := HA.out
                      clear HA
                      simp only [impl_WrapLines.l1] at H
                      have HC18 := Aside0.mk H
                      clear H
                      go_upto_region 10 with (fail)
                      go_cut [51] (fun v51 wc => ∃ (kq : Nat) (x51_17 : Bool), v51 = .bool x51_17 ∧ Aside0 (impl_WrapLines.j2 kq l0 a1 x5_2 x6_2 x7_1 x8_2 x51_17 = some r) ∧ Aside0 (kq ≤ k2) ∧ Aside0 (Kd.R (Kd.int .i64) 3 wc w.heap.size (fun k_ => some k_ ≠ (v176 : Value).ownBlock) (.slice (some ⟨go15, 0, none⟩) x5_2.length co15) x5_2) ∧ Aside0 (Kd.R (Kd.int .i64) 3 wc w.heap.size (fun k_ => some k_ ≠ ((.slice (some ⟨go15, 0, none⟩) x5_2.length co15) : Value).ownBlock) v176 x6_2) ∧ Aside0 (Below w.heap.size w wc))
                      case first =>
                        have H := HC18.out
                        clear HC18
                        by_cases c19 : (wrap64 (x7_1 + x8_2)) ≤ (l0.length : Int)
                        · rw [if_pos c19] at H
                          have c19b0 : decide ((wrap64 (x7_1 + x8_2)) ≤ (l0.length : Int)) = true := decide_eq_true c19
                          clear c19
                          (first | rw [c19b0] | (simp only [i64_w, i32_w]; rw [c19b0]) | skip)
                          by_cases c20 : 0 ≤ x7_1
                          · rw [if_pos c20] at H
                            have c20b0 := eq_true c20
                            have c20b1 : decide (0 ≤ x7_1) = true := decide_eq_true c20
                            clear c20
                            by_cases c21 : x7_1 ≤ (wrap64 (x7_1 + x8_2))
                            · rw [if_pos c21] at H
                              have c21b0 := eq_true c21
                              have c21b1 : decide (x7_1 ≤ (wrap64 (x7_1 + x8_2))) = true := decide_eq_true c21
                              have c22b0 := eq_true (of_decide_eq_true (by first | (with_reducible assumption) | assumption) : (wrap64 (x7_1 + x8_2)) ≤ (l0.length : Int))
                              replace H := Option.bind_eq_some_iff.mp H
                              obtain ⟨t180, A230, H⟩ := H
                              replace H : (impl_WrapLines.j2 k2 l0 a1 x5_2 x6_2 x7_1 x8_2 (decide (t180 ≤ a1))) = some r := H
                              have A23 := Aside0.mk A230
                              clear A230
                              have H' := Aside0.mk H
                              clear H
                              obtain ⟨i024, hi024, _, hsz24, _⟩ := info_parts info9
                              obtain ⟨A24, hcut24, hA24, hC24⟩ := print_mid_of (P := Tryd.prog) Value.string (⟨#[]⟩ : ByteArray) 35 9 .i64 .i64 Tryd.underlying35 hi024 hsz24 A0 c0 l0 x7_1 (wrap64 (x7_1 + x8_2)) (of_decide_eq_true (by first | (with_reducible assumption) | assumption)) (by first | omega | exact of_decide_eq_true (by first | (with_reducible assumption) | assumption)) (of_decide_eq_true (by first | (with_reducible assumption) | assumption)) HC0.out
                              have HR179 := Aside0.mk (Kd.C_of_reads (h1 := fun _ => rfl) (hA24 _ (Kd.reads_of_C HR0.out)))
                              have HC179 := Aside0.mk hC24
                              clear hA24 hC24 hi024 hsz24
                              go_wp2_with (first | (go_at_call 56; (with_reducible refine (impl_lineLen.callsN _ _ _ ((l0.take ((wrap64 (x7_1 + x8_2)) : Int).toNat).drop (x7_1 : Int).toNat) (by have h_ : (wrap64 (x7_1 + x8_2)) ≤ (l0.length : Int) := of_decide_eq_true (by first | (with_reducible assumption) | assumption); simp only [List.length_drop, List.length_take]; omega) t180 _ ?side1 ?side2 A23.out).mono ?_); (case side1 => repeat (first | exact (Kd.C_below HR179.out HB.out) | (with_reducible refine Kd.C_alloc ?_ _) | (with_reducible refine Kd.C_drewN ?_ _) | (with_reducible refine Kd.C_drew ?_))); (case side2 => exact HC179.out); rintro e w25 ⟨rfl, hb⟩; have n0_ := Aside0.mk (Kd.R_below (by (with_reducible repeat (first | apply Kd.R_alloc | apply Kd.R_drewN | apply Kd.R_drew)); exact HO_5.out) hb); have n1_ := Aside0.mk (Kd.R_below (by (with_reducible repeat (first | apply Kd.R_alloc | apply Kd.R_drewN | apply Kd.R_drew)); exact HO_6.out) hb); have n2_ := Aside0.mk (below_step (by repeat (first | (with_reducible first | exact HB.out | apply below_alloc | apply pw_below_drewN | apply below_drew1) | exact HB.out)) hb); clear HO_5; clear HO_6; clear HB; have HO_5 := n0_; have HO_6 := n1_; have HB := n2_; clear n0_ n1_ n2_; (try clear hb); (try clear hb2); (try clear hk); (try clear hi)))
                              go_meet
                              case rel => exact ⟨_, (decide (t180 ≤ a1)), (by first | rfl | (simp; done) | (simp [*]; done)), H', ⟨by have := HK1.out; have := HK2.out; first | omega | exact Nat.le_refl _⟩, ⟨by (try simp only [hl5_2]); (with_reducible repeat (first | apply Kd.R_alloc | apply Kd.R_drewN | apply Kd.R_drew)); exact HO_5.out⟩, ⟨by (try simp only [hl5_2]); (with_reducible repeat (first | apply Kd.R_alloc | apply Kd.R_drewN | apply Kd.R_drew)); exact HO_6.out⟩, ⟨by repeat (first | (with_reducible first | exact HB.out | apply below_alloc | apply pw_below_drewN | apply below_drew1) | exact HB.out)⟩⟩
                            · rw [if_neg c21] at H
                              exact absurd H (by simp)
                          · rw [if_neg c20] at H
                            exact absurd H (by simp)
                        · rw [if_neg c19] at H
                          have c19b0 : decide ((wrap64 (x7_1 + x8_2)) ≤ (l0.length : Int)) = false := decide_eq_false c19
                          clear c19
                          (first | rw [c19b0] | (simp only [i64_w, i32_w]; rw [c19b0]) | skip)
                          have H' := Aside0.mk H
                          clear H
                          go_wp2
                          go_meet
                          case rel => exact ⟨_, (false), (by first | rfl | (simp; done) | (simp [*]; done)), H', ⟨by have := HK1.out; have := HK2.out; first | omega | exact Nat.le_refl _⟩, ⟨by (try simp only [hl5_2]); (with_reducible repeat (first | apply Kd.R_alloc | apply Kd.R_drewN | apply Kd.R_drew)); exact HO_5.out⟩, ⟨by (try simp only [hl5_2]); (with_reducible repeat (first | apply Kd.R_alloc | apply Kd.R_drewN | apply Kd.R_drew)); exact HO_6.out⟩, ⟨by repeat (first | (with_reducible first | exact HB.out | apply below_alloc | apply pw_below_drewN | apply below_drew1) | exact HB.out)⟩⟩
                      case rest =>
                        clear HC18
                        try clear c1
                        try clear p1
                        try clear q1
                        try clear hx1
                        try clear c2
                        try clear p2
                        try clear c4
                        try clear c5
                        try clear c6
                        try clear c6b0
                        try clear c6b1
                        try clear p6
                        try clear c7
                        try clear c7b0
                        try clear c7b1
                        try clear c12
                        try clear c12b0
                        try clear c13
                        try clear c13b0
                        try clear c14
                        try clear c14b0
                        try clear p15
                        try clear q15
                        try clear hx15
                        try clear hf15
                        try clear c19
                        try clear c19b0
                        try clear c20
                        try clear c20b0
                        try clear c20b1
                        try clear c21
                        try clear c21b0
                        try clear c21b1
                        try clear c22
                        try clear c22b0
                        try clear hx15_0
                        try clear p1
                        try clear p15
                        try clear p2
                        try clear p6
                        try clear q1
                        try clear q15
                        obtain ⟨kq, x51_17, rfl, HA, HJ17, HO_5, HO_6, HB⟩ := hcut
                        cases kq with
                        | zero => exact absurd HA.out (by simp [impl_WrapLines.j2])
                        | succ kj17 =>
                          have H := HA.out
                          clear HA
                          simp only [impl_WrapLines.j2] at H
                          by_cases c26 : x51_17 = true
                          · subst c26
                            have H1 : (if 0 ≤ x7_1 then (if x7_1 ≤ (wrap64 (x7_1 + x8_2)) then (if (wrap64 (x7_1 + x8_2)) ≤ (l0.length : Int) then ((impl_lineLen.f ((l0.take ((wrap64 (x7_1 + x8_2)) : Int).toNat).drop (x7_1 : Int).toNat)).bind fun t182 => (if 0 ≤ (wrap64 (x7_1 + x8_2)) then (if (wrap64 (x7_1 + x8_2)) < (x5_2.length : Int) then (if (wrap64 (x7_1 + x8_2)) = (l0.length : Int) then (if x7_1 < (x5_2.length : Int) then (if (rd x5_2 x7_1) < 0 then (if x7_1 < (x6_2.length : Int) then (impl_WrapLines.l1 kj17 l0 a1 (x5_2.set (x7_1 : Int).toNat 0) (x6_2.set (x7_1 : Int).toNat x8_2) x7_1 (wrap64 (x8_2 + 1))) else (none)) else (if 0 ≤ (rd x5_2 x7_1) then (if x7_1 < (x6_2.length : Int) then (impl_WrapLines.l1 kj17 l0 a1 (x5_2.set (x7_1 : Int).toNat 0) (x6_2.set (x7_1 : Int).toNat x8_2) x7_1 (wrap64 (x8_2 + 1))) else (none)) else (impl_WrapLines.l1 kj17 l0 a1 x5_2 x6_2 x7_1 (wrap64 (x8_2 + 1))))) else (none)) else (if x7_1 < (x5_2.length : Int) then (if (rd x5_2 x7_1) < 0 then (if x7_1 < (x6_2.length : Int) then (impl_WrapLines.l1 kj17 l0 a1 (x5_2.set (x7_1 : Int).toNat (wrap64 ((wrap64 ((wrap64 (a1 - t182)) * (wrap64 (a1 - t182)))) + (rd x5_2 (wrap64 (x7_1 + x8_2)))))) (x6_2.set (x7_1 : Int).toNat x8_2) x7_1 (wrap64 (x8_2 + 1))) else (none)) else (if (wrap64 ((wrap64 ((wrap64 (a1 - t182)) * (wrap64 (a1 - t182)))) + (rd x5_2 (wrap64 (x7_1 + x8_2))))) ≤ (rd x5_2 x7_1) then (if x7_1 < (x6_2.length : Int) then (impl_WrapLines.l1 kj17 l0 a1 (x5_2.set (x7_1 : Int).toNat (wrap64 ((wrap64 ((wrap64 (a1 - t182)) * (wrap64 (a1 - t182)))) + (rd x5_2 (wrap64 (x7_1 + x8_2)))))) (x6_2.set (x7_1 : Int).toNat x8_2) x7_1 (wrap64 (x8_2 + 1))) else (none)) else (impl_WrapLines.l1 kj17 l0 a1 x5_2 x6_2 x7_1 (wrap64 (x8_2 + 1))))) else (none))) else (none)) else (none))) else (none)) else (none)) else (none)) = some r := by rw [if_pos rfl] at H; exact H
                            clear H
                            have H := H1
                            clear H1
                            by_cases c27 : 0 ≤ x7_1
                            · rw [if_pos c27] at H
                              have c27b0 := eq_true c27
                              have c27b1 : decide (0 ≤ x7_1) = true := decide_eq_true c27
                              clear c27
                              by_cases c28 : x7_1 ≤ (wrap64 (x7_1 + x8_2))
                              · rw [if_pos c28] at H
                                have c28b0 := eq_true c28
                                have c28b1 : decide (x7_1 ≤ (wrap64 (x7_1 + x8_2))) = true := decide_eq_true c28
                                by_cases c29 : (wrap64 (x7_1 + x8_2)) ≤ (l0.length : Int)
                                · rw [if_pos c29] at H
                                  have c29b0 := eq_true c29
                                  have c29b1 : decide ((wrap64 (x7_1 + x8_2)) ≤ (l0.length : Int)) = true := decide_eq_true c29
                                  replace H := Option.bind_eq_some_iff.mp H
                                  obtain ⟨t182, A300, H⟩ := H
                                  replace H : (if 0 ≤ (wrap64 (x7_1 + x8_2)) then (if (wrap64 (x7_1 + x8_2)) < (x5_2.length : Int) then (if (wrap64 (x7_1 + x8_2)) = (l0.length : Int) then (if x7_1 < (x5_2.length : Int) then (if (rd x5_2 x7_1) < 0 then (if x7_1 < (x6_2.length : Int) then (impl_WrapLines.l1 kj17 l0 a1 (x5_2.set (x7_1 : Int).toNat 0) (x6_2.set (x7_1 : Int).toNat x8_2) x7_1 (wrap64 (x8_2 + 1))) else (none)) else (if 0 ≤ (rd x5_2 x7_1) then (if x7_1 < (x6_2.length : Int) then (impl_WrapLines.l1 kj17 l0 a1 (x5_2.set (x7_1 : Int).toNat 0) (x6_2.set (x7_1 : Int).toNat x8_2) x7_1 (wrap64 (x8_2 + 1))) else (none)) else (impl_WrapLines.l1 kj17 l0 a1 x5_2 x6_2 x7_1 (wrap64 (x8_2 + 1))))) else (none)) else (if x7_1 < (x5_2.length : Int) then (if (rd x5_2 x7_1) < 0 then (if x7_1 < (x6_2.length : Int) then (impl_WrapLines.l1 kj17 l0 a1 (x5_2.set (x7_1 : Int).toNat (wrap64 ((wrap64 ((wrap64 (a1 - t182)) * (wrap64 (a1 - t182)))) + (rd x5_2 (wrap64 (x7_1 + x8_2)))))) (x6_2.set (x7_1 : Int).toNat x8_2) x7_1 (wrap64 (x8_2 + 1))) else (none)) else (if (wrap64 ((wrap64 ((wrap64 (a1 - t182)) * (wrap64 (a1 - t182)))) + (rd x5_2 (wrap64 (x7_1 + x8_2))))) ≤ (rd x5_2 x7_1) then (if x7_1 < (x6_2.length : Int) then (impl_WrapLines.l1 kj17 l0 a1 (x5_2.set (x7_1 : Int).toNat (wrap64 ((wrap64 ((wrap64 (a1 - t182)) * (wrap64 (a1 - t182)))) + (rd x5_2 (wrap64 (x7_1 + x8_2)))))) (x6_2.set (x7_1 : Int).toNat x8_2) x7_1 (wrap64 (x8_2 + 1))) else (none)) else (impl_WrapLines.l1 kj17 l0 a1 x5_2 x6_2 x7_1 (wrap64 (x8_2 + 1))))) else (none))) else (none)) else (none)) = some r := H
                                  have A30 := Aside0.mk A300
                                  clear A300
                                  obtain ⟨ji31, hji31⟩ : ∃ j_ : Int, (wrap64 (x7_1 + x8_2)) = j_ := ⟨_, rfl⟩
                                  replace H : (if 0 ≤ (ji31) then (if (ji31) < (x5_2.length : Int) then (if (ji31) = (l0.length : Int) then (if x7_1 < (x5_2.length : Int) then (if (rd x5_2 x7_1) < 0 then (if x7_1 < (x6_2.length : Int) then (impl_WrapLines.l1 kj17 l0 a1 (x5_2.set (x7_1 : Int).toNat 0) (x6_2.set (x7_1 : Int).toNat x8_2) x7_1 (wrap64 (x8_2 + 1))) else (none)) else (if 0 ≤ (rd x5_2 x7_1) then (if x7_1 < (x6_2.length : Int) then (impl_WrapLines.l1 kj17 l0 a1 (x5_2.set (x7_1 : Int).toNat 0) (x6_2.set (x7_1 : Int).toNat x8_2) x7_1 (wrap64 (x8_2 + 1))) else (none)) else (impl_WrapLines.l1 kj17 l0 a1 x5_2 x6_2 x7_1 (wrap64 (x8_2 + 1))))) else (none)) else (if x7_1 < (x5_2.length : Int) then (if (rd x5_2 x7_1) < 0 then (if x7_1 < (x6_2.length : Int) then (impl_WrapLines.l1 kj17 l0 a1 (x5_2.set (x7_1 : Int).toNat (wrap64 ((wrap64 ((wrap64 (a1 - t182)) * (wrap64 (a1 - t182)))) + (rd x5_2 (ji31))))) (x6_2.set (x7_1 : Int).toNat x8_2) x7_1 (wrap64 (x8_2 + 1))) else (none)) else (if (wrap64 ((wrap64 ((wrap64 (a1 - t182)) * (wrap64 (a1 - t182)))) + (rd x5_2 (ji31)))) ≤ (rd x5_2 x7_1) then (if x7_1 < (x6_2.length : Int) then (impl_WrapLines.l1 kj17 l0 a1 (x5_2.set (x7_1 : Int).toNat (wrap64 ((wrap64 ((wrap64 (a1 - t182)) * (wrap64 (a1 - t182)))) + (rd x5_2 (ji31))))) (x6_2.set (x7_1 : Int).toNat x8_2) x7_1 (wrap64 (x8_2 + 1))) else (none)) else (impl_WrapLines.l1 kj17 l0 a1 x5_2 x6_2 x7_1 (wrap64 (x8_2 + 1))))) else (none))) else (none)) else (none)) = some r := by first | (rw [hji31] at H; exact H) | (simp only [hji31] at H ⊢; exact H)
                                  (try rw [hji31] at c28b0)
                                  (try rw [hji31] at c28b1)
                                  (try rw [hji31] at c28)
                                  (try rw [hji31] at c29b0)
                                  (try rw [hji31] at c29b1)
                                  (try rw [hji31] at c29)
                                  (try rw [hji31] at A30)
                                  have hji31w : (IntKind.i64.wrap (x7_1 + x8_2)) = ji31 := (i64_w _).trans hji31
                                  by_cases c32 : 0 ≤ (ji31)
                                  · rw [if_pos c32] at H
                                    have c32b0 : decide (0 ≤ (ji31)) = true := decide_eq_true c32
                                    clear c32
                                    by_cases c33 : (ji31) < (x5_2.length : Int)
                                    · rw [if_pos c33] at H
                                      have c33b0 : decide ((ji31) < (x5_2.length : Int)) = true := decide_eq_true c33
                                      clear c33
                                      by_cases c34 : (ji31) = (l0.length : Int)
                                      · rw [if_pos c34] at H
                                        have c34b0 : ((ji31) == (l0.length : Int)) = true := beq_iff_eq.mpr c34
                                        have c34b1 : ((ji31) != (l0.length : Int)) = false := bne_eq_false_iff_eq.mpr c34
                                        clear c34
                                        by_cases c35 : x7_1 < (x5_2.length : Int)
                                        · rw [if_pos c35] at H
                                          have c35b0 : decide (x7_1 < (x5_2.length : Int)) = true := decide_eq_true c35
                                          clear c35
                                          by_cases c36 : (rd x5_2 x7_1) < 0
                                          · rw [if_pos c36] at H
                                            have c36b0 : decide ((rd x5_2 x7_1) < 0) = true := decide_eq_true c36
                                            clear c36
                                            obtain ⟨y185, hy185⟩ : ∃ y_ : List Int, y_ = (x5_2.set (x7_1 : Int).toNat 0) := ⟨_, rfl⟩
                                            replace H : (if x7_1 < (x6_2.length : Int) then (impl_WrapLines.l1 kj17 l0 a1 y185 (x6_2.set (x7_1 : Int).toNat x8_2) x7_1 (wrap64 (x8_2 + 1))) else (none)) = some r := by first | (rw [hy185]; with_reducible exact H) | (have H2_ := (Option.bind_some _ _).symm.trans H; rw [hy185]; with_reducible exact H2_) | (have H2_ := (Option.bind_some _ _).symm.trans H; with_reducible exact H2_) | with_reducible exact H | (rw [hy185]; exact H) | exact H
                                            have Ny185 := Aside0.mk hy185
                                            clear hy185
                                            by_cases c38 : x7_1 < (x6_2.length : Int)
                                            · rw [if_pos c38] at H
                                              have c38b0 : decide (x7_1 < (x6_2.length : Int)) = true := decide_eq_true c38
                                              clear c38
                                              obtain ⟨y186, hy186⟩ : ∃ y_ : List Int, y_ = (x6_2.set (x7_1 : Int).toNat x8_2) := ⟨_, rfl⟩
                                              replace H : (impl_WrapLines.l1 kj17 l0 a1 y185 y186 x7_1 (wrap64 (x8_2 + 1))) = some r := by first | (rw [hy186]; with_reducible exact H) | (have H2_ := (Option.bind_some _ _).symm.trans H; rw [hy186]; with_reducible exact H2_) | (have H2_ := (Option.bind_some _ _).symm.trans H; with_reducible exact H2_) | with_reducible exact H | (rw [hy186]; exact H) | exact H
                                              have Ny186 := Aside0.mk hy186
                                              clear hy186
                                              have H' := Aside0.mk H
                                              clear H
                                              obtain ⟨i040, hi040, _, hsz40, _⟩ := info_parts info9
                                              obtain ⟨A40, hcut40, hA40, hC40⟩ := print_mid_of (P := Tryd.prog) Value.string (⟨#[]⟩ : ByteArray) 35 9 .i64 .i64 Tryd.underlying35 hi040 hsz40 A0 c0 l0 x7_1 (ji31) (of_decide_eq_true (by first | (with_reducible assumption) | assumption)) (by first | omega | exact of_decide_eq_true (by first | (with_reducible assumption) | assumption)) (of_decide_eq_true (by first | (with_reducible assumption) | assumption)) HC0.out
                                              have HR181 := Aside0.mk (Kd.C_of_reads (h1 := fun _ => rfl) (hA40 _ (Kd.reads_of_C HR0.out)))
                                              have HC181 := Aside0.mk hC40
                                              clear hA40 hC40 hi040 hsz40
                                              go_wp2_with (first | (go_at_call 56; (with_reducible refine (impl_lineLen.callsN _ _ _ ((l0.take ((ji31) : Int).toNat).drop (x7_1 : Int).toNat) (by have h_ : (ji31) ≤ (l0.length : Int) := of_decide_eq_true (by first | (with_reducible assumption) | assumption); simp only [List.length_drop, List.length_take]; omega) t182 _ ?side1 ?side2 A30.out).mono ?_); (case side1 => repeat (first | exact (Kd.C_below HR181.out HB.out) | (with_reducible refine Kd.C_alloc ?_ _) | (with_reducible refine Kd.C_drewN ?_ _) | (with_reducible refine Kd.C_drew ?_))); (case side2 => exact HC181.out); rintro e w41 ⟨rfl, hb⟩; have n0_ := Aside0.mk (Kd.R_below (by (with_reducible repeat (first | apply Kd.R_alloc | apply Kd.R_drewN | apply Kd.R_drew)); exact HO_5.out) hb); have n1_ := Aside0.mk (Kd.R_below (by (with_reducible repeat (first | apply Kd.R_alloc | apply Kd.R_drewN | apply Kd.R_drew)); exact HO_6.out) hb); have n2_ := Aside0.mk (below_step (by repeat (first | (with_reducible first | exact HB.out | apply below_alloc | apply pw_below_drewN | apply below_drew1) | exact HB.out)) hb); clear HO_5; clear HO_6; clear HB; have HO_5 := n0_; have HO_6 := n1_; have HB := n2_; clear n0_ n1_ n2_; (try clear hb); (try clear hb2); (try clear hk); (try clear hi); have p183 : 0 ≤ ((ji31) : Int) := of_decide_eq_true (by first | (with_reducible assumption) | assumption); have q183 : (ji31) < (x5_2.length : Int) := of_decide_eq_true (by first | (with_reducible assumption) | assumption); obtain ⟨ad183, e183, hx183_0⟩ := Kd.at_int (Kd.R_reads' HO_5.out).2.2 (ji31) p183 q183; obtain rfl : (⟨go15, 0, none⟩ : Addr) = ad183 := (by injection e183); (first | simp only [add_plain] at hx183_0 | simp only [add_at] at hx183_0 | simp only [Addr.add, Nat.zero_add] at hx183_0 | skip); replace p183 := eq_true p183; replace q183 := eq_true q183; have p184 : 0 ≤ (x7_1 : Int) := of_decide_eq_true (by first | (with_reducible assumption) | assumption); have q184 : x7_1 < (x5_2.length : Int) := of_decide_eq_true (by first | (with_reducible assumption) | assumption); obtain ⟨ad184, e184, hx184_0⟩ := Kd.at_int (Kd.R_reads' HO_5.out).2.2 x7_1 p184 q184; obtain rfl : (⟨go15, 0, none⟩ : Addr) = ad184 := (by injection e184); (first | simp only [add_plain] at hx184_0 | simp only [add_at] at hx184_0 | simp only [Addr.add, Nat.zero_add] at hx184_0 | skip); replace p184 := eq_true p184; replace q184 := eq_true q184; have p37 : 0 ≤ (x7_1 : Int) := of_decide_eq_true (by first | (with_reducible assumption) | assumption); have q37 : (x7_1 : Int) < ((x5_2.length : Int) : Int) := of_decide_eq_true (by first | (with_reducible assumption) | assumption); obtain ⟨hx37_0, hf37_0⟩ := Kd.R_celln 0 HO_5.out (x7_1 : Int) p37 q37; replace p37 := eq_true p37; replace q37 := eq_true q37; obtain ⟨hy42_, hz42_⟩ := Kd.R_celln 0 HO_5.out (x7_1 : Int) (of_decide_eq_true (by first | (with_reducible assumption) | assumption)) (of_decide_eq_true (by first | (with_reducible assumption) | assumption)); have HP42 := Kd.R_putg HO_5.out (x7_1 : Int) 0) | ((with_reducible refine gate_store (t := 3) (p := 98) rfl ?_); refine store_event (t := 3) (p := 98) (v := ?vo_w43) (w1 := (w41.setCell ⟨go15, (x7_1 : Int).toNat, none⟩ (.int .i64 0))) ?hg ?ho ?hn ?hr ?_; (case ho => rfl); (case hg => rfl); (case hn => rfl); (case hr => first | (go_simp; done) | (go_simp; rfl)); intro w43 hw; have hg : w41.grownBy w43 (some go15) := (by rw [hw]; exact HP42.2); have hp_ : Kd.R (Kd.int .i64) 3 w43 w.heap.size (fun k_ => some k_ ≠ (v176 : Value).ownBlock) (.slice (some ⟨go15, 0, none⟩) x5_2.length co15) y185 := (by rw [hw, Ny185.out]; exact HP42.1); clear HP42; have n0_ := Aside0.mk (hp_); have n1_ := Aside0.mk (Kd.R_after (v := (.slice (some ⟨go15, 0, none⟩) x5_2.length co15)) (v1 := (.slice (some ⟨go15, 0, none⟩) x5_2.length co15)) (ok := (fun _ => True)) (by (with_reducible repeat (first | apply Kd.R_alloc | apply Kd.R_drewN | apply Kd.R_drew)); exact Kd.R_mono HO_6.out (fun _ hk => ⟨trivial, hk⟩)) hg (.inl rfl)); have n2_ := Aside0.mk ((by rw [hw]; exact below_set (HB.out) GB15.out : Below w.heap.size w w43)); clear HO_5; clear HO_6; clear HB; have HO_5 := n0_; have HO_6 := n1_; have HB := n2_; clear n0_ n1_ n2_; clear hg hw hp_; have p39 : 0 ≤ (x7_1 : Int) := of_decide_eq_true (by first | (with_reducible assumption) | assumption); have q39 : (x7_1 : Int) < ((x6_2.length : Int) : Int) := of_decide_eq_true (by first | (with_reducible assumption) | assumption); obtain ⟨go39, co39, eo39, gb39, gl39, cl39, HG39⟩ := Kd.R_form HO_6.out (by omega); (first | cases eo39 | (injection eo39 with ea_ en_ ec_; (first | subst ea_ | (injection ea_ with ea_; subst ea_)); subst ec_; clear en_)); have GB39 := Aside0.mk gb39; have GG39 := Aside0.mk HG39; clear gb39 gl39 HG39; obtain ⟨hx39_0, hf39_0⟩ := Kd.R_celln 0 HO_6.out (x7_1 : Int) p39 q39; replace p39 := eq_true p39; replace q39 := eq_true q39; have n_ := Aside0.mk (Kd.R_mono (ok' := (fun k_ => some k_ ≠ (.slice (some ⟨go15, 0, none⟩) x5_2.length co15 : Value).ownBlock)) HO_6.out (fun k_ hk => hk.2)); clear HO_6; have HO_6 := n_; clear n_; obtain ⟨hy44_, hz44_⟩ := Kd.R_celln 0 HO_6.out (x7_1 : Int) (of_decide_eq_true (by first | (with_reducible assumption) | assumption)) (of_decide_eq_true (by first | (with_reducible assumption) | assumption)); have HP44 := Kd.R_putg HO_6.out (x7_1 : Int) x8_2) | ((with_reducible refine gate_store (t := 3) (p := 99) rfl ?_); refine store_event (t := 3) (p := 99) (v := ?vo_w45) (w1 := (w43.setCell ⟨go39, (x7_1 : Int).toNat, none⟩ (.int .i64 x8_2))) ?hg ?ho ?hn ?hr ?_; (case ho => rfl); (case hg => rfl); (case hn => rfl); (case hr => first | (go_simp; done) | (go_simp; rfl)); intro w45 hw; have hg : w43.grownBy w45 (some go39) := (by rw [hw]; exact HP44.2); have hp_ : Kd.R (Kd.int .i64) 3 w45 w.heap.size (fun k_ => some k_ ≠ (.slice (some ⟨go15, 0, none⟩) x5_2.length co15 : Value).ownBlock) (.slice (some ⟨go39, 0, none⟩) x6_2.length co39) y186 := (by rw [hw, Ny186.out]; exact HP44.1); clear HP44; have n0_ := Aside0.mk (Kd.R_after (v := (.slice (some ⟨go39, 0, none⟩) x6_2.length co39)) (v1 := (.slice (some ⟨go39, 0, none⟩) x6_2.length co39)) (ok := (fun _ => True)) (by (with_reducible repeat (first | apply Kd.R_alloc | apply Kd.R_drewN | apply Kd.R_drew)); exact Kd.R_mono HO_5.out (fun _ hk => ⟨trivial, hk⟩)) hg (.inl rfl)); have n1_ := Aside0.mk (hp_); have n2_ := Aside0.mk ((by rw [hw]; exact below_set (HB.out) GB39.out : Below w.heap.size w w45)); clear HO_5; clear HO_6; clear HB; have HO_5 := n0_; have HO_6 := n1_; have HB := n2_; clear n0_ n1_ n2_; clear hg hw hp_))
                                              (try simp only [← hl5_2])
                                              go_roundg kj17
                                              case measure => have := HK1.out; have := HK2.out; have := HJ17.out; omega
                                              case rel => exact ⟨(y185), (y186), (wrap64 (x8_2 + 1)), (by first | rfl | (simp; done) | (simp [*]; done)), H', ⟨by have := HK1.out; have := HK2.out; have := HJ17.out; omega⟩, ⟨by (try simp only [hl5_2]); (with_reducible repeat (first | apply Kd.R_alloc | apply Kd.R_drewN | apply Kd.R_drew)); exact Kd.R_mono HO_5.out (fun _ hk => hk.2)⟩, ⟨by (try simp only [hl5_2]); (with_reducible repeat (first | apply Kd.R_alloc | apply Kd.R_drewN | apply Kd.R_drew)); exact HO_6.out⟩, ⟨by repeat (first | (with_reducible first | exact HB.out | apply below_alloc | apply pw_below_drewN | apply below_drew1) | exact HB.out)⟩⟩
                                            · rw [if_neg c38] at H
                                              exact absurd H (by simp)
                                          · rw [if_neg c36] at H
                                            have c36b0 : decide ((rd x5_2 x7_1) < 0) = false := decide_eq_false c36
                                            clear c36
                                            by_cases c46 : 0 ≤ (rd x5_2 x7_1)
                                            · rw [if_pos c46] at H
                                              have c46b0 : decide (0 ≤ (rd x5_2 x7_1)) = true := decide_eq_true c46
                                              clear c46
                                              obtain ⟨y188, hy188⟩ : ∃ y_ : List Int, y_ = (x5_2.set (x7_1 : Int).toNat 0) := ⟨_, rfl⟩
                                              replace H : (if x7_1 < (x6_2.length : Int) then (impl_WrapLines.l1 kj17 l0 a1 y188 (x6_2.set (x7_1 : Int).toNat x8_2) x7_1 (wrap64 (x8_2 + 1))) else (none)) = some r := by first | (rw [hy188]; with_reducible exact H) | (have H2_ := (Option.bind_some _ _).symm.trans H; rw [hy188]; with_reducible exact H2_) | (have H2_ := (Option.bind_some _ _).symm.trans H; with_reducible exact H2_) | with_reducible exact H | (rw [hy188]; exact H) | exact H
                                              have Ny188 := Aside0.mk hy188
                                              clear hy188
                                              by_cases c48 : x7_1 < (x6_2.length : Int)
                                              · rw [if_pos c48] at H
                                                have c48b0 : decide (x7_1 < (x6_2.length : Int)) = true := decide_eq_true c48
                                                clear c48
                                                obtain ⟨y189, hy189⟩ : ∃ y_ : List Int, y_ = (x6_2.set (x7_1 : Int).toNat x8_2) := ⟨_, rfl⟩
                                                replace H : (impl_WrapLines.l1 kj17 l0 a1 y188 y189 x7_1 (wrap64 (x8_2 + 1))) = some r := by first | (rw [hy189]; with_reducible exact H) | (have H2_ := (Option.bind_some _ _).symm.trans H; rw [hy189]; with_reducible exact H2_) | (have H2_ := (Option.bind_some _ _).symm.trans H; with_reducible exact H2_) | with_reducible exact H | (rw [hy189]; exact H) | exact H
                                                have Ny189 := Aside0.mk hy189
                                                clear hy189
                                                have H' := Aside0.mk H
                                                clear H
                                                obtain ⟨i050, hi050, _, hsz50, _⟩ := info_parts info9
                                                obtain ⟨A50, hcut50, hA50, hC50⟩ := print_mid_of (P := Tryd.prog) Value.string (⟨#[]⟩ : ByteArray) 35 9 .i64 .i64 Tryd.underlying35 hi050 hsz50 A0 c0 l0 x7_1 (ji31) (of_decide_eq_true (by first | (with_reducible assumption) | assumption)) (by first | omega | exact of_decide_eq_true (by first | (with_reducible assumption) | assumption)) (of_decide_eq_true (by first | (with_reducible assumption) | assumption)) HC0.out
                                                have HR181 := Aside0.mk (Kd.C_of_reads (h1 := fun _ => rfl) (hA50 _ (Kd.reads_of_C HR0.out)))
                                                have HC181 := Aside0.mk hC50
                                                clear hA50 hC50 hi050 hsz50
                                                go_wp2_with (first | (go_at_call 56; (with_reducible refine (impl_lineLen.callsN _ _ _ ((l0.take ((ji31) : Int).toNat).drop (x7_1 : Int).toNat) (by have h_ : (ji31) ≤ (l0.length : Int) := of_decide_eq_true (by first | (with_reducible assumption) | assumption); simp only [List.length_drop, List.length_take]; omega) t182 _ ?side1 ?side2 A30.out).mono ?_); (case side1 => repeat (first | exact (Kd.C_below HR181.out HB.out) | (with_reducible refine Kd.C_alloc ?_ _) | (with_reducible refine Kd.C_drewN ?_ _) | (with_reducible refine Kd.C_drew ?_))); (case side2 => exact HC181.out); rintro e w51 ⟨rfl, hb⟩; have n0_ := Aside0.mk (Kd.R_below (by (with_reducible repeat (first | apply Kd.R_alloc | apply Kd.R_drewN | apply Kd.R_drew)); exact HO_5.out) hb); have n1_ := Aside0.mk (Kd.R_below (by (with_reducible repeat (first | apply Kd.R_alloc | apply Kd.R_drewN | apply Kd.R_drew)); exact HO_6.out) hb); have n2_ := Aside0.mk (below_step (by repeat (first | (with_reducible first | exact HB.out | apply below_alloc | apply pw_below_drewN | apply below_drew1) | exact HB.out)) hb); clear HO_5; clear HO_6; clear HB; have HO_5 := n0_; have HO_6 := n1_; have HB := n2_; clear n0_ n1_ n2_; (try clear hb); (try clear hb2); (try clear hk); (try clear hi); have p183 : 0 ≤ ((ji31) : Int) := of_decide_eq_true (by first | (with_reducible assumption) | assumption); have q183 : (ji31) < (x5_2.length : Int) := of_decide_eq_true (by first | (with_reducible assumption) | assumption); obtain ⟨ad183, e183, hx183_0⟩ := Kd.at_int (Kd.R_reads' HO_5.out).2.2 (ji31) p183 q183; obtain rfl : (⟨go15, 0, none⟩ : Addr) = ad183 := (by injection e183); (first | simp only [add_plain] at hx183_0 | simp only [add_at] at hx183_0 | simp only [Addr.add, Nat.zero_add] at hx183_0 | skip); replace p183 := eq_true p183; replace q183 := eq_true q183; have p184 : 0 ≤ (x7_1 : Int) := of_decide_eq_true (by first | (with_reducible assumption) | assumption); have q184 : x7_1 < (x5_2.length : Int) := of_decide_eq_true (by first | (with_reducible assumption) | assumption); obtain ⟨ad184, e184, hx184_0⟩ := Kd.at_int (Kd.R_reads' HO_5.out).2.2 x7_1 p184 q184; obtain rfl : (⟨go15, 0, none⟩ : Addr) = ad184 := (by injection e184); (first | simp only [add_plain] at hx184_0 | simp only [add_at] at hx184_0 | simp only [Addr.add, Nat.zero_add] at hx184_0 | skip); replace p184 := eq_true p184; replace q184 := eq_true q184; have p187 : 0 ≤ (x7_1 : Int) := of_decide_eq_true (by first | (with_reducible assumption) | assumption); have q187 : x7_1 < (x5_2.length : Int) := of_decide_eq_true (by first | (with_reducible assumption) | assumption); obtain ⟨ad187, e187, hx187_0⟩ := Kd.at_int (Kd.R_reads' HO_5.out).2.2 x7_1 p187 q187; obtain rfl : (⟨go15, 0, none⟩ : Addr) = ad187 := (by injection e187); (first | simp only [add_plain] at hx187_0 | simp only [add_at] at hx187_0 | simp only [Addr.add, Nat.zero_add] at hx187_0 | skip); replace p187 := eq_true p187; replace q187 := eq_true q187; have p47 : 0 ≤ (x7_1 : Int) := of_decide_eq_true (by first | (with_reducible assumption) | assumption); have q47 : (x7_1 : Int) < ((x5_2.length : Int) : Int) := of_decide_eq_true (by first | (with_reducible assumption) | assumption); obtain ⟨hx47_0, hf47_0⟩ := Kd.R_celln 0 HO_5.out (x7_1 : Int) p47 q47; replace p47 := eq_true p47; replace q47 := eq_true q47; obtain ⟨hy52_, hz52_⟩ := Kd.R_celln 0 HO_5.out (x7_1 : Int) (of_decide_eq_true (by first | (with_reducible assumption) | assumption)) (of_decide_eq_true (by first | (with_reducible assumption) | assumption)); have HP52 := Kd.R_putg HO_5.out (x7_1 : Int) 0) | ((with_reducible refine gate_store (t := 3) (p := 98) rfl ?_); refine store_event (t := 3) (p := 98) (v := ?vo_w53) (w1 := (w51.setCell ⟨go15, (x7_1 : Int).toNat, none⟩ (.int .i64 0))) ?hg ?ho ?hn ?hr ?_; (case ho => rfl); (case hg => rfl); (case hn => rfl); (case hr => first | (go_simp; done) | (go_simp; rfl)); intro w53 hw; have hg : w51.grownBy w53 (some go15) := (by rw [hw]; exact HP52.2); have hp_ : Kd.R (Kd.int .i64) 3 w53 w.heap.size (fun k_ => some k_ ≠ (v176 : Value).ownBlock) (.slice (some ⟨go15, 0, none⟩) x5_2.length co15) y188 := (by rw [hw, Ny188.out]; exact HP52.1); clear HP52; have n0_ := Aside0.mk (hp_); have n1_ := Aside0.mk (Kd.R_after (v := (.slice (some ⟨go15, 0, none⟩) x5_2.length co15)) (v1 := (.slice (some ⟨go15, 0, none⟩) x5_2.length co15)) (ok := (fun _ => True)) (by (with_reducible repeat (first | apply Kd.R_alloc | apply Kd.R_drewN | apply Kd.R_drew)); exact Kd.R_mono HO_6.out (fun _ hk => ⟨trivial, hk⟩)) hg (.inl rfl)); have n2_ := Aside0.mk ((by rw [hw]; exact below_set (HB.out) GB15.out : Below w.heap.size w w53)); clear HO_5; clear HO_6; clear HB; have HO_5 := n0_; have HO_6 := n1_; have HB := n2_; clear n0_ n1_ n2_; clear hg hw hp_; have p49 : 0 ≤ (x7_1 : Int) := of_decide_eq_true (by first | (with_reducible assumption) | assumption); have q49 : (x7_1 : Int) < ((x6_2.length : Int) : Int) := of_decide_eq_true (by first | (with_reducible assumption) | assumption); obtain ⟨go49, co49, eo49, gb49, gl49, cl49, HG49⟩ := Kd.R_form HO_6.out (by omega); (first | cases eo49 | (injection eo49 with ea_ en_ ec_; (first | subst ea_ | (injection ea_ with ea_; subst ea_)); subst ec_; clear en_)); have GB49 := Aside0.mk gb49; have GG49 := Aside0.mk HG49; clear gb49 gl49 HG49; obtain ⟨hx49_0, hf49_0⟩ := Kd.R_celln 0 HO_6.out (x7_1 : Int) p49 q49; replace p49 := eq_true p49; replace q49 := eq_true q49; have n_ := Aside0.mk (Kd.R_mono (ok' := (fun k_ => some k_ ≠ (.slice (some ⟨go15, 0, none⟩) x5_2.length co15 : Value).ownBlock)) HO_6.out (fun k_ hk => hk.2)); clear HO_6; have HO_6 := n_; clear n_; obtain ⟨hy54_, hz54_⟩ := Kd.R_celln 0 HO_6.out (x7_1 : Int) (of_decide_eq_true (by first | (with_reducible assumption) | assumption)) (of_decide_eq_true (by first | (with_reducible assumption) | assumption)); have HP54 := Kd.R_putg HO_6.out (x7_1 : Int) x8_2) | ((with_reducible refine gate_store (t := 3) (p := 99) rfl ?_); refine store_event (t := 3) (p := 99) (v := ?vo_w55) (w1 := (w53.setCell ⟨go49, (x7_1 : Int).toNat, none⟩ (.int .i64 x8_2))) ?hg ?ho ?hn ?hr ?_; (case ho => rfl); (case hg => rfl); (case hn => rfl); (case hr => first | (go_simp; done) | (go_simp; rfl)); intro w55 hw; have hg : w53.grownBy w55 (some go49) := (by rw [hw]; exact HP54.2); have hp_ : Kd.R (Kd.int .i64) 3 w55 w.heap.size (fun k_ => some k_ ≠ (.slice (some ⟨go15, 0, none⟩) x5_2.length co15 : Value).ownBlock) (.slice (some ⟨go49, 0, none⟩) x6_2.length co49) y189 := (by rw [hw, Ny189.out]; exact HP54.1); clear HP54; have n0_ := Aside0.mk (Kd.R_after (v := (.slice (some ⟨go49, 0, none⟩) x6_2.length co49)) (v1 := (.slice (some ⟨go49, 0, none⟩) x6_2.length co49)) (ok := (fun _ => True)) (by (with_reducible repeat (first | apply Kd.R_alloc | apply Kd.R_drewN | apply Kd.R_drew)); exact Kd.R_mono HO_5.out (fun _ hk => ⟨trivial, hk⟩)) hg (.inl rfl)); have n1_ := Aside0.mk (hp_); have n2_ := Aside0.mk ((by rw [hw]; exact below_set (HB.out) GB49.out : Below w.heap.size w w55)); clear HO_5; clear HO_6; clear HB; have HO_5 := n0_; have HO_6 := n1_; have HB := n2_; clear n0_ n1_ n2_; clear hg hw hp_))
                                                (try simp only [← hl5_2])
                                                go_roundg kj17
                                                case measure => have := HK1.out; have := HK2.out; have := HJ17.out; omega
                                                case rel => exact ⟨(y188), (y189), (wrap64 (x8_2 + 1)), (by first | rfl | (simp; done) | (simp [*]; done)), H', ⟨by have := HK1.out; have := HK2.out; have := HJ17.out; omega⟩, ⟨by (try simp only [hl5_2]); (with_reducible repeat (first | apply Kd.R_alloc | apply Kd.R_drewN | apply Kd.R_drew)); exact Kd.R_mono HO_5.out (fun _ hk => hk.2)⟩, ⟨by (try simp only [hl5_2]); (with_reducible repeat (first | apply Kd.R_alloc | apply Kd.R_drewN | apply Kd.R_drew)); exact HO_6.out⟩, ⟨by repeat (first | (with_reducible first | exact HB.out | apply below_alloc | apply pw_below_drewN | apply below_drew1) | exact HB.out)⟩⟩
                                              · rw [if_neg c48] at H
                                                exact absurd H (by simp)
                                            · rw [if_neg c46] at H
                                              have c46b0 : decide (0 ≤ (rd x5_2 x7_1)) = false := decide_eq_false c46
                                              clear c46
                                              have H' := Aside0.mk H
                                              clear H
                                              obtain ⟨i056, hi056, _, hsz56, _⟩ := info_parts info9
                                              obtain ⟨A56, hcut56, hA56, hC56⟩ := print_mid_of (P := Tryd.prog) Value.string (⟨#[]⟩ : ByteArray) 35 9 .i64 .i64 Tryd.underlying35 hi056 hsz56 A0 c0 l0 x7_1 (ji31) (of_decide_eq_true (by first | (with_reducible assumption) | assumption)) (by first | omega | exact of_decide_eq_true (by first | (with_reducible assumption) | assumption)) (of_decide_eq_true (by first | (with_reducible assumption) | assumption)) HC0.out
                                              have HR181 := Aside0.mk (Kd.C_of_reads (h1 := fun _ => rfl) (hA56 _ (Kd.reads_of_C HR0.out)))
                                              have HC181 := Aside0.mk hC56
                                              clear hA56 hC56 hi056 hsz56
                                              go_wp2_with (first | (go_at_call 56; (with_reducible refine (impl_lineLen.callsN _ _ _ ((l0.take ((ji31) : Int).toNat).drop (x7_1 : Int).toNat) (by have h_ : (ji31) ≤ (l0.length : Int) := of_decide_eq_true (by first | (with_reducible assumption) | assumption); simp only [List.length_drop, List.length_take]; omega) t182 _ ?side1 ?side2 A30.out).mono ?_); (case side1 => repeat (first | exact (Kd.C_below HR181.out HB.out) | (with_reducible refine Kd.C_alloc ?_ _) | (with_reducible refine Kd.C_drewN ?_ _) | (with_reducible refine Kd.C_drew ?_))); (case side2 => exact HC181.out); rintro e w57 ⟨rfl, hb⟩; have n0_ := Aside0.mk (Kd.R_below (by (with_reducible repeat (first | apply Kd.R_alloc | apply Kd.R_drewN | apply Kd.R_drew)); exact HO_5.out) hb); have n1_ := Aside0.mk (Kd.R_below (by (with_reducible repeat (first | apply Kd.R_alloc | apply Kd.R_drewN | apply Kd.R_drew)); exact HO_6.out) hb); have n2_ := Aside0.mk (below_step (by repeat (first | (with_reducible first | exact HB.out | apply below_alloc | apply pw_below_drewN | apply below_drew1) | exact HB.out)) hb); clear HO_5; clear HO_6; clear HB; have HO_5 := n0_; have HO_6 := n1_; have HB := n2_; clear n0_ n1_ n2_; (try clear hb); (try clear hb2); (try clear hk); (try clear hi); have p183 : 0 ≤ ((ji31) : Int) := of_decide_eq_true (by first | (with_reducible assumption) | assumption); have q183 : (ji31) < (x5_2.length : Int) := of_decide_eq_true (by first | (with_reducible assumption) | assumption); obtain ⟨ad183, e183, hx183_0⟩ := Kd.at_int (Kd.R_reads' HO_5.out).2.2 (ji31) p183 q183; obtain rfl : (⟨go15, 0, none⟩ : Addr) = ad183 := (by injection e183); (first | simp only [add_plain] at hx183_0 | simp only [add_at] at hx183_0 | simp only [Addr.add, Nat.zero_add] at hx183_0 | skip); replace p183 := eq_true p183; replace q183 := eq_true q183; have p184 : 0 ≤ (x7_1 : Int) := of_decide_eq_true (by first | (with_reducible assumption) | assumption); have q184 : x7_1 < (x5_2.length : Int) := of_decide_eq_true (by first | (with_reducible assumption) | assumption); obtain ⟨ad184, e184, hx184_0⟩ := Kd.at_int (Kd.R_reads' HO_5.out).2.2 x7_1 p184 q184; obtain rfl : (⟨go15, 0, none⟩ : Addr) = ad184 := (by injection e184); (first | simp only [add_plain] at hx184_0 | simp only [add_at] at hx184_0 | simp only [Addr.add, Nat.zero_add] at hx184_0 | skip); replace p184 := eq_true p184; replace q184 := eq_true q184; have p187 : 0 ≤ (x7_1 : Int) := of_decide_eq_true (by first | (with_reducible assumption) | assumption); have q187 : x7_1 < (x5_2.length : Int) := of_decide_eq_true (by first | (with_reducible assumption) | assumption); obtain ⟨ad187, e187, hx187_0⟩ := Kd.at_int (Kd.R_reads' HO_5.out).2.2 x7_1 p187 q187; obtain rfl : (⟨go15, 0, none⟩ : Addr) = ad187 := (by injection e187); (first | simp only [add_plain] at hx187_0 | simp only [add_at] at hx187_0 | simp only [Addr.add, Nat.zero_add] at hx187_0 | skip); replace p187 := eq_true p187; replace q187 := eq_true q187))
                                              (try simp only [← hl5_2])
                                              go_roundg kj17
                                              case measure => have := HK1.out; have := HK2.out; have := HJ17.out; omega
                                              case rel => exact ⟨(x5_2), (x6_2), (wrap64 (x8_2 + 1)), (by first | rfl | (simp; done) | (simp [*]; done)), H', ⟨by have := HK1.out; have := HK2.out; have := HJ17.out; omega⟩, ⟨by (try simp only [hl5_2]); (with_reducible repeat (first | apply Kd.R_alloc | apply Kd.R_drewN | apply Kd.R_drew)); exact HO_5.out⟩, ⟨by (try simp only [hl5_2]); (with_reducible repeat (first | apply Kd.R_alloc | apply Kd.R_drewN | apply Kd.R_drew)); exact HO_6.out⟩, ⟨by repeat (first | (with_reducible first | exact HB.out | apply below_alloc | apply pw_below_drewN | apply below_drew1) | exact HB.out)⟩⟩
                                        · rw [if_neg c35] at H
                                          exact absurd H (by simp)
                                      · rw [if_neg c34] at H
                                        have c34b0 : ((ji31) == (l0.length : Int)) = false := beq_eq_false_iff_ne.mpr c34
                                        have c34b1 : ((ji31) != (l0.length : Int)) = true := bne_iff_ne.mpr c34
                                        by_cases c58 : x7_1 < (x5_2.length : Int)
                                        · rw [if_pos c58] at H
                                          have c58b0 : decide (x7_1 < (x5_2.length : Int)) = true := decide_eq_true c58
                                          clear c58
                                          by_cases c59 : (rd x5_2 x7_1) < 0
                                          · rw [if_pos c59] at H
                                            have c59b0 : decide ((rd x5_2 x7_1) < 0) = true := decide_eq_true c59
                                            clear c59
                                            obtain ⟨y191, hy191⟩ : ∃ y_ : List Int, y_ = (x5_2.set (x7_1 : Int).toNat (wrap64 ((wrap64 ((wrap64 (a1 - t182)) * (wrap64 (a1 - t182)))) + (rd x5_2 (ji31))))) := ⟨_, rfl⟩
                                            replace H : (if x7_1 < (x6_2.length : Int) then (impl_WrapLines.l1 kj17 l0 a1 y191 (x6_2.set (x7_1 : Int).toNat x8_2) x7_1 (wrap64 (x8_2 + 1))) else (none)) = some r := by first | (rw [hy191]; with_reducible exact H) | (have H2_ := (Option.bind_some _ _).symm.trans H; rw [hy191]; with_reducible exact H2_) | (have H2_ := (Option.bind_some _ _).symm.trans H; with_reducible exact H2_) | with_reducible exact H | (rw [hy191]; exact H) | exact H
                                            have Ny191 := Aside0.mk hy191
                                            clear hy191
                                            by_cases c61 : x7_1 < (x6_2.length : Int)
                                            · rw [if_pos c61] at H
                                              have c61b0 : decide (x7_1 < (x6_2.length : Int)) = true := decide_eq_true c61
                                              clear c61
                                              obtain ⟨y192, hy192⟩ : ∃ y_ : List Int, y_ = (x6_2.set (x7_1 : Int).toNat x8_2) := ⟨_, rfl⟩
                                              replace H : (impl_WrapLines.l1 kj17 l0 a1 y191 y192 x7_1 (wrap64 (x8_2 + 1))) = some r := by first | (rw [hy192]; with_reducible exact H) | (have H2_ := (Option.bind_some _ _).symm.trans H; rw [hy192]; with_reducible exact H2_) | (have H2_ := (Option.bind_some _ _).symm.trans H; with_reducible exact H2_) | with_reducible exact H | (rw [hy192]; exact H) | exact H
                                              have Ny192 := Aside0.mk hy192
                                              clear hy192
                                              have H' := Aside0.mk H
                                              clear H
                                              obtain ⟨i063, hi063, _, hsz63, _⟩ := info_parts info9
                                              obtain ⟨A63, hcut63, hA63, hC63⟩ := print_mid_of (P := Tryd.prog) Value.string (⟨#[]⟩ : ByteArray) 35 9 .i64 .i64 Tryd.underlying35 hi063 hsz63 A0 c0 l0 x7_1 (ji31) (of_decide_eq_true (by first | (with_reducible assumption) | assumption)) (by first | omega | exact of_decide_eq_true (by first | (with_reducible assumption) | assumption)) (of_decide_eq_true (by first | (with_reducible assumption) | assumption)) HC0.out
                                              have HR181 := Aside0.mk (Kd.C_of_reads (h1 := fun _ => rfl) (hA63 _ (Kd.reads_of_C HR0.out)))
                                              have HC181 := Aside0.mk hC63
                                              clear hA63 hC63 hi063 hsz63
                                              go_wp2_with (first | (go_at_call 56; (with_reducible refine (impl_lineLen.callsN _ _ _ ((l0.take ((ji31) : Int).toNat).drop (x7_1 : Int).toNat) (by have h_ : (ji31) ≤ (l0.length : Int) := of_decide_eq_true (by first | (with_reducible assumption) | assumption); simp only [List.length_drop, List.length_take]; omega) t182 _ ?side1 ?side2 A30.out).mono ?_); (case side1 => repeat (first | exact (Kd.C_below HR181.out HB.out) | (with_reducible refine Kd.C_alloc ?_ _) | (with_reducible refine Kd.C_drewN ?_ _) | (with_reducible refine Kd.C_drew ?_))); (case side2 => exact HC181.out); rintro e w64 ⟨rfl, hb⟩; have n0_ := Aside0.mk (Kd.R_below (by (with_reducible repeat (first | apply Kd.R_alloc | apply Kd.R_drewN | apply Kd.R_drew)); exact HO_5.out) hb); have n1_ := Aside0.mk (Kd.R_below (by (with_reducible repeat (first | apply Kd.R_alloc | apply Kd.R_drewN | apply Kd.R_drew)); exact HO_6.out) hb); have n2_ := Aside0.mk (below_step (by repeat (first | (with_reducible first | exact HB.out | apply below_alloc | apply pw_below_drewN | apply below_drew1) | exact HB.out)) hb); clear HO_5; clear HO_6; clear HB; have HO_5 := n0_; have HO_6 := n1_; have HB := n2_; clear n0_ n1_ n2_; (try clear hb); (try clear hb2); (try clear hk); (try clear hi); have p183 : 0 ≤ ((ji31) : Int) := of_decide_eq_true (by first | (with_reducible assumption) | assumption); have q183 : (ji31) < (x5_2.length : Int) := of_decide_eq_true (by first | (with_reducible assumption) | assumption); obtain ⟨ad183, e183, hx183_0⟩ := Kd.at_int (Kd.R_reads' HO_5.out).2.2 (ji31) p183 q183; obtain rfl : (⟨go15, 0, none⟩ : Addr) = ad183 := (by injection e183); (first | simp only [add_plain] at hx183_0 | simp only [add_at] at hx183_0 | simp only [Addr.add, Nat.zero_add] at hx183_0 | skip); replace p183 := eq_true p183; replace q183 := eq_true q183; have p190 : 0 ≤ (x7_1 : Int) := of_decide_eq_true (by first | (with_reducible assumption) | assumption); have q190 : x7_1 < (x5_2.length : Int) := of_decide_eq_true (by first | (with_reducible assumption) | assumption); obtain ⟨ad190, e190, hx190_0⟩ := Kd.at_int (Kd.R_reads' HO_5.out).2.2 x7_1 p190 q190; obtain rfl : (⟨go15, 0, none⟩ : Addr) = ad190 := (by injection e190); (first | simp only [add_plain] at hx190_0 | simp only [add_at] at hx190_0 | simp only [Addr.add, Nat.zero_add] at hx190_0 | skip); replace p190 := eq_true p190; replace q190 := eq_true q190; have p60 : 0 ≤ (x7_1 : Int) := of_decide_eq_true (by first | (with_reducible assumption) | assumption); have q60 : (x7_1 : Int) < ((x5_2.length : Int) : Int) := of_decide_eq_true (by first | (with_reducible assumption) | assumption); obtain ⟨hx60_0, hf60_0⟩ := Kd.R_celln 0 HO_5.out (x7_1 : Int) p60 q60; replace p60 := eq_true p60; replace q60 := eq_true q60; obtain ⟨hy65_, hz65_⟩ := Kd.R_celln 0 HO_5.out (x7_1 : Int) (of_decide_eq_true (by first | (with_reducible assumption) | assumption)) (of_decide_eq_true (by first | (with_reducible assumption) | assumption)); have HP65 := Kd.R_putg HO_5.out (x7_1 : Int) (wrap64 ((wrap64 ((wrap64 (a1 - t182)) * (wrap64 (a1 - t182)))) + (rd x5_2 (ji31))))) | ((with_reducible refine gate_store (t := 3) (p := 98) rfl ?_); refine store_event (t := 3) (p := 98) (v := ?vo_w66) (w1 := (w64.setCell ⟨go15, (x7_1 : Int).toNat, none⟩ (.int .i64 (wrap64 ((wrap64 ((wrap64 (a1 - t182)) * (wrap64 (a1 - t182)))) + (rd x5_2 (ji31))))))) ?hg ?ho ?hn ?hr ?_; (case ho => rfl); (case hg => rfl); (case hn => rfl); (case hr => first | (go_simp; done) | (go_simp; rfl)); intro w66 hw; have hg : w64.grownBy w66 (some go15) := (by rw [hw]; exact HP65.2); have hp_ : Kd.R (Kd.int .i64) 3 w66 w.heap.size (fun k_ => some k_ ≠ (v176 : Value).ownBlock) (.slice (some ⟨go15, 0, none⟩) x5_2.length co15) y191 := (by rw [hw, Ny191.out]; exact HP65.1); clear HP65; have n0_ := Aside0.mk (hp_); have n1_ := Aside0.mk (Kd.R_after (v := (.slice (some ⟨go15, 0, none⟩) x5_2.length co15)) (v1 := (.slice (some ⟨go15, 0, none⟩) x5_2.length co15)) (ok := (fun _ => True)) (by (with_reducible repeat (first | apply Kd.R_alloc | apply Kd.R_drewN | apply Kd.R_drew)); exact Kd.R_mono HO_6.out (fun _ hk => ⟨trivial, hk⟩)) hg (.inl rfl)); have n2_ := Aside0.mk ((by rw [hw]; exact below_set (HB.out) GB15.out : Below w.heap.size w w66)); clear HO_5; clear HO_6; clear HB; have HO_5 := n0_; have HO_6 := n1_; have HB := n2_; clear n0_ n1_ n2_; clear hg hw hp_; have p62 : 0 ≤ (x7_1 : Int) := of_decide_eq_true (by first | (with_reducible assumption) | assumption); have q62 : (x7_1 : Int) < ((x6_2.length : Int) : Int) := of_decide_eq_true (by first | (with_reducible assumption) | assumption); obtain ⟨go62, co62, eo62, gb62, gl62, cl62, HG62⟩ := Kd.R_form HO_6.out (by omega); (first | cases eo62 | (injection eo62 with ea_ en_ ec_; (first | subst ea_ | (injection ea_ with ea_; subst ea_)); subst ec_; clear en_)); have GB62 := Aside0.mk gb62; have GG62 := Aside0.mk HG62; clear gb62 gl62 HG62; obtain ⟨hx62_0, hf62_0⟩ := Kd.R_celln 0 HO_6.out (x7_1 : Int) p62 q62; replace p62 := eq_true p62; replace q62 := eq_true q62; have n_ := Aside0.mk (Kd.R_mono (ok' := (fun k_ => some k_ ≠ (.slice (some ⟨go15, 0, none⟩) x5_2.length co15 : Value).ownBlock)) HO_6.out (fun k_ hk => hk.2)); clear HO_6; have HO_6 := n_; clear n_; obtain ⟨hy67_, hz67_⟩ := Kd.R_celln 0 HO_6.out (x7_1 : Int) (of_decide_eq_true (by first | (with_reducible assumption) | assumption)) (of_decide_eq_true (by first | (with_reducible assumption) | assumption)); have HP67 := Kd.R_putg HO_6.out (x7_1 : Int) x8_2) | ((with_reducible refine gate_store (t := 3) (p := 99) rfl ?_); refine store_event (t := 3) (p := 99) (v := ?vo_w68) (w1 := (w66.setCell ⟨go62, (x7_1 : Int).toNat, none⟩ (.int .i64 x8_2))) ?hg ?ho ?hn ?hr ?_; (case ho => rfl); (case hg => rfl); (case hn => rfl); (case hr => first | (go_simp; done) | (go_simp; rfl)); intro w68 hw; have hg : w66.grownBy w68 (some go62) := (by rw [hw]; exact HP67.2); have hp_ : Kd.R (Kd.int .i64) 3 w68 w.heap.size (fun k_ => some k_ ≠ (.slice (some ⟨go15, 0, none⟩) x5_2.length co15 : Value).ownBlock) (.slice (some ⟨go62, 0, none⟩) x6_2.length co62) y192 := (by rw [hw, Ny192.out]; exact HP67.1); clear HP67; have n0_ := Aside0.mk (Kd.R_after (v := (.slice (some ⟨go62, 0, none⟩) x6_2.length co62)) (v1 := (.slice (some ⟨go62, 0, none⟩) x6_2.length co62)) (ok := (fun _ => True)) (by (with_reducible repeat (first | apply Kd.R_alloc | apply Kd.R_drewN | apply Kd.R_drew)); exact Kd.R_mono HO_5.out (fun _ hk => ⟨trivial, hk⟩)) hg (.inl rfl)); have n1_ := Aside0.mk (hp_); have n2_ := Aside0.mk ((by rw [hw]; exact below_set (HB.out) GB62.out : Below w.heap.size w w68)); clear HO_5; clear HO_6; clear HB; have HO_5 := n0_; have HO_6 := n1_; have HB := n2_; clear n0_ n1_ n2_; clear hg hw hp_))
                                              (try simp only [← hl5_2])
                                              go_roundg kj17
                                              case measure => have := HK1.out; have := HK2.out; have := HJ17.out; omega
                                              case rel => exact ⟨(y191), (y192), (wrap64 (x8_2 + 1)), (by first | rfl | (simp; done) | (simp [*]; done)), H', ⟨by have := HK1.out; have := HK2.out; have := HJ17.out; omega⟩, ⟨by (try simp only [hl5_2]); (with_reducible repeat (first | apply Kd.R_alloc | apply Kd.R_drewN | apply Kd.R_drew)); exact Kd.R_mono HO_5.out (fun _ hk => hk.2)⟩, ⟨by (try simp only [hl5_2]); (with_reducible repeat (first | apply Kd.R_alloc | apply Kd.R_drewN | apply Kd.R_drew)); exact HO_6.out⟩, ⟨by repeat (first | (with_reducible first | exact HB.out | apply below_alloc | apply pw_below_drewN | apply below_drew1) | exact HB.out)⟩⟩
                                            · rw [if_neg c61] at H
                                              exact absurd H (by simp)
                                          · rw [if_neg c59] at H
                                            have c59b0 : decide ((rd x5_2 x7_1) < 0) = false := decide_eq_false c59
                                            clear c59
                                            by_cases c69 : (wrap64 ((wrap64 ((wrap64 (a1 - t182)) * (wrap64 (a1 - t182)))) + (rd x5_2 (ji31)))) ≤ (rd x5_2 x7_1)
                                            · rw [if_pos c69] at H
                                              have c69b0 : decide ((wrap64 ((wrap64 ((wrap64 (a1 - t182)) * (wrap64 (a1 - t182)))) + (rd x5_2 (ji31)))) ≤ (rd x5_2 x7_1)) = true := decide_eq_true c69
                                              clear c69
                                              obtain ⟨y194, hy194⟩ : ∃ y_ : List Int, y_ = (x5_2.set (x7_1 : Int).toNat (wrap64 ((wrap64 ((wrap64 (a1 - t182)) * (wrap64 (a1 - t182)))) + (rd x5_2 (ji31))))) := ⟨_, rfl⟩
                                              replace H : (if x7_1 < (x6_2.length : Int) then (impl_WrapLines.l1 kj17 l0 a1 y194 (x6_2.set (x7_1 : Int).toNat x8_2) x7_1 (wrap64 (x8_2 + 1))) else (none)) = some r := by first | (rw [hy194]; with_reducible exact H) | (have H2_ := (Option.bind_some _ _).symm.trans H; rw [hy194]; with_reducible exact H2_) | (have H2_ := (Option.bind_some _ _).symm.trans H; with_reducible exact H2_) | with_reducible exact H | (rw [hy194]; exact H) | exact H
                                              have Ny194 := Aside0.mk hy194
                                              clear hy194
                                              by_cases c71 : x7_1 < (x6_2.length : Int)
                                              · rw [if_pos c71] at H
                                                have c71b0 : decide (x7_1 < (x6_2.length : Int)) = true := decide_eq_true c71
                                                clear c71
                                                obtain ⟨y195, hy195⟩ : ∃ y_ : List Int, y_ = (x6_2.set (x7_1 : Int).toNat x8_2) := ⟨_, rfl⟩
                                                replace H : (impl_WrapLines.l1 kj17 l0 a1 y194 y195 x7_1 (wrap64 (x8_2 + 1))) = some r := by first | (rw [hy195]; with_reducible exact H) | (have H2_ := (Option.bind_some _ _).symm.trans H; rw [hy195]; with_reducible exact H2_) | (have H2_ := (Option.bind_some _ _).symm.trans H; with_reducible exact H2_) | with_reducible exact H | (rw [hy195]; exact H) | exact H
                                                have Ny195 := Aside0.mk hy195
                                                clear hy195
                                                have H' := Aside0.mk H
                                                clear H
                                                obtain ⟨i073, hi073, _, hsz73, _⟩ := info_parts info9
                                                obtain ⟨A73, hcut73, hA73, hC73⟩ := print_mid_of (P := Tryd.prog) Value.string (⟨#[]⟩ : ByteArray) 35 9 .i64 .i64 Tryd.underlying35 hi073 hsz73 A0 c0 l0 x7_1 (ji31) (of_decide_eq_true (by first | (with_reducible assumption) | assumption)) (by first | omega | exact of_decide_eq_true (by first | (with_reducible assumption) | assumption)) (of_decide_eq_true (by first | (with_reducible assumption) | assumption)) HC0.out
                                                have HR181 := Aside0.mk (Kd.C_of_reads (h1 := fun _ => rfl) (hA73 _ (Kd.reads_of_C HR0.out)))
                                                have HC181 := Aside0.mk hC73
                                                clear hA73 hC73 hi073 hsz73
                                                go_wp2_with (first | (go_at_call 56; (with_reducible refine (impl_lineLen.callsN _ _ _ ((l0.take ((ji31) : Int).toNat).drop (x7_1 : Int).toNat) (by have h_ : (ji31) ≤ (l0.length : Int) := of_decide_eq_true (by first | (with_reducible assumption) | assumption); simp only [List.length_drop, List.length_take]; omega) t182 _ ?side1 ?side2 A30.out).mono ?_); (case side1 => repeat (first | exact (Kd.C_below HR181.out HB.out) | (with_reducible refine Kd.C_alloc ?_ _) | (with_reducible refine Kd.C_drewN ?_ _) | (with_reducible refine Kd.C_drew ?_))); (case side2 => exact HC181.out); rintro e w74 ⟨rfl, hb⟩; have n0_ := Aside0.mk (Kd.R_below (by (with_reducible repeat (first | apply Kd.R_alloc | apply Kd.R_drewN | apply Kd.R_drew)); exact HO_5.out) hb); have n1_ := Aside0.mk (Kd.R_below (by (with_reducible repeat (first | apply Kd.R_alloc | apply Kd.R_drewN | apply Kd.R_drew)); exact HO_6.out) hb); have n2_ := Aside0.mk (below_step (by repeat (first | (with_reducible first | exact HB.out | apply below_alloc | apply pw_below_drewN | apply below_drew1) | exact HB.out)) hb); clear HO_5; clear HO_6; clear HB; have HO_5 := n0_; have HO_6 := n1_; have HB := n2_; clear n0_ n1_ n2_; (try clear hb); (try clear hb2); (try clear hk); (try clear hi); have p183 : 0 ≤ ((ji31) : Int) := of_decide_eq_true (by first | (with_reducible assumption) | assumption); have q183 : (ji31) < (x5_2.length : Int) := of_decide_eq_true (by first | (with_reducible assumption) | assumption); obtain ⟨ad183, e183, hx183_0⟩ := Kd.at_int (Kd.R_reads' HO_5.out).2.2 (ji31) p183 q183; obtain rfl : (⟨go15, 0, none⟩ : Addr) = ad183 := (by injection e183); (first | simp only [add_plain] at hx183_0 | simp only [add_at] at hx183_0 | simp only [Addr.add, Nat.zero_add] at hx183_0 | skip); replace p183 := eq_true p183; replace q183 := eq_true q183; have p190 : 0 ≤ (x7_1 : Int) := of_decide_eq_true (by first | (with_reducible assumption) | assumption); have q190 : x7_1 < (x5_2.length : Int) := of_decide_eq_true (by first | (with_reducible assumption) | assumption); obtain ⟨ad190, e190, hx190_0⟩ := Kd.at_int (Kd.R_reads' HO_5.out).2.2 x7_1 p190 q190; obtain rfl : (⟨go15, 0, none⟩ : Addr) = ad190 := (by injection e190); (first | simp only [add_plain] at hx190_0 | simp only [add_at] at hx190_0 | simp only [Addr.add, Nat.zero_add] at hx190_0 | skip); replace p190 := eq_true p190; replace q190 := eq_true q190; have p193 : 0 ≤ (x7_1 : Int) := of_decide_eq_true (by first | (with_reducible assumption) | assumption); have q193 : x7_1 < (x5_2.length : Int) := of_decide_eq_true (by first | (with_reducible assumption) | assumption); obtain ⟨ad193, e193, hx193_0⟩ := Kd.at_int (Kd.R_reads' HO_5.out).2.2 x7_1 p193 q193; obtain rfl : (⟨go15, 0, none⟩ : Addr) = ad193 := (by injection e193); (first | simp only [add_plain] at hx193_0 | simp only [add_at] at hx193_0 | simp only [Addr.add, Nat.zero_add] at hx193_0 | skip); replace p193 := eq_true p193; replace q193 := eq_true q193; have p70 : 0 ≤ (x7_1 : Int) := of_decide_eq_true (by first | (with_reducible assumption) | assumption); have q70 : (x7_1 : Int) < ((x5_2.length : Int) : Int) := of_decide_eq_true (by first | (with_reducible assumption) | assumption); obtain ⟨hx70_0, hf70_0⟩ := Kd.R_celln 0 HO_5.out (x7_1 : Int) p70 q70; replace p70 := eq_true p70; replace q70 := eq_true q70; obtain ⟨hy75_, hz75_⟩ := Kd.R_celln 0 HO_5.out (x7_1 : Int) (of_decide_eq_true (by first | (with_reducible assumption) | assumption)) (of_decide_eq_true (by first | (with_reducible assumption) | assumption)); have HP75 := Kd.R_putg HO_5.out (x7_1 : Int) (wrap64 ((wrap64 ((wrap64 (a1 - t182)) * (wrap64 (a1 - t182)))) + (rd x5_2 (ji31))))) | ((with_reducible refine gate_store (t := 3) (p := 98) rfl ?_); refine store_event (t := 3) (p := 98) (v := ?vo_w76) (w1 := (w74.setCell ⟨go15, (x7_1 : Int).toNat, none⟩ (.int .i64 (wrap64 ((wrap64 ((wrap64 (a1 - t182)) * (wrap64 (a1 - t182)))) + (rd x5_2 (ji31))))))) ?hg ?ho ?hn ?hr ?_; (case ho => rfl); (case hg => rfl); (case hn => rfl); (case hr => first | (go_simp; done) | (go_simp; rfl)); intro w76 hw; have hg : w74.grownBy w76 (some go15) := (by rw [hw]; exact HP75.2); have hp_ : Kd.R (Kd.int .i64) 3 w76 w.heap.size (fun k_ => some k_ ≠ (v176 : Value).ownBlock) (.slice (some ⟨go15, 0, none⟩) x5_2.length co15) y194 := (by rw [hw, Ny194.out]; exact HP75.1); clear HP75; have n0_ := Aside0.mk (hp_); have n1_ := Aside0.mk (Kd.R_after (v := (.slice (some ⟨go15, 0, none⟩) x5_2.length co15)) (v1 := (.slice (some ⟨go15, 0, none⟩) x5_2.length co15)) (ok := (fun _ => True)) (by (with_reducible repeat (first | apply Kd.R_alloc | apply Kd.R_drewN | apply Kd.R_drew)); exact Kd.R_mono HO_6.out (fun _ hk => ⟨trivial, hk⟩)) hg (.inl rfl)); have n2_ := Aside0.mk ((by rw [hw]; exact below_set (HB.out) GB15.out : Below w.heap.size w w76)); clear HO_5; clear HO_6; clear HB; have HO_5 := n0_; have HO_6 := n1_; have HB := n2_; clear n0_ n1_ n2_; clear hg hw hp_; have p72 : 0 ≤ (x7_1 : Int) := of_decide_eq_true (by first | (with_reducible assumption) | assumption); have q72 : (x7_1 : Int) < ((x6_2.length : Int) : Int) := of_decide_eq_true (by first | (with_reducible assumption) | assumption); obtain ⟨go72, co72, eo72, gb72, gl72, cl72, HG72⟩ := Kd.R_form HO_6.out (by omega); (first | cases eo72 | (injection eo72 with ea_ en_ ec_; (first | subst ea_ | (injection ea_ with ea_; subst ea_)); subst ec_; clear en_)); have GB72 := Aside0.mk gb72; have GG72 := Aside0.mk HG72; clear gb72 gl72 HG72; obtain ⟨hx72_0, hf72_0⟩ := Kd.R_celln 0 HO_6.out (x7_1 : Int) p72 q72; replace p72 := eq_true p72; replace q72 := eq_true q72; have n_ := Aside0.mk (Kd.R_mono (ok' := (fun k_ => some k_ ≠ (.slice (some ⟨go15, 0, none⟩) x5_2.length co15 : Value).ownBlock)) HO_6.out (fun k_ hk => hk.2)); clear HO_6; have HO_6 := n_; clear n_; obtain ⟨hy77_, hz77_⟩ := Kd.R_celln 0 HO_6.out (x7_1 : Int) (of_decide_eq_true (by first | (with_reducible assumption) | assumption)) (of_decide_eq_true (by first | (with_reducible assumption) | assumption)); have HP77 := Kd.R_putg HO_6.out (x7_1 : Int) x8_2) | ((with_reducible refine gate_store (t := 3) (p := 99) rfl ?_); refine store_event (t := 3) (p := 99) (v := ?vo_w78) (w1 := (w76.setCell ⟨go72, (x7_1 : Int).toNat, none⟩ (.int .i64 x8_2))) ?hg ?ho ?hn ?hr ?_; (case ho => rfl); (case hg => rfl); (case hn => rfl); (case hr => first | (go_simp; done) | (go_simp; rfl)); intro w78 hw; have hg : w76.grownBy w78 (some go72) := (by rw [hw]; exact HP77.2); have hp_ : Kd.R (Kd.int .i64) 3 w78 w.heap.size (fun k_ => some k_ ≠ (.slice (some ⟨go15, 0, none⟩) x5_2.length co15 : Value).ownBlock) (.slice (some ⟨go72, 0, none⟩) x6_2.length co72) y195 := (by rw [hw, Ny195.out]; exact HP77.1); clear HP77; have n0_ := Aside0.mk (Kd.R_after (v := (.slice (some ⟨go72, 0, none⟩) x6_2.length co72)) (v1 := (.slice (some ⟨go72, 0, none⟩) x6_2.length co72)) (ok := (fun _ => True)) (by (with_reducible repeat (first | apply Kd.R_alloc | apply Kd.R_drewN | apply Kd.R_drew)); exact Kd.R_mono HO_5.out (fun _ hk => ⟨trivial, hk⟩)) hg (.inl rfl)); have n1_ := Aside0.mk (hp_); have n2_ := Aside0.mk ((by rw [hw]; exact below_set (HB.out) GB72.out : Below w.heap.size w w78)); clear HO_5; clear HO_6; clear HB; have HO_5 := n0_; have HO_6 := n1_; have HB := n2_; clear n0_ n1_ n2_; clear hg hw hp_))
                                                (try simp only [← hl5_2])
                                                go_roundg kj17
                                                case measure => have := HK1.out; have := HK2.out; have := HJ17.out; omega
                                                case rel => exact ⟨(y194), (y195), (wrap64 (x8_2 + 1)), (by first | rfl | (simp; done) | (simp [*]; done)), H', ⟨by have := HK1.out; have := HK2.out; have := HJ17.out; omega⟩, ⟨by (try simp only [hl5_2]); (with_reducible repeat (first | apply Kd.R_alloc | apply Kd.R_drewN | apply Kd.R_drew)); exact Kd.R_mono HO_5.out (fun _ hk => hk.2)⟩, ⟨by (try simp only [hl5_2]); (with_reducible repeat (first | apply Kd.R_alloc | apply Kd.R_drewN | apply Kd.R_drew)); exact HO_6.out⟩, ⟨by repeat (first | (with_reducible first | exact HB.out | apply below_alloc | apply pw_below_drewN | apply below_drew1) | exact HB.out)⟩⟩
                                              · rw [if_neg c71] at H
                                                exact absurd H (by simp)
                                            · rw [if_neg c69] at H
                                              have c69b0 : decide ((wrap64 ((wrap64 ((wrap64 (a1 - t182)) * (wrap64 (a1 - t182)))) + (rd x5_2 (ji31)))) ≤ (rd x5_2 x7_1)) = false := decide_eq_false c69
                                              clear c69
                                              have H' := Aside0.mk H
                                              clear H
                                              obtain ⟨i079, hi079, _, hsz79, _⟩ := info_parts info9
                                              obtain ⟨A79, hcut79, hA79, hC79⟩ := print_mid_of (P := Tryd.prog) Value.string (⟨#[]⟩ : ByteArray) 35 9 .i64 .i64 Tryd.underlying35 hi079 hsz79 A0 c0 l0 x7_1 (ji31) (of_decide_eq_true (by first | (with_reducible assumption) | assumption)) (by first | omega | exact of_decide_eq_true (by first | (with_reducible assumption) | assumption)) (of_decide_eq_true (by first | (with_reducible assumption) | assumption)) HC0.out
                                              have HR181 := Aside0.mk (Kd.C_of_reads (h1 := fun _ => rfl) (hA79 _ (Kd.reads_of_C HR0.out)))
                                              have HC181 := Aside0.mk hC79
                                              clear hA79 hC79 hi079 hsz79
                                              go_wp2_with (first | (go_at_call 56; (with_reducible refine (impl_lineLen.callsN _ _ _ ((l0.take ((ji31) : Int).toNat).drop (x7_1 : Int).toNat) (by have h_ : (ji31) ≤ (l0.length : Int) := of_decide_eq_true (by first | (with_reducible assumption) | assumption); simp only [List.length_drop, List.length_take]; omega) t182 _ ?side1 ?side2 A30.out).mono ?_); (case side1 => repeat (first | exact (Kd.C_below HR181.out HB.out) | (with_reducible refine Kd.C_alloc ?_ _) | (with_reducible refine Kd.C_drewN ?_ _) | (with_reducible refine Kd.C_drew ?_))); (case side2 => exact HC181.out); rintro e w80 ⟨rfl, hb⟩; have n0_ := Aside0.mk (Kd.R_below (by (with_reducible repeat (first | apply Kd.R_alloc | apply Kd.R_drewN | apply Kd.R_drew)); exact HO_5.out) hb); have n1_ := Aside0.mk (Kd.R_below (by (with_reducible repeat (first | apply Kd.R_alloc | apply Kd.R_drewN | apply Kd.R_drew)); exact HO_6.out) hb); have n2_ := Aside0.mk (below_step (by repeat (first | (with_reducible first | exact HB.out | apply below_alloc | apply pw_below_drewN | apply below_drew1) | exact HB.out)) hb); clear HO_5; clear HO_6; clear HB; have HO_5 := n0_; have HO_6 := n1_; have HB := n2_; clear n0_ n1_ n2_; (try clear hb); (try clear hb2); (try clear hk); (try clear hi); have p183 : 0 ≤ ((ji31) : Int) := of_decide_eq_true (by first | (with_reducible assumption) | assumption); have q183 : (ji31) < (x5_2.length : Int) := of_decide_eq_true (by first | (with_reducible assumption) | assumption); obtain ⟨ad183, e183, hx183_0⟩ := Kd.at_int (Kd.R_reads' HO_5.out).2.2 (ji31) p183 q183; obtain rfl : (⟨go15, 0, none⟩ : Addr) = ad183 := (by injection e183); (first | simp only [add_plain] at hx183_0 | simp only [add_at] at hx183_0 | simp only [Addr.add, Nat.zero_add] at hx183_0 | skip); replace p183 := eq_true p183; replace q183 := eq_true q183; have p190 : 0 ≤ (x7_1 : Int) := of_decide_eq_true (by first | (with_reducible assumption) | assumption); have q190 : x7_1 < (x5_2.length : Int) := of_decide_eq_true (by first | (with_reducible assumption) | assumption); obtain ⟨ad190, e190, hx190_0⟩ := Kd.at_int (Kd.R_reads' HO_5.out).2.2 x7_1 p190 q190; obtain rfl : (⟨go15, 0, none⟩ : Addr) = ad190 := (by injection e190); (first | simp only [add_plain] at hx190_0 | simp only [add_at] at hx190_0 | simp only [Addr.add, Nat.zero_add] at hx190_0 | skip); replace p190 := eq_true p190; replace q190 := eq_true q190; have p193 : 0 ≤ (x7_1 : Int) := of_decide_eq_true (by first | (with_reducible assumption) | assumption); have q193 : x7_1 < (x5_2.length : Int) := of_decide_eq_true (by first | (with_reducible assumption) | assumption); obtain ⟨ad193, e193, hx193_0⟩ := Kd.at_int (Kd.R_reads' HO_5.out).2.2 x7_1 p193 q193; obtain rfl : (⟨go15, 0, none⟩ : Addr) = ad193 := (by injection e193); (first | simp only [add_plain] at hx193_0 | simp only [add_at] at hx193_0 | simp only [Addr.add, Nat.zero_add] at hx193_0 | skip); replace p193 := eq_true p193; replace q193 := eq_true q193))
                                              (try simp only [← hl5_2])
                                              go_roundg kj17
                                              case measure => have := HK1.out; have := HK2.out; have := HJ17.out; omega
                                              case rel => exact ⟨(x5_2), (x6_2), (wrap64 (x8_2 + 1)), (by first | rfl | (simp; done) | (simp [*]; done)), H', ⟨by have := HK1.out; have := HK2.out; have := HJ17.out; omega⟩, ⟨by (try simp only [hl5_2]); (with_reducible repeat (first | apply Kd.R_alloc | apply Kd.R_drewN | apply Kd.R_drew)); exact HO_5.out⟩, ⟨by (try simp only [hl5_2]); (with_reducible repeat (first | apply Kd.R_alloc | apply Kd.R_drewN | apply Kd.R_drew)); exact HO_6.out⟩, ⟨by repeat (first | (with_reducible first | exact HB.out | apply below_alloc | apply pw_below_drewN | apply below_drew1) | exact HB.out)⟩⟩
                                        · rw [if_neg c58] at H
                                          exact absurd H (by simp)
                                    · rw [if_neg c33] at H
                                      exact absurd H (by simp)
                                  · rw [if_neg c32] at H
                                    exact absurd H (by simp)
                                · rw [if_neg c29] at H
                                  exact absurd H (by simp)
                              · rw [if_neg c28] at H
                                exact absurd H (by simp)
                            · rw [if_neg c27] at H
                              exact absurd H (by simp)
                          · replace c26 := Bool.eq_false_iff.mpr c26
                            subst c26
                            have H1 : (impl_WrapLines.l0 kj17 l0 a1 x5_2 x6_2 (wrap64 (x7_1 - 1))) = some r := by rw [if_neg (show ¬ (false = true) by decide)] at H; exact H
                            clear H
                            have H := H1
                            clear H1
                            have H' := Aside0.mk H
                            clear H
                            go_wp2
                            (try simp only [← hl5_2])
                            go_roundg kj17
                            case measure => have := HK1.out; have := HK2.out; have := HJ17.out; omega
                            case rel => exact ⟨(x5_2), (x6_2), (wrap64 (x7_1 - 1)), (by first | rfl | (simp; done) | (simp [*]; done)), H', ⟨by have := HK1.out; have := HK2.out; have := HJ17.out; omega⟩, ⟨by (try simp only [hl5_2]); (with_reducible repeat (first | apply Kd.R_alloc | apply Kd.R_drewN | apply Kd.R_drew)); exact HO_5.out⟩, ⟨by (try simp only [hl5_2]); (with_reducible repeat (first | apply Kd.R_alloc | apply Kd.R_drewN | apply Kd.R_drew)); exact HO_6.out⟩, ⟨by repeat (first | (with_reducible first | exact HB.out | apply below_alloc | apply pw_below_drewN | apply below_drew1) | exact HB.out)⟩⟩
                · rw [if_neg c14] at H
                  exact absurd H (by simp)
              · rw [if_neg c13] at H
                exact absurd H (by simp)
            · rw [if_neg c12] at H
              have c12b0 : decide (0 ≤ x7_1) = false := decide_eq_false c12
              clear c12
              have H' := Aside0.mk H
              clear H
              go_wp2
              go_loopg [11, 12] k1 (fun kq v11 v12 w' => ∃ (x11_2 : List Int) (x12_2 : Int), v12 = .int .i64 x12_2 ∧ Aside0 (impl_WrapLines.l2 kq l0 x6_1 x11_2 x12_2 = some r) ∧ Aside0 (kq ≤ k1) ∧ Aside0 (Kd.R (Kd.int .i64) 3 w' w.heap.size (fun k_ => some k_ ≠ (v11 : Value).ownBlock) v176 x6_1) ∧ Aside0 (Kd.R (Kd.int .i64) 3 w' w.heap.size (fun k_ => some k_ ≠ (v176 : Value).ownBlock) v11 x11_2) ∧ Aside0 (Below w.heap.size w w'))
              case atStart => exact ⟨(([] : List Int)), (0), (by first | rfl | (simp; done) | (simp [*]; done)), H', ⟨Nat.le_refl _⟩, ⟨by (with_reducible repeat (first | apply Kd.R_alloc | apply Kd.R_drewN | apply Kd.R_drew)); exact Kd.R_mono HO_6.out (fun _ hk => (by simp [Value.ownBlock]))⟩, ⟨by first | exact Kd.R_nil _ _ _ _ _ | exact Kd.N_nil _ _ _ _ _ | exact Kd.V_nil _ _ _ _ _ | exact Kd.Q_nil _ _ _ _ _ | exact Kd.S_nil _ _ _ _ _⟩, ⟨by repeat (first | (with_reducible first | exact HB.out | apply below_alloc | apply pw_below_drewN | apply below_drew1) | exact HB.out)⟩⟩
              case round =>
                clear H'
                try clear c1
                try clear p1
                try clear q1
                try clear hx1
                try clear c2
                try clear p2
                try clear c3
                try clear p3
                try clear q3
                try clear hx3
                try clear hf3
                try clear c4
                try clear p4
                try clear q4
                try clear hx4
                try clear hf4
                try clear c5
                try clear c6
                try clear c6b0
                try clear c6b1
                try clear p6
                try clear q6
                try clear hx6
                try clear hf6
                try clear c7
                try clear c7b0
                try clear c7b1
                try clear p7
                try clear q7
                try clear hx7
                try clear hf7
                try clear c12
                try clear c12b0
                try clear c13
                try clear c13b0
                try clear c14
                try clear c14b0
                try clear p15
                try clear q15
                try clear hx15
                try clear hf15
                try clear p18
                try clear q18
                try clear hx18
                try clear c19
                try clear c19b0
                try clear p19
                try clear q19
                try clear hx19
                try clear c20
                try clear c20b0
                try clear c20b1
                try clear c21
                try clear c21b0
                try clear c21b1
                try clear c22
                try clear c22b0
                try clear c26
                try clear c27
                try clear c27b0
                try clear c27b1
                try clear c28
                try clear c28b0
                try clear c28b1
                try clear c29
                try clear c29b0
                try clear c29b1
                try clear c32
                try clear c32b0
                try clear c33
                try clear c33b0
                try clear c34
                try clear c34b0
                try clear c34b1
                try clear c35
                try clear c35b0
                try clear c36
                try clear c36b0
                try clear p37
                try clear q37
                try clear hx37
                try clear hf37
                try clear c38
                try clear c38b0
                try clear p39
                try clear q39
                try clear hx39
                try clear hf39
                try clear c42
                try clear c46
                try clear c46b0
                try clear p47
                try clear q47
                try clear hx47
                try clear hf47
                try clear c48
                try clear c48b0
                try clear p49
                try clear q49
                try clear hx49
                try clear hf49
                try clear c55
                try clear c56
                try clear c58
                try clear c58b0
                try clear c59
                try clear c59b0
                try clear p60
                try clear q60
                try clear hx60
                try clear hf60
                try clear c61
                try clear c61b0
                try clear p62
                try clear q62
                try clear hx62
                try clear hf62
                try clear p64
                try clear c69
                try clear c69b0
                try clear p70
                try clear q70
                try clear hx70
                try clear hf70
                try clear c71
                try clear c71b0
                try clear p72
                try clear q72
                try clear hx72
                try clear hf72
                try clear hx15_0
                try clear hx183_0
                try clear hx184_0
                try clear hx187_0
                try clear hx190_0
                try clear hx193_0
                try clear hx37_0
                try clear hx39_0
                try clear hx47_0
                try clear hx49_0
                try clear hx60_0
                try clear hx62_0
                try clear hx70_0
                try clear hx72_0
                try clear p1
                try clear p15
                try clear p183
                try clear p184
                try clear p187
                try clear p190
                try clear p193
                try clear p2
                try clear p37
                try clear p39
                try clear p47
                try clear p49
                try clear p6
                try clear p60
                try clear p62
                try clear p70
                try clear p72
                try clear q1
                try clear q15
                try clear q183
                try clear q184
                try clear q187
                try clear q190
                try clear q193
                try clear q37
                try clear q39
                try clear q47
                try clear q49
                try clear q60
                try clear q62
                try clear q70
                try clear q72
                obtain ⟨x11_2, x12_2, rfl, HA, HK2, HO_6, HO_11, HB⟩ := hrel
                cases gk with
                | zero => exact absurd HA.out (by simp [impl_WrapLines.l2])
                | succ k2 =>
                  have H := HA.out
                  clear HA
                  simp only [impl_WrapLines.l2] at H
                  by_cases c81 : x12_2 < (l0.length : Int)
                  · rw [if_pos c81] at H
                    have c81b0 : decide (x12_2 < (l0.length : Int)) = true := decide_eq_true c81
                    clear c81
                    by_cases c82 : 0 ≤ x12_2
                    · rw [if_pos c82] at H
                      have c82b0 : decide (0 ≤ x12_2) = true := decide_eq_true c82
                      clear c82
                      by_cases c83 : x12_2 < (x6_1.length : Int)
                      · rw [if_pos c83] at H
                        have c83b0 : decide (x12_2 < (x6_1.length : Int)) = true := decide_eq_true c83
                        clear c83
                        by_cases c84 : x11_2.length < 17592186044416
                        · rw [if_pos c84] at H
                          have LMc84 := Aside0.mk c84
                          clear c84
                          obtain ⟨y197, hy197⟩ : ∃ y_ : List Int, y_ = (x11_2 ++ [rd x6_1 x12_2]) := ⟨_, rfl⟩
                          replace H : (impl_WrapLines.l2 k2 l0 x6_1 y197 (wrap64 (x12_2 + (rd x6_1 x12_2)))) = some r := by first | (rw [hy197]; with_reducible exact H) | (have H2_ := (Option.bind_some _ _).symm.trans H; rw [hy197]; with_reducible exact H2_) | (have H2_ := (Option.bind_some _ _).symm.trans H; with_reducible exact H2_) | with_reducible exact H | (rw [hy197]; exact H) | exact H
                          have Ny197 := Aside0.mk hy197
                          clear hy197
                          have H' := Aside0.mk H
                          clear H
                          obtain ⟨Ao85, co85, eo85⟩ := Kd.R_slice HO_6.out
                          subst eo85
                          have p196 : 0 ≤ (x12_2 : Int) := of_decide_eq_true (by first | (with_reducible assumption) | assumption)
                          have q196 : x12_2 < (x6_1.length : Int) := of_decide_eq_true (by first | (with_reducible assumption) | assumption)
                          obtain ⟨ad196, e196, hx196_0⟩ := Kd.at_int (Kd.R_reads' HO_6.out).2.2 x12_2 p196 q196
                          cases e196
                          replace p196 := eq_true p196
                          replace q196 := eq_true q196
                          go_wp2_with (first | ((with_reducible refine gate_builtin (b := .append) (xs := #[.tmp 110, .tmp 115]) rfl ?_); at_builtin; refine Kd.R_append (Kd.int .i64) (w0 := w) w.heap.size rfl (.tmp 110) (.tmp 115) 63 3 (.int .i64 0) 8 rfl Tryd.underlying63 info3 rfl (by decide) (by omega) u11 x11_2 (rd x6_1 x12_2) [.int .i64 (rd x6_1 x12_2)] (fun k_ => some k_ ≠ (.slice (some ad196) x6_1.length co85 : Value).ownBlock) (fun _ => False) rfl rfl ?aP (fun _ hk => hk.elim) ?aF ?aO ?aB ?aS ?aL ?_; (case aP => exact rfl); (case aB => exact (by repeat (first | (with_reducible first | exact HB.out | apply below_alloc | apply pw_below_drewN | apply below_drew1) | exact HB.out))); (case aF => exact (fun k_ hk => Kd.fresh' (Kd.R_lt (by (with_reducible repeat (first | apply Kd.R_alloc | apply Kd.R_drewN | apply Kd.R_drew)); exact HO_6.out)) k_ hk)); (case aO => exact (by (with_reducible repeat (first | apply Kd.R_alloc | apply Kd.R_drewN | apply Kd.R_drew)); exact HO_11.out)); (case aS => exact (below_size (by repeat (first | (with_reducible first | exact HB.out | apply below_alloc | apply pw_below_drewN | apply below_drew1) | exact HB.out)))); (case aL => have := LMc84.out; omega); intro v198 w86 ho hb hg hat; rw [← Ny197.out] at ho; have n0_ := Aside0.mk (Kd.R_after (ok := (fun _ => True)) (by (with_reducible repeat (first | apply Kd.R_alloc | apply Kd.R_drewN | apply Kd.R_drew)); exact Kd.R_mono HO_6.out (fun _ hk => ⟨trivial, hk⟩)) hg hat); have n1_ := Aside0.mk (hb); have n2_ := Aside0.mk (ho); clear HO_6; clear HB; clear HO_11; have HO_6 := n0_; have HB := n1_; have HO199 := n2_; clear n0_ n1_ n2_; clear ho hb hg hat; have p200 : 0 ≤ (x12_2 : Int) := of_decide_eq_true (by first | (with_reducible assumption) | assumption); have q200 : x12_2 < (x6_1.length : Int) := of_decide_eq_true (by first | (with_reducible assumption) | assumption); obtain ⟨ad200, e200, hx200_0⟩ := Kd.at_int (Kd.R_reads' HO_6.out).2.2 x12_2 p200 q200; obtain rfl : ad196 = ad200 := (by injection e200); replace p200 := eq_true p200; replace q200 := eq_true q200))
                          go_roundg k2
                          case measure => have := HK1.out; have := HK2.out; omega
                          case rel => exact ⟨(y197), (wrap64 (x12_2 + (rd x6_1 x12_2))), (by first | rfl | (simp; done) | (simp [*]; done)), H', ⟨by have := HK1.out; have := HK2.out; omega⟩, ⟨by (with_reducible repeat (first | apply Kd.R_alloc | apply Kd.R_drewN | apply Kd.R_drew)); exact Kd.R_mono HO_6.out (fun _ hk => hk.2)⟩, ⟨by (with_reducible repeat (first | apply Kd.R_alloc | apply Kd.R_drewN | apply Kd.R_drew)); exact HO199.out⟩, ⟨by repeat (first | (with_reducible first | exact HB.out | apply below_alloc | apply pw_below_drewN | apply below_drew1) | exact HB.out)⟩⟩
                        · rw [if_neg c84] at H
                          exact absurd H (by simp)
                      · rw [if_neg c83] at H
                        exact absurd H (by simp)
                    · rw [if_neg c82] at H
                      exact absurd H (by simp)
                  · rw [if_neg c81] at H
                    have c81b0 : decide (x12_2 < (l0.length : Int)) = false := decide_eq_false c81
                    clear c81
                    replace H := Option.bind_eq_some_iff.mp H
                    obtain ⟨t201, A870, H⟩ := H
                    replace H : (some t201) = some r := H
                    have A87 := Aside0.mk A870
                    clear A870
                    obtain rfl := Option.some.inj H
                    obtain ⟨Ao88, co88, eo88⟩ := Kd.R_slice HO_11.out
                    subst eo88
                    go_wp2_with (first | ((with_reducible refine gate_callee (f := 57) rfl ?_); refine goesL_ (some 118) rfl rfl Tryd.func57 (by kernel_rfl) rfl #[.slice Ao88 x11_2.length co88] rfl (by (try simp only [List.map_toArray, List.map_cons, List.map_nil]); first | done | rfl | (simp only [List.length_drop, List.length_take]; rfl)) ?_; (with_reducible refine (impl_copied_int.calls _ _ x11_2 t201 _ ?side1 ?side2 A87.out).mono ?_); (case side1 => repeat (first | exact (Kd.R_reads' HO_11.out).2.2 | (with_reducible refine Kd.C_alloc ?_ _) | (with_reducible refine Kd.C_drewN ?_ _) | (with_reducible refine Kd.C_drew ?_))); (case side2 => exact (Kd.R_reads' HO_11.out).2.1); rintro e w89 ⟨v202, rfl, ho0, hb⟩; refine ⟨_, rfl, ?_⟩; have n0_ := Aside0.mk (Kd.R_elder' (by (with_reducible repeat (first | apply Kd.R_alloc | apply Kd.R_drewN | apply Kd.R_drew)); exact HO_6.out) (Kd.R_base ho0) hb); have n1_ := Aside0.mk (Kd.R_elder' (by (with_reducible repeat (first | apply Kd.R_alloc | apply Kd.R_drewN | apply Kd.R_drew)); exact HO_11.out) (Kd.R_base ho0) hb); have n2_ := Aside0.mk (Kd.R_lower (Kd.R_new' (Kd.R_new' ho0 (Kd.R_lt (by (with_reducible repeat (first | apply Kd.R_alloc | apply Kd.R_drewN | apply Kd.R_drew)); exact HO_6.out))) (Kd.R_lt (by (with_reducible repeat (first | apply Kd.R_alloc | apply Kd.R_drewN | apply Kd.R_drew)); exact HO_11.out))) (below_size (by repeat (first | (with_reducible first | exact HB.out | apply below_alloc | apply pw_below_drewN | apply below_drew1) | exact HB.out)))); have n3_ := Aside0.mk (below_step (by repeat (first | (with_reducible first | exact HB.out | apply below_alloc | apply pw_below_drewN | apply below_drew1) | exact HB.out)) hb); clear HO_6; clear HO_11; clear HB; have HO_6 := n0_; have HO_11 := n1_; have HO203 := n2_; have HB := n3_; clear n0_ n1_ n2_ n3_; (try clear hb); (try clear hb2); (try clear hk); (try clear hi); (try clear ho0)))
                    go_ret
                    exact ⟨_, by first | rfl | (simp [errW_none, errW_some] <;> rfl) | (simp only [← hji5]; first | rfl | (simp [errW_none, errW_some] <;> rfl)) | (simp [*, errW_none, errW_some] <;> rfl), by (with_reducible repeat (first | apply Kd.R_alloc | apply Kd.R_drewN | apply Kd.R_drew)); exact Kd.R_mono HO203.out (fun _ hk => trivial), by repeat (first | (with_reducible first | exact HB.out | apply below_alloc | apply pw_below_drewN | apply below_drew1) | exact HB.out)⟩
      · rw [if_neg c7] at H
        exact absurd H (by simp)
    · rw [if_neg c6] at H
      exact absurd H (by simp)
  · replace c4 := Bool.eq_false_iff.mpr c4
    subst c4
    have H1 : (some ([] : List Int)) = some r := by rw [if_neg (show ¬ (false = true) by decide)] at H; exact H
    clear H
    have H := H1
    clear H1
    obtain rfl := Option.some.inj H
    go_enter Tryd.func42, Tryd.ntmps42
    go_wp2_with (first | ((with_reducible refine gate_callee (f := 55) rfl ?_); refine goesL_ (some 15) rfl rfl Tryd.func55 (by kernel_rfl) rfl #[.slice A0 l0.length c0, .int .i64 a1] rfl (by (try simp only [List.map_toArray, List.map_cons, List.map_nil]); first | done | rfl | (simp only [List.length_drop, List.length_take]; rfl)) ?_; (with_reducible refine (impl_WordsFit.calls k _ _ l0 a1 false _ ?side1 ?side2 A3.out).mono ?_); (case side1 => repeat (first | exact HR0.out | (with_reducible refine Kd.C_alloc ?_ _) | (with_reducible refine Kd.C_drewN ?_ _) | (with_reducible refine Kd.C_drew ?_))); (case side2 => exact HC0.out); rintro e w' ⟨rfl, ⟨nd, rfl⟩⟩; refine ⟨_, rfl, ?_⟩))
    go_ret
    exact ⟨_, by first | rfl | (simp [errW_none, errW_some] <;> rfl) | (simp [*, errW_none, errW_some] <;> rfl), by first | exact Kd.R_nil _ _ _ _ _ | exact Kd.N_nil _ _ _ _ _ | exact Kd.V_nil _ _ _ _ _ | exact Kd.Q_nil _ _ _ _ _ | exact Kd.S_nil _ _ _ _ _, by repeat (first | (with_reducible first | exact HB.out | apply below_alloc | apply pw_below_drewN | apply below_drew1) | exact HB.out)⟩

end Go.Proofs.YtghkbkbommobaaaDoor.P
