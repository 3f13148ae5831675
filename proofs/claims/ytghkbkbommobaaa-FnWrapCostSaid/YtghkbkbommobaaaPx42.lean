/- The functions of the program that one law uses, as plain Lean functions, and the contracts that tie the machine to them, walked by the machine. No condition. -/
import Derived.Test.YtghkbkbommobaaaPx0
import Derived.Test.YtghkbkbommobaaaPx5
import Derived.Test.YtghkbkbommobaaaPx6
import Derived.Test.YtghkbkbommobaaaPx34
namespace Go.Proofs.Ytghkbkbommobaaa.P
open Go.RowKit Go.Proofs.Ytghkbkbommobaaa.Copy Go.Proofs.Ytghkbkbommobaaa.Lib Go.Proofs.YtghkbkbommobaaaW.PrintWords Go.Proofs.YtghkbkbommobaaaW.PrintLast Go.Proofs.YtghkbkbommobaaaW.PrintMore
attribute [local go_sem] max2_int min2_int max_two min_two max_three min_three max_four min_four   -- for this text's walks alone
set_option linter.unusedVariables false
set_option linter.unusedSimpArgs false

/-! ### spec_DrawWrapCost: function 59 -/
mutual
def spec_DrawWrapCost.j0 : Nat → List ByteArray → Int → List Int → Bool → List Int → Int → Option (List ByteArray × Int × List Int)
  | 0, _, _, _, _, _, _ => none
  | k + 1, x6, x7, x8, x26, x954000, x954001 => if x26 = true then ((spec_l20Rd_pick.f k x954000 x954001 4).bind fun bt964 => (if bt964.1 = 0 then (spec_DrawWrapCost.l0 k x6 x7 (([] : List Int)) 0) else (if bt964.1 = 1 then (if x8.length < 17592186044416 then (some (x6, x7, (x8 ++ [1]))) else (none)) else (if bt964.1 = 2 then ((spec_l20Rd_pick.f k x954000 bt964.2 (x8.length : Int)).bind fun bt975 => ((spec_l20Rd_pick.f k x954000 bt975.2 4).bind fun bt977 => (if 0 ≤ bt975.1 then (if bt975.1 < (x8.length : Int) then (some (x6, x7, (x8.set (bt975.1 : Int).toNat bt977.1))) else (none)) else (none)))) else (if (x8.length : Int) > 1 then (if 0 < (x8.length : Int) then (if (rd x8 0) > 1 then ((some (x8.set (0 : Int).toNat (wrap64 ((rd x8 0) - 1)) : List Int)).bind fun y982 => (if 1 < (x8.length : Int) then (some (x6, x7, (y982.set (1 : Int).toNat (wrap64 ((rd y982 1) + 1))))) else (none))) else (some (x6, x7, x8))) else (none)) else (some (x6, x7, x8))))))) else (some (x6, x7, x8))
def spec_DrawWrapCost.l0 : Nat → List ByteArray → Int → List Int → Int → Option (List ByteArray × Int × List Int)
  | 0, _, _, _, _ => none
  | k + 1, x6, x7, x8, x9 => if x9 < (x6.length : Int) then (if x8.length < 17592186044416 then (spec_DrawWrapCost.l0 k x6 x7 (x8 ++ [1]) (wrap64 (x9 + 1))) else (none)) else (some (x6, x7, x8))
end
def spec_DrawWrapCost.f (k : Nat) (l0 : List Int) : Option (List ByteArray × Int × List Int) := (spec_l20Open.f l0).bind fun bt951 => ((spec_l20Wrapped.f k bt951.1 bt951.2 9).bind fun bt954 => ((spec_WrapGreedy.f k bt954.1 bt954.2.1).bind fun t959 => ((spec_l20Rd_odd.f k bt951.1 bt954.2.2 2).bind fun bt962 => (if bt962.1 = true then (spec_DrawWrapCost.j0 k bt954.1 bt954.2.1 t959 (decide ((t959.length : Int) > 0)) bt951.1 bt962.2) else (spec_DrawWrapCost.j0 k bt954.1 bt954.2.1 t959 false bt951.1 bt962.2)))))
theorem spec_DrawWrapCost.mono_l : ∀ k, (∀ y0 y1 y2 y3 y4 y5, LeO (spec_DrawWrapCost.j0 k y0 y1 y2 y3 y4 y5) (spec_DrawWrapCost.j0 (k + 1) y0 y1 y2 y3 y4 y5)) ∧ (∀ y0 y1 y2 y3, LeO (spec_DrawWrapCost.l0 k y0 y1 y2 y3) (spec_DrawWrapCost.l0 (k + 1) y0 y1 y2 y3))
  | 0 => ⟨fun _ _ _ _ _ _ r h => by simp [spec_DrawWrapCost.j0] at h, fun _ _ _ _ r h => by simp [spec_DrawWrapCost.l0] at h⟩
  | k + 1 => by
    obtain ⟨ih0, ih1⟩ := spec_DrawWrapCost.mono_l k
    refine ⟨?_, ?_⟩
    · intro y0 y1 y2 y3 y4 y5
      unfold spec_DrawWrapCost.j0
      repeat' first
      | (with_reducible exact ih0 _ _ _ _ _ _)
      | (with_reducible exact ih1 _ _ _ _)
      | (with_reducible exact spec_WrapGreedy.mono _ _ _)
      | (with_reducible exact spec_l20Rd_odd.mono _ _ _ _)
      | (with_reducible exact spec_l20Rd_pick.mono _ _ _ _)
      | (with_reducible exact spec_l20Wrapped.mono _ _ _ _)
      | (with_reducible exact LeO.refl _)
      | (with_reducible exact LeO.none _)
      | (with_reducible refine LeO.ite ?_ ?_)
      | (with_reducible refine LeO.bind ?_ (fun _ => ?_))
      | exact ih0 _ _ _ _ _ _
      | exact ih1 _ _ _ _
      | exact spec_WrapGreedy.mono _ _ _
      | exact spec_l20Rd_odd.mono _ _ _ _
      | exact spec_l20Rd_pick.mono _ _ _ _
      | exact spec_l20Wrapped.mono _ _ _ _
      | exact LeO.none _
      | refine LeO.ite ?_ ?_
      | refine LeO.bind ?_ (fun _ => ?_)
    · intro y0 y1 y2 y3
      unfold spec_DrawWrapCost.l0
      repeat' first
      | (with_reducible exact ih0 _ _ _ _ _ _)
      | (with_reducible exact ih1 _ _ _ _)
      | (with_reducible exact spec_WrapGreedy.mono _ _ _)
      | (with_reducible exact spec_l20Rd_odd.mono _ _ _ _)
      | (with_reducible exact spec_l20Rd_pick.mono _ _ _ _)
      | (with_reducible exact spec_l20Wrapped.mono _ _ _ _)
      | (with_reducible exact LeO.refl _)
      | (with_reducible exact LeO.none _)
      | (with_reducible refine LeO.ite ?_ ?_)
      | (with_reducible refine LeO.bind ?_ (fun _ => ?_))
      | exact ih0 _ _ _ _ _ _
      | exact ih1 _ _ _ _
      | exact spec_WrapGreedy.mono _ _ _
      | exact spec_l20Rd_odd.mono _ _ _ _
      | exact spec_l20Rd_pick.mono _ _ _ _
      | exact spec_l20Wrapped.mono _ _ _ _
      | exact LeO.none _
      | refine LeO.ite ?_ ?_
      | refine LeO.bind ?_ (fun _ => ?_)
theorem spec_DrawWrapCost.mono : ∀ a0 k, LeO (spec_DrawWrapCost.f k a0) (spec_DrawWrapCost.f (k + 1) a0) := by
  intro a0 k
  obtain ⟨ih0, ih1⟩ := spec_DrawWrapCost.mono_l k
  unfold spec_DrawWrapCost.f
  repeat' first
      | (with_reducible exact ih0 _ _ _ _ _ _)
      | (with_reducible exact ih1 _ _ _ _)
      | (with_reducible exact spec_WrapGreedy.mono _ _ _)
      | (with_reducible exact spec_l20Rd_odd.mono _ _ _ _)
      | (with_reducible exact spec_l20Rd_pick.mono _ _ _ _)
      | (with_reducible exact spec_l20Wrapped.mono _ _ _ _)
      | (with_reducible exact LeO.refl _)
      | (with_reducible exact LeO.none _)
      | (with_reducible refine LeO.ite ?_ ?_)
      | (with_reducible refine LeO.bind ?_ (fun _ => ?_))
      | exact ih0 _ _ _ _ _ _
      | exact ih1 _ _ _ _
      | exact spec_WrapGreedy.mono _ _ _
      | exact spec_l20Rd_odd.mono _ _ _ _
      | exact spec_l20Rd_pick.mono _ _ _ _
      | exact spec_l20Wrapped.mono _ _ _ _
      | exact LeO.none _
      | refine LeO.ite ?_ ?_
      | refine LeO.bind ?_ (fun _ => ?_)
set_option maxHeartbeats 8000000 in
set_option maxRecDepth 100000 in
theorem spec_DrawWrapCost.calls (k : Nat) (A0 : Option Addr) (c0 : Nat) (l0 : List Int) (r1 : List ByteArray) (r2 : Int) (r3 : List Int) (w : World) (hr0 : Kd.C (Kd.int .u8) w A0 l0.length l0) (hc0 : l0.length ≤ c0) (h : spec_DrawWrapCost.f k l0 = some (r1, r2, r3)) :
    Calls Try.prog 59 #[.slice A0 l0.length c0] w fun e w' => ∃ v0_ v2_ : Value, e = .returned (.tuple #[v0_, .int .i64 r2, v2_]) ∧ Kd.R Kd.string 9 w' w.heap.size (fun _ => True) v0_ r1 ∧ Kd.R (Kd.int .i64) 3 w' w.heap.size (fun _ => True) v2_ r3 ∧ Below w.heap.size w w' := by
  have HR0 := Aside0.mk hr0
  have HC0 := Aside0.mk hc0
  clear hr0 hc0
  have HB := Aside0.mk (Below.refl w.heap.size w)
  have H : ((spec_l20Open.f l0).bind fun bt951 => ((spec_l20Wrapped.f k bt951.1 bt951.2 9).bind fun bt954 => ((spec_WrapGreedy.f k bt954.1 bt954.2.1).bind fun t959 => ((spec_l20Rd_odd.f k bt951.1 bt954.2.2 2).bind fun bt962 => (if bt962.1 = true then (spec_DrawWrapCost.j0 k bt954.1 bt954.2.1 t959 (decide ((t959.length : Int) > 0)) bt951.1 bt962.2) else (spec_DrawWrapCost.j0 k bt954.1 bt954.2.1 t959 false bt951.1 bt962.2)))))) = some (r1, r2, r3) := h
  clear h
  replace H := Option.bind_eq_some_iff.mp H
  obtain ⟨⟨t951, t952⟩, A20, H⟩ := H
  replace H : ((spec_l20Wrapped.f k t951 t952 9).bind fun bt954 => ((spec_WrapGreedy.f k bt954.1 bt954.2.1).bind fun t959 => ((spec_l20Rd_odd.f k t951 bt954.2.2 2).bind fun bt962 => (if bt962.1 = true then (spec_DrawWrapCost.j0 k bt954.1 bt954.2.1 t959 (decide ((t959.length : Int) > 0)) t951 bt962.2) else (spec_DrawWrapCost.j0 k bt954.1 bt954.2.1 t959 false t951 bt962.2))))) = some (r1, r2, r3) := H
  have A2 := Aside0.mk A20
  clear A20
  replace H := Option.bind_eq_some_iff.mp H
  obtain ⟨⟨t954, t957, t958⟩, A30, H⟩ := H
  replace H : ((spec_WrapGreedy.f k t954 t957).bind fun t959 => ((spec_l20Rd_odd.f k t951 t958 2).bind fun bt962 => (if bt962.1 = true then (spec_DrawWrapCost.j0 k t954 t957 t959 (decide ((t959.length : Int) > 0)) t951 bt962.2) else (spec_DrawWrapCost.j0 k t954 t957 t959 false t951 bt962.2)))) = some (r1, r2, r3) := H
  have A3 := Aside0.mk A30
  clear A30
  replace H := Option.bind_eq_some_iff.mp H
  obtain ⟨t959, A40, H⟩ := H
  replace H : ((spec_l20Rd_odd.f k t951 t958 2).bind fun bt962 => (if bt962.1 = true then (spec_DrawWrapCost.j0 k t954 t957 t959 (decide ((t959.length : Int) > 0)) t951 bt962.2) else (spec_DrawWrapCost.j0 k t954 t957 t959 false t951 bt962.2))) = some (r1, r2, r3) := H
  have A4 := Aside0.mk A40
  clear A40
  have HC5 := Aside0.mk H
  clear H
  go_enter Try.func59, Try.ntmps59
  go_upto_region 4 with (first | ((with_reducible refine gate_callee (f := 65) rfl ?_); refine goesL_ (some 11) rfl rfl Try.func65 (by kernel_rfl) rfl #[.slice A0 l0.length c0] rfl (by (try simp only [List.map_toArray, List.map_cons, List.map_nil]); first | done | rfl | (simp only [List.length_drop, List.length_take]; rfl)) ?_; (with_reducible refine (spec_l20Open.calls _ _ l0 t951 t952 w _ ?side1 ?side2 ?side3 A2.out).mono ?_); (case side1 => repeat (first | (with_reducible first | exact HB.out | apply below_alloc | apply pw_below_drewN | apply below_drew1) | exact HB.out)); (case side2 => exact HR0.out); (case side3 => exact HC0.out); rintro e w6 ⟨g953, rfl, hi, hb, hb2⟩; refine ⟨_, rfl, ?_⟩; have n0_ := Aside0.mk (hb); have n1_ := Aside0.mk (hi); clear HB; have HB := n0_; have HI953 := n1_; clear n0_ n1_; (try clear hb); (try clear hb2); (try clear hk); (try clear hi)) | ((with_reducible refine gate_callee (f := 64) rfl ?_); refine goesL_ (some 14) rfl rfl Try.func64 (by kernel_rfl) rfl #[.pointer (some ⟨g953, 0, none⟩), .int .i64 9] rfl (by (try simp only [List.map_toArray, List.map_cons, List.map_nil]); first | done | rfl | (simp only [List.length_drop, List.length_take]; rfl)) ?_; (with_reducible refine (spec_l20Wrapped.calls k g953 t951 t952 9 t954 t957 t958 w _ ?side1 ?side2 A3.out).mono ?_); (case side1 => repeat (first | (with_reducible first | exact HI953.out | apply IsS86.alloc | apply IsS86.drewN | apply IsS86.drew | apply IsS86.set_1) | exact HI953.out)); (case side2 => repeat (first | (with_reducible first | exact HB.out | apply below_alloc | apply pw_below_drewN | apply below_drew1 | refine below_set ?_ (IsS86.ge HI953.out)) | exact HB.out)); rintro e w7 ⟨v955, rfl, ho0, hi, hb, hk⟩; refine ⟨_, rfl, ?_⟩; have n0_ := Aside0.mk (Kd.R_lower ho0 (below_size (by repeat (first | (with_reducible first | exact HB.out | apply below_alloc | apply pw_below_drewN | apply below_drew1 | refine below_set ?_ (IsS86.ge HI953.out)) | exact HB.out)))); have n1_ := Aside0.mk (hb); have n2_ := Aside0.mk (hi); clear HB; clear HI953; have HO956 := n0_; have HB := n1_; have HI953 := n2_; clear n0_ n1_ n2_; (try clear hb); (try clear hb2); (try clear hk); (try clear hi); (try clear ho0); obtain ⟨Ao8, co8, eo8⟩ := Kd.R_slice HO956.out; subst eo8) | ((with_reducible refine gate_callee (f := 51) rfl ?_); refine goesL_ (some 19) rfl rfl Try.func51 (by kernel_rfl) rfl #[.slice Ao8 t954.length co8, .int .i64 t957] rfl (by (try simp only [List.map_toArray, List.map_cons, List.map_nil]); first | done | rfl | (simp only [List.length_drop, List.length_take]; rfl)) ?_; (with_reducible refine (spec_WrapGreedy.calls k _ _ t954 t957 t959 _ ?side1 ?side2 A4.out).mono ?_); (case side1 => repeat (first | exact (Kd.R_reads' HO956.out).2.2 | (with_reducible refine Kd.C_alloc ?_ _) | (with_reducible refine Kd.C_drewN ?_ _) | (with_reducible refine Kd.C_drew ?_))); (case side2 => exact (Kd.R_reads' HO956.out).2.1); rintro e w9 ⟨v960, rfl, ho0, hb⟩; refine ⟨_, rfl, ?_⟩; have n0_ := Aside0.mk (Kd.R_below (by (with_reducible repeat (first | apply Kd.R_alloc | apply Kd.R_drewN | apply Kd.R_drew)); exact HO956.out) hb); have n1_ := Aside0.mk (Kd.R_lower ho0 (below_size (by repeat (first | (with_reducible first | exact HB.out | apply below_alloc | apply pw_below_drewN | apply below_drew1 | refine below_set ?_ (IsS86.ge HI953.out)) | exact HB.out)))); have n2_ := Aside0.mk (IsS86.below (by repeat (first | (with_reducible first | exact HI953.out | apply IsS86.alloc | apply IsS86.drewN | apply IsS86.drew | apply IsS86.set_1) | exact HI953.out)) hb); have n3_ := Aside0.mk (below_step (by repeat (first | (with_reducible first | exact HB.out | apply below_alloc | apply pw_below_drewN | apply below_drew1 | refine below_set ?_ (IsS86.ge HI953.out)) | exact HB.out)) hb); clear HO956; clear HI953; clear HB; have HO956 := n0_; have HO961 := n1_; have HI953 := n2_; have HB := n3_; clear n0_ n1_ n2_ n3_; (try clear hb); (try clear hb2); (try clear hk); (try clear hi); (try clear ho0)))
  (try simp only [Act.put, List.setIfInBounds_toArray, List.set_cons_zero, List.set_cons_succ])
  go_cut [26] (fun v26 wc => ∃ (kq : Nat) (x26_4 : Bool) (x954001_4 : Int), v26 = .bool x26_4 ∧ Aside0 (spec_DrawWrapCost.j0 kq t954 t957 t959 x26_4 t951 x954001_4 = some (r1, r2, r3)) ∧ Aside0 (kq ≤ k) ∧ Aside0 (Kd.R Kd.string 9 wc w.heap.size (fun _ => True) (.slice Ao8 t954.length co8) t954) ∧ Aside0 (Kd.R (Kd.int .i64) 3 wc w.heap.size (fun _ => True) v960 t959) ∧ Aside0 (IsS86 w wc g953 t951 x954001_4) ∧ Aside0 (Below w.heap.size w wc))
  case first =>
    have H := HC5.out
    clear HC5
    replace H := Option.bind_eq_some_iff.mp H
    obtain ⟨⟨t962, t963⟩, A100, H⟩ := H
    replace H : (if t962 = true then (spec_DrawWrapCost.j0 k t954 t957 t959 (decide ((t959.length : Int) > 0)) t951 t963) else (spec_DrawWrapCost.j0 k t954 t957 t959 false t951 t963)) = some (r1, r2, r3) := H
    have A10 := Aside0.mk A100
    clear A100
    by_cases c11 : t962 = true
    · subst c11
      have H1 : (spec_DrawWrapCost.j0 k t954 t957 t959 (decide ((t959.length : Int) > 0)) t951 t963) = some (r1, r2, r3) := by rw [if_pos rfl] at H; exact H
      clear H
      have H := H1
      clear H1
      have H' := Aside0.mk H
      clear H
      go_wp2_with (first | ((with_reducible refine gate_callee (f := 75) rfl ?_); refine goesL_ (some 21) rfl rfl Try.func75 (by kernel_rfl) rfl #[.pointer (some ⟨g953, 0, none⟩), .int .i64 2] rfl (by (try simp only [List.map_toArray, List.map_cons, List.map_nil]); first | done | rfl | (simp only [List.length_drop, List.length_take]; rfl)) ?_; (with_reducible refine (spec_l20Rd_odd.calls k g953 t951 t958 2 true t963 w _ ?side1 ?side2 A10.out).mono ?_); (case side1 => repeat (first | (with_reducible first | exact HI953.out | apply IsS86.alloc | apply IsS86.drewN | apply IsS86.drew | apply IsS86.set_1) | exact HI953.out)); (case side2 => repeat (first | (with_reducible first | exact HB.out | apply below_alloc | apply pw_below_drewN | apply below_drew1 | refine below_set ?_ (IsS86.ge HI953.out)) | exact HB.out)); rintro e w12 ⟨rfl, hi, hb, hk⟩; refine ⟨_, rfl, ?_⟩; have n0_ := Aside0.mk (Kd.R_mono (Kd.R_keep (IsS86.apart (show IsS86 w _ g953 t951 t958 from by repeat (first | (with_reducible first | exact HI953.out | apply IsS86.alloc | apply IsS86.drewN | apply IsS86.drew | apply IsS86.set_1) | exact HI953.out)) (by (with_reducible repeat (first | apply Kd.R_alloc | apply Kd.R_drewN | apply Kd.R_drew)); exact HO956.out) (by decide)) hk (fun _ h => h.2)) (fun _ h => h.1)); have n1_ := Aside0.mk (Kd.R_mono (Kd.R_keep (IsS86.apart (show IsS86 w _ g953 t951 t958 from by repeat (first | (with_reducible first | exact HI953.out | apply IsS86.alloc | apply IsS86.drewN | apply IsS86.drew | apply IsS86.set_1) | exact HI953.out)) (by (with_reducible repeat (first | apply Kd.R_alloc | apply Kd.R_drewN | apply Kd.R_drew)); exact HO961.out) (by decide)) hk (fun _ h => h.2)) (fun _ h => h.1)); have n2_ := Aside0.mk (hb); have n3_ := Aside0.mk (hi); clear HO956; clear HO961; clear HB; clear HI953; have HO956 := n0_; have HO961 := n1_; have HB := n2_; have HI953 := n3_; clear n0_ n1_ n2_ n3_; (try clear hb); (try clear hb2); (try clear hk); (try clear hi); obtain ⟨Ao13, co13, eo13⟩ := Kd.R_slice HO961.out; subst eo13))
      go_meet
      case rel => exact ⟨_, (decide ((t959.length : Int) > 0)), (t963), (by first | rfl | (simp; done) | (simp [*]; done)), H', ⟨by first | omega | exact Nat.le_refl _⟩, ⟨by (with_reducible repeat (first | apply Kd.R_alloc | apply Kd.R_drewN | apply Kd.R_drew)); exact HO956.out⟩, ⟨by (with_reducible repeat (first | apply Kd.R_alloc | apply Kd.R_drewN | apply Kd.R_drew)); exact HO961.out⟩, ⟨by repeat (first | (with_reducible first | exact HI953.out | apply IsS86.alloc | apply IsS86.drewN | apply IsS86.drew | apply IsS86.set_1) | exact HI953.out)⟩, ⟨by repeat (first | (with_reducible first | exact HB.out | apply below_alloc | apply pw_below_drewN | apply below_drew1 | refine below_set ?_ (IsS86.ge HI953.out)) | exact HB.out)⟩⟩
    · replace c11 := Bool.eq_false_iff.mpr c11
      subst c11
      have H1 : (spec_DrawWrapCost.j0 k t954 t957 t959 false t951 t963) = some (r1, r2, r3) := by rw [if_neg (show ¬ (false = true) by decide)] at H; exact H
      clear H
      have H := H1
      clear H1
      have H' := Aside0.mk H
      clear H
      go_wp2_with (first | ((with_reducible refine gate_callee (f := 75) rfl ?_); refine goesL_ (some 21) rfl rfl Try.func75 (by kernel_rfl) rfl #[.pointer (some ⟨g953, 0, none⟩), .int .i64 2] rfl (by (try simp only [List.map_toArray, List.map_cons, List.map_nil]); first | done | rfl | (simp only [List.length_drop, List.length_take]; rfl)) ?_; (with_reducible refine (spec_l20Rd_odd.calls k g953 t951 t958 2 false t963 w _ ?side1 ?side2 A10.out).mono ?_); (case side1 => repeat (first | (with_reducible first | exact HI953.out | apply IsS86.alloc | apply IsS86.drewN | apply IsS86.drew | apply IsS86.set_1) | exact HI953.out)); (case side2 => repeat (first | (with_reducible first | exact HB.out | apply below_alloc | apply pw_below_drewN | apply below_drew1 | refine below_set ?_ (IsS86.ge HI953.out)) | exact HB.out)); rintro e w14 ⟨rfl, hi, hb, hk⟩; refine ⟨_, rfl, ?_⟩; have n0_ := Aside0.mk (Kd.R_mono (Kd.R_keep (IsS86.apart (show IsS86 w _ g953 t951 t958 from by repeat (first | (with_reducible first | exact HI953.out | apply IsS86.alloc | apply IsS86.drewN | apply IsS86.drew | apply IsS86.set_1) | exact HI953.out)) (by (with_reducible repeat (first | apply Kd.R_alloc | apply Kd.R_drewN | apply Kd.R_drew)); exact HO956.out) (by decide)) hk (fun _ h => h.2)) (fun _ h => h.1)); have n1_ := Aside0.mk (Kd.R_mono (Kd.R_keep (IsS86.apart (show IsS86 w _ g953 t951 t958 from by repeat (first | (with_reducible first | exact HI953.out | apply IsS86.alloc | apply IsS86.drewN | apply IsS86.drew | apply IsS86.set_1) | exact HI953.out)) (by (with_reducible repeat (first | apply Kd.R_alloc | apply Kd.R_drewN | apply Kd.R_drew)); exact HO961.out) (by decide)) hk (fun _ h => h.2)) (fun _ h => h.1)); have n2_ := Aside0.mk (hb); have n3_ := Aside0.mk (hi); clear HO956; clear HO961; clear HB; clear HI953; have HO956 := n0_; have HO961 := n1_; have HB := n2_; have HI953 := n3_; clear n0_ n1_ n2_ n3_; (try clear hb); (try clear hb2); (try clear hk); (try clear hi)))
      go_meet
      case rel => exact ⟨_, (false), (t963), (by first | rfl | (simp; done) | (simp [*]; done)), H', ⟨by first | omega | exact Nat.le_refl _⟩, ⟨by (with_reducible repeat (first | apply Kd.R_alloc | apply Kd.R_drewN | apply Kd.R_drew)); exact HO956.out⟩, ⟨by (with_reducible repeat (first | apply Kd.R_alloc | apply Kd.R_drewN | apply Kd.R_drew)); exact HO961.out⟩, ⟨by repeat (first | (with_reducible first | exact HI953.out | apply IsS86.alloc | apply IsS86.drewN | apply IsS86.drew | apply IsS86.set_1) | exact HI953.out)⟩, ⟨by repeat (first | (with_reducible first | exact HB.out | apply below_alloc | apply pw_below_drewN | apply below_drew1 | refine below_set ?_ (IsS86.ge HI953.out)) | exact HB.out)⟩⟩
  case rest =>
    clear HC5
    try clear c1
    try clear p2
    try clear c5
    try clear c6
    try clear c7
    try clear c11
    obtain ⟨kq, x26_4, x954001_4, rfl, HA, HJ4, HO_6, HO_8, HI953, HB⟩ := hcut
    cases kq with
    | zero => exact absurd HA.out (by simp [spec_DrawWrapCost.j0])
    | succ kj4 =>
      have H := HA.out
      clear HA
      simp only [spec_DrawWrapCost.j0] at H
      by_cases c15 : x26_4 = true
      · subst c15
        have H1 : ((spec_l20Rd_pick.f kj4 t951 x954001_4 4).bind fun bt964 => (if bt964.1 = 0 then (spec_DrawWrapCost.l0 kj4 t954 t957 (([] : List Int)) 0) else (if bt964.1 = 1 then (if t959.length < 17592186044416 then (some (t954, t957, (t959 ++ [1]))) else (none)) else (if bt964.1 = 2 then ((spec_l20Rd_pick.f kj4 t951 bt964.2 (t959.length : Int)).bind fun bt975 => ((spec_l20Rd_pick.f kj4 t951 bt975.2 4).bind fun bt977 => (if 0 ≤ bt975.1 then (if bt975.1 < (t959.length : Int) then (some (t954, t957, (t959.set (bt975.1 : Int).toNat bt977.1))) else (none)) else (none)))) else (if (t959.length : Int) > 1 then (if 0 < (t959.length : Int) then (if (rd t959 0) > 1 then ((some (t959.set (0 : Int).toNat (wrap64 ((rd t959 0) - 1)) : List Int)).bind fun y982 => (if 1 < (t959.length : Int) then (some (t954, t957, (y982.set (1 : Int).toNat (wrap64 ((rd y982 1) + 1))))) else (none))) else (some (t954, t957, t959))) else (none)) else (some (t954, t957, t959))))))) = some (r1, r2, r3) := by rw [if_pos rfl] at H; exact H
        clear H
        have H := H1
        clear H1
        replace H := Option.bind_eq_some_iff.mp H
        obtain ⟨⟨t964, t965⟩, A160, H⟩ := H
        replace H : (if t964 = 0 then (spec_DrawWrapCost.l0 kj4 t954 t957 (([] : List Int)) 0) else (if t964 = 1 then (if t959.length < 17592186044416 then (some (t954, t957, (t959 ++ [1]))) else (none)) else (if t964 = 2 then ((spec_l20Rd_pick.f kj4 t951 t965 (t959.length : Int)).bind fun bt975 => ((spec_l20Rd_pick.f kj4 t951 bt975.2 4).bind fun bt977 => (if 0 ≤ bt975.1 then (if bt975.1 < (t959.length : Int) then (some (t954, t957, (t959.set (bt975.1 : Int).toNat bt977.1))) else (none)) else (none)))) else (if (t959.length : Int) > 1 then (if 0 < (t959.length : Int) then (if (rd t959 0) > 1 then ((some (t959.set (0 : Int).toNat (wrap64 ((rd t959 0) - 1)) : List Int)).bind fun y982 => (if 1 < (t959.length : Int) then (some (t954, t957, (y982.set (1 : Int).toNat (wrap64 ((rd y982 1) + 1))))) else (none))) else (some (t954, t957, t959))) else (none)) else (some (t954, t957, t959)))))) = some (r1, r2, r3) := H
        have A16 := Aside0.mk A160
        clear A160
        by_cases c17 : t964 = 0
        · rw [if_pos c17] at H
          have c17b0 : (t964 == 0) = true := beq_iff_eq.mpr c17
          have c17b1 : (t964 != 0) = false := bne_eq_false_iff_eq.mpr c17
          clear c17
          obtain ⟨y966, hy966⟩ : ∃ y_ : List Int, y_ = (([] : List Int)) := ⟨_, rfl⟩
          replace H : (spec_DrawWrapCost.l0 kj4 t954 t957 y966 0) = some (r1, r2, r3) := by first | (rw [hy966]; with_reducible exact H) | (have H2_ := (Option.bind_some _ _).symm.trans H; rw [hy966]; with_reducible exact H2_) | (have H2_ := (Option.bind_some _ _).symm.trans H; with_reducible exact H2_) | with_reducible exact H | (rw [hy966]; exact H) | exact H
          have Ny966 := Aside0.mk hy966
          clear hy966
          have H' := Aside0.mk H
          clear H
          go_wp2_with (first | ((with_reducible refine gate_callee (f := 74) rfl ?_); refine goesL_ (some 28) rfl rfl Try.func74 (by kernel_rfl) rfl #[.pointer (some ⟨g953, 0, none⟩), .int .i64 4] rfl (by (try simp only [List.map_toArray, List.map_cons, List.map_nil]); first | done | rfl | (simp only [List.length_drop, List.length_take]; rfl)) ?_; (with_reducible refine (spec_l20Rd_pick.calls kj4 g953 t951 x954001_4 4 t964 t965 w _ ?side1 ?side2 A16.out).mono ?_); (case side1 => repeat (first | (with_reducible first | exact HI953.out | apply IsS86.alloc | apply IsS86.drewN | apply IsS86.drew | apply IsS86.set_1) | exact HI953.out)); (case side2 => repeat (first | (with_reducible first | exact HB.out | apply below_alloc | apply pw_below_drewN | apply below_drew1 | refine below_set ?_ (IsS86.ge HI953.out)) | exact HB.out)); rintro e w18 ⟨rfl, hi, hb, hk⟩; refine ⟨_, rfl, ?_⟩; have n0_ := Aside0.mk (Kd.R_mono (Kd.R_keep (IsS86.apart (show IsS86 w _ g953 t951 x954001_4 from by repeat (first | (with_reducible first | exact HI953.out | apply IsS86.alloc | apply IsS86.drewN | apply IsS86.drew | apply IsS86.set_1) | exact HI953.out)) (by (with_reducible repeat (first | apply Kd.R_alloc | apply Kd.R_drewN | apply Kd.R_drew)); exact HO_6.out) (by decide)) hk (fun _ h => h.2)) (fun _ h => h.1)); have n1_ := Aside0.mk (Kd.R_mono (Kd.R_keep (IsS86.apart (show IsS86 w _ g953 t951 x954001_4 from by repeat (first | (with_reducible first | exact HI953.out | apply IsS86.alloc | apply IsS86.drewN | apply IsS86.drew | apply IsS86.set_1) | exact HI953.out)) (by (with_reducible repeat (first | apply Kd.R_alloc | apply Kd.R_drewN | apply Kd.R_drew)); exact HO_8.out) (by decide)) hk (fun _ h => h.2)) (fun _ h => h.1)); have n2_ := Aside0.mk (hb); have n3_ := Aside0.mk (hi); clear HO_6; clear HO_8; clear HB; clear HI953; have HO_6 := n0_; have HO_8 := n1_; have HB := n2_; have HI953 := n3_; clear n0_ n1_ n2_ n3_; (try clear hb); (try clear hb2); (try clear hk); (try clear hi)) | ((with_reducible refine gate_dst (N := 52) rfl ?_); (try (refine gate_guard (by rfl) ?_; dsimp only)); refine Kd.R_lit (Kd.int .i64) _ 3 ?hg (N := 52) ?hd (xs := ([] : List Int)) (inner := []) (ok := fun _ => True) (okp := fun _ => True) ?hr ?hp (fun _ hk => hk) trivial (Below.refl _ _) (Nat.le_refl _) (by simp) ?_; (case hd => rfl); (case hg => rfl); (case hr => first | (go_simp; done) | (go_simp; rfl)); (case hp => exact (Reps.none _ _)); intro v967 w19 ho20 hb hg_ hnew_; clear hg_ hnew_; (first | rw [← Ny966.out] at ho20 | (simp only [Int.reduceToNat] at ho20; rw [← Ny966.out] at ho20)); have n0_ := Aside0.mk (Kd.R_below (by (with_reducible repeat (first | apply Kd.R_alloc | apply Kd.R_drewN | apply Kd.R_drew)); exact HO_6.out) hb); have n1_ := Aside0.mk (Kd.R_elder' (by (with_reducible repeat (first | apply Kd.R_alloc | apply Kd.R_drewN | apply Kd.R_drew)); exact HO_8.out) (Kd.R_base ho20) hb); have n2_ := Aside0.mk (Kd.R_lower (Kd.R_new' ho20 (Kd.R_lt (by (with_reducible repeat (first | apply Kd.R_alloc | apply Kd.R_drewN | apply Kd.R_drew)); exact HO_8.out))) (below_size (by repeat (first | (with_reducible first | exact HB.out | apply below_alloc | apply pw_below_drewN | apply below_drew1 | refine below_set ?_ (IsS86.ge HI953.out)) | exact HB.out)))); have n3_ := Aside0.mk (IsS86.below (by repeat (first | (with_reducible first | exact HI953.out | apply IsS86.alloc | apply IsS86.drewN | apply IsS86.drew | apply IsS86.set_1) | exact HI953.out)) hb); have n4_ := Aside0.mk (below_step (by repeat (first | (with_reducible first | exact HB.out | apply below_alloc | apply pw_below_drewN | apply below_drew1 | refine below_set ?_ (IsS86.ge HI953.out)) | exact HB.out)) hb); clear HO_6; clear HO_8; clear HI953; clear HB; have HO_6 := n0_; have HO_8 := n1_; have HO968 := n2_; have HI953 := n3_; have HB := n4_; clear n0_ n1_ n2_ n3_ n4_; clear hb ho20))
          go_loopg [8, 9] kj4 (fun kq v8 v9 w' => ∃ (x8_2 : List Int) (x9_2 : Int), v9 = .int .i64 x9_2 ∧ Aside0 (spec_DrawWrapCost.l0 kq t954 t957 x8_2 x9_2 = some (r1, r2, r3)) ∧ Aside0 (kq ≤ kj4) ∧ Aside0 (Kd.R Kd.string 9 w' w.heap.size (fun _ => True) (.slice Ao8 t954.length co8) t954) ∧ Aside0 (Kd.R (Kd.int .i64) 3 w' w.heap.size (fun _ => True) v8 x8_2) ∧ Aside0 (Below w.heap.size w w'))
          case atStart => exact ⟨(y966), (0), (by first | rfl | (simp; done) | (simp [*]; done)), H', ⟨Nat.le_refl _⟩, ⟨by (with_reducible repeat (first | apply Kd.R_alloc | apply Kd.R_drewN | apply Kd.R_drew)); exact HO_6.out⟩, ⟨by (with_reducible repeat (first | apply Kd.R_alloc | apply Kd.R_drewN | apply Kd.R_drew)); exact Kd.R_mono HO968.out (fun _ hk => trivial)⟩, ⟨by repeat (first | (with_reducible first | exact HB.out | apply below_alloc | apply pw_below_drewN | apply below_drew1 | refine below_set ?_ (IsS86.ge HI953.out)) | exact HB.out)⟩⟩
          case round =>
            clear H'
            try clear c1
            try clear p2
            try clear c5
            try clear c6
            try clear p6
            try clear c7
            try clear c11
            try clear c15
            try clear c17
            try clear c17b0
            try clear c17b1
            try clear p2
            obtain ⟨x8_2, x9_2, rfl, HA, HK2, HO_6, HO_8, HB⟩ := hrel
            cases gk with
            | zero => exact absurd HA.out (by simp [spec_DrawWrapCost.l0])
            | succ k2 =>
              have H := HA.out
              clear HA
              simp only [spec_DrawWrapCost.l0] at H
              by_cases c21 : x9_2 < (t954.length : Int)
              · rw [if_pos c21] at H
                have c21b0 : decide (x9_2 < (t954.length : Int)) = true := decide_eq_true c21
                clear c21
                by_cases c22 : x8_2.length < 17592186044416
                · rw [if_pos c22] at H
                  have LMc22 := Aside0.mk c22
                  clear c22
                  obtain ⟨y969, hy969⟩ : ∃ y_ : List Int, y_ = (x8_2 ++ [1]) := ⟨_, rfl⟩
                  replace H : (spec_DrawWrapCost.l0 k2 t954 t957 y969 (wrap64 (x9_2 + 1))) = some (r1, r2, r3) := by first | (rw [hy969]; with_reducible exact H) | (have H2_ := (Option.bind_some _ _).symm.trans H; rw [hy969]; with_reducible exact H2_) | (have H2_ := (Option.bind_some _ _).symm.trans H; with_reducible exact H2_) | with_reducible exact H | (rw [hy969]; exact H) | exact H
                  have Ny969 := Aside0.mk hy969
                  clear hy969
                  have H' := Aside0.mk H
                  clear H
                  go_wp2_with (first | ((with_reducible refine gate_builtin (b := .append) (xs := #[.tmp 59, .tmp 60]) rfl ?_); (try (refine gate_guard (by rfl) ?_; dsimp only)); at_builtin; refine Kd.R_append (Kd.int .i64) (w0 := w) w.heap.size rfl (.tmp 59) (.tmp 60) 51 3 (.int .i64 0) 8 rfl Try.underlying51 info3 rfl (by decide) (by omega) u8 x8_2 1 [.int .i64 1] (fun _ => True) (fun _ => False) rfl rfl ?aP (fun _ hk => hk.elim) ?aF ?aO ?aB ?aS ?aL ?_; (case aP => exact rfl); (case aB => exact (by repeat (first | (with_reducible first | exact HB.out | apply below_alloc | apply pw_below_drewN | apply below_drew1) | exact HB.out))); (case aF => exact (fun _ _ => trivial)); (case aO => exact (by (with_reducible repeat (first | apply Kd.R_alloc | apply Kd.R_drewN | apply Kd.R_drew)); exact HO_8.out)); (case aS => exact (below_size (by repeat (first | (with_reducible first | exact HB.out | apply below_alloc | apply pw_below_drewN | apply below_drew1) | exact HB.out)))); (case aL => have := LMc22.out; omega); intro v970 w23 ho hb hg hat; rw [← Ny969.out] at ho; have n0_ := Aside0.mk (Kd.R_over' (by (with_reducible repeat (first | apply Kd.R_alloc | apply Kd.R_drewN | apply Kd.R_drew)); exact HO_6.out) (Kd.R_typed (by (with_reducible repeat (first | apply Kd.R_alloc | apply Kd.R_drewN | apply Kd.R_drew)); exact HO_8.out)) (by decide) hg); have n1_ := Aside0.mk (hb); have n2_ := Aside0.mk (ho); clear HO_6; clear HB; clear HO_8; have HO_6 := n0_; have HB := n1_; have HO971 := n2_; clear n0_ n1_ n2_; clear ho hb hg hat))
                  go_roundg k2
                  case measure => have := HJ4.out; have := HK2.out; omega
                  case rel => exact ⟨(y969), (wrap64 (x9_2 + 1)), (by first | rfl | (simp; done) | (simp [*]; done)), H', ⟨by have := HJ4.out; have := HK2.out; omega⟩, ⟨by (with_reducible repeat (first | apply Kd.R_alloc | apply Kd.R_drewN | apply Kd.R_drew)); exact HO_6.out⟩, ⟨by (with_reducible repeat (first | apply Kd.R_alloc | apply Kd.R_drewN | apply Kd.R_drew)); exact HO971.out⟩, ⟨by repeat (first | (with_reducible first | exact HB.out | apply below_alloc | apply pw_below_drewN | apply below_drew1) | exact HB.out)⟩⟩
                · rw [if_neg c22] at H
                  exact absurd H (by simp)
              · rw [if_neg c21] at H
                have c21b0 : decide (x9_2 < (t954.length : Int)) = false := decide_eq_false c21
                clear c21
                simp only [Option.some.injEq, Prod.mk.injEq] at H
                obtain ⟨rfl, rfl, rfl⟩ := H
                go_wp2
                go_ret3
                exact ⟨_, _, by first | rfl | (simp [errW_none, errW_some] <;> rfl) | (simp [*, errW_none, errW_some] <;> rfl), by (with_reducible repeat (first | apply Kd.R_alloc | apply Kd.R_drewN | apply Kd.R_drew)); exact HO_6.out, by (with_reducible repeat (first | apply Kd.R_alloc | apply Kd.R_drewN | apply Kd.R_drew)); exact HO_8.out, by repeat (first | (with_reducible first | exact HB.out | apply below_alloc | apply pw_below_drewN | apply below_drew1) | exact HB.out)⟩
        · rw [if_neg c17] at H
          have c17b0 : (t964 == 0) = false := beq_eq_false_iff_ne.mpr c17
          have c17b1 : (t964 != 0) = true := bne_iff_ne.mpr c17
          by_cases c24 : t964 = 1
          · rw [if_pos c24] at H
            have c24b0 : (t964 == 1) = true := beq_iff_eq.mpr c24
            have c24b1 : (t964 != 1) = false := bne_eq_false_iff_eq.mpr c24
            clear c24
            by_cases c25 : t959.length < 17592186044416
            · rw [if_pos c25] at H
              have LMc25 := Aside0.mk c25
              clear c25
              obtain ⟨y972, hy972⟩ : ∃ y_ : List Int, y_ = (t959 ++ [1]) := ⟨_, rfl⟩
              replace H : (some (t954, t957, y972)) = some (r1, r2, r3) := by first | (rw [hy972]; with_reducible exact H) | (have H2_ := (Option.bind_some _ _).symm.trans H; rw [hy972]; with_reducible exact H2_) | (have H2_ := (Option.bind_some _ _).symm.trans H; with_reducible exact H2_) | with_reducible exact H | (rw [hy972]; exact H) | exact H
              have Ny972 := Aside0.mk hy972
              clear hy972
              simp only [Option.some.injEq, Prod.mk.injEq] at H
              obtain ⟨rfl, rfl, rfl⟩ := H
              go_wp2_with (first | ((with_reducible refine gate_callee (f := 74) rfl ?_); refine goesL_ (some 28) rfl rfl Try.func74 (by kernel_rfl) rfl #[.pointer (some ⟨g953, 0, none⟩), .int .i64 4] rfl (by (try simp only [List.map_toArray, List.map_cons, List.map_nil]); first | done | rfl | (simp only [List.length_drop, List.length_take]; rfl)) ?_; (with_reducible refine (spec_l20Rd_pick.calls kj4 g953 t951 x954001_4 4 t964 t965 w _ ?side1 ?side2 A16.out).mono ?_); (case side1 => repeat (first | (with_reducible first | exact HI953.out | apply IsS86.alloc | apply IsS86.drewN | apply IsS86.drew | apply IsS86.set_1) | exact HI953.out)); (case side2 => repeat (first | (with_reducible first | exact HB.out | apply below_alloc | apply pw_below_drewN | apply below_drew1 | refine below_set ?_ (IsS86.ge HI953.out)) | exact HB.out)); rintro e w26 ⟨rfl, hi, hb, hk⟩; refine ⟨_, rfl, ?_⟩; have n0_ := Aside0.mk (Kd.R_mono (Kd.R_keep (IsS86.apart (show IsS86 w _ g953 t951 x954001_4 from by repeat (first | (with_reducible first | exact HI953.out | apply IsS86.alloc | apply IsS86.drewN | apply IsS86.drew | apply IsS86.set_1) | exact HI953.out)) (by (with_reducible repeat (first | apply Kd.R_alloc | apply Kd.R_drewN | apply Kd.R_drew)); exact HO_6.out) (by decide)) hk (fun _ h => h.2)) (fun _ h => h.1)); have n1_ := Aside0.mk (Kd.R_mono (Kd.R_keep (IsS86.apart (show IsS86 w _ g953 t951 x954001_4 from by repeat (first | (with_reducible first | exact HI953.out | apply IsS86.alloc | apply IsS86.drewN | apply IsS86.drew | apply IsS86.set_1) | exact HI953.out)) (by (with_reducible repeat (first | apply Kd.R_alloc | apply Kd.R_drewN | apply Kd.R_drew)); exact HO_8.out) (by decide)) hk (fun _ h => h.2)) (fun _ h => h.1)); have n2_ := Aside0.mk (hb); have n3_ := Aside0.mk (hi); clear HO_6; clear HO_8; clear HB; clear HI953; have HO_6 := n0_; have HO_8 := n1_; have HB := n2_; have HI953 := n3_; clear n0_ n1_ n2_ n3_; (try clear hb); (try clear hb2); (try clear hk); (try clear hi)) | ((with_reducible refine gate_builtin (b := .append) (xs := #[.tmp 64, .tmp 65]) rfl ?_); (try (refine gate_guard (by rfl) ?_; dsimp only)); at_builtin; refine Kd.R_append (Kd.int .i64) (w0 := w) w.heap.size rfl (.tmp 64) (.tmp 65) 51 3 (.int .i64 0) 8 rfl Try.underlying51 info3 rfl (by decide) (by omega) v960 t959 1 [.int .i64 1] (fun _ => True) (fun _ => False) rfl rfl ?aP (fun _ hk => hk.elim) ?aF ?aO ?aB ?aS ?aL ?_; (case aP => exact rfl); (case aB => exact (by repeat (first | (with_reducible first | exact HB.out | apply below_alloc | apply pw_below_drewN | apply below_drew1 | refine below_set ?_ (IsS86.ge HI953.out)) | exact HB.out))); (case aF => exact (fun _ _ => trivial)); (case aO => exact (by (with_reducible repeat (first | apply Kd.R_alloc | apply Kd.R_drewN | apply Kd.R_drew)); exact HO_8.out)); (case aS => exact (below_size (by repeat (first | (with_reducible first | exact HB.out | apply below_alloc | apply pw_below_drewN | apply below_drew1 | refine below_set ?_ (IsS86.ge HI953.out)) | exact HB.out)))); (case aL => have := LMc25.out; omega); intro v973 w27 ho hb hg hat; rw [← Ny972.out] at ho; have n0_ := Aside0.mk (Kd.R_over' (by (with_reducible repeat (first | apply Kd.R_alloc | apply Kd.R_drewN | apply Kd.R_drew)); exact HO_6.out) (Kd.R_typed (by (with_reducible repeat (first | apply Kd.R_alloc | apply Kd.R_drewN | apply Kd.R_drew)); exact HO_8.out)) (by decide) hg); have n1_ := Aside0.mk (IsS86.grown (by repeat (first | (with_reducible first | exact HI953.out | apply IsS86.alloc | apply IsS86.drewN | apply IsS86.drew | apply IsS86.set_1) | exact HI953.out)) hg (IsS86.own_ne HI953.out HO_8.out (by decide))); have n2_ := Aside0.mk (hb); have n3_ := Aside0.mk (ho); clear HO_6; clear HI953; clear HB; clear HO_8; have HO_6 := n0_; have HI953 := n1_; have HB := n2_; have HO974 := n3_; clear n0_ n1_ n2_ n3_; clear ho hb hg hat))
              go_ret3
              exact ⟨_, _, by first | rfl | (simp [errW_none, errW_some] <;> rfl) | (simp [*, errW_none, errW_some] <;> rfl), by (with_reducible repeat (first | apply Kd.R_alloc | apply Kd.R_drewN | apply Kd.R_drew)); exact HO_6.out, by (with_reducible repeat (first | apply Kd.R_alloc | apply Kd.R_drewN | apply Kd.R_drew)); exact HO974.out, by repeat (first | (with_reducible first | exact HB.out | apply below_alloc | apply pw_below_drewN | apply below_drew1 | refine below_set ?_ (IsS86.ge HI953.out)) | exact HB.out)⟩
            · rw [if_neg c25] at H
              exact absurd H (by simp)
          · rw [if_neg c24] at H
            have c24b0 : (t964 == 1) = false := beq_eq_false_iff_ne.mpr c24
            have c24b1 : (t964 != 1) = true := bne_iff_ne.mpr c24
            by_cases c28 : t964 = 2
            · rw [if_pos c28] at H
              have c28b0 : (t964 == 2) = true := beq_iff_eq.mpr c28
              have c28b1 : (t964 != 2) = false := bne_eq_false_iff_eq.mpr c28
              clear c28
              replace H := Option.bind_eq_some_iff.mp H
              obtain ⟨⟨t975, t976⟩, A290, H⟩ := H
              replace H : ((spec_l20Rd_pick.f kj4 t951 t976 4).bind fun bt977 => (if 0 ≤ t975 then (if t975 < (t959.length : Int) then (some (t954, t957, (t959.set (t975 : Int).toNat bt977.1))) else (none)) else (none))) = some (r1, r2, r3) := H
              have A29 := Aside0.mk A290
              clear A290
              replace H := Option.bind_eq_some_iff.mp H
              obtain ⟨⟨t977, t978⟩, A300, H⟩ := H
              replace H : (if 0 ≤ t975 then (if t975 < (t959.length : Int) then (some (t954, t957, (t959.set (t975 : Int).toNat t977))) else (none)) else (none)) = some (r1, r2, r3) := H
              have A30 := Aside0.mk A300
              clear A300
              by_cases c31 : 0 ≤ t975
              · rw [if_pos c31] at H
                have c31b0 : decide (0 ≤ t975) = true := decide_eq_true c31
                clear c31
                by_cases c32 : t975 < (t959.length : Int)
                · rw [if_pos c32] at H
                  have c32b0 : decide (t975 < (t959.length : Int)) = true := decide_eq_true c32
                  clear c32
                  obtain ⟨y979, hy979⟩ : ∃ y_ : List Int, y_ = (t959.set (t975 : Int).toNat t977) := ⟨_, rfl⟩
                  replace H : (some (t954, t957, y979)) = some (r1, r2, r3) := by first | (rw [hy979]; with_reducible exact H) | (have H2_ := (Option.bind_some _ _).symm.trans H; rw [hy979]; with_reducible exact H2_) | (have H2_ := (Option.bind_some _ _).symm.trans H; with_reducible exact H2_) | with_reducible exact H | (rw [hy979]; exact H) | exact H
                  have Ny979 := Aside0.mk hy979
                  clear hy979
                  simp only [Option.some.injEq, Prod.mk.injEq] at H
                  obtain ⟨rfl, rfl, rfl⟩ := H
                  go_wp2_with (first | ((with_reducible refine gate_callee (f := 74) rfl ?_); refine goesL_ (some 28) rfl rfl Try.func74 (by kernel_rfl) rfl #[.pointer (some ⟨g953, 0, none⟩), .int .i64 4] rfl (by (try simp only [List.map_toArray, List.map_cons, List.map_nil]); first | done | rfl | (simp only [List.length_drop, List.length_take]; rfl)) ?_; (with_reducible refine (spec_l20Rd_pick.calls kj4 g953 t951 x954001_4 4 t964 t965 w _ ?side1 ?side2 A16.out).mono ?_); (case side1 => repeat (first | (with_reducible first | exact HI953.out | apply IsS86.alloc | apply IsS86.drewN | apply IsS86.drew | apply IsS86.set_1) | exact HI953.out)); (case side2 => repeat (first | (with_reducible first | exact HB.out | apply below_alloc | apply pw_below_drewN | apply below_drew1 | refine below_set ?_ (IsS86.ge HI953.out)) | exact HB.out)); rintro e w34 ⟨rfl, hi, hb, hk⟩; refine ⟨_, rfl, ?_⟩; have n0_ := Aside0.mk (Kd.R_mono (Kd.R_keep (IsS86.apart (show IsS86 w _ g953 t951 x954001_4 from by repeat (first | (with_reducible first | exact HI953.out | apply IsS86.alloc | apply IsS86.drewN | apply IsS86.drew | apply IsS86.set_1) | exact HI953.out)) (by (with_reducible repeat (first | apply Kd.R_alloc | apply Kd.R_drewN | apply Kd.R_drew)); exact HO_6.out) (by decide)) hk (fun _ h => h.2)) (fun _ h => h.1)); have n1_ := Aside0.mk (Kd.R_mono (Kd.R_keep (IsS86.apart (show IsS86 w _ g953 t951 x954001_4 from by repeat (first | (with_reducible first | exact HI953.out | apply IsS86.alloc | apply IsS86.drewN | apply IsS86.drew | apply IsS86.set_1) | exact HI953.out)) (by (with_reducible repeat (first | apply Kd.R_alloc | apply Kd.R_drewN | apply Kd.R_drew)); exact HO_8.out) (by decide)) hk (fun _ h => h.2)) (fun _ h => h.1)); have n2_ := Aside0.mk (hb); have n3_ := Aside0.mk (hi); clear HO_6; clear HO_8; clear HB; clear HI953; have HO_6 := n0_; have HO_8 := n1_; have HB := n2_; have HI953 := n3_; clear n0_ n1_ n2_ n3_; (try clear hb); (try clear hb2); (try clear hk); (try clear hi); obtain ⟨Ao35, co35, eo35⟩ := Kd.R_slice HO_8.out; subst eo35) | ((with_reducible refine gate_callee (f := 74) rfl ?_); refine goesL_ (some 73) rfl rfl Try.func74 (by kernel_rfl) rfl #[.pointer (some ⟨g953, 0, none⟩), .int .i64 (t959.length : Int)] rfl (by (try simp only [List.map_toArray, List.map_cons, List.map_nil]); first | done | rfl | (simp only [List.length_drop, List.length_take]; rfl)) ?_; (with_reducible refine (spec_l20Rd_pick.calls kj4 g953 t951 t965 (t959.length : Int) t975 t976 w _ ?side1 ?side2 A29.out).mono ?_); (case side1 => repeat (first | (with_reducible first | exact HI953.out | apply IsS86.alloc | apply IsS86.drewN | apply IsS86.drew | apply IsS86.set_1) | exact HI953.out)); (case side2 => repeat (first | (with_reducible first | exact HB.out | apply below_alloc | apply pw_below_drewN | apply below_drew1 | refine below_set ?_ (IsS86.ge HI953.out)) | exact HB.out)); rintro e w36 ⟨rfl, hi, hb, hk⟩; refine ⟨_, rfl, ?_⟩; have n0_ := Aside0.mk (Kd.R_mono (Kd.R_keep (IsS86.apart (show IsS86 w _ g953 t951 t965 from by repeat (first | (with_reducible first | exact HI953.out | apply IsS86.alloc | apply IsS86.drewN | apply IsS86.drew | apply IsS86.set_1) | exact HI953.out)) (by (with_reducible repeat (first | apply Kd.R_alloc | apply Kd.R_drewN | apply Kd.R_drew)); exact HO_6.out) (by decide)) hk (fun _ h => h.2)) (fun _ h => h.1)); have n1_ := Aside0.mk (Kd.R_mono (Kd.R_keep (IsS86.apart (show IsS86 w _ g953 t951 t965 from by repeat (first | (with_reducible first | exact HI953.out | apply IsS86.alloc | apply IsS86.drewN | apply IsS86.drew | apply IsS86.set_1) | exact HI953.out)) (by (with_reducible repeat (first | apply Kd.R_alloc | apply Kd.R_drewN | apply Kd.R_drew)); exact HO_8.out) (by decide)) hk (fun _ h => h.2)) (fun _ h => h.1)); have n2_ := Aside0.mk (hb); have n3_ := Aside0.mk (hi); clear HO_6; clear HO_8; clear HB; clear HI953; have HO_6 := n0_; have HO_8 := n1_; have HB := n2_; have HI953 := n3_; clear n0_ n1_ n2_ n3_; (try clear hb); (try clear hb2); (try clear hk); (try clear hi)) | ((with_reducible refine gate_callee (f := 74) rfl ?_); refine goesL_ (some 75) rfl rfl Try.func74 (by kernel_rfl) rfl #[.pointer (some ⟨g953, 0, none⟩), .int .i64 4] rfl (by (try simp only [List.map_toArray, List.map_cons, List.map_nil]); first | done | rfl | (simp only [List.length_drop, List.length_take]; rfl)) ?_; (with_reducible refine (spec_l20Rd_pick.calls kj4 g953 t951 t976 4 t977 t978 w _ ?side1 ?side2 A30.out).mono ?_); (case side1 => repeat (first | (with_reducible first | exact HI953.out | apply IsS86.alloc | apply IsS86.drewN | apply IsS86.drew | apply IsS86.set_1) | exact HI953.out)); (case side2 => repeat (first | (with_reducible first | exact HB.out | apply below_alloc | apply pw_below_drewN | apply below_drew1 | refine below_set ?_ (IsS86.ge HI953.out)) | exact HB.out)); rintro e w37 ⟨rfl, hi, hb, hk⟩; refine ⟨_, rfl, ?_⟩; have n0_ := Aside0.mk (Kd.R_mono (Kd.R_keep (IsS86.apart (show IsS86 w _ g953 t951 t976 from by repeat (first | (with_reducible first | exact HI953.out | apply IsS86.alloc | apply IsS86.drewN | apply IsS86.drew | apply IsS86.set_1) | exact HI953.out)) (by (with_reducible repeat (first | apply Kd.R_alloc | apply Kd.R_drewN | apply Kd.R_drew)); exact HO_6.out) (by decide)) hk (fun _ h => h.2)) (fun _ h => h.1)); have n1_ := Aside0.mk (Kd.R_mono (Kd.R_keep (IsS86.apart (show IsS86 w _ g953 t951 t976 from by repeat (first | (with_reducible first | exact HI953.out | apply IsS86.alloc | apply IsS86.drewN | apply IsS86.drew | apply IsS86.set_1) | exact HI953.out)) (by (with_reducible repeat (first | apply Kd.R_alloc | apply Kd.R_drewN | apply Kd.R_drew)); exact HO_8.out) (by decide)) hk (fun _ h => h.2)) (fun _ h => h.1)); have n2_ := Aside0.mk (hb); have n3_ := Aside0.mk (hi); clear HO_6; clear HO_8; clear HB; clear HI953; have HO_6 := n0_; have HO_8 := n1_; have HB := n2_; have HI953 := n3_; clear n0_ n1_ n2_ n3_; (try clear hb); (try clear hb2); (try clear hk); (try clear hi); have p33 : 0 ≤ (t975 : Int) := of_decide_eq_true (by first | (with_reducible assumption) | assumption); have q33 : (t975 : Int) < ((t959.length : Int) : Int) := of_decide_eq_true (by first | (with_reducible assumption) | assumption); obtain ⟨go33, co33, eo33, gb33, gl33, cl33, HG33⟩ := Kd.R_form HO_8.out (by omega); (first | cases eo33 | (injection eo33 with ea_ en_ ec_; (first | subst ea_ | (injection ea_ with ea_; subst ea_)); subst ec_; clear en_)); have GB33 := Aside0.mk gb33; have GG33 := Aside0.mk HG33; clear gb33 gl33 HG33; obtain ⟨hx33_0, hf33_0⟩ := Kd.R_celln 0 HO_8.out (t975 : Int) p33 q33; replace p33 := eq_true p33; replace q33 := eq_true q33; obtain ⟨hy38_, hz38_⟩ := Kd.R_celln 0 HO_8.out (t975 : Int) (of_decide_eq_true (by first | (with_reducible assumption) | assumption)) (of_decide_eq_true (by first | (with_reducible assumption) | assumption)); have HP38 := Kd.R_putg HO_8.out (t975 : Int) t977) | ((with_reducible refine gate_store (t := 3) (p := 76) rfl ?_); refine store_event (t := 3) (p := 76) (v := ?vo_w39) (w1 := (w37.setCell ⟨go33, (t975 : Int).toNat, none⟩ (.int .i64 t977))) ?hg ?ho ?hn ?hr ?_; (case ho => rfl); (case hg => rfl); (case hn => rfl); (case hr => first | (go_simp; done) | (go_simp; rfl)); intro w39 hw; have hg : w37.grownBy w39 (some go33) := (by rw [hw]; exact HP38.2); have hp_ : Kd.R (Kd.int .i64) 3 w39 w.heap.size (fun _ => True) (.slice (some ⟨go33, 0, none⟩) t959.length co35) y979 := (by rw [hw, Ny979.out]; exact HP38.1); clear HP38; have n0_ := Aside0.mk (Kd.R_over' (v := (.slice (some ⟨go33, 0, none⟩) t959.length co35)) (by (with_reducible repeat (first | apply Kd.R_alloc | apply Kd.R_drewN | apply Kd.R_drew)); exact HO_6.out) (Kd.R_typed HO_8.out) (by decide) hg); have n1_ := Aside0.mk (hp_); have n2_ := Aside0.mk (IsS86.grown (by repeat (first | (with_reducible first | exact HI953.out | apply IsS86.alloc | apply IsS86.drewN | apply IsS86.drew | apply IsS86.set_1) | exact HI953.out)) hg (IsS86.own_ne HI953.out HO_8.out (by decide))); have n3_ := Aside0.mk ((by rw [hw]; exact below_set (HB.out) GB33.out : Below w.heap.size w w39)); clear HO_6; clear HO_8; clear HI953; clear HB; have HO_6 := n0_; have HO_8 := n1_; have HI953 := n2_; have HB := n3_; clear n0_ n1_ n2_ n3_; clear hg hw hp_))
                  go_ret3
                  exact ⟨_, _, by first | rfl | (simp [errW_none, errW_some] <;> rfl) | (simp [*, errW_none, errW_some] <;> rfl), by (with_reducible repeat (first | apply Kd.R_alloc | apply Kd.R_drewN | apply Kd.R_drew)); exact HO_6.out, by (with_reducible repeat (first | apply Kd.R_alloc | apply Kd.R_drewN | apply Kd.R_drew)); exact HO_8.out, by repeat (first | (with_reducible first | exact HB.out | apply below_alloc | apply pw_below_drewN | apply below_drew1 | refine below_set ?_ (IsS86.ge HI953.out)) | exact HB.out)⟩
                · rw [if_neg c32] at H
                  exact absurd H (by simp)
              · rw [if_neg c31] at H
                exact absurd H (by simp)
            · rw [if_neg c28] at H
              have c28b0 : (t964 == 2) = false := beq_eq_false_iff_ne.mpr c28
              have c28b1 : (t964 != 2) = true := bne_iff_ne.mpr c28
              by_cases c40 : (t959.length : Int) > 1
              · rw [if_pos c40] at H
                have c40b0 : decide (1 < (t959.length : Int)) = true := decide_eq_true c40
                have c40b1 : decide (1 < t959.length) = true := decide_eq_true (by omega)
                clear c40
                by_cases c41 : 0 < (t959.length : Int)
                · rw [if_pos c41] at H
                  have c41b0 : decide (0 < (t959.length : Int)) = true := decide_eq_true c41
                  have c41b1 : decide (0 < t959.length) = true := decide_eq_true (by omega)
                  clear c41
                  by_cases c42 : (rd t959 0) > 1
                  · rw [if_pos c42] at H
                    have c42b0 : decide (1 < (rd t959 0)) = true := decide_eq_true c42
                    clear c42
                    obtain ⟨y982, hy982⟩ : ∃ y_ : List Int, y_ = (t959.set (0 : Int).toNat (wrap64 ((rd t959 0) - 1))) := ⟨_, rfl⟩
                    replace H : (if 1 < (t959.length : Int) then (some (t954, t957, (y982.set (1 : Int).toNat (wrap64 ((rd y982 1) + 1))))) else (none)) = some (r1, r2, r3) := by first | (rw [hy982]; with_reducible exact H) | (have H2_ := (Option.bind_some _ _).symm.trans H; rw [hy982]; with_reducible exact H2_) | (have H2_ := (Option.bind_some _ _).symm.trans H; with_reducible exact H2_) | with_reducible exact H | (rw [hy982]; exact H) | exact H
                    have Ny982 := Aside0.mk hy982
                    clear hy982
                    by_cases c44 : 1 < (t959.length : Int)
                    · rw [if_pos c44] at H
                      have c44b0 : decide (1 < (t959.length : Int)) = true := decide_eq_true c44
                      have c44b1 : decide (1 < t959.length) = true := decide_eq_true (by omega)
                      clear c44
                      obtain ⟨y984, hy984⟩ : ∃ y_ : List Int, y_ = (y982.set (1 : Int).toNat (wrap64 ((rd y982 1) + 1))) := ⟨_, rfl⟩
                      replace H : (some (t954, t957, y984)) = some (r1, r2, r3) := by first | (rw [hy984]; with_reducible exact H) | (have H2_ := (Option.bind_some _ _).symm.trans H; rw [hy984]; with_reducible exact H2_) | (have H2_ := (Option.bind_some _ _).symm.trans H; with_reducible exact H2_) | with_reducible exact H | (rw [hy984]; exact H) | exact H
                      have Ny984 := Aside0.mk hy984
                      clear hy984
                      simp only [Option.some.injEq, Prod.mk.injEq] at H
                      obtain ⟨rfl, rfl, rfl⟩ := H
                      go_wp2_with (first | ((with_reducible refine gate_callee (f := 74) rfl ?_); refine goesL_ (some 28) rfl rfl Try.func74 (by kernel_rfl) rfl #[.pointer (some ⟨g953, 0, none⟩), .int .i64 4] rfl (by (try simp only [List.map_toArray, List.map_cons, List.map_nil]); first | done | rfl | (simp only [List.length_drop, List.length_take]; rfl)) ?_; (with_reducible refine (spec_l20Rd_pick.calls kj4 g953 t951 x954001_4 4 t964 t965 w _ ?side1 ?side2 A16.out).mono ?_); (case side1 => repeat (first | (with_reducible first | exact HI953.out | apply IsS86.alloc | apply IsS86.drewN | apply IsS86.drew | apply IsS86.set_1) | exact HI953.out)); (case side2 => repeat (first | (with_reducible first | exact HB.out | apply below_alloc | apply pw_below_drewN | apply below_drew1 | refine below_set ?_ (IsS86.ge HI953.out)) | exact HB.out)); rintro e w46 ⟨rfl, hi, hb, hk⟩; refine ⟨_, rfl, ?_⟩; have n0_ := Aside0.mk (Kd.R_mono (Kd.R_keep (IsS86.apart (show IsS86 w _ g953 t951 x954001_4 from by repeat (first | (with_reducible first | exact HI953.out | apply IsS86.alloc | apply IsS86.drewN | apply IsS86.drew | apply IsS86.set_1) | exact HI953.out)) (by (with_reducible repeat (first | apply Kd.R_alloc | apply Kd.R_drewN | apply Kd.R_drew)); exact HO_6.out) (by decide)) hk (fun _ h => h.2)) (fun _ h => h.1)); have n1_ := Aside0.mk (Kd.R_mono (Kd.R_keep (IsS86.apart (show IsS86 w _ g953 t951 x954001_4 from by repeat (first | (with_reducible first | exact HI953.out | apply IsS86.alloc | apply IsS86.drewN | apply IsS86.drew | apply IsS86.set_1) | exact HI953.out)) (by (with_reducible repeat (first | apply Kd.R_alloc | apply Kd.R_drewN | apply Kd.R_drew)); exact HO_8.out) (by decide)) hk (fun _ h => h.2)) (fun _ h => h.1)); have n2_ := Aside0.mk (hb); have n3_ := Aside0.mk (hi); clear HO_6; clear HO_8; clear HB; clear HI953; have HO_6 := n0_; have HO_8 := n1_; have HB := n2_; have HI953 := n3_; clear n0_ n1_ n2_ n3_; (try clear hb); (try clear hb2); (try clear hk); (try clear hi); obtain ⟨Ao47, co47, eo47⟩ := Kd.R_slice HO_8.out; subst eo47; have p980 : 0 ≤ (0 : Int) := (by omega); have q980 : 0 < (t959.length : Int) := of_decide_eq_true (by first | (with_reducible assumption) | assumption); obtain ⟨ad980, e980, hx980_0⟩ := Kd.at_int (Kd.R_reads' HO_8.out).2.2 0 p980 q980; cases e980; have qi980 : (0 < t959.length) = True := eq_true (by omega); (try rw [show ((0 : Int)).toNat = 0 from rfl] at hx980_0); (try rw [Addr.add_zero'] at hx980_0); replace p980 := eq_true p980; replace q980 := eq_true q980; have p981 : 0 ≤ (0 : Int) := (by omega); have q981 : 0 < (t959.length : Int) := of_decide_eq_true (by first | (with_reducible assumption) | assumption); obtain ⟨ad981, e981, hx981_0⟩ := Kd.at_int (Kd.R_reads' HO_8.out).2.2 0 p981 q981; obtain rfl : ad980 = ad981 := (by injection e981); have qi981 : (0 < t959.length) = True := eq_true (by omega); (try rw [show ((0 : Int)).toNat = 0 from rfl] at hx981_0); (try rw [Addr.add_zero'] at hx981_0); replace p981 := eq_true p981; replace q981 := eq_true q981; have p43 : 0 ≤ (0 : Int) := (by omega); have q43 : (0 : Int) < ((t959.length : Int) : Int) := of_decide_eq_true (by first | (with_reducible assumption) | assumption); have qi43 : (0 < t959.length) = True := eq_true (by omega); obtain ⟨go43, co43, eo43, gb43, gl43, cl43, HG43⟩ := Kd.R_form HO_8.out (by omega); (first | cases eo43 | (injection eo43 with ea_ en_ ec_; (first | subst ea_ | (injection ea_ with ea_; subst ea_)); subst ec_; clear en_)); have GB43 := Aside0.mk gb43; have GG43 := Aside0.mk HG43; clear gb43 gl43 HG43; (first | simp only [add_plain] at hx980_0 | skip); (first | simp only [add_plain] at hx981_0 | skip); obtain ⟨hx43_0, hf43_0⟩ := Kd.R_celln 0 HO_8.out (0 : Int) p43 q43; (try rw [show ((0 : Int)).toNat = 0 from rfl] at hx43_0); (try simp only [Nat.reduceMul, Nat.zero_mul, Nat.zero_add, Nat.reduceAdd] at hx43_0); (try rw [show ((0 : Int)).toNat = 0 from rfl] at hf43_0); (try simp only [Nat.reduceMul, Nat.zero_mul, Nat.zero_add, Nat.reduceAdd] at hf43_0); replace p43 := eq_true p43; replace q43 := eq_true q43; obtain ⟨hy48_, hz48_⟩ := Kd.R_celln 0 HO_8.out (0 : Int) (by omega) (of_decide_eq_true (by first | (with_reducible assumption) | assumption)); (try simp only [Int.reduceToNat, Int.toNat_zero, Int.toNat_ofNat, Nat.reduceMul, Nat.zero_mul, Nat.zero_add] at hy48_ hz48_); (try rw [show ((0 : Int)).toNat = 0 from rfl] at hy48_); (try rw [show ((0 : Int)).toNat = 0 from rfl] at hz48_); have HP48 := Kd.R_putg HO_8.out (0 : Int) (wrap64 ((rd t959 0) - 1))) | ((with_reducible refine gate_store (t := 3) (p := 43) rfl ?_); refine store_event (t := 3) (p := 43) (v := ?vo_w49) (w1 := (w46.setCell ⟨go43, (0 : Int).toNat, none⟩ (.int .i64 (wrap64 ((rd t959 0) - 1))))) ?hg ?ho ?hn ?hr ?_; (case ho => rfl); (case hg => rfl); (case hn => rfl); (case hr => first | (go_simp; done) | (go_simp; rfl)); intro w49 hw; have hg : w46.grownBy w49 (some go43) := (by rw [hw]; exact HP48.2); have hp_ : Kd.R (Kd.int .i64) 3 w49 w.heap.size (fun _ => True) (.slice (some ⟨go43, 0, none⟩) t959.length co47) y982 := (by rw [hw, Ny982.out]; exact HP48.1); clear HP48; have n0_ := Aside0.mk (Kd.R_over' (v := (.slice (some ⟨go43, 0, none⟩) t959.length co47)) (by (with_reducible repeat (first | apply Kd.R_alloc | apply Kd.R_drewN | apply Kd.R_drew)); exact HO_6.out) (Kd.R_typed HO_8.out) (by decide) hg); have n1_ := Aside0.mk (hp_); have n2_ := Aside0.mk (IsS86.grown (by repeat (first | (with_reducible first | exact HI953.out | apply IsS86.alloc | apply IsS86.drewN | apply IsS86.drew | apply IsS86.set_1) | exact HI953.out)) hg (IsS86.own_ne HI953.out HO_8.out (by decide))); have n3_ := Aside0.mk ((by rw [hw]; exact below_set (HB.out) GB43.out : Below w.heap.size w w49)); clear HO_6; clear HO_8; clear HI953; clear HB; have HO_6 := n0_; have HO_8 := n1_; have HI953 := n2_; have HB := n3_; clear n0_ n1_ n2_ n3_; clear hg hw hp_; have p983 : 0 ≤ (1 : Int) := (by omega); have q983 : 1 < (y982.length : Int) := (by have h_ : (1 : Int) < ((t959.length : Int) : Int) := of_decide_eq_true (by first | (with_reducible assumption) | assumption); first | (have e_ := (Kd.R_reads' HO_8.out).1; omega) | simpa only [Ny982.out, List.length_set] using h_); have ql983 : ((1 : Int) < ((t959.length : Int) : Int)) = True := eq_true (of_decide_eq_true (by first | (with_reducible assumption) | assumption)); (try have qn983 : (1 < t959.length) = True := eq_true (by have h_ : (1 : Int) < ((t959.length : Int) : Int) := of_decide_eq_true (by first | (with_reducible assumption) | assumption); omega)); obtain ⟨ad983, e983, hx983_0⟩ := Kd.at_int (Kd.R_reads' HO_8.out).2.2 1 p983 q983; obtain rfl : (⟨go43, 0, none⟩ : Addr) = ad983 := (by injection e983); (first | simp only [add_plain] at hx983_0 | simp only [add_at] at hx983_0 | simp only [Addr.add, Nat.zero_add] at hx983_0 | skip); have qi983 : (1 < y982.length) = True := eq_true (by omega); (try rw [show ((1 : Int)).toNat = 1 from rfl] at hx983_0); replace p983 := eq_true p983; replace q983 := eq_true q983; have p45 : 0 ≤ (1 : Int) := (by omega); have q45 : (1 : Int) < ((t959.length : Int) : Int) := of_decide_eq_true (by first | (with_reducible assumption) | assumption); have qi45 : (1 < t959.length) = True := eq_true (by omega); obtain ⟨hx45_0, hf45_0⟩ := Kd.R_celln 0 HO_8.out (1 : Int) p45 q45; (try rw [show ((1 : Int)).toNat = 1 from rfl] at hx45_0); (try simp only [Nat.reduceMul, Nat.zero_mul, Nat.zero_add, Nat.reduceAdd] at hx45_0); (try rw [show ((1 : Int)).toNat = 1 from rfl] at hf45_0); (try simp only [Nat.reduceMul, Nat.zero_mul, Nat.zero_add, Nat.reduceAdd] at hf45_0); replace p45 := eq_true p45; replace q45 := eq_true q45; obtain ⟨hy50_, hz50_⟩ := Kd.R_celln 0 HO_8.out (1 : Int) (by omega) (of_decide_eq_true (by first | (with_reducible assumption) | assumption)); (try simp only [Int.reduceToNat, Int.toNat_zero, Int.toNat_ofNat, Nat.reduceMul, Nat.zero_mul, Nat.zero_add] at hy50_ hz50_); (try rw [show ((1 : Int)).toNat = 1 from rfl] at hy50_); (try rw [show ((1 : Int)).toNat = 1 from rfl] at hz50_); have HP50 := Kd.R_putg HO_8.out (1 : Int) (wrap64 ((rd y982 1) + 1))) | ((with_reducible refine gate_store (t := 3) (p := 49) rfl ?_); refine store_event (t := 3) (p := 49) (v := ?vo_w51) (w1 := (w49.setCell ⟨go43, (1 : Int).toNat, none⟩ (.int .i64 (wrap64 ((rd y982 1) + 1))))) ?hg ?ho ?hn ?hr ?_; (case ho => rfl); (case hg => rfl); (case hn => rfl); (case hr => first | (go_simp; done) | (go_simp; rfl)); intro w51 hw; have hg : w49.grownBy w51 (some go43) := (by rw [hw]; exact HP50.2); have hp_ : Kd.R (Kd.int .i64) 3 w51 w.heap.size (fun _ => True) (.slice (some ⟨go43, 0, none⟩) t959.length co47) y984 := (by rw [hw, Ny984.out]; exact HP50.1); clear HP50; have n0_ := Aside0.mk (Kd.R_over' (v := (.slice (some ⟨go43, 0, none⟩) t959.length co47)) (by (with_reducible repeat (first | apply Kd.R_alloc | apply Kd.R_drewN | apply Kd.R_drew)); exact HO_6.out) (Kd.R_typed HO_8.out) (by decide) hg); have n1_ := Aside0.mk (hp_); have n2_ := Aside0.mk (IsS86.grown (by repeat (first | (with_reducible first | exact HI953.out | apply IsS86.alloc | apply IsS86.drewN | apply IsS86.drew | apply IsS86.set_1) | exact HI953.out)) hg (IsS86.own_ne HI953.out HO_8.out (by decide))); have n3_ := Aside0.mk ((by rw [hw]; exact below_set (HB.out) GB43.out : Below w.heap.size w w51)); clear HO_6; clear HO_8; clear HI953; clear HB; have HO_6 := n0_; have HO_8 := n1_; have HI953 := n2_; have HB := n3_; clear n0_ n1_ n2_ n3_; clear hg hw hp_))
                      go_ret3
                      exact ⟨_, _, by first | rfl | (simp [errW_none, errW_some] <;> rfl) | (simp [*, errW_none, errW_some] <;> rfl), by (with_reducible repeat (first | apply Kd.R_alloc | apply Kd.R_drewN | apply Kd.R_drew)); exact HO_6.out, by (with_reducible repeat (first | apply Kd.R_alloc | apply Kd.R_drewN | apply Kd.R_drew)); exact HO_8.out, by repeat (first | (with_reducible first | exact HB.out | apply below_alloc | apply pw_below_drewN | apply below_drew1 | refine below_set ?_ (IsS86.ge HI953.out)) | exact HB.out)⟩
                    · rw [if_neg c44] at H
                      exact absurd H (by simp)
                  · rw [if_neg c42] at H
                    have c42b0 : decide (1 < (rd t959 0)) = false := decide_eq_false c42
                    clear c42
                    simp only [Option.some.injEq, Prod.mk.injEq] at H
                    obtain ⟨rfl, rfl, rfl⟩ := H
                    go_wp2_with (first | ((with_reducible refine gate_callee (f := 74) rfl ?_); refine goesL_ (some 28) rfl rfl Try.func74 (by kernel_rfl) rfl #[.pointer (some ⟨g953, 0, none⟩), .int .i64 4] rfl (by (try simp only [List.map_toArray, List.map_cons, List.map_nil]); first | done | rfl | (simp only [List.length_drop, List.length_take]; rfl)) ?_; (with_reducible refine (spec_l20Rd_pick.calls kj4 g953 t951 x954001_4 4 t964 t965 w _ ?side1 ?side2 A16.out).mono ?_); (case side1 => repeat (first | (with_reducible first | exact HI953.out | apply IsS86.alloc | apply IsS86.drewN | apply IsS86.drew | apply IsS86.set_1) | exact HI953.out)); (case side2 => repeat (first | (with_reducible first | exact HB.out | apply below_alloc | apply pw_below_drewN | apply below_drew1 | refine below_set ?_ (IsS86.ge HI953.out)) | exact HB.out)); rintro e w52 ⟨rfl, hi, hb, hk⟩; refine ⟨_, rfl, ?_⟩; have n0_ := Aside0.mk (Kd.R_mono (Kd.R_keep (IsS86.apart (show IsS86 w _ g953 t951 x954001_4 from by repeat (first | (with_reducible first | exact HI953.out | apply IsS86.alloc | apply IsS86.drewN | apply IsS86.drew | apply IsS86.set_1) | exact HI953.out)) (by (with_reducible repeat (first | apply Kd.R_alloc | apply Kd.R_drewN | apply Kd.R_drew)); exact HO_6.out) (by decide)) hk (fun _ h => h.2)) (fun _ h => h.1)); have n1_ := Aside0.mk (Kd.R_mono (Kd.R_keep (IsS86.apart (show IsS86 w _ g953 t951 x954001_4 from by repeat (first | (with_reducible first | exact HI953.out | apply IsS86.alloc | apply IsS86.drewN | apply IsS86.drew | apply IsS86.set_1) | exact HI953.out)) (by (with_reducible repeat (first | apply Kd.R_alloc | apply Kd.R_drewN | apply Kd.R_drew)); exact HO_8.out) (by decide)) hk (fun _ h => h.2)) (fun _ h => h.1)); have n2_ := Aside0.mk (hb); have n3_ := Aside0.mk (hi); clear HO_6; clear HO_8; clear HB; clear HI953; have HO_6 := n0_; have HO_8 := n1_; have HB := n2_; have HI953 := n3_; clear n0_ n1_ n2_ n3_; (try clear hb); (try clear hb2); (try clear hk); (try clear hi); obtain ⟨Ao53, co53, eo53⟩ := Kd.R_slice HO_8.out; subst eo53; have p980 : 0 ≤ (0 : Int) := (by omega); have q980 : 0 < (t959.length : Int) := of_decide_eq_true (by first | (with_reducible assumption) | assumption); obtain ⟨ad980, e980, hx980_0⟩ := Kd.at_int (Kd.R_reads' HO_8.out).2.2 0 p980 q980; cases e980; have qi980 : (0 < t959.length) = True := eq_true (by omega); (try rw [show ((0 : Int)).toNat = 0 from rfl] at hx980_0); (try rw [Addr.add_zero'] at hx980_0); replace p980 := eq_true p980; replace q980 := eq_true q980))
                    go_ret3
                    exact ⟨_, _, by first | rfl | (simp [errW_none, errW_some] <;> rfl) | (simp [*, errW_none, errW_some] <;> rfl), by (with_reducible repeat (first | apply Kd.R_alloc | apply Kd.R_drewN | apply Kd.R_drew)); exact HO_6.out, by (with_reducible repeat (first | apply Kd.R_alloc | apply Kd.R_drewN | apply Kd.R_drew)); exact HO_8.out, by repeat (first | (with_reducible first | exact HB.out | apply below_alloc | apply pw_below_drewN | apply below_drew1 | refine below_set ?_ (IsS86.ge HI953.out)) | exact HB.out)⟩
                · rw [if_neg c41] at H
                  exact absurd H (by simp)
              · rw [if_neg c40] at H
                have c40b0 : decide (1 < (t959.length : Int)) = false := decide_eq_false c40
                have c40b1 : decide (1 < t959.length) = false := decide_eq_false (by omega)
                clear c40
                simp only [Option.some.injEq, Prod.mk.injEq] at H
                obtain ⟨rfl, rfl, rfl⟩ := H
                go_wp2_with (first | ((with_reducible refine gate_callee (f := 74) rfl ?_); refine goesL_ (some 28) rfl rfl Try.func74 (by kernel_rfl) rfl #[.pointer (some ⟨g953, 0, none⟩), .int .i64 4] rfl (by (try simp only [List.map_toArray, List.map_cons, List.map_nil]); first | done | rfl | (simp only [List.length_drop, List.length_take]; rfl)) ?_; (with_reducible refine (spec_l20Rd_pick.calls kj4 g953 t951 x954001_4 4 t964 t965 w _ ?side1 ?side2 A16.out).mono ?_); (case side1 => repeat (first | (with_reducible first | exact HI953.out | apply IsS86.alloc | apply IsS86.drewN | apply IsS86.drew | apply IsS86.set_1) | exact HI953.out)); (case side2 => repeat (first | (with_reducible first | exact HB.out | apply below_alloc | apply pw_below_drewN | apply below_drew1 | refine below_set ?_ (IsS86.ge HI953.out)) | exact HB.out)); rintro e w54 ⟨rfl, hi, hb, hk⟩; refine ⟨_, rfl, ?_⟩; have n0_ := Aside0.mk (Kd.R_mono (Kd.R_keep (IsS86.apart (show IsS86 w _ g953 t951 x954001_4 from by repeat (first | (with_reducible first | exact HI953.out | apply IsS86.alloc | apply IsS86.drewN | apply IsS86.drew | apply IsS86.set_1) | exact HI953.out)) (by (with_reducible repeat (first | apply Kd.R_alloc | apply Kd.R_drewN | apply Kd.R_drew)); exact HO_6.out) (by decide)) hk (fun _ h => h.2)) (fun _ h => h.1)); have n1_ := Aside0.mk (Kd.R_mono (Kd.R_keep (IsS86.apart (show IsS86 w _ g953 t951 x954001_4 from by repeat (first | (with_reducible first | exact HI953.out | apply IsS86.alloc | apply IsS86.drewN | apply IsS86.drew | apply IsS86.set_1) | exact HI953.out)) (by (with_reducible repeat (first | apply Kd.R_alloc | apply Kd.R_drewN | apply Kd.R_drew)); exact HO_8.out) (by decide)) hk (fun _ h => h.2)) (fun _ h => h.1)); have n2_ := Aside0.mk (hb); have n3_ := Aside0.mk (hi); clear HO_6; clear HO_8; clear HB; clear HI953; have HO_6 := n0_; have HO_8 := n1_; have HB := n2_; have HI953 := n3_; clear n0_ n1_ n2_ n3_; (try clear hb); (try clear hb2); (try clear hk); (try clear hi); obtain ⟨Ao55, co55, eo55⟩ := Kd.R_slice HO_8.out; subst eo55))
                go_ret3
                exact ⟨_, _, by first | rfl | (simp [errW_none, errW_some] <;> rfl) | (simp [*, errW_none, errW_some] <;> rfl), by (with_reducible repeat (first | apply Kd.R_alloc | apply Kd.R_drewN | apply Kd.R_drew)); exact HO_6.out, by (with_reducible repeat (first | apply Kd.R_alloc | apply Kd.R_drewN | apply Kd.R_drew)); exact HO_8.out, by repeat (first | (with_reducible first | exact HB.out | apply below_alloc | apply pw_below_drewN | apply below_drew1 | refine below_set ?_ (IsS86.ge HI953.out)) | exact HB.out)⟩
      · replace c15 := Bool.eq_false_iff.mpr c15
        subst c15
        have H1 : (some (t954, t957, t959)) = some (r1, r2, r3) := by rw [if_neg (show ¬ (false = true) by decide)] at H; exact H
        clear H
        have H := H1
        clear H1
        simp only [Option.some.injEq, Prod.mk.injEq] at H
        obtain ⟨rfl, rfl, rfl⟩ := H
        go_wp2
        go_ret3
        exact ⟨_, _, by first | rfl | (simp [errW_none, errW_some] <;> rfl) | (simp [*, errW_none, errW_some] <;> rfl), by (with_reducible repeat (first | apply Kd.R_alloc | apply Kd.R_drewN | apply Kd.R_drew)); exact HO_6.out, by (with_reducible repeat (first | apply Kd.R_alloc | apply Kd.R_drewN | apply Kd.R_drew)); exact HO_8.out, by repeat (first | (with_reducible first | exact HB.out | apply below_alloc | apply pw_below_drewN | apply below_drew1 | refine below_set ?_ (IsS86.ge HI953.out)) | exact HB.out)⟩

end Go.Proofs.Ytghkbkbommobaaa.P
