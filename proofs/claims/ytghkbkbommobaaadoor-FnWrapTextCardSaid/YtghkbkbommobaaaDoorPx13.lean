/- The functions of the program that one law uses, as plain Lean functions, and the contracts that tie the machine to them, walked by the machine. No condition. -/
import Derived.Test.YtghkbkbommobaaaDoorPx0
import Derived.Test.YtghkbkbommobaaaDoorPx11
import Derived.Test.YtghkbkbommobaaaDoorPx12
namespace Go.Proofs.YtghkbkbommobaaaDoor.P
open Go.RowKit Go.Proofs.YtghkbkbommobaaaDoor.Copy Go.Proofs.YtghkbkbommobaaaDoor.Strs Go.Proofs.YtghkbkbommobaaaDoor.Lib Go.Proofs.YtghkbkbommobaaaDoorW.PrintWords Go.Proofs.YtghkbkbommobaaaDoorW.PrintLast Go.Proofs.YtghkbkbommobaaaDoorW.PrintMore
attribute [local go_sem] max2_int min2_int max_two min_two max_three min_three max_four min_four   -- for this text's walks alone
set_option linter.unusedVariables false
set_option linter.unusedSimpArgs false

/-! ### spec_DrawWrapText: function 22 -/
def spec_DrawWrapText.l0 : Nat → List ByteArray → Int → ByteArray → Int → List Int → Int → Option (ByteArray × Int)
  | 0, _, _, _, _, _, _ => none
  | k + 1, x5, x6, x7, x8, x318000, x318001 => if x8 < (x5.length : Int) then (if x8 > 0 then ((some (([(⟨#[32]⟩ : ByteArray), (⟨#[32, 32]⟩ : ByteArray)] : List ByteArray) : List ByteArray)).bind fun y323 => ((spec_l20Rd_pick.f k x318000 x318001 4).bind fun bt326 => (if 0 ≤ (wrap64 (Int.tdiv bt326.1 3)) then (if (wrap64 (Int.tdiv bt326.1 3)) < (y323.length : Int) then (if x7.size + (rdOf ByteArray.empty y323 (wrap64 (Int.tdiv bt326.1 3))).size ≤ 9223372036854775807 then (if 0 ≤ x8 then (if (x7 ++ (rdOf ByteArray.empty y323 (wrap64 (Int.tdiv bt326.1 3)))).size + (rdOf ByteArray.empty x5 x8).size ≤ 9223372036854775807 then (spec_DrawWrapText.l0 k x5 x6 ((x7 ++ (rdOf ByteArray.empty y323 (wrap64 (Int.tdiv bt326.1 3)))) ++ (rdOf ByteArray.empty x5 x8)) (wrap64 (x8 + 1)) x318000 bt326.2) else (none)) else (none)) else (none)) else (none)) else (none)))) else (if 0 ≤ x8 then (if x7.size + (rdOf ByteArray.empty x5 x8).size ≤ 9223372036854775807 then (spec_DrawWrapText.l0 k x5 x6 (x7 ++ (rdOf ByteArray.empty x5 x8)) (wrap64 (x8 + 1)) x318000 x318001) else (none)) else (none))) else ((spec_l20Rd_odd.f k x318000 x318001 9).bind fun bt331 => (if bt331.1 = true then ((spec_l20Note.f k x318000 bt331.2 2).bind fun bt333 => ((some (([x6, 0, 1] : List Int) : List Int)).bind fun y335 => ((spec_l20Rd_pick.f k x318000 bt333.2 3).bind fun bt338 => (if 0 ≤ bt338.1 then (if bt338.1 < (y335.length : Int) then (some (bt333.1, rd y335 bt338.1)) else (none)) else (none))))) else (some (x7, x6))))
def spec_DrawWrapText.f (k : Nat) (l0 : List Int) : Option (ByteArray × Int) := (spec_l20Open.f l0).bind fun bt315 => ((spec_l20Wrapped.f k bt315.1 bt315.2 0).bind fun bt318 => (spec_DrawWrapText.l0 k bt318.1 bt318.2.1 (⟨#[]⟩ : ByteArray) 0 bt315.1 bt318.2.2))
theorem spec_DrawWrapText.mono_l : ∀ k, (∀ y0 y1 y2 y3 y4 y5, LeO (spec_DrawWrapText.l0 k y0 y1 y2 y3 y4 y5) (spec_DrawWrapText.l0 (k + 1) y0 y1 y2 y3 y4 y5))
  | 0 => fun _ _ _ _ _ _ r h => by simp [spec_DrawWrapText.l0] at h
  | k + 1 => by
    have ih0 := spec_DrawWrapText.mono_l k
    · intro y0 y1 y2 y3 y4 y5
      unfold spec_DrawWrapText.l0
      repeat' first
      | (with_reducible exact ih0 _ _ _ _ _ _)
      | (with_reducible exact spec_l20Note.mono _ _ _ _)
      | (with_reducible exact spec_l20Rd_odd.mono _ _ _ _)
      | (with_reducible exact spec_l20Rd_pick.mono _ _ _ _)
      | (with_reducible exact spec_l20Wrapped.mono _ _ _ _)
      | (with_reducible exact LeO.refl _)
      | (with_reducible exact LeO.none _)
      | (with_reducible refine LeO.ite ?_ ?_)
      | (with_reducible refine LeO.bind ?_ (fun _ => ?_))
      | exact ih0 _ _ _ _ _ _
      | exact spec_l20Note.mono _ _ _ _
      | exact spec_l20Rd_odd.mono _ _ _ _
      | exact spec_l20Rd_pick.mono _ _ _ _
      | exact spec_l20Wrapped.mono _ _ _ _
      | exact LeO.none _
      | refine LeO.ite ?_ ?_
      | refine LeO.bind ?_ (fun _ => ?_)
theorem spec_DrawWrapText.mono : ∀ a0 k, LeO (spec_DrawWrapText.f k a0) (spec_DrawWrapText.f (k + 1) a0) := by
  intro a0 k
  have ih0 := spec_DrawWrapText.mono_l k
  unfold spec_DrawWrapText.f
  repeat' first
      | (with_reducible exact ih0 _ _ _ _ _ _)
      | (with_reducible exact spec_l20Note.mono _ _ _ _)
      | (with_reducible exact spec_l20Rd_odd.mono _ _ _ _)
      | (with_reducible exact spec_l20Rd_pick.mono _ _ _ _)
      | (with_reducible exact spec_l20Wrapped.mono _ _ _ _)
      | (with_reducible exact LeO.refl _)
      | (with_reducible exact LeO.none _)
      | (with_reducible refine LeO.ite ?_ ?_)
      | (with_reducible refine LeO.bind ?_ (fun _ => ?_))
      | exact ih0 _ _ _ _ _ _
      | exact spec_l20Note.mono _ _ _ _
      | exact spec_l20Rd_odd.mono _ _ _ _
      | exact spec_l20Rd_pick.mono _ _ _ _
      | exact spec_l20Wrapped.mono _ _ _ _
      | exact LeO.none _
      | refine LeO.ite ?_ ?_
      | refine LeO.bind ?_ (fun _ => ?_)
def spec_DrawWrapText.T11 : Bool × List (List Nat × List Nat) := (true, [([], []), ([0], [0]), ([], []), ([2], [2]), ([], []), ([4, 1], [4]), ([3, 5], [3, 5]), ([6], [6]), ([1, 5, 0, 1], [1]), ([7, 8, 0, 1, 2, 3, 4, 5, 6, 7, 8], [7])])
def spec_DrawWrapText.B11 : List Nat := [0, 1, 0, 4, 0, 19, 63, 127, 51, 511]
theorem spec_DrawWrapText.tab11 : rtab .any (opsOf Tryd.f22 11) = spec_DrawWrapText.T11 := by kernel_rfl
theorem spec_DrawWrapText.bits11 : waitsOk spec_DrawWrapText.T11.2 spec_DrawWrapText.B11 = true := by kernel_rfl
set_option maxHeartbeats 8000000 in
set_option maxRecDepth 100000 in
theorem spec_DrawWrapText.calls (k : Nat) (A0 : Option Addr) (c0 : Nat) (l0 : List Int) (r1 : ByteArray) (r2 : Int) (w : World) (hr0 : Kd.C (Kd.int .u8) w A0 l0.length l0) (hc0 : l0.length ≤ c0) (h : spec_DrawWrapText.f k l0 = some (r1, r2)) :
    Calls Tryd.prog 22 #[.slice A0 l0.length c0] w fun e w' => e = .returned (.tuple #[.string r1, .int .i64 r2]) ∧ Below w.heap.size w w' := by
  have HR0 := Aside0.mk hr0
  have HC0 := Aside0.mk hc0
  clear hr0 hc0
  have HB := Aside0.mk (Below.refl w.heap.size w)
  have H : ((spec_l20Open.f l0).bind fun bt315 => ((spec_l20Wrapped.f k bt315.1 bt315.2 0).bind fun bt318 => (spec_DrawWrapText.l0 k bt318.1 bt318.2.1 (⟨#[]⟩ : ByteArray) 0 bt315.1 bt318.2.2))) = some (r1, r2) := h
  clear h
  replace H := Option.bind_eq_some_iff.mp H
  obtain ⟨⟨t315, t316⟩, A20, H⟩ := H
  replace H : ((spec_l20Wrapped.f k t315 t316 0).bind fun bt318 => (spec_DrawWrapText.l0 k bt318.1 bt318.2.1 (⟨#[]⟩ : ByteArray) 0 t315 bt318.2.2)) = some (r1, r2) := H
  have A2 := Aside0.mk A20
  clear A20
  replace H := Option.bind_eq_some_iff.mp H
  obtain ⟨⟨t318, t321, t322⟩, A30, H⟩ := H
  replace H : (spec_DrawWrapText.l0 k t318 t321 (⟨#[]⟩ : ByteArray) 0 t315 t322) = some (r1, r2) := H
  have A3 := Aside0.mk A30
  clear A30
  have H' := Aside0.mk H
  clear H
  go_enter Tryd.func22, Tryd.ntmps22
  go_wp2_with (first | ((with_reducible refine gate_callee (f := 31) rfl ?_); refine goesL_ (some 10) rfl rfl Tryd.func31 (by kernel_rfl) rfl #[.slice A0 l0.length c0] rfl (by (try simp only [List.map_toArray, List.map_cons, List.map_nil]); first | done | rfl | (simp only [List.length_drop, List.length_take]; rfl)) ?_; (with_reducible refine (spec_l20Open.calls _ _ l0 t315 t316 w _ ?side1 ?side2 ?side3 A2.out).mono ?_); (case side1 => repeat (first | (with_reducible first | exact HB.out | apply below_alloc | apply pw_below_drewN | apply below_drew1) | exact HB.out)); (case side2 => exact HR0.out); (case side3 => exact HC0.out); rintro e w4 ⟨g317, rfl, hi, hb, hb2⟩; refine ⟨_, rfl, ?_⟩; have n0_ := Aside0.mk (hb); have n1_ := Aside0.mk (hi); clear HB; have HB := n0_; have HI317 := n1_; clear n0_ n1_; (try clear hb); (try clear hb2); (try clear hk); (try clear hi)) | ((with_reducible refine gate_callee (f := 44) rfl ?_); refine goesL_ (some 13) rfl rfl Tryd.func44 (by kernel_rfl) rfl #[.pointer (some ⟨g317, 0, none⟩), .int .i64 0] rfl (by (try simp only [List.map_toArray, List.map_cons, List.map_nil]); first | done | rfl | (simp only [List.length_drop, List.length_take]; rfl)) ?_; (with_reducible refine (spec_l20Wrapped.calls k g317 t315 t316 0 t318 t321 t322 w _ ?side1 ?side2 A3.out).mono ?_); (case side1 => repeat (first | (with_reducible first | exact HI317.out | apply IsS72.alloc | apply IsS72.drewN | apply IsS72.drew | apply IsS72.set_1) | exact HI317.out)); (case side2 => repeat (first | (with_reducible first | exact HB.out | apply below_alloc | apply pw_below_drewN | apply below_drew1 | refine below_set ?_ (IsS72.ge HI317.out)) | exact HB.out)); rintro e w5 ⟨v319, rfl, ho0, hi, hb, hk⟩; refine ⟨_, rfl, ?_⟩; have n0_ := Aside0.mk (Kd.R_lower ho0 (below_size (by repeat (first | (with_reducible first | exact HB.out | apply below_alloc | apply pw_below_drewN | apply below_drew1 | refine below_set ?_ (IsS72.ge HI317.out)) | exact HB.out)))); have n1_ := Aside0.mk (hb); have n2_ := Aside0.mk (hi); clear HB; clear HI317; have HO320 := n0_; have HB := n1_; have HI317 := n2_; clear n0_ n1_ n2_; (try clear hb); (try clear hb2); (try clear hk); (try clear hi); (try clear ho0)))
  go_loopg [7, 8] k (fun kq v7 v8 w' => ∃ (x7_1 : ByteArray) (x8_1 : Int) (x318001_1 : Int), v7 = .string x7_1 ∧ v8 = .int .i64 x8_1 ∧ Aside0 (spec_DrawWrapText.l0 kq t318 t321 x7_1 x8_1 t315 x318001_1 = some (r1, r2)) ∧ Aside0 (kq ≤ k) ∧ Aside0 (Kd.R Kd.string 9 w' w.heap.size (fun _ => True) v319 t318) ∧ Aside0 (IsS72 w w' g317 t315 x318001_1) ∧ Aside0 (Below w.heap.size w w'))
  case atStart => exact ⟨((⟨#[]⟩ : ByteArray)), (0), (t322), (by first | rfl | (simp; done) | (simp [*]; done)), (by first | rfl | (simp; done) | (simp [*]; done)), H', ⟨Nat.le_refl _⟩, ⟨by (with_reducible repeat (first | apply Kd.R_alloc | apply Kd.R_drewN | apply Kd.R_drew)); exact HO320.out⟩, ⟨by repeat (first | (with_reducible first | exact HI317.out | apply IsS72.alloc | apply IsS72.drewN | apply IsS72.drew | apply IsS72.set_1) | exact HI317.out)⟩, ⟨by repeat (first | (with_reducible first | exact HB.out | apply below_alloc | apply pw_below_drewN | apply below_drew1 | refine below_set ?_ (IsS72.ge HI317.out)) | exact HB.out)⟩⟩
  case round =>
    clear H'
    try clear c2
    try clear p2
    try clear c3
    try clear c4
    obtain ⟨x7_1, x8_1, x318001_1, rfl, rfl, HA, HK1, HO_5, HI317, HB⟩ := hrel
    cases gk with
    | zero => exact absurd HA.out (by simp [spec_DrawWrapText.l0])
    | succ k1 =>
      have H := HA.out
      clear HA
      simp only [spec_DrawWrapText.l0] at H
      by_cases c6 : x8_1 < (t318.length : Int)
      · rw [if_pos c6] at H
        have c6b0 : decide (x8_1 < (t318.length : Int)) = true := decide_eq_true c6
        clear c6
        by_cases c7 : x8_1 > 0
        · rw [if_pos c7] at H
          have c7b0 : decide (0 < x8_1) = true := decide_eq_true c7
          clear c7
          obtain ⟨y323, hy323⟩ : ∃ y_ : List ByteArray, y_ = (([(⟨#[32]⟩ : ByteArray), (⟨#[32, 32]⟩ : ByteArray)] : List ByteArray)) := ⟨_, rfl⟩
          replace H : ((spec_l20Rd_pick.f k1 t315 x318001_1 4).bind fun bt326 => (if 0 ≤ (wrap64 (Int.tdiv bt326.1 3)) then (if (wrap64 (Int.tdiv bt326.1 3)) < (y323.length : Int) then (if x7_1.size + (rdOf ByteArray.empty y323 (wrap64 (Int.tdiv bt326.1 3))).size ≤ 9223372036854775807 then (if 0 ≤ x8_1 then (if (x7_1 ++ (rdOf ByteArray.empty y323 (wrap64 (Int.tdiv bt326.1 3)))).size + (rdOf ByteArray.empty t318 x8_1).size ≤ 9223372036854775807 then (spec_DrawWrapText.l0 k1 t318 t321 ((x7_1 ++ (rdOf ByteArray.empty y323 (wrap64 (Int.tdiv bt326.1 3)))) ++ (rdOf ByteArray.empty t318 x8_1)) (wrap64 (x8_1 + 1)) t315 bt326.2) else (none)) else (none)) else (none)) else (none)) else (none))) = some (r1, r2) := by first | (rw [hy323]; with_reducible exact H) | (have H2_ := (Option.bind_some _ _).symm.trans H; rw [hy323]; with_reducible exact H2_) | (have H2_ := (Option.bind_some _ _).symm.trans H; with_reducible exact H2_) | with_reducible exact H | (rw [hy323]; exact H) | exact H
          have Ny323 := Aside0.mk hy323
          clear hy323
          replace H := Option.bind_eq_some_iff.mp H
          obtain ⟨⟨t326, t327⟩, A80, H⟩ := H
          replace H : (if 0 ≤ (wrap64 (Int.tdiv t326 3)) then (if (wrap64 (Int.tdiv t326 3)) < (y323.length : Int) then (if x7_1.size + (rdOf ByteArray.empty y323 (wrap64 (Int.tdiv t326 3))).size ≤ 9223372036854775807 then (if 0 ≤ x8_1 then (if (x7_1 ++ (rdOf ByteArray.empty y323 (wrap64 (Int.tdiv t326 3)))).size + (rdOf ByteArray.empty t318 x8_1).size ≤ 9223372036854775807 then (spec_DrawWrapText.l0 k1 t318 t321 ((x7_1 ++ (rdOf ByteArray.empty y323 (wrap64 (Int.tdiv t326 3)))) ++ (rdOf ByteArray.empty t318 x8_1)) (wrap64 (x8_1 + 1)) t315 t327) else (none)) else (none)) else (none)) else (none)) else (none)) = some (r1, r2) := H
          have A8 := Aside0.mk A80
          clear A80
          obtain ⟨ji9, hji9⟩ : ∃ j_ : Int, (wrap64 (Int.tdiv t326 3)) = j_ := ⟨_, rfl⟩
          replace H : (if 0 ≤ (ji9) then (if (ji9) < (y323.length : Int) then (if x7_1.size + (rdOf ByteArray.empty y323 (ji9)).size ≤ 9223372036854775807 then (if 0 ≤ x8_1 then (if (x7_1 ++ (rdOf ByteArray.empty y323 (ji9))).size + (rdOf ByteArray.empty t318 x8_1).size ≤ 9223372036854775807 then (spec_DrawWrapText.l0 k1 t318 t321 ((x7_1 ++ (rdOf ByteArray.empty y323 (ji9))) ++ (rdOf ByteArray.empty t318 x8_1)) (wrap64 (x8_1 + 1)) t315 t327) else (none)) else (none)) else (none)) else (none)) else (none)) = some (r1, r2) := by first | (rw [hji9] at H; exact H) | (simp only [hji9] at H ⊢; exact H)
          (try rw [hji9] at A8)
          have hji9w : (IntKind.i64.wrap (Int.tdiv t326 3)) = ji9 := (i64_w _).trans hji9
          by_cases c10 : 0 ≤ (ji9)
          · rw [if_pos c10] at H
            have c10b0 : decide (0 ≤ (ji9)) = true := decide_eq_true c10
            clear c10
            by_cases c11 : (ji9) < (y323.length : Int)
            · rw [if_pos c11] at H
              have c11b0 : decide ((ji9) < (y323.length : Int)) = true := decide_eq_true c11
              clear c11
              by_cases c12 : x7_1.size + (rdOf ByteArray.empty y323 (ji9)).size ≤ 9223372036854775807
              · rw [if_pos c12] at H
                have c12b0 := eq_true c12
                have c12b1 : decide (x7_1.size + (rdOf ByteArray.empty y323 (ji9)).size ≤ 9223372036854775807) = true := decide_eq_true c12
                try have c12b2 : (9223372036854775807 < x7_1.size + (rdOf ByteArray.empty y323 (ji9)).size) = False := eq_false (Nat.not_lt.2 c12)
                by_cases c13 : 0 ≤ x8_1
                · rw [if_pos c13] at H
                  have c13b0 : decide (0 ≤ x8_1) = true := decide_eq_true c13
                  clear c13
                  by_cases c14 : (x7_1 ++ (rdOf ByteArray.empty y323 (ji9))).size + (rdOf ByteArray.empty t318 x8_1).size ≤ 9223372036854775807
                  · rw [if_pos c14] at H
                    have c14b0 := eq_true c14
                    have c14b1 : decide ((x7_1 ++ (rdOf ByteArray.empty y323 (ji9))).size + (rdOf ByteArray.empty t318 x8_1).size ≤ 9223372036854775807) = true := decide_eq_true c14
                    try have c14b2 : (9223372036854775807 < (x7_1 ++ (rdOf ByteArray.empty y323 (ji9))).size + (rdOf ByteArray.empty t318 x8_1).size) = False := eq_false (Nat.not_lt.2 c14)
                    have H' := Aside0.mk H
                    clear H
                    obtain ⟨Ao15, co15, eo15⟩ := Kd.R_slice HO_5.out
                    subst eo15
                    go_wp2_with (first | ((with_reducible refine gate_dst (N := 25) rfl ?_); refine Kd.R_lit Kd.string _ 9 ?hg (N := 25) ?hd (xs := ([(⟨#[32]⟩ : ByteArray), (⟨#[32, 32]⟩ : ByteArray)] : List ByteArray)) (inner := [.string (⟨#[32]⟩ : ByteArray), .string (⟨#[32, 32]⟩ : ByteArray)]) (ok := fun _ => True) (okp := fun _ => True) ?hr ?hp (fun _ hk => hk) trivial (Below.refl _ _) (Nat.le_refl _) (by simp) ?_; (case hd => rfl); (case hg => rfl); (case hr => first | (go_simp; done) | (go_simp; rfl)); (case hp => exact (Reps.one (show Kd.M Kd.string _ _ _ (⟨#[32]⟩ : ByteArray) [.string (⟨#[32]⟩ : ByteArray)] from rfl) (Reps.one (show Kd.M Kd.string _ _ _ (⟨#[32, 32]⟩ : ByteArray) [.string (⟨#[32, 32]⟩ : ByteArray)] from rfl) (Reps.none _ _)))); intro v324 w16 ho17 hb hg_ hnew_; clear hg_ hnew_; (first | rw [← Ny323.out] at ho17 | (simp only [Int.reduceToNat] at ho17; rw [← Ny323.out] at ho17)); have n0_ := Aside0.mk (Kd.R_elder' (by (with_reducible repeat (first | apply Kd.R_alloc | apply Kd.R_drewN | apply Kd.R_drew)); exact HO_5.out) (Kd.R_base ho17) hb); have n1_ := Aside0.mk (Kd.R_lower (Kd.R_new' ho17 (Kd.R_lt (by (with_reducible repeat (first | apply Kd.R_alloc | apply Kd.R_drewN | apply Kd.R_drew)); exact HO_5.out))) (below_size (by repeat (first | (with_reducible first | exact HB.out | apply below_alloc | apply pw_below_drewN | apply below_drew1 | refine below_set ?_ (IsS72.ge HI317.out)) | exact HB.out)))); have n2_ := Aside0.mk (IsS72.below (by repeat (first | (with_reducible first | exact HI317.out | apply IsS72.alloc | apply IsS72.drewN | apply IsS72.drew | apply IsS72.set_1) | exact HI317.out)) hb); have n3_ := Aside0.mk (below_step (by repeat (first | (with_reducible first | exact HB.out | apply below_alloc | apply pw_below_drewN | apply below_drew1 | refine below_set ?_ (IsS72.ge HI317.out)) | exact HB.out)) hb); clear HO_5; clear HI317; clear HB; have HO_5 := n0_; have HO325 := n1_; have HI317 := n2_; have HB := n3_; clear n0_ n1_ n2_ n3_; clear hb ho17) | ((with_reducible refine gate_callee (f := 32) rfl ?_); refine goesL_ (some 27) rfl rfl Tryd.func32 (by kernel_rfl) rfl #[.pointer (some ⟨g317, 0, none⟩), .int .i64 4] rfl (by (try simp only [List.map_toArray, List.map_cons, List.map_nil]); first | done | rfl | (simp only [List.length_drop, List.length_take]; rfl)) ?_; (with_reducible refine (spec_l20Rd_pick.calls k1 g317 t315 x318001_1 4 t326 t327 w _ ?side1 ?side2 A8.out).mono ?_); (case side1 => repeat (first | (with_reducible first | exact HI317.out | apply IsS72.alloc | apply IsS72.drewN | apply IsS72.drew | apply IsS72.set_1) | exact HI317.out)); (case side2 => repeat (first | (with_reducible first | exact HB.out | apply below_alloc | apply pw_below_drewN | apply below_drew1 | refine below_set ?_ (IsS72.ge HI317.out)) | exact HB.out)); rintro e w18 ⟨rfl, hi, hb, hk⟩; refine ⟨_, rfl, ?_⟩; have n0_ := Aside0.mk (Kd.R_mono (Kd.R_keep (IsS72.apart (show IsS72 w _ g317 t315 x318001_1 from by repeat (first | (with_reducible first | exact HI317.out | apply IsS72.alloc | apply IsS72.drewN | apply IsS72.drew | apply IsS72.set_1) | exact HI317.out)) (by (with_reducible repeat (first | apply Kd.R_alloc | apply Kd.R_drewN | apply Kd.R_drew)); exact HO_5.out) (by decide)) hk (fun _ h => h.2)) (fun _ h => h.1)); have n1_ := Aside0.mk (Kd.R_mono (Kd.R_keep (IsS72.apart (show IsS72 w _ g317 t315 x318001_1 from by repeat (first | (with_reducible first | exact HI317.out | apply IsS72.alloc | apply IsS72.drewN | apply IsS72.drew | apply IsS72.set_1) | exact HI317.out)) (by (with_reducible repeat (first | apply Kd.R_alloc | apply Kd.R_drewN | apply Kd.R_drew)); exact HO325.out) (by decide)) hk (fun _ h => h.2)) (fun _ h => h.1)); have n2_ := Aside0.mk (hb); have n3_ := Aside0.mk (hi); clear HO_5; clear HO325; clear HB; clear HI317; have HO_5 := n0_; have HO325 := n1_; have HB := n2_; have HI317 := n3_; clear n0_ n1_ n2_ n3_; (try clear hb); (try clear hb2); (try clear hk); (try clear hi); obtain ⟨Ao19, co19, eo19⟩ := Kd.R_slice HO325.out; subst eo19; have p328 : 0 ≤ ((ji9) : Int) := of_decide_eq_true (by first | (with_reducible assumption) | assumption); have q328 : (ji9) < (y323.length : Int) := of_decide_eq_true (by first | (with_reducible assumption) | assumption); obtain ⟨ad328, e328, hx328_0⟩ := Kd.at_string (Kd.R_reads' HO325.out).2.2 (ji9) p328 q328; cases e328; replace p328 := eq_true p328; replace q328 := eq_true q328; have p329 : 0 ≤ (x8_1 : Int) := of_decide_eq_true (by first | (with_reducible assumption) | assumption); have q329 : x8_1 < (t318.length : Int) := of_decide_eq_true (by first | (with_reducible assumption) | assumption); obtain ⟨ad329, e329, hx329_0⟩ := Kd.at_string (Kd.R_reads' HO_5.out).2.2 x8_1 p329 q329; cases e329; replace p329 := eq_true p329; replace q329 := eq_true q329))
                    go_roundg k1
                    case measure => have := HK1.out; omega
                    case rel => exact ⟨((x7_1 ++ (rdOf ByteArray.empty y323 (ji9))) ++ (rdOf ByteArray.empty t318 x8_1)), (wrap64 (x8_1 + 1)), (t327), (by first | rfl | (simp; done) | (simp only [← hji9] <;> (first | rfl | simp)) | (simp [*]; done)), (by first | rfl | (simp; done) | (simp [*]; done)), H', ⟨by have := HK1.out; omega⟩, ⟨by (with_reducible repeat (first | apply Kd.R_alloc | apply Kd.R_drewN | apply Kd.R_drew)); exact Kd.R_mono HO_5.out (fun _ hk => trivial)⟩, ⟨by repeat (first | (with_reducible first | exact HI317.out | apply IsS72.alloc | apply IsS72.drewN | apply IsS72.drew | apply IsS72.set_1) | exact HI317.out)⟩, ⟨by repeat (first | (with_reducible first | exact HB.out | apply below_alloc | apply pw_below_drewN | apply below_drew1 | refine below_set ?_ (IsS72.ge HI317.out)) | exact HB.out)⟩⟩
                  · rw [if_neg c14] at H
                    exact absurd H (by simp)
                · rw [if_neg c13] at H
                  exact absurd H (by simp)
              · rw [if_neg c12] at H
                exact absurd H (by simp)
            · rw [if_neg c11] at H
              exact absurd H (by simp)
          · rw [if_neg c10] at H
            exact absurd H (by simp)
        · rw [if_neg c7] at H
          have c7b0 : decide (0 < x8_1) = false := decide_eq_false c7
          clear c7
          by_cases c20 : 0 ≤ x8_1
          · rw [if_pos c20] at H
            have c20b0 : decide (0 ≤ x8_1) = true := decide_eq_true c20
            clear c20
            by_cases c21 : x7_1.size + (rdOf ByteArray.empty t318 x8_1).size ≤ 9223372036854775807
            · rw [if_pos c21] at H
              have c21b0 := eq_true c21
              have c21b1 : decide (x7_1.size + (rdOf ByteArray.empty t318 x8_1).size ≤ 9223372036854775807) = true := decide_eq_true c21
              try have c21b2 : (9223372036854775807 < x7_1.size + (rdOf ByteArray.empty t318 x8_1).size) = False := eq_false (Nat.not_lt.2 c21)
              have H' := Aside0.mk H
              clear H
              obtain ⟨Ao22, co22, eo22⟩ := Kd.R_slice HO_5.out
              subst eo22
              have p330 : 0 ≤ (x8_1 : Int) := of_decide_eq_true (by first | (with_reducible assumption) | assumption)
              have q330 : x8_1 < (t318.length : Int) := of_decide_eq_true (by first | (with_reducible assumption) | assumption)
              obtain ⟨ad330, e330, hx330_0⟩ := Kd.at_string (Kd.R_reads' HO_5.out).2.2 x8_1 p330 q330
              cases e330
              replace p330 := eq_true p330
              replace q330 := eq_true q330
              go_wp2
              go_roundg k1
              case measure => have := HK1.out; omega
              case rel => exact ⟨(x7_1 ++ (rdOf ByteArray.empty t318 x8_1)), (wrap64 (x8_1 + 1)), (x318001_1), (by first | rfl | (simp; done) | (simp [*]; done)), (by first | rfl | (simp; done) | (simp [*]; done)), H', ⟨by have := HK1.out; omega⟩, ⟨by (with_reducible repeat (first | apply Kd.R_alloc | apply Kd.R_drewN | apply Kd.R_drew)); exact HO_5.out⟩, ⟨by repeat (first | (with_reducible first | exact HI317.out | apply IsS72.alloc | apply IsS72.drewN | apply IsS72.drew | apply IsS72.set_1) | exact HI317.out)⟩, ⟨by repeat (first | (with_reducible first | exact HB.out | apply below_alloc | apply pw_below_drewN | apply below_drew1 | refine below_set ?_ (IsS72.ge HI317.out)) | exact HB.out)⟩⟩
            · rw [if_neg c21] at H
              exact absurd H (by simp)
          · rw [if_neg c20] at H
            exact absurd H (by simp)
      · rw [if_neg c6] at H
        have c6b0 : decide (x8_1 < (t318.length : Int)) = false := decide_eq_false c6
        clear c6
        replace H := Option.bind_eq_some_iff.mp H
        obtain ⟨⟨t331, t332⟩, A230, H⟩ := H
        replace H : (if t331 = true then ((spec_l20Note.f k1 t315 t332 2).bind fun bt333 => ((some (([t321, 0, 1] : List Int) : List Int)).bind fun y335 => ((spec_l20Rd_pick.f k1 t315 bt333.2 3).bind fun bt338 => (if 0 ≤ bt338.1 then (if bt338.1 < (y335.length : Int) then (some (bt333.1, rd y335 bt338.1)) else (none)) else (none))))) else (some (x7_1, t321))) = some (r1, r2) := H
        have A23 := Aside0.mk A230
        clear A230
        by_cases c24 : t331 = true
        · subst c24
          have H1 : ((spec_l20Note.f k1 t315 t332 2).bind fun bt333 => ((some (([t321, 0, 1] : List Int) : List Int)).bind fun y335 => ((spec_l20Rd_pick.f k1 t315 bt333.2 3).bind fun bt338 => (if 0 ≤ bt338.1 then (if bt338.1 < (y335.length : Int) then (some (bt333.1, rd y335 bt338.1)) else (none)) else (none))))) = some (r1, r2) := by rw [if_pos rfl] at H; exact H
          clear H
          have H := H1
          clear H1
          replace H := Option.bind_eq_some_iff.mp H
          obtain ⟨⟨t333, t334⟩, A250, H⟩ := H
          replace H : ((some (([t321, 0, 1] : List Int) : List Int)).bind fun y335 => ((spec_l20Rd_pick.f k1 t315 t334 3).bind fun bt338 => (if 0 ≤ bt338.1 then (if bt338.1 < (y335.length : Int) then (some (t333, rd y335 bt338.1)) else (none)) else (none)))) = some (r1, r2) := H
          have A25 := Aside0.mk A250
          clear A250
          obtain ⟨y335, hy335⟩ : ∃ y_ : List Int, y_ = (([t321, 0, 1] : List Int)) := ⟨_, rfl⟩
          replace H : ((spec_l20Rd_pick.f k1 t315 t334 3).bind fun bt338 => (if 0 ≤ bt338.1 then (if bt338.1 < (y335.length : Int) then (some (t333, rd y335 bt338.1)) else (none)) else (none))) = some (r1, r2) := by first | (rw [hy335]; with_reducible exact H) | (have H2_ := (Option.bind_some _ _).symm.trans H; rw [hy335]; with_reducible exact H2_) | (have H2_ := (Option.bind_some _ _).symm.trans H; with_reducible exact H2_) | with_reducible exact H | (rw [hy335]; exact H) | exact H
          have Ny335 := Aside0.mk hy335
          clear hy335
          replace H := Option.bind_eq_some_iff.mp H
          obtain ⟨⟨t338, t339⟩, A260, H⟩ := H
          replace H : (if 0 ≤ t338 then (if t338 < (y335.length : Int) then (some (t333, rd y335 t338)) else (none)) else (none)) = some (r1, r2) := H
          have A26 := Aside0.mk A260
          clear A260
          by_cases c27 : 0 ≤ t338
          · rw [if_pos c27] at H
            have c27b0 : decide (0 ≤ t338) = true := decide_eq_true c27
            clear c27
            by_cases c28 : t338 < (y335.length : Int)
            · rw [if_pos c28] at H
              have c28b0 : decide (t338 < (y335.length : Int)) = true := decide_eq_true c28
              clear c28
              simp only [Option.some.injEq, Prod.mk.injEq] at H
              obtain ⟨rfl, rfl⟩ := H
              obtain ⟨Ao29, co29, eo29⟩ := Kd.R_slice HO_5.out
              subst eo29
              try go_wp2_with (first | ((with_reducible refine gate_callee (f := 33) rfl ?_); refine goesL_ (some 39) rfl rfl Tryd.func33 (by kernel_rfl) rfl #[.pointer (some ⟨g317, 0, none⟩), .int .i64 9] rfl (by (try simp only [List.map_toArray, List.map_cons, List.map_nil]); first | done | rfl | (simp only [List.length_drop, List.length_take]; rfl)) ?_; (with_reducible refine (spec_l20Rd_odd.calls k1 g317 t315 x318001_1 9 true t332 w _ ?side1 ?side2 A23.out).mono ?_); (case side1 => repeat (first | (with_reducible first | exact HI317.out | apply IsS72.alloc | apply IsS72.drewN | apply IsS72.drew | apply IsS72.set_1) | exact HI317.out)); (case side2 => repeat (first | (with_reducible first | exact HB.out | apply below_alloc | apply pw_below_drewN | apply below_drew1 | refine below_set ?_ (IsS72.ge HI317.out)) | exact HB.out)); rintro e w30 ⟨rfl, hi, hb, hk⟩; refine ⟨_, rfl, ?_⟩; have n0_ := Aside0.mk (Kd.R_mono (Kd.R_keep (IsS72.apart (show IsS72 w _ g317 t315 x318001_1 from by repeat (first | (with_reducible first | exact HI317.out | apply IsS72.alloc | apply IsS72.drewN | apply IsS72.drew | apply IsS72.set_1) | exact HI317.out)) (by (with_reducible repeat (first | apply Kd.R_alloc | apply Kd.R_drewN | apply Kd.R_drew)); exact HO_5.out) (by decide)) hk (fun _ h => h.2)) (fun _ h => h.1)); have n1_ := Aside0.mk (hb); have n2_ := Aside0.mk (hi); clear HO_5; clear HB; clear HI317; have HO_5 := n0_; have HB := n1_; have HI317 := n2_; clear n0_ n1_ n2_; (try clear hb); (try clear hb2); (try clear hk); (try clear hi)))
              have pi340 : (0 ≤ (t338 : Int)) = True := eq_true (of_decide_eq_true (by first | (with_reducible assumption) | assumption))
              have qi340 : (t338 < (y335.length : Int)) = True := eq_true (of_decide_eq_true (by first | (with_reducible assumption) | assumption))
              have n0_ := Aside0.mk (Kd.R_drew HO_5.out)
              have n1_ := Aside0.mk (IsS72.drew HI317.out)
              have n2_ := Aside0.mk (below_drew1 HB.out)
              clear HO_5
              clear HI317
              clear HB
              have HO_5 := n0_
              have HI317 := n1_
              have HB := n2_
              clear n0_ n1_ n2_
              refine start_ (n := 10) (S := fun w' => True) (ds := []) #[false, false, false, false, false, false, false, false, false, false] (by kernel_rfl) rfl rfl trivial (fun hHeld => ?_); refine with_tabW spec_DrawWrapText.tab11 spec_DrawWrapText.bits11 (fun HT_ HW_ => ?_)
              generalize w30.drew = w31 at HO_5 HI317 HB hHeld ⊢
              refine pure_ (i := 0) (N := some 40) (v := ?_) (a' := ?_) #[true, false, false, false, false, false, false, false, false, false] rfl rfl (any_of HT_.out (by kernel_rfl)) (fun _ _ _ h => h) (Or.inl ⟨by rfl, ?_⟩) ?_ ?_
              rotate_left
              · intro w'
                go_simp
                with_reducible rfl
              rotate_left
              · simp only [Act.put, List.setIfInBounds_toArray, List.set_cons_zero, List.set_cons_succ, i64_w, i32_w]
                rfl
              refine pure_ (i := 2) (N := some 42) (v := ?_) (a' := ?_) #[true, false, true, false, false, false, false, false, false, false] rfl rfl (any_of HT_.out (by kernel_rfl)) (fun _ _ _ h => h) (Or.inl ⟨by rfl, ?_⟩) ?_ ?_
              rotate_left
              · intro w'
                go_simp
                with_reducible rfl
              rotate_left
              · simp only [Act.put, List.setIfInBounds_toArray, List.set_cons_zero, List.set_cons_succ, i64_w, i32_w]
                rfl
              refine pure_ (i := 4) (N := some 44) (v := ?_) (a' := ?_) #[true, false, true, false, true, false, false, false, false, false] rfl rfl (any_of HT_.out (by kernel_rfl)) (fun _ _ _ h => h) (Or.inl ⟨by rfl, ?_⟩) ?_ ?_
              rotate_left
              · intro w'
                go_simp
                with_reducible rfl
              rotate_left
              · simp only [Act.put, List.setIfInBounds_toArray, List.set_cons_zero, List.set_cons_succ, i64_w, i32_w]
                rfl
              refine inv_at [1, 3, 5, 6, 7, 8, 9] (fun a0_ b a w' => ∃ (v336 : Value) (adz_v336 : Addr) (m6_ : Value), a = putSel a0_ b [(1, 41, .string t333), (3, 43, v336), (5, 45, .int .i64 t338), (6, 46, m6_), (7, 47, .int .i64 (rd y335 t338)), (8, 2, .string t333), (9, 3, .int .i64 (rd y335 t338))] ∧ (Kd.R Kd.string 9 w' w.heap.size (fun _ => True) (.slice Ao29 t318.length co29) t318) ∧ (b 1 = false → IsS72 w w' g317 t315 t332) ∧ (Below w.heap.size w w') ∧ (b 1 = true → b 5 = false → IsS72 w w' g317 t315 t334) ∧ (b 3 = true → Kd.R (Kd.int .i64) 3 w' w.heap.size (fun _ => True) v336 y335) ∧ (b 3 = true → ∃ c_, (v336 : Value) = .slice (some adz_v336) y335.length c_) ∧ (b 5 = true → IsS72 w w' g317 t315 t339) ∧ (b 6 = true → (m6_ : Value) = .pointer (some (adz_v336.add (t338).toNat)))) HT_.out HW_.out (by kernel_rfl) (by kernel_rfl) ?_ ?_ ?_
              · exact ⟨.bool false, ⟨0, 0, none⟩, .bool false, by simp only [putSel, Bool.false_eq_true, if_false], HO_5.out, fun _ => HI317.out, HB.out, fun h_ => absurd h_ (by decide), fun h_ => absurd h_ (by decide), fun h_ => absurd h_ (by decide), fun h_ => absurd h_ (by decide), fun h_ => absurd h_ (by decide)⟩
              · skip
                clear HB HI317 HO_5
                refine steps_cons ?_ ?_
                · rintro b a w' ⟨v336, adz_v336, m6_, ha, Q_HO_5, Q_HI317, Q_HB, Q_HI317_e1, Q_HO337, Q_HA_HO337, Q_HI317_e5, Q_X6_⟩ hb_ hon hoff
                  refine ⟨_, rfl, fun K hK => ?_⟩
                  have e40 : a.tmps[40]? = some (.pointer (some ⟨g317, 0, none⟩)) := by rw [ha]; exact (putSel_off rfl).trans rfl
                  replace ha := Aside0.mk ha
                  have HO_5 := Aside0.mk Q_HO_5
                  have HI317 := Aside0.mk (Q_HI317 hb_)
                  have HB := Aside0.mk Q_HB
                  refine goes_ Tryd.func45 (by kernel_rfl) rfl #[.pointer (some ⟨g317, 0, none⟩), .int .i64 2] (by rfl) rfl rfl (by first | (simp only [List.map_toArray, List.map_cons, List.map_nil, Act.eval, Array.getD_eq_getD_getElem?, Option.getD_some, e40]; done) | (simp only [List.map_toArray, List.map_cons, List.map_nil, Act.eval, Array.getD_eq_getD_getElem?, Option.getD_some, e40]; rfl)) ?_
                  with_reducible refine (spec_l20Note.calls k1 g317 t315 t332 2 t333 t334 w _ ?side1 ?side2 A25.out).mono ?_
                  (case side1 => repeat (first | (with_reducible first | exact HI317.out | apply IsS72.alloc | apply IsS72.drewN | apply IsS72.drew | apply IsS72.set_1) | exact HI317.out))
                  (case side2 => repeat (first | (with_reducible first | exact HB.out | apply below_alloc | apply pw_below_drewN | apply below_drew1 | refine below_set ?_ (IsS72.ge HI317.out)) | exact HB.out))
                  rintro e w32 ⟨rfl, hi, hb, hk⟩
                  refine ⟨_, rfl, ?_⟩
                  have n0_ := Aside0.mk (Kd.R_mono (Kd.R_keep (IsS72.apart (show IsS72 w _ g317 t315 t332 from by repeat (first | (with_reducible first | exact HI317.out | apply IsS72.alloc | apply IsS72.drewN | apply IsS72.drew | apply IsS72.set_1) | exact HI317.out)) (by (with_reducible repeat (first | apply Kd.R_alloc | apply Kd.R_drewN | apply Kd.R_drew)); exact HO_5.out) (by decide)) hk (fun _ h => h.2)) (fun _ h => h.1))
                  have n1_ := Aside0.mk (hb)
                  have n2_ := Aside0.mk (hi)
                  have z_HO337 := fun (h0_ : b 3 = true) => (show Kd.R (Kd.int .i64) 3 w32 w.heap.size (fun _ => True) v336 y335 from by first | exact (Kd.R_mono (Kd.R_keep (IsS72.apart (show IsS72 w _ g317 t315 t332 from by repeat (first | (with_reducible first | exact HI317.out | apply IsS72.alloc | apply IsS72.drewN | apply IsS72.drew | apply IsS72.set_1) | exact HI317.out)) (by (with_reducible repeat (first | apply Kd.R_alloc | apply Kd.R_drewN | apply Kd.R_drew)); exact (Q_HO337 h0_)) (by decide)) hk (fun _ h => h.2)) (fun _ h => h.1)) | exact Kd.R_mono (Kd.R_mono (Kd.R_keep (IsS72.apart (show IsS72 w _ g317 t315 t332 from by repeat (first | (with_reducible first | exact HI317.out | apply IsS72.alloc | apply IsS72.drewN | apply IsS72.drew | apply IsS72.set_1) | exact HI317.out)) (by (with_reducible repeat (first | apply Kd.R_alloc | apply Kd.R_drewN | apply Kd.R_drew)); exact (Q_HO337 h0_)) (by decide)) hk (fun _ h => h.2)) (fun _ h => h.1)) (fun _ h_ => by first | trivial | exact h_ | exact h_.1))
                  clear HO_5
                  clear HB
                  clear HI317
                  have HO_5 := n0_
                  have HB := n1_
                  have HI317 := n2_
                  clear n0_ n1_ n2_
                  (try clear hb)
                  (try clear hb2)
                  (try clear hk)
                  (try clear hi)
                  refine hK.out _ _ ⟨v336, adz_v336, m6_, (by rw [ha.out]; exact putSel_upk 0 hb_ rfl rfl rfl), (by (with_reducible repeat (first | apply Kd.R_alloc | apply Kd.R_drewN | apply Kd.R_drew)); exact HO_5.out), fun h0_ => absurd ((up_self b 1).symm.trans h0_) (by decide), (by repeat (first | (with_reducible first | exact HB.out | apply below_alloc | apply pw_below_drewN | apply below_drew1 | refine below_set ?_ (IsS72.ge HI317.out)) | exact HB.out)), fun _ _ => (by repeat (first | (with_reducible first | exact HI317.out | apply IsS72.alloc | apply IsS72.drewN | apply IsS72.drew | apply IsS72.set_1) | exact HI317.out)), z_HO337, Q_HA_HO337, fun h0_ => absurd ((hoff 5 (by kernel_rfl)).symm.trans h0_) (by decide), fun h0_ => absurd ((hoff 6 (by kernel_rfl)).symm.trans h0_) (by decide)⟩
                refine steps_cons ?_ ?_
                · rintro b a w' ⟨v336, adz_v336, m6_, ha, Q_HO_5, Q_HI317, Q_HB, Q_HI317_e1, Q_HO337, Q_HA_HO337, Q_HI317_e5, Q_X6_⟩ hb_ hon hoff
                  refine ⟨_, rfl, fun K hK => ?_⟩
                  have e42 : a.tmps[42]? = some (.int .i64 t321) := by rw [ha]; exact (putSel_off rfl).trans rfl
                  replace ha := Aside0.mk ha
                  have HO_5 := Aside0.mk Q_HO_5
                  have HB := Aside0.mk Q_HB
                  refine Kd.R_lit_step (Kd.int .i64) _ 3 ?hg (N := 43) ?hd (xs := ([t321, 0, 1] : List Int)) (inner := [.int .i64 t321, .int .i64 0, .int .i64 1]) (ok := fun _ => True) (okp := fun _ => True) ?hr ?hp (fun _ hk => hk) trivial (Below.refl _ _) (Nat.le_refl _) (by simp) ?_; (case hd => rfl); (case hg => rfl); (case hr => first | (go_simp; done) | (go_simp; rfl)); (case hp => exact (Reps.one (show Kd.M (Kd.int .i64) _ _ _ t321 [.int .i64 t321] from rfl) (Reps.one (show Kd.M (Kd.int .i64) _ _ _ 0 [.int .i64 0] from rfl) (Reps.one (show Kd.M (Kd.int .i64) _ _ _ 1 [.int .i64 1] from rfl) (Reps.none _ _)))))
                  intro v336 w32 ho33 hb hg_ hnew_
                  clear hg_ hnew_
                  (first | rw [← Ny335.out] at ho33 | (simp only [Int.reduceToNat] at ho33; rw [← Ny335.out] at ho33))
                  have n0_ := Aside0.mk (Kd.R_below (by (with_reducible repeat (first | apply Kd.R_alloc | apply Kd.R_drewN | apply Kd.R_drew)); exact HO_5.out) hb)
                  have n1_ := Aside0.mk (Kd.R_lower ho33 (below_size (by repeat (first | (with_reducible first | exact HB.out | apply below_alloc | apply pw_below_drewN | apply below_drew1) | exact HB.out))))
                  have n3_ := Aside0.mk (below_step (by repeat (first | (with_reducible first | exact HB.out | apply below_alloc | apply pw_below_drewN | apply below_drew1) | exact HB.out)) hb)
                  have z_HI317 := fun (h0_ : b 1 = false) => (show IsS72 w w32 g317 t315 t332 from by first | exact (IsS72.below (by repeat (first | (with_reducible first | exact (Q_HI317 h0_) | apply IsS72.alloc | apply IsS72.drewN | apply IsS72.drew | apply IsS72.set_1) | exact (Q_HI317 h0_))) hb))
                  have z_HI317_e1 := fun (h0_ : b 1 = true) (h1_ : b 5 = false) => (show IsS72 w w32 g317 t315 t334 from by first | exact (IsS72.below (by repeat (first | (with_reducible first | exact (Q_HI317_e1 h0_ h1_) | apply IsS72.alloc | apply IsS72.drewN | apply IsS72.drew | apply IsS72.set_1) | exact (Q_HI317_e1 h0_ h1_))) hb))
                  have z_HI317_e5 := fun (h0_ : b 5 = true) => (show IsS72 w w32 g317 t315 t339 from by first | exact (IsS72.below (by repeat (first | (with_reducible first | exact (Q_HI317_e5 h0_) | apply IsS72.alloc | apply IsS72.drewN | apply IsS72.drew | apply IsS72.set_1) | exact (Q_HI317_e5 h0_))) hb))
                  clear HO_5
                  clear HB
                  have HO_5 := n0_
                  have HO337 := n1_
                  have HB := n3_
                  clear n0_ n1_ n3_
                  clear hb ho33
                  obtain ⟨Ao34, co34, eo34⟩ := Kd.R_slice HO337.out
                  subst eo34
                  obtain ⟨ado34, fo34, _⟩ := Kd.at_int (Kd.R_reads' HO337.out).2.2 0 (by decide) (by rw [Ny335.out]; simp)
                  cases fo34
                  refine hK.out _ _ ⟨.slice (some ado34) y335.length co34, ado34, m6_, (by rw [ha.out]; exact putSel_upk 1 hb_ rfl rfl rfl), (by (with_reducible repeat (first | apply Kd.R_alloc | apply Kd.R_drewN | apply Kd.R_drew)); exact HO_5.out), z_HI317, (by repeat (first | (with_reducible first | exact HB.out | apply below_alloc | apply pw_below_drewN | apply below_drew1) | exact HB.out)), z_HI317_e1, fun _ => (by (with_reducible repeat (first | apply Kd.R_alloc | apply Kd.R_drewN | apply Kd.R_drew)); exact HO337.out), fun _ => ⟨_, rfl⟩, z_HI317_e5, fun h0_ => absurd ((hoff 6 (by kernel_rfl)).symm.trans h0_) (by decide)⟩
                refine steps_cons ?_ ?_
                · rintro b a w' ⟨v336, adz_v336, m6_, ha, Q_HO_5, Q_HI317, Q_HB, Q_HI317_e1, Q_HO337, Q_HA_HO337, Q_HI317_e5, Q_X6_⟩ hb_ hon hoff
                  refine ⟨_, rfl, fun K hK => ?_⟩
                  have e44 : a.tmps[44]? = some (.pointer (some ⟨g317, 0, none⟩)) := by rw [ha]; exact (putSel_off rfl).trans rfl
                  replace ha := Aside0.mk ha
                  have HO_5 := Aside0.mk Q_HO_5
                  have HB := Aside0.mk Q_HB
                  have HI317 := Aside0.mk (Q_HI317_e1 (hon 1 (by kernel_rfl)) hb_)
                  refine goes_ Tryd.func32 (by kernel_rfl) rfl #[.pointer (some ⟨g317, 0, none⟩), .int .i64 3] (by rfl) rfl rfl (by first | (simp only [List.map_toArray, List.map_cons, List.map_nil, Act.eval, Array.getD_eq_getD_getElem?, Option.getD_some, e44]; done) | (simp only [List.map_toArray, List.map_cons, List.map_nil, Act.eval, Array.getD_eq_getD_getElem?, Option.getD_some, e44]; rfl)) ?_
                  with_reducible refine (spec_l20Rd_pick.calls k1 g317 t315 t334 3 t338 t339 w _ ?side1 ?side2 A26.out).mono ?_
                  (case side1 => repeat (first | (with_reducible first | exact HI317.out | apply IsS72.alloc | apply IsS72.drewN | apply IsS72.drew | apply IsS72.set_1) | exact HI317.out))
                  (case side2 => repeat (first | (with_reducible first | exact HB.out | apply below_alloc | apply pw_below_drewN | apply below_drew1 | refine below_set ?_ (IsS72.ge HI317.out)) | exact HB.out))
                  rintro e w34 ⟨rfl, hi, hb, hk⟩
                  refine ⟨_, rfl, ?_⟩
                  have n0_ := Aside0.mk (Kd.R_mono (Kd.R_keep (IsS72.apart (show IsS72 w _ g317 t315 t334 from by repeat (first | (with_reducible first | exact HI317.out | apply IsS72.alloc | apply IsS72.drewN | apply IsS72.drew | apply IsS72.set_1) | exact HI317.out)) (by (with_reducible repeat (first | apply Kd.R_alloc | apply Kd.R_drewN | apply Kd.R_drew)); exact HO_5.out) (by decide)) hk (fun _ h => h.2)) (fun _ h => h.1))
                  have n1_ := Aside0.mk (hb)
                  have n2_ := Aside0.mk (hi)
                  have z_HO337 := fun (h0_ : b 3 = true) => (show Kd.R (Kd.int .i64) 3 w34 w.heap.size (fun _ => True) v336 y335 from by first | exact (Kd.R_mono (Kd.R_keep (IsS72.apart (show IsS72 w _ g317 t315 t334 from by repeat (first | (with_reducible first | exact HI317.out | apply IsS72.alloc | apply IsS72.drewN | apply IsS72.drew | apply IsS72.set_1) | exact HI317.out)) (by (with_reducible repeat (first | apply Kd.R_alloc | apply Kd.R_drewN | apply Kd.R_drew)); exact (Q_HO337 h0_)) (by decide)) hk (fun _ h => h.2)) (fun _ h => h.1)) | exact Kd.R_mono (Kd.R_mono (Kd.R_keep (IsS72.apart (show IsS72 w _ g317 t315 t334 from by repeat (first | (with_reducible first | exact HI317.out | apply IsS72.alloc | apply IsS72.drewN | apply IsS72.drew | apply IsS72.set_1) | exact HI317.out)) (by (with_reducible repeat (first | apply Kd.R_alloc | apply Kd.R_drewN | apply Kd.R_drew)); exact (Q_HO337 h0_)) (by decide)) hk (fun _ h => h.2)) (fun _ h => h.1)) (fun _ h_ => by first | trivial | exact h_ | exact h_.1))
                  clear HO_5
                  clear HB
                  clear HI317
                  have HO_5 := n0_
                  have HB := n1_
                  have HI317 := n2_
                  clear n0_ n1_ n2_
                  (try clear hb)
                  (try clear hb2)
                  (try clear hk)
                  (try clear hi)
                  refine hK.out _ _ ⟨v336, adz_v336, m6_, (by rw [ha.out]; exact putSel_upk 2 hb_ rfl rfl rfl), (by (with_reducible repeat (first | apply Kd.R_alloc | apply Kd.R_drewN | apply Kd.R_drew)); exact HO_5.out), fun h0_ => absurd ((hon 1 (by kernel_rfl)).symm.trans h0_) (by decide), (by repeat (first | (with_reducible first | exact HB.out | apply below_alloc | apply pw_below_drewN | apply below_drew1 | refine below_set ?_ (IsS72.ge HI317.out)) | exact HB.out)), fun _ h1_ => absurd ((up_self b 5).symm.trans h1_) (by decide), z_HO337, Q_HA_HO337, fun _ => (by repeat (first | (with_reducible first | exact HI317.out | apply IsS72.alloc | apply IsS72.drewN | apply IsS72.drew | apply IsS72.set_1) | exact HI317.out)), fun h0_ => absurd ((hoff 6 (by kernel_rfl)).symm.trans h0_) (by decide)⟩
                refine steps_cons ?_ ?_
                · rintro b a w' ⟨v336, adz_v336, m6_, ha, Q_HO_5, Q_HI317, Q_HB, Q_HI317_e1, Q_HO337, Q_HA_HO337, Q_HI317_e5, Q_X6_⟩ hb_ hon hoff
                  refine ⟨_, rfl, fun K hK => ?_⟩
                  have e43 : a.tmps[43]? = some (v336) := by rw [ha]; exact putSel_on (e := (3, 43, v336)) 1 rfl rfl (hon 3 (by kernel_rfl)) rfl
                  have e45 : a.tmps[45]? = some (.int .i64 t338) := by rw [ha]; exact putSel_on (e := (5, 45, .int .i64 t338)) 2 rfl rfl (hon 5 (by kernel_rfl)) rfl
                  replace ha := Aside0.mk ha
                  have HO_5 := Aside0.mk Q_HO_5
                  have HB := Aside0.mk Q_HB
                  have HO337 := Aside0.mk (Q_HO337 (hon 3 (by kernel_rfl)))
                  have HA_HO337 := Aside0.mk (Q_HA_HO337 (hon 3 (by kernel_rfl)))
                  have HI317 := Aside0.mk (Q_HI317_e5 (hon 5 (by kernel_rfl)))
                  obtain ⟨c_, hv_⟩ := HA_HO337.out
                  rw [hv_] at e43
                  refine value_ (w1 := w') (v := .pointer (some (adz_v336.add (t338).toNat))) (by rfl) rfl ?_ ?_
                  · go_simp
                    (try simp only [i64_w])
                    try rfl
                  refine hK.out _ _ ⟨v336, adz_v336, (.pointer (some (adz_v336.add (t338).toNat))), (by rw [ha.out]; exact putSel_upk 3 hb_ rfl rfl rfl), Q_HO_5, fun h0_ => absurd ((hon 1 (by kernel_rfl)).symm.trans h0_) (by decide), Q_HB, fun _ h1_ => absurd ((hon 5 (by kernel_rfl)).symm.trans h1_) (by decide), Q_HO337, Q_HA_HO337, Q_HI317_e5, fun _ => rfl⟩
                refine steps_cons ?_ ?_
                · rintro b a w' ⟨v336, adz_v336, m6_, ha, Q_HO_5, Q_HI317, Q_HB, Q_HI317_e1, Q_HO337, Q_HA_HO337, Q_HI317_e5, Q_X6_⟩ hb_ hon hoff
                  refine ⟨_, rfl, fun K hK => ?_⟩
                  have e46 : a.tmps[46]? = some (m6_) := by rw [ha]; exact putSel_on (e := (6, 46, m6_)) 3 rfl rfl (hon 6 (by kernel_rfl)) rfl
                  rw [Q_X6_ (hon 6 (by kernel_rfl))] at e46
                  replace ha := Aside0.mk ha
                  have HO_5 := Aside0.mk Q_HO_5
                  have HB := Aside0.mk Q_HB
                  have HO337 := Aside0.mk (Q_HO337 (hon 3 (by kernel_rfl)))
                  have HA_HO337 := Aside0.mk (Q_HA_HO337 (hon 3 (by kernel_rfl)))
                  have HI317 := Aside0.mk (Q_HI317_e5 (hon 5 (by kernel_rfl)))
                  obtain ⟨c_, hv_⟩ := HA_HO337.out
                  have hF_ := HO337.out
                  rw [hv_] at hF_
                  obtain ⟨ad_, ea_, hx_⟩ := Kd.at_int (Kd.R_reads' hF_).2.2 t338 (of_eq_true pi340) (of_eq_true qi340)
                  cases ea_
                  refine value_ (w1 := w') (v := .int .i64 (rd y335 t338)) (by rfl) rfl ?_ ?_
                  · go_simp
                    (try simp only [i64_w])
                    try rfl
                  refine hK.out _ _ ⟨v336, adz_v336, m6_, (by rw [ha.out]; exact putSel_upk 4 hb_ rfl rfl rfl), Q_HO_5, fun h0_ => absurd ((hon 1 (by kernel_rfl)).symm.trans h0_) (by decide), Q_HB, fun _ h1_ => absurd ((hon 5 (by kernel_rfl)).symm.trans h1_) (by decide), Q_HO337, Q_HA_HO337, Q_HI317_e5, Q_X6_⟩
                refine steps_cons ?_ ?_
                · rintro b a w' ⟨v336, adz_v336, m6_, ha, Q_HO_5, Q_HI317, Q_HB, Q_HI317_e1, Q_HO337, Q_HA_HO337, Q_HI317_e5, Q_X6_⟩ hb_ hon hoff
                  refine ⟨_, rfl, fun K hK => ?_⟩
                  have e41 : a.tmps[41]? = some (.string t333) := by rw [ha]; exact putSel_on (e := (1, 41, .string t333)) 0 rfl rfl (hon 1 (by kernel_rfl)) rfl
                  replace ha := Aside0.mk ha
                  have HO_5 := Aside0.mk Q_HO_5
                  have HB := Aside0.mk Q_HB
                  have HI317 := Aside0.mk (Q_HI317_e5 (hon 5 (by kernel_rfl)))
                  refine value_ (w1 := w') (v := .string t333) (by rfl) rfl ?_ ?_
                  · go_simp
                    (try simp only [i64_w])
                    try rfl
                  refine hK.out _ _ ⟨v336, adz_v336, m6_, (by rw [ha.out]; exact putSel_upk 5 hb_ rfl rfl rfl), Q_HO_5, fun h0_ => absurd ((hon 1 (by kernel_rfl)).symm.trans h0_) (by decide), Q_HB, fun _ h1_ => absurd ((hon 5 (by kernel_rfl)).symm.trans h1_) (by decide), Q_HO337, Q_HA_HO337, Q_HI317_e5, Q_X6_⟩
                refine steps_cons ?_ ?_
                · rintro b a w' ⟨v336, adz_v336, m6_, ha, Q_HO_5, Q_HI317, Q_HB, Q_HI317_e1, Q_HO337, Q_HA_HO337, Q_HI317_e5, Q_X6_⟩ hb_ hon hoff
                  refine ⟨_, rfl, fun K hK => ?_⟩
                  have e47 : a.tmps[47]? = some (.int .i64 (rd y335 t338)) := by rw [ha]; exact putSel_on (e := (7, 47, .int .i64 (rd y335 t338))) 4 rfl rfl (hon 7 (by kernel_rfl)) rfl
                  replace ha := Aside0.mk ha
                  have HO_5 := Aside0.mk Q_HO_5
                  have HB := Aside0.mk Q_HB
                  have HO337 := Aside0.mk (Q_HO337 (hon 3 (by kernel_rfl)))
                  have HA_HO337 := Aside0.mk (Q_HA_HO337 (hon 3 (by kernel_rfl)))
                  have HI317 := Aside0.mk (Q_HI317_e5 (hon 5 (by kernel_rfl)))
                  refine value_ (w1 := w') (v := .int .i64 (rd y335 t338)) (by rfl) rfl ?_ ?_
                  · go_simp
                    (try simp only [i64_w])
                    try rfl
                  refine hK.out _ _ ⟨v336, adz_v336, m6_, (by rw [ha.out]; exact putSel_upk 6 hb_ rfl rfl rfl), Q_HO_5, fun h0_ => absurd ((hon 1 (by kernel_rfl)).symm.trans h0_) (by decide), Q_HB, fun _ h1_ => absurd ((hon 5 (by kernel_rfl)).symm.trans h1_) (by decide), Q_HO337, Q_HA_HO337, Q_HI317_e5, Q_X6_⟩
                exact steps_nil
              rintro b a w37 hall ⟨v336, adz_v336, m6_, ha, Q_HO_5, Q_HI317, Q_HB, Q_HI317_e1, Q_HO337, Q_HA_HO337, Q_HI317_e5, Q_X6_⟩
              clear HB HI317 HO_5
              have hb1_ := hall 1 (by kernel_rfl)
              have hb3_ := hall 3 (by kernel_rfl)
              have hb5_ := hall 5 (by kernel_rfl)
              have hb6_ := hall 6 (by kernel_rfl)
              have hb7_ := hall 7 (by kernel_rfl)
              have hb8_ := hall 8 (by kernel_rfl)
              have hb9_ := hall 9 (by kernel_rfl)
              subst ha
              obtain rfl := Q_X6_ hb6_
              simp only [putSel, hb1_, hb3_, hb5_, hb6_, hb7_, hb8_, hb9_, if_true, Act.put, List.setIfInBounds_toArray, List.set_cons_zero, List.set_cons_succ]
              have HO_5 := Aside0.mk Q_HO_5
              clear Q_HO_5
              clear Q_HI317
              have HB := Aside0.mk Q_HB
              clear Q_HB
              clear Q_HI317_e1
              have HO337 := Aside0.mk (Q_HO337 hb3_)
              clear Q_HO337
              have HA_HO337 := Aside0.mk (Q_HA_HO337 hb3_)
              clear Q_HA_HO337
              have HI317 := Aside0.mk (Q_HI317_e5 hb5_)
              clear Q_HI317_e5
              clear hall hb1_ hb3_ hb5_ hb6_ hb7_ hb8_ hb9_
              obtain ⟨co38, eo38⟩ := HA_HO337.out
              clear HA_HO337
              subst eo38
              try go_wp2
              go_ret2
              exact ⟨by first | rfl | (simp [errW_none, errW_some] <;> rfl) | (simp [*, errW_none, errW_some] <;> rfl), by repeat (first | (with_reducible first | exact HB.out | apply below_alloc | apply pw_below_drewN | apply below_drew1 | refine below_set ?_ (IsS72.ge HI317.out)) | exact HB.out)⟩
            · rw [if_neg c28] at H
              exact absurd H (by simp)
          · rw [if_neg c27] at H
            exact absurd H (by simp)
        · replace c24 := Bool.eq_false_iff.mpr c24
          subst c24
          have H1 : (some (x7_1, t321)) = some (r1, r2) := by rw [if_neg (show ¬ (false = true) by decide)] at H; exact H
          clear H
          have H := H1
          clear H1
          simp only [Option.some.injEq, Prod.mk.injEq] at H
          obtain ⟨rfl, rfl⟩ := H
          obtain ⟨Ao39, co39, eo39⟩ := Kd.R_slice HO_5.out
          subst eo39
          go_wp2_with (first | ((with_reducible refine gate_callee (f := 33) rfl ?_); refine goesL_ (some 39) rfl rfl Tryd.func33 (by kernel_rfl) rfl #[.pointer (some ⟨g317, 0, none⟩), .int .i64 9] rfl (by (try simp only [List.map_toArray, List.map_cons, List.map_nil]); first | done | rfl | (simp only [List.length_drop, List.length_take]; rfl)) ?_; (with_reducible refine (spec_l20Rd_odd.calls k1 g317 t315 x318001_1 9 false t332 w _ ?side1 ?side2 A23.out).mono ?_); (case side1 => repeat (first | (with_reducible first | exact HI317.out | apply IsS72.alloc | apply IsS72.drewN | apply IsS72.drew | apply IsS72.set_1) | exact HI317.out)); (case side2 => repeat (first | (with_reducible first | exact HB.out | apply below_alloc | apply pw_below_drewN | apply below_drew1 | refine below_set ?_ (IsS72.ge HI317.out)) | exact HB.out)); rintro e w40 ⟨rfl, hi, hb, hk⟩; refine ⟨_, rfl, ?_⟩; have n0_ := Aside0.mk (Kd.R_mono (Kd.R_keep (IsS72.apart (show IsS72 w _ g317 t315 x318001_1 from by repeat (first | (with_reducible first | exact HI317.out | apply IsS72.alloc | apply IsS72.drewN | apply IsS72.drew | apply IsS72.set_1) | exact HI317.out)) (by (with_reducible repeat (first | apply Kd.R_alloc | apply Kd.R_drewN | apply Kd.R_drew)); exact HO_5.out) (by decide)) hk (fun _ h => h.2)) (fun _ h => h.1)); have n1_ := Aside0.mk (hb); have n2_ := Aside0.mk (hi); clear HO_5; clear HB; clear HI317; have HO_5 := n0_; have HB := n1_; have HI317 := n2_; clear n0_ n1_ n2_; (try clear hb); (try clear hb2); (try clear hk); (try clear hi)))
          go_ret2
          exact ⟨by first | rfl | (simp [errW_none, errW_some] <;> rfl) | (simp [*, errW_none, errW_some] <;> rfl), by repeat (first | (with_reducible first | exact HB.out | apply below_alloc | apply pw_below_drewN | apply below_drew1 | refine below_set ?_ (IsS72.ge HI317.out)) | exact HB.out)⟩

end Go.Proofs.YtghkbkbommobaaaDoor.P
