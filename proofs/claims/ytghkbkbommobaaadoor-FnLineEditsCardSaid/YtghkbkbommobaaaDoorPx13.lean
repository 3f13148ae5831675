/- The functions of the program that one law uses, as plain Lean functions, and the contracts that tie the machine to them, walked by the machine. No condition. -/
import Derived.Test.YtghkbkbommobaaaDoorPx0
import Derived.Test.YtghkbkbommobaaaDoorPx4
import Derived.Test.YtghkbkbommobaaaDoorPx12
namespace Go.Proofs.YtghkbkbommobaaaDoor.P
open Go.RowKit Go.Proofs.YtghkbkbommobaaaDoor.Copy Go.Proofs.YtghkbkbommobaaaDoor.Strs Go.Proofs.YtghkbkbommobaaaDoor.Lib Go.Proofs.YtghkbkbommobaaaDoorW.PrintWords Go.Proofs.YtghkbkbommobaaaDoorW.PrintLast Go.Proofs.YtghkbkbommobaaaDoorW.PrintMore
attribute [local go_sem] max2_int min2_int max_two min_two max_three min_three max_four min_four   -- for this text's walks alone
set_option linter.unusedVariables false
set_option linter.unusedSimpArgs false

/-! ### impl_ApplyEdits: function 16 -/
theorem isBuilderF_below {T e : TypeId} {B b : Nat} {bs : List Value} {w w1 : World} (h : Go.Lib.IsBuilderF T e B b bs w) (hb : Below w.heap.size w w1) : Go.Lib.IsBuilderF T e B b bs w1 := by
  have key : ∀ p, Go.Lib.BuilderAtF T e B b p bs w → Go.Lib.BuilderAtF T e B b p bs w1 := by
    rintro p ⟨hB, v, h1, ⟨h2, h3⟩, h4⟩
    refine ⟨hB, v, (hb.block b (Array.getElem?_eq_some_iff.mp h1).1).trans h1, ⟨h2, ?_⟩, h4⟩
    rcases h3 with h3 | ⟨g, cap, cur, fz, rfl, h5, h6, h7⟩
    · exact .inl h3
    · exact .inr ⟨g, cap, cur, fz, rfl, h5, (hb.block g (Array.getElem?_eq_some_iff.mp h6).1).trans h6, h7⟩
  rcases h with h | h
  · exact .inl (key _ h)
  · exact .inr (key _ h)
theorem strCells_append (s t : ByteArray) : Go.Lib.strCells (s ++ t) = Go.Lib.strCells s ++ Go.Lib.strCells t := by
  simp [Go.Lib.strCells, ByteArray.data_append]
theorem builder_string (B b : Nat) (s : ByteArray) (w : World) (h : Go.Lib.IsBuilderF 57 5 B b (Go.Lib.strCells s) w) (hBw : B ≤ w.heap.size) :
    Calls Tryd.prog 37 #[.pointer (some ⟨b, 0, none⟩)] w fun e w' => e = .returned (.string s) ∧ Go.Lib.IsBuilderF 57 5 B b (Go.Lib.strCells s) w' ∧ Below B w w' :=
  (Builder_String_any_k B b s.data.toList w h hBw).mono fun e w' ⟨he, hi, hb, _⟩ => ⟨he.trans (by simp), hi, hb⟩
mutual
def impl_ApplyEdits.l0 : Nat → ByteArray → List (S44) → ByteArray → Int → Int → Option (ByteArray × Bool)
  | 0, _, _, _, _, _ => none
  | k + 1, x0, x1, acc, at_, i => if i < (x1.length : Int) then (if 0 ≤ i then (if 0 ≤ at_ then (if at_ ≤ (rd_T44 x1 i).f0 then (if (rd_T44 x1 i).f0 ≤ (x0.size : Int) then (if (x0.extract at_.toNat (rd_T44 x1 i).f0.toNat).size + (rd_T44 x1 i).f2.size ≤ 9223372036854775807 then (if acc.size + (x0.extract at_.toNat (rd_T44 x1 i).f0.toNat ++ (rd_T44 x1 i).f2).size ≤ 140737488355328 then (impl_ApplyEdits.l0 k x0 x1 (acc ++ (x0.extract at_.toNat (rd_T44 x1 i).f0.toNat ++ (rd_T44 x1 i).f2)) (rd_T44 x1 i).f1 (wrap64 (i + 1))) else none) else none) else none) else none) else none) else none) else (impl_ApplyEdits.e0 k x0 acc at_)
def impl_ApplyEdits.e0 : Nat → ByteArray → ByteArray → Int → Option (ByteArray × Bool)
  | 0, _, _, _ => none
  | k + 1, x0, acc, at_ => if 0 ≤ at_ then (if at_ ≤ (x0.size : Int) then (if acc.size + (x0.extract at_.toNat x0.size).size ≤ 140737488355328 then ((impl_TextValid.f k (acc ++ x0.extract at_.toNat x0.size)).bind fun t => if t = true then (some (acc ++ x0.extract at_.toNat x0.size, true)) else (some (⟨#[]⟩, false))) else none) else none) else none
end
def impl_ApplyEdits.f (k : Nat) (a0 : ByteArray) (l1 : List (S44)) : Option (ByteArray × Bool) := (impl_EditsValid.f k a0 l1).bind fun t => if t = true then (impl_ApplyEdits.l0 k a0 l1 (⟨#[]⟩ : ByteArray) 0 0) else (some ((⟨#[]⟩ : ByteArray), false))
theorem impl_ApplyEdits.mono_l : ∀ k, (∀ y0 y1 y2 y3 y4, LeO (impl_ApplyEdits.l0 k y0 y1 y2 y3 y4) (impl_ApplyEdits.l0 (k + 1) y0 y1 y2 y3 y4)) ∧ (∀ y0 y1 y2, LeO (impl_ApplyEdits.e0 k y0 y1 y2) (impl_ApplyEdits.e0 (k + 1) y0 y1 y2))
  | 0 => ⟨fun _ _ _ _ _ r h => by simp [impl_ApplyEdits.l0] at h, fun _ _ _ r h => by simp [impl_ApplyEdits.e0] at h⟩
  | k + 1 => by
    obtain ⟨ih0, ih1⟩ := impl_ApplyEdits.mono_l k
    refine ⟨?_, ?_⟩
    · intro y0 y1 y2 y3 y4
      unfold impl_ApplyEdits.l0
      repeat' first
      | (with_reducible exact ih0 _ _ _ _ _)
      | (with_reducible exact ih1 _ _ _)
      | (with_reducible exact impl_EditsValid.mono _ _ _)
      | (with_reducible exact impl_TextValid.mono _ _)
      | (with_reducible exact LeO.refl _)
      | (with_reducible exact LeO.none _)
      | (with_reducible refine LeO.ite ?_ ?_)
      | (with_reducible refine LeO.bind ?_ (fun _ => ?_))
      | exact ih0 _ _ _ _ _
      | exact ih1 _ _ _
      | exact impl_EditsValid.mono _ _ _
      | exact impl_TextValid.mono _ _
      | exact LeO.none _
      | refine LeO.ite ?_ ?_
      | refine LeO.bind ?_ (fun _ => ?_)
    · intro y0 y1 y2
      unfold impl_ApplyEdits.e0
      repeat' first
      | (with_reducible exact ih0 _ _ _ _ _)
      | (with_reducible exact ih1 _ _ _)
      | (with_reducible exact impl_EditsValid.mono _ _ _)
      | (with_reducible exact impl_TextValid.mono _ _)
      | (with_reducible exact LeO.refl _)
      | (with_reducible exact LeO.none _)
      | (with_reducible refine LeO.ite ?_ ?_)
      | (with_reducible refine LeO.bind ?_ (fun _ => ?_))
      | exact ih0 _ _ _ _ _
      | exact ih1 _ _ _
      | exact impl_EditsValid.mono _ _ _
      | exact impl_TextValid.mono _ _
      | exact LeO.none _
      | refine LeO.ite ?_ ?_
      | refine LeO.bind ?_ (fun _ => ?_)
theorem impl_ApplyEdits.mono : ∀ a0 a1 k, LeO (impl_ApplyEdits.f k a0 a1) (impl_ApplyEdits.f (k + 1) a0 a1) := by
  intro a0 a1 k
  obtain ⟨ih0, ih1⟩ := impl_ApplyEdits.mono_l k
  unfold impl_ApplyEdits.f
  repeat' first
      | (with_reducible exact ih0 _ _ _ _ _)
      | (with_reducible exact ih1 _ _ _)
      | (with_reducible exact impl_EditsValid.mono _ _ _)
      | (with_reducible exact impl_TextValid.mono _ _)
      | (with_reducible exact LeO.refl _)
      | (with_reducible exact LeO.none _)
      | (with_reducible refine LeO.ite ?_ ?_)
      | (with_reducible refine LeO.bind ?_ (fun _ => ?_))
      | exact ih0 _ _ _ _ _
      | exact ih1 _ _ _
      | exact impl_EditsValid.mono _ _ _
      | exact impl_TextValid.mono _ _
      | exact LeO.none _
      | refine LeO.ite ?_ ?_
      | refine LeO.bind ?_ (fun _ => ?_)
set_option maxHeartbeats 8000000 in
set_option maxRecDepth 100000 in
theorem impl_ApplyEdits.calls (k : Nat) (a0 : ByteArray) (A1 : Option Addr) (c1 : Nat) (l1 : List (S44)) (r1 : ByteArray) (r2 : Bool) (w : World) (hr1 : Kd.C k44 w A1 l1.length l1) (hc1 : l1.length ≤ c1) (h : impl_ApplyEdits.f k a0 l1 = some (r1, r2)) :
    Calls Tryd.prog 16 #[.string a0, .slice A1 l1.length c1] w fun e w' => e = .returned (.tuple #[.string r1, .bool r2]) ∧ Below w.heap.size w w' := by
  have hu44 := Tryd.underlying44
  have HR1 := Aside0.mk hr1
  have HC1 := Aside0.mk hc1
  clear hr1 hc1
  unfold impl_ApplyEdits.f at h
  obtain ⟨t, A1_, H⟩ := Option.bind_eq_some_iff.mp h
  have A1' := Aside0.mk A1_
  clear h A1_
  by_cases c5 : t = true
  · subst c5
    rw [if_pos rfl] at H
    have H' := Aside0.mk H
    clear H
    go_enter Tryd.func16, Tryd.ntmps16
    go_wp2_with (first | (go_at_call 35; (with_reducible refine (impl_EditsValid.calls k a0 A1 c1 l1 true _ HR1.out HC1.out A1'.out).mono ?_); rintro e w1 ⟨rfl, hb1⟩; have HB := Aside0.mk hb1; clear hb1) | ((with_reducible refine gate_dst (N := 6) rfl ?_); refine box_event ?hg (N := 6) ?hd (cs := #[.pointer none, .slice none 0 0]) (t := 57) ?hr ?_; (case hd => rfl); (case hg => rfl); (case hr => first | (go_simp; done) | (go_simp; rfl)); intro gb hg w2 hbox hb; have BX := Aside0.mk hbox; have GW := Aside0.mk hg; have HB2 := Aside0.mk hb; clear hg hbox hb))
    have HBW : Aside0 (Below w.heap.size w w2) := ⟨below_then HB.out HB.out.size HB2.out⟩
    have HI0 : Aside0 (Go.Lib.IsBuilderF 57 5 w.heap.size gb (Go.Lib.strCells (⟨#[]⟩ : ByteArray)) w2) := ⟨.inl ⟨by rw [GW.out]; exact HB.out.size, .slice none 0 0, BX.out, ⟨rfl, .inl ⟨rfl, rfl⟩⟩, by simp [Value.ownBlock]⟩⟩
    have GE : Aside0 (w.heap.size ≤ gb) := ⟨by rw [GW.out]; exact HB.out.size⟩
    clear HB HB2 BX GW
    go_loopg [7, 16] k (fun kq v7 v16 w' => ∃ (acc : ByteArray) (at_ i : Int), v7 = .int .i64 at_ ∧ v16 = .int .i64 i ∧ Aside0 (impl_ApplyEdits.l0 kq a0 l1 acc at_ i = some (r1, r2)) ∧ Aside0 (kq ≤ k) ∧ Aside0 (Go.Lib.IsBuilderF 57 5 w.heap.size gb (Go.Lib.strCells acc) w') ∧ Aside0 (Below w.heap.size w w'))
    case atStart => exact ⟨_, 0, 0, rfl, rfl, H', ⟨Nat.le_refl _⟩, HI0, HBW⟩
    case round =>
      clear H' HI0 HBW
      obtain ⟨acc, at_, i, rfl, rfl, HA, HK, HI, HB⟩ := hrel
      cases gk with
      | zero => exact absurd HA.out (by simp [impl_ApplyEdits.l0])
      | succ k2 =>
        have H := HA.out
        clear HA
        simp only [impl_ApplyEdits.l0] at H
        by_cases c7 : i < (l1.length : Int)
        · rw [if_pos c7] at H
          have c7b0 : decide (i < (l1.length : Int)) = true := decide_eq_true c7
          by_cases c8 : 0 ≤ i
          · rw [if_pos c8] at H
            have c8b0 : decide (0 ≤ i) = true := decide_eq_true c8
            by_cases d1 : 0 ≤ at_
            · rw [if_pos d1] at H
              by_cases d2 : at_ ≤ (rd_T44 l1 i).f0
              · rw [if_pos d2] at H
                by_cases d3 : (rd_T44 l1 i).f0 ≤ (a0.size : Int)
                · rw [if_pos d3] at H
                  by_cases d4 : (a0.extract at_.toNat (rd_T44 l1 i).f0.toNat).size + (rd_T44 l1 i).f2.size ≤ 9223372036854775807
                  · rw [if_pos d4] at H
                    by_cases d5 : acc.size + (a0.extract at_.toNat (rd_T44 l1 i).f0.toNat ++ (rd_T44 l1 i).f2).size ≤ 140737488355328
                    · rw [if_pos d5] at H
                      have H' := Aside0.mk H
                      clear H
                      obtain ⟨ad, e126, hx0, hx1, hx2⟩ := at_T44 HR1.out i c8 c7
                      have D1 := Aside0.mk d1
                      have D2 := Aside0.mk d2
                      have D3 := Aside0.mk d3
                      have D4 := Aside0.mk d4
                      have D5 := Aside0.mk d5
                      cases e126
                      replace hx0 := (HB.out.cell (World.block_lt_of_cell? w _ hx0)).trans hx0
                      replace hx1 := (HB.out.cell (World.block_lt_of_cell? w _ hx1)).trans hx1
                      replace hx2 := (HB.out.cell (World.block_lt_of_cell? w _ hx2)).trans hx2
                      have p126 := eq_true c8
                      have q126 := eq_true c7
                      clear c7 c8 d1 d2 d3 d4 d5
                      go_upto_region 7 with (fail)
                      go_cut [9] (fun v9 wc => ∃ g : Nat, v9 = .pointer (some ⟨g, 0, none⟩) ∧ Aside0 (wc.heap[g]? = some (.cells #[.int .i64 (rd_T44 l1 i).f0, .int .i64 (rd_T44 l1 i).f1, .string (rd_T44 l1 i).f2] 44 (0, 0))) ∧ Aside0 (Go.Lib.IsBuilderF 57 5 w.heap.size gb (Go.Lib.strCells acc) wc) ∧ Aside0 (Below w.heap.size w wc) ∧ Aside0 (g ≠ gb) ∧ Aside0 (w.heap.size ≤ g))
                      case first =>
                        go_wp2_with (first | ((with_reducible refine gate_dst (N := 9) rfl ?_); (try (refine gate_guard (by rfl) ?_; dsimp only)); refine box_event ?hg (N := 9) ?hd (cs := #[.int .i64 0, .int .i64 0, .string (⟨#[]⟩ : ByteArray)]) (t := 44) ?hr ?_; (case hd => rfl); (case hg => rfl); (case hr => first | (go_simp; done) | (go_simp; rfl)); intro g hg w11 hbox hb; have BK := Aside0.mk hbox; have HG := Aside0.mk hg; have HBN := Aside0.mk hb; clear hb hbox hg; have hcz0 := (blk_cell BK.out 0).trans rfl; have hcz1 := (blk_cell BK.out 1).trans rfl; have hcz2 := (blk_cell BK.out 2).trans rfl; have hfz0 := blk_frozen BK.out 0; have hfz1 := blk_frozen BK.out 1; have hfz2 := blk_frozen BK.out 2))
                        go_meet
                        case rel =>
                          have hge : wr.heap.size ≤ g := by rw [HG.out]; exact Nat.le_refl _
                          have hbl := below_set (j := 2) (v := .string (rd_T44 l1 i).f2) (below_set (j := 1) (v := .int .i64 (rd_T44 l1 i).f1) (below_set (j := 0) (v := .int .i64 (rd_T44 l1 i).f0) HBN.out hge) hge) hge
                          refine ⟨g, rfl, ⟨blk_put (blk_put (blk_put BK.out 0 _ rfl) 1 _ rfl) 2 _ rfl⟩, ⟨isBuilderF_below HI.out hbl⟩, ⟨below_then HB.out HB.out.size hbl⟩, ⟨?_⟩, ⟨Nat.le_trans HB.out.size hge⟩⟩
                          have hlt : gb < wr.heap.size := by
                            rcases HI.out with h | h
                            · exact h.lt
                            · exact h.lt
                          omega
                      case rest =>
                        obtain ⟨g, rfl, BK, HI2, HB2, HN, HGE⟩ := hcut
                        go_upto_region 8 with (fail)
                        have hcz0 := (blk_cell BK.out 0).trans rfl
                        have hcz1 := (blk_cell BK.out 1).trans rfl
                        have hcz2 := (blk_cell BK.out 2).trans rfl
                        have d1 := D1.out
                        have d2 := D2.out
                        have d3 := D3.out
                        have d4 : (9223372036854775807 < (rd_T44 l1 i).f0.toNat - at_.toNat + (rd_T44 l1 i).f2.size) = False := eq_false (by have := D4.out; rw [ByteArray.size_extract] at this; omega)
                        go_still_tail 8, (by kernel_rfl)
                        clear d4 hcz0 hcz1 hcz2 hx0 hx1 hx2
                        change wpList _ _ _ _ _ wc.drew
                        obtain ⟨wd, hwd⟩ : ∃ wd, wd = wc.drew := ⟨_, rfl⟩
                        have HI3 : Aside0 (Go.Lib.IsBuilderF 57 5 w.heap.size gb (Go.Lib.strCells acc) wd) := ⟨by rw [hwd]; exact HI2.out⟩
                        have HB3 : Aside0 (Below w.heap.size w wd) := ⟨by rw [hwd]; exact below_drew HB2.out⟩
                        have BK3 : Aside0 (wd.heap[g]? = some (.cells #[.int .i64 (rd_T44 l1 i).f0, .int .i64 (rd_T44 l1 i).f1, .string (rd_T44 l1 i).f2] 44 (0, 0))) := ⟨by rw [hwd]; exact BK.out⟩
                        rw [← hwd]
                        clear hwd HI2 HB2 BK
                        go_wp2_with (first | (go_at_call 36; (with_reducible refine (Builder_WriteString_k w.heap.size gb (Go.Lib.strCells acc) (a0.extract at_.toNat (rd_T44 l1 i).f0.toNat ++ (rd_T44 l1 i).f2) _ HI3.out (by rw [Go.Lib.strCells_length]; exact D5.out) HB3.out.size).mono ?_); rintro e w5 ⟨rfl, hb5, hbel5, hoth5⟩; have HI5 : Aside0 (Go.Lib.IsBuilderF 57 5 w.heap.size gb (Go.Lib.strCells (acc ++ (a0.extract at_.toNat (rd_T44 l1 i).f0.toNat ++ (rd_T44 l1 i).f2))) w5) := ⟨.inr (by rw [strCells_append]; exact hb5)⟩; have HB5 := Aside0.mk (HB3.out.trans hbel5); have BK5 := Aside0.mk (hoth5 g _ BK3.out (by intro e; exact HN.out (Option.some.inj e)) (by intro c fz e; injection e with _ e _; exact absurd e (by decide))); clear hb5 hbel5 hoth5 HI3 HB3 BK3; have hcz1 := (blk_cell BK5.out 1).trans rfl))
                        go_roundg k2
                        case measure => have := HK.out; omega
                        case rel => exact ⟨_, _, _, rfl, rfl, H', ⟨by have := HK.out; omega⟩, HI5, HB5⟩
                    · rw [if_neg d5] at H; cases H
                  · rw [if_neg d4] at H; cases H
                · rw [if_neg d3] at H; cases H
              · rw [if_neg d2] at H; cases H
            · rw [if_neg d1] at H; cases H
          · rw [if_neg c8] at H; cases H
        · rw [if_neg c7] at H
          have c7b0 : decide (i < (l1.length : Int)) = false := decide_eq_false c7
          cases k2 with
          | zero => exact absurd H (by simp [impl_ApplyEdits.e0])
          | succ k3 =>
            simp only [impl_ApplyEdits.e0] at H
            by_cases d1 : 0 ≤ at_
            · rw [if_pos d1] at H
              by_cases d2 : at_ ≤ (a0.size : Int)
              · rw [if_pos d2] at H
                by_cases d3 : acc.size + (a0.extract at_.toNat a0.size).size ≤ 140737488355328
                · rw [if_pos d3] at H
                  obtain ⟨t, A2_, H⟩ := Option.bind_eq_some_iff.mp H
                  have A2' := Aside0.mk A2_
                  have D3 := Aside0.mk d3
                  clear A2_ d3 c7
                  by_cases c9 : t = true
                  · subst c9
                    rw [if_pos rfl] at H
                    simp only [Option.some.injEq, Prod.mk.injEq] at H
                    obtain ⟨rfl, rfl⟩ := H
                    go_wp2_with (first | (go_at_call 36; (with_reducible refine (Builder_WriteString_k w.heap.size gb (Go.Lib.strCells acc) (a0.extract at_.toNat a0.size) _ HI.out (by rw [Go.Lib.strCells_length]; exact D3.out) HB.out.size).mono ?_); rintro e w5 ⟨rfl, hb5, hbel5, hoth5⟩; have HI5 : Aside0 (Go.Lib.IsBuilderF 57 5 w.heap.size gb (Go.Lib.strCells (acc ++ a0.extract at_.toNat a0.size)) w5) := ⟨.inr (by rw [strCells_append]; exact hb5)⟩; have HB5 := Aside0.mk (HB.out.trans hbel5); clear hb5 hbel5 hoth5 HI HB) | (go_at_call 37; (with_reducible refine (builder_string w.heap.size gb _ _ HI5.out HB5.out.size).mono ?_); rintro e w6 ⟨rfl, hi6, hb6⟩; have HI6 := Aside0.mk hi6; have HB6 := Aside0.mk (HB5.out.trans hb6); clear hi6 hb6 HI5 HB5) | (go_at_call 25; (with_reducible refine (impl_TextValid.calls k3 _ true _ A2'.out).mono ?_); rintro e w7 ⟨rfl, hd7⟩; have HI7 := Aside0.mk (isBuilderF_below HI6.out hd7.below); have HB7 := Aside0.mk (below_then HB6.out HB6.out.size hd7.below); clear hd7 HI6 HB6) | (go_at_call 37; (with_reducible refine (builder_string w.heap.size gb _ _ HI7.out HB7.out.size).mono ?_); rintro e w8 ⟨rfl, hi8, hb8⟩; have HB8 := Aside0.mk (HB7.out.trans hb8); clear hi8 hb8 HI7 HB7))
                    go_ret2
                    exact ⟨rfl, HB8.out⟩
                  · obtain rfl : t = false := by simpa using c9
                    rw [if_neg (by simp)] at H
                    simp only [Option.some.injEq, Prod.mk.injEq] at H
                    obtain ⟨rfl, rfl⟩ := H
                    go_wp2_with (first | (go_at_call 36; (with_reducible refine (Builder_WriteString_k w.heap.size gb (Go.Lib.strCells acc) (a0.extract at_.toNat a0.size) _ HI.out (by rw [Go.Lib.strCells_length]; exact D3.out) HB.out.size).mono ?_); rintro e w5 ⟨rfl, hb5, hbel5, hoth5⟩; have HI5 : Aside0 (Go.Lib.IsBuilderF 57 5 w.heap.size gb (Go.Lib.strCells (acc ++ a0.extract at_.toNat a0.size)) w5) := ⟨.inr (by rw [strCells_append]; exact hb5)⟩; have HB5 := Aside0.mk (HB.out.trans hbel5); clear hb5 hbel5 hoth5 HI HB) | (go_at_call 37; (with_reducible refine (builder_string w.heap.size gb _ _ HI5.out HB5.out.size).mono ?_); rintro e w6 ⟨rfl, hi6, hb6⟩; have HI6 := Aside0.mk hi6; have HB6 := Aside0.mk (HB5.out.trans hb6); clear hi6 hb6 HI5 HB5) | (go_at_call 25; (with_reducible refine (impl_TextValid.calls k3 _ false _ A2'.out).mono ?_); rintro e w7 ⟨rfl, hd7⟩; have HB7 := Aside0.mk (below_then HB6.out HB6.out.size hd7.below); clear hd7 HI6 HB6))
                    go_ret2
                    exact ⟨rfl, HB7.out⟩
                · rw [if_neg d3] at H; cases H
              · rw [if_neg d2] at H; cases H
            · rw [if_neg d1] at H; cases H
  · obtain rfl : t = false := by simpa using c5
    rw [if_neg (by simp)] at H
    simp only [Option.some.injEq, Prod.mk.injEq] at H
    obtain ⟨rfl, rfl⟩ := H
    go_enter Tryd.func16, Tryd.ntmps16
    go_wp2_with (first | (go_at_call 35; (with_reducible refine (impl_EditsValid.calls k a0 A1 c1 l1 false _ HR1.out HC1.out A1'.out).mono ?_); rintro e w1 ⟨rfl, hb1⟩; have HB := Aside0.mk hb1; clear hb1))
    go_ret2
    exact ⟨rfl, HB.out⟩

end Go.Proofs.YtghkbkbommobaaaDoor.P
