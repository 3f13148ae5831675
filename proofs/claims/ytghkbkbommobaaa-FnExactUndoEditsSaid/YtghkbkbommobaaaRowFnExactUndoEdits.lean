/- The row of the law FnExactUndoEdits: the call returns true and leaves its arguments as they were, for every input. Condition: none beyond the given statement's own. -/
import Derived.Test.YtghkbkbommobaaaRows
import Derived.Test.YtghkbkbommobaaaOpen
import Derived.Test.YtghkbkbommobaaaFacts
import Derived.Test.YtghkbkbommobaaaPx39
import Derived.Test.YtghkbkbommobaaaPureFnExactUndoEdits
import Derived.WalkKit
import Derived.ProofKit
import Derived.OpenShut
import Derived.ShutString
import Derived.ChangeOld
import Derived.Below
import Derived.SizedLaws
namespace Go.Proofs.Ytghkbkbommobaaa.fnExactUndoEdits
open Go.ChangeShapes Go.WideShapes Go.ChangeAt Go.RowKit Go.Proofs.Ytghkbkbommobaaa.Open Go.Proofs.Ytghkbkbommobaaa.P Go.Proofs.YtghkbkbommobaaaW.PrintWords
open Go.ChangeMaps (open_string shut_string)
set_option linter.unusedVariables false
set_option linter.unusedSimpArgs false
theorem own : ownKnob Try.prog.godebug = none := by kernel_rfl
theorem laidOut : laidOutB Try.prog = true := by kernel_rfl
def q67 (x : S67) : Prop := ((Lit.int .i64 x.f0).wf = true) ∧ ((Lit.int .i64 x.f1).wf = true) ∧ (x.f2.size ≤ 9223372036854775807)
theorem opens_k67 : Opens Try.prog k67 67 q67 := by
  intro H enc w base spare held fuel cs x h
  obtain ⟨a0, h0, q0⟩ := field_at Try.underlying67 h 0 _ rfl 0 1 3 rfl rfl (by kernel_rfl) (opens_int Try.underlying3)
  obtain ⟨a1, h1, q1⟩ := field_at Try.underlying67 h 1 _ rfl 1 1 3 rfl rfl (by kernel_rfl) (opens_int Try.underlying3)
  obtain ⟨a2, h2, q2⟩ := field_at Try.underlying67 h 2 _ rfl 2 1 9 rfl rfl (by kernel_rfl) (opens_string Try.underlying9)
  have hl := length_at Try.underlying67 h 3 (by kernel_rfl)
  obtain ⟨v0, v1, v2, rfl⟩ : ∃ v0 v1 v2, cs = [v0, v1, v2] := by
    match cs, hl with
    | [v0, v1, v2], _ => exact ⟨v0, v1, v2, rfl⟩
  exact ⟨⟨a0, a1, a2⟩, ⟨[v0], [v1, v2], rfl, h0, ⟨[v1], [v2], rfl, h1, h2⟩⟩, ⟨q0, q1, q2⟩⟩
set_option maxRecDepth 100000 in
theorem lifted (os : Os) (started : os.Started) (H : Type) (enc : TypeId × Value → H) :
    ReturnsInHanded {} Try.checked os 17 .any (Rows.fnExactUndoEditsSpec.pre6 enc Try.prog Try.f17 Rows.fnExactUndoEditsRow.domain false) (Rows.fnExactUndoEditsSpec.post enc Try.prog Try.f17 false true false false) := by
  refine returnsInHanded_of_change_sized (C := Try.checked) own started (by kernel_rfl) Try.func17
    (ChangeSpec.witness6 (enc := enc) (C := Try.checked) false ⟨#[], #[.string ByteArray.empty, .slice none 0 0], []⟩ 8 (by kernel_rfl) (by kernel_rfl) (by kernel_rfl) (by kernel_rfl)) ?_
  intro W base args ds gs before hval0 hW hcnd hsz0 _
  have hval : ∀ (j : Nat) t v, Try.f17.params[j]? = some t → args[j]? = some v → Value.okWide Try.prog W .any base t v := hval0
  have hW' := hW
  obtain ⟨p, q, hA0, hV, rfl, hfz, hnd⟩ := hW
  have hA : DataW.TrodAll enc Try.prog W 0 (fun _ => true) true Try.f17.params.toList args.toList ds p := hA0
  rw [Try.params17] at hA hval
  obtain ⟨v0, vs0, d0, ds0, p0, q0, hargs, rfl, rfl, h0, r0⟩ := trodAll_cons hA
  obtain ⟨v1, vs1, d1, ds1, p1, q1, rfl, rfl, rfl, h1, r1⟩ := trodAll_cons r0
  obtain ⟨rfl, rfl, rfl⟩ := trodAll_nil r1
  obtain rfl : args = #[v0, v1] := by cases args; simp_all
  obtain ⟨rfl, rfl⟩ := trodVars_none hV
  obtain ⟨a0, rfl, rfl, rfl, y0⟩ := open_string Try.underlying9 (hval 0 9 v0 rfl rfl) h0
  obtain ⟨a1, len1, cap1, rfl⟩ := okWide_slice Try.underlying32 (hval 1 32 v1 rfl rfl)
  have k1 := h1
  have lt1 : ∀ x ∈ p1, x.block < W.heap.size := by obtain ⟨m, hm⟩ := k1; exact DataW.trod_lt m _ _ _ hm
  obtain ⟨fuel1, hf1⟩ := h1
  obtain ⟨A1, c1, l1, hcs1, hc1, hr1, w1⟩ := opens_row Try.underlying32 (by kernel_rfl) opens_k67 hf1
  simp only [Value.cells, List.cons.injEq, Value.slice.injEq, and_true] at hcs1
  obtain ⟨rfl, rfl, rfl⟩ := hcs1
  clear hA0 hval0 hsz0
  obtain ⟨k, hk⟩ := Pure.FnExactUndoEdits a0 y0 l1 hr1.2.1 w1
  refine (laws_FnExactUndoEdits.calls k a0 a1 cap1 l1 true W hr1 hc1 hk).mono ?_
  rintro e W' ⟨rfl, bel⟩
  exact ⟨_, rfl, _, _, _, [], _, [], hW', trodAll_mk1 (shut_bool Try.underlying4 _), (trodAll_cons_mk (shut_string Try.underlying9 y0) (trodAll_cons_mk (Below.trod laidOut (by kernel_rfl) (of_decide_eq_true (by kernel_rfl)) k1 bel lt1) trodAll_mk0)), rfl, bel.frame _, fun h => by cases h⟩
theorem closed : joinedFacts Try.prog 17 Try.f17 Rows.fnExactUndoEditsSpec Rows.fnExactUndoEditsRow = true := Facts.closed_of Facts.mayEnter Facts.liftsFinal Facts.make (by kernel_rfl)
theorem over : Rows.fnExactUndoEditsRow.holds Try.pinned (OpenSpec.ofChange Rows.fnExactUndoEditsSpec) :=
  OpenClaim.holds_of_wide 17 Try.f17 rfl rfl rfl rfl rfl rfl rfl ⟨rfl, rfl, rfl, rfl, rfl⟩ rfl rfl rfl rfl rfl (by kernel_rfl) Try.func17 closed
    (of_decide_eq_true (by kernel_rfl)) (by unfold Func.isWrapper; first | (rw [if_pos (by decide +kernel)]; kernel_rfl) | (rw [if_neg (by decide +kernel)]; exact ⟨rfl, rfl⟩))
    (fun os started H enc _ => lifted os started H enc)
theorem proved : Rows.FnExactUndoEditsSaid := over
#print axioms proved
end Go.Proofs.Ytghkbkbommobaaa.fnExactUndoEdits
namespace Go.Proofs.Ytghkbkbommobaaa
theorem fnExactUndoEdits_holds : Rows.FnExactUndoEditsSaid := fnExactUndoEdits.proved
end Go.Proofs.Ytghkbkbommobaaa
