/- A new row of strings, as the print's words tell a row. No condition. -/
import Derived.Test.YtghkbkbommobaaaDoorWMore
namespace Go.Proofs.YtghkbkbommobaaaDoor.Strs
open Go.RowKit Go.Proofs.YtghkbkbommobaaaDoorW.PrintWords Go.Proofs.YtghkbkbommobaaaDoorW.PrintLast
theorem R_strings (w : World) (e : Nat) (xs : List ByteArray) (hl : xs.length ≤ 9223372036854775807) : Kd.R Kd.string e (w.alloc (.cells (xs.map Value.string).toArray e)) w.heap.size (fun _ => True) (.slice (some ⟨w.heap.size, 0, none⟩) xs.length xs.length) xs := by
  have h2 := World.ownsRow_lit (base := w.heap.size) (e := e) (size := 1) w (xs.map Value.string).toArray xs.length (Nat.le_refl _) (by simpa [maxLen] using hl) (by simp)
  rw [List.toList_toArray] at h2
  refine ⟨fun _ _ => trivial, xs.map Value.string, h2, by simp [Kd.string, Kd.scalar], fun j p hj => ?_⟩
  show _ = [Value.string p]
  obtain ⟨hjl, hp⟩ := List.getElem?_eq_some_iff.1 hj
  show ((xs.map Value.string).drop (j * 1)).take 1 = [Value.string p]
  rw [Nat.mul_one, List.drop_eq_getElem_cons (by simpa using hjl)]
  simp [hp]
end Go.Proofs.YtghkbkbommobaaaDoor.Strs
