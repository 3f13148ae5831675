/- The builtin copy of one whole row over another one of the same length that the call itself has made, for elements of any number of cells whose cells lead nowhere. No condition; laws for the walks. -/
import Derived.Test.YtghkbkbommobaaaDoorWMore
import Derived.Laws.CopyOwn
namespace Go.Proofs.YtghkbkbommobaaaDoor.Copy
open Go.RowKit Go.Proofs.YtghkbkbommobaaaDoorW.PrintWords Go.Proofs.YtghkbkbommobaaaDoorW.PrintLast
set_option linter.unusedVariables false
set_option linter.unusedSimpArgs false
/-- A kind whose cells lead nowhere: what reads as one is one, in whatever world. -/
def Flat {α : Type} (d : Kd α) : Prop := ∀ {w w' : World} {base : Nat} {ok : Nat → Prop} {x : α} {cs : List Value}, d.K w x cs → d.M w' base ok x cs
theorem flat_int (k : IntKind) : Flat (Kd.int k) := fun h => h
theorem flat_bool : Flat Kd.bool := fun h => h
theorem flat_string : Flat Kd.string := fun h => h
theorem flat_pair {α β : Type} {a : Kd α} {b : Kd β} (ha : Flat a) (hb : Flat b) : Flat (Kd.pair a b) := fun h => by
  obtain ⟨c0, c1, rfl, h0, h1⟩ := h
  exact ⟨c0, c1, rfl, ha h0, hb h1⟩
theorem flat_iso {α β : Type} {d : Kd α} (f : β → α) (h : Flat d) : Flat (Kd.iso d f) := fun hk => h hk
theorem run_copy_rows {P : Program} (w : World) (dT sT ty elem : TypeId) (g dCap : Nat) (a : Addr) (n sCap sz : Nat) (cur : Array Value) (t : TypeId) (cs : List Value)
    (hu : P.underlying dT = some (.slice elem)) (hs : (P.info? elem).map (·.size) = some sz)
    (hg : w.heap[g]? = some (.cells cur t (0, 0))) (hn : cs.length = n * sz)
    (hsrc : ∀ j v, cs[j]? = some v → w.cell? (a.add j) = some v) (hfit : cs.length ≤ cur.size) (h1 : ∀ v ∈ cs, v.oneCell' = true) :
    (Builtin.copy_ #[dT, sT] ty #[.slice (some ⟨g, 0, none⟩) n dCap, .slice (some a) n sCap]).run P w =
      .ok (goInt n) (w.setRow g (cs ++ cur.toList.drop cs.length).toArray) := by
  have hl := run_loadCells_list (P := P) w a cs hsrc
  have hst := run_storeCells_at P g 0 t cs 0 cur w hg (by simpa using hfit) h1
  simp only [Nat.zero_add, List.take_zero, List.nil_append] at hst
  cases hq : P.info? elem with
  | none => simp [hq] at hs
  | some i =>
    have hi : i.size = sz := by simpa [hq] using hs
    simp [Builtin.copy_, run_underlying hu, Builtin.lenOf, Builtin.firstCells, sizeOf, typeInfo, hq, hi, ← hn, hl, hst]
/-- copy(out, list): out is the call's own row and as long as list. -/
theorem wpList_copy_kd {α : Type} {P : Program} {w : World} {ops : Array Oper} {rest : List Oper} {o : Oper} {a : Act} {Q : Exit → Act → World → Prop} (d : Kd α) (hflat : Flat d) (hgd : o.guard = none) (x y : Operand) (dT sT e : TypeId)
    (ho : o.op = .call { callee := .builtin .copy, args := #[x, y], argTypes := #[dT, sT] }) (hu : P.underlying dT = some (.slice e)) (hsz : (P.info? e).map (·.size) = some d.sz) (hs0 : 0 < d.sz)
    {base : Nat} {ok : Nat → Prop} {v : Value} {A : Option Addr} {c : Nat} {xs ys : List α} (hd : a.eval x = v) (hs : a.eval y = .slice A ys.length c)
    (HO : Kd.R d e w base ok v xs) (HC : Kd.C d w A ys.length ys) (hlen : xs.length = ys.length) (hpos : 0 < ys.length)
    {w0 : World} (HB : Below base w0 w)
    (h : ∀ w', Kd.R d e w' base ok v ys → Below base w0 w' → wpList P ops Q rest (a.put o.dst (goInt ys.length)) w') : wpList P ops Q (o :: rest) a w := by
  obtain ⟨h0, inner, hown, hr⟩ := HO
  obtain ⟨h1, h2⟩ := hown
  rcases h2 with ⟨_, hz⟩ | ⟨g, cap, cur, rfl, hb, hh, hnc, hcm, hcs, ht⟩
  · omega
  · obtain ⟨ad, rfl, _⟩ := HC.2.2 hpos
    obtain ⟨cs, hreps, hcell⟩ := ReadsRow.inner_ HC
    have hlcs : cs.length = ys.length * d.sz := hreps.1
    have hone : ∀ u ∈ cs, u.oneCell' = true := by
      intro u hu
      obtain ⟨j, hj⟩ := List.getElem?_of_mem hu
      have hjl : j < cs.length := (List.getElem?_eq_some_iff.mp hj).1
      have hjd : j / d.sz < ys.length := by rw [Nat.div_lt_iff_lt_mul hs0]; omega
      have hk := hreps.2 (j / d.sz) _ (List.getElem?_eq_getElem hjd)
      refine d.K_one hk u ?_
      have hm : j % d.sz < d.sz := Nat.mod_lt _ hs0
      have he : j / d.sz * d.sz + j % d.sz = j := by rw [Nat.mul_comm]; exact Nat.div_add_mod j d.sz
      have : ((cs.drop (j / d.sz * d.sz)).take d.sz)[j % d.sz]? = some u := by
        rw [List.getElem?_take, if_pos hm, List.getElem?_drop, he, hj]
      exact List.mem_of_getElem? this
    have hfit : cs.length ≤ cur.size := by
      rw [hlcs, hcs, ← hlen]
      exact Nat.mul_le_mul_right _ hnc
    have hrun := run_copy_rows (P := P) w dT sT o.type e g cap ad ys.length c d.sz cur e cs hu hsz hh hlcs hcell hfit hone
    refine wpList_plain hgd fun K hK => ?_
    unfold Oper.wp
    rw [hlen] at hd
    simp only [execOp, ho, resolve, invoke, builtin, List.map_toArray, List.map_cons, List.map_nil, hd, hs, Sem.run_bind, Sem.run_pure, Result.andThen_ok, hrun]
    refine hK _ _ (h _ ⟨h0, cs, ⟨by rw [hlcs], .inr ⟨g, cap, (cs ++ cur.toList.drop cs.length).toArray, ?_, hb, setRow_heap w g cur _ e _ hh, by omega, hcm, ?_, ?_⟩⟩, hreps.1, fun j p hj => hflat (hreps.2 j p hj)⟩ (below_setRow HB hb _))
    · rw [hlen]
    · simp
      omega
    · rw [← hlcs]
      simp
