import Derived.Test.YtolaaplnoahnkaaHsl
import Derived.Maps.Own
import Derived.Maps.OwnOps
import Derived.Maps.OwnSet
namespace Go.Proofs.Ytolaaplnoahnkaa.C
open Go.RowKit Go.Maps Go.Proofs.YtolaaplnoahnkaaW.PrintWords Go.Proofs.YtolaaplnoahnkaaW.PrintLast Go.Proofs.YtolaaplnoahnkaaW.PrintMore
set_option linter.unusedVariables false
set_option linter.unusedSimpArgs false

/-! ### The map of the numbers met: each once -/
theorem law3 : Keyed Try.prog 3 := int_keyed Try.underlying3
theorem zero3 (w : World) : (zeroValue 3).run Try.prog w = .ok (.int .i64 0) w := by kernel_rfl
structure Met (D : DataW Unit) (ids : List Int) : Prop where
  td : Tidy D
  at_ : ∀ x : Int, D.atKey (.int .i64 x) (.lit (.int .i64 0)) = .lit (.int .i64 (if x ∈ ids then 1 else 0))
  has_ : ∀ x : Int, Maps.has D (.int .i64 x) = decide (x ∈ ids)
  sz : Maps.size D = ids.length
theorem Met.nil : Met (.map []) [] := ⟨tidy_empty, fun x => by simp [DataW.atKey], fun x => by simp [Maps.has], rfl⟩
theorem isKey_int (x : Int) : WideAt.IsKeyLit (.int .i64 x) := by simp [WideAt.IsKeyLit]
theorem Met.put {D : DataW Unit} {ids : List Int} (h : Met D ids) {x : Int} (hx : x ∉ ids) : Met (D.put (.int .i64 x) (.lit (.int .i64 1))) (ids ++ [x]) := by
  have hne : ∀ y : Int, y ≠ x → (Lit.int .i64 y) ≠ .int .i64 x := fun y hy e => hy (by injection e)
  refine ⟨h.td.put (isKey_int x) _, fun y => ?_, fun y => ?_, ?_⟩
  · by_cases c : y = x
    · subst c
      rw [atKey_put_same h.td.isMap (isKey_int y), if_pos (by simp)]
    · rw [atKey_put_other (hne y c), h.at_ y]
      simp [c]
  · by_cases c : y = x
    · subst c
      rw [has_put_same h.td.isMap (isKey_int y)]
      simp
    · rw [has_put_other (hne y c), h.has_ y]
      simp [c]
  · rw [size_put h.td, h.has_ x]
    simp [hx, h.sz]
theorem ownsMap_below {H : Type} {P : Program} {k : TypeId} {R : Value → Option (DataW H × List MemPlace)} {w w' : World} {b n : Nat} {D : DataW H} (h : w.ownsMap P k R b n D) (hb : Below w.heap.size w w') : w'.ownsMap P k R b n D := by
  have hl := h.lt
  obtain ⟨es, clock, h1, h2, h3, h4⟩ := h
  exact ⟨es, clock, (hb.block b hl).trans h1, h2, h3, h4⟩
end Go.Proofs.Ytolaaplnoahnkaa.C
