import Derived.Test.YtolaaplnoahnkaaHsl
import Derived.Test.YtolaaplnoahnkaaHmin
namespace Go.Proofs.Ytolaaplnoahnkaa.C
open Go.RowKit Go.Proofs.YtolaaplnoahnkaaW.PrintWords Go.Proofs.YtolaaplnoahnkaaW.PrintLast Go.Proofs.YtolaaplnoahnkaaW.PrintMore
set_option linter.unusedVariables false
set_option linter.unusedSimpArgs false

/-- The least level. -/
def leastF (now : Int) (l : List S33) : Int := l.foldl (fun a t => min a (placeF now t.f1).1) 9
theorem leastF_snoc (now : Int) (l : List S33) (t : S33) : leastF now (l ++ [t]) = min (leastF now l) (placeF now t.f1).1 := by simp [leastF, List.foldl_append]
theorem fold_le (now : Int) : ∀ (l : List S33) (a : Int), l.foldl (fun a t => min a (placeF now t.f1).1) a ≤ a ∧ ∀ t ∈ l, l.foldl (fun a t => min a (placeF now t.f1).1) a ≤ (placeF now t.f1).1
  | [], a => ⟨Int.le_refl _, fun t h => by cases h⟩
  | u :: l, a => by
    obtain ⟨h1, h2⟩ := fold_le now l (min a (placeF now u.f1).1)
    simp only [List.foldl_cons]
    refine ⟨by omega, fun t ht => ?_⟩
    rcases List.mem_cons.1 ht with rfl | ht
    · omega
    · exact h2 t ht
theorem fold_ge (now x : Int) : ∀ (l : List S33) (a : Int), x ≤ a → (∀ t ∈ l, x ≤ (placeF now t.f1).1) → x ≤ l.foldl (fun a t => min a (placeF now t.f1).1) a
  | [], a, h, _ => h
  | u :: l, a, h, hl => by
    simp only [List.foldl_cons]
    have := hl u List.mem_cons_self
    exact fold_ge now x l _ (by omega) (fun t ht => hl t (List.mem_cons_of_mem _ ht))
theorem least_min {now : Int} {l : List S33} (hok : okW now l = true) {t : S33} (ht : t ∈ l) (hm : t.f1 = minAt l) : (placeF now t.f1).1 = leastF now l := by
  have hn := okW_now hok
  have hb := okW_mem hok ht
  have h1 := (fold_le now l 9).2 t ht
  have h2 : (placeF now t.f1).1 ≤ leastF now l := by
    refine fold_ge now _ l 9 ?_ (fun u hu => ?_)
    · obtain ⟨lv, p1, p2, _⟩ := place_spec hn.1 hb.2.2.1 hb.2.2.2
      rw [p2]; simp only; omega
    · have hu' := okW_mem hok hu
      exact place_mono hn.1 hb.2.2.1 (by rw [hm]; exact minAt_le l u hu) hu'.2.2.2
  unfold leastF at h2 ⊢
  omega
end Go.Proofs.Ytolaaplnoahnkaa.C
