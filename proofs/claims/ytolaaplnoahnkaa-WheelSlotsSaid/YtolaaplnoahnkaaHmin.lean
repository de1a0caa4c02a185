import Derived.Test.YtolaaplnoahnkaaHwake
namespace Go.Proofs.Ytolaaplnoahnkaa.C
open Go.RowKit Go.Sort Go.Proofs.YtolaaplnoahnkaaW.PrintWords Go.Proofs.YtolaaplnoahnkaaW.PrintLast Go.Proofs.YtolaaplnoahnkaaW.PrintMore
set_option linter.unusedVariables false
set_option linter.unusedSimpArgs false

theorem minK_le (l : List S33) : ∀ k, k < l.length → ∀ j, j ≤ k → (minK l k).f1 ≤ (l.getD j z33).f1
  | 0, h, j, hj => by obtain rfl : j = 0 := by omega
                      exact Int.le_refl _
  | k + 1, h, j, hj => by
    have ih := minK_le l k (by omega)
    have hlt := ordF_lt (l.getD (k + 1) z33) (minK l k)
    unfold minK
    by_cases c : ordF (l.getD (k + 1) z33) (minK l k) < 0
    · rw [if_pos c]
      have h1 : (l.getD (k + 1) z33).f1 ≤ (minK l k).f1 := by
        have h3 : ltOf ordF (l.getD (k + 1) z33) (minK l k) = true := by unfold ltOf; exact decide_eq_true c
        rw [h3] at hlt
        have := of_decide_eq_true hlt.symm
        omega
      rcases Nat.lt_or_ge j (k + 1) with h2 | h2
      · have := ih j (by omega); omega
      · obtain rfl : j = k + 1 := by omega
        exact Int.le_refl _
    · rw [if_neg c]
      rcases Nat.lt_or_ge j (k + 1) with h2 | h2
      · exact ih j (by omega)
      · obtain rfl : j = k + 1 := by omega
        have : ¬ ((l.getD (k + 1) z33).f1 < (minK l k).f1) := by
          intro h3
          rw [decide_eq_true (Or.inl h3)] at hlt
          exact c (by unfold ltOf at hlt; exact of_decide_eq_true hlt)
        omega
theorem minAt_le (l : List S33) (t : S33) (ht : t ∈ l) : minAt l ≤ t.f1 := by
  obtain ⟨j, hj, rfl⟩ := List.getElem_of_mem ht
  have := minK_le l (l.length - 1) (by omega) j (by omega)
  rw [List.getD_eq_getElem?_getD, List.getElem?_eq_getElem hj] at this
  exact this
theorem okW_all {now : Int} {l : List S33} (h : okW now l = true) : 0 ≤ now ∧ now ≤ 1125899906842624 ∧ ∀ t ∈ l, okT now t = true := by
  unfold okW at h
  simp only [Bool.and_eq_true, decide_eq_true_eq] at h
  exact ⟨h.1, h.2.1, okL_mem now l (-1) h.2.2⟩
end Go.Proofs.Ytolaaplnoahnkaa.C
