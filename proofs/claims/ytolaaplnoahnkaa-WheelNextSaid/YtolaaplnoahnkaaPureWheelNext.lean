import Derived.Test.YtolaaplnoahnkaaHwake
import Derived.Test.YtolaaplnoahnkaaC14
namespace Go.Proofs.Ytolaaplnoahnkaa.C
open Go.RowKit Go.Sort Go.Proofs.YtolaaplnoahnkaaW.PrintWords Go.Proofs.YtolaaplnoahnkaaW.PrintLast Go.Proofs.YtolaaplnoahnkaaW.PrintMore
set_option linter.unusedVariables false
set_option linter.unusedSimpArgs false

theorem minK_le (l : List S33) : ∀ k, k < l.length → ∀ j, j ≤ k → (minK l k).f1 ≤ (l.getD j z33).f1
  | 0, h, j, hj => by obtain rfl : j = 0 := by omega
                      exact Int.le_refl _
  | k + 1, h, j, hj => by
    have ih := minK_le l k (by omega)
    have hlt := ordF_lt (l.getD (k + 1) z33) (minK l k)
    unfold minK
    by_cases c : ordF (l.getD (k + 1) z33) (minK l k) < 0
    · rw [if_pos c]
      have h1 : (l.getD (k + 1) z33).f1 ≤ (minK l k).f1 := by
        have h3 : ltOf ordF (l.getD (k + 1) z33) (minK l k) = true := by unfold ltOf; exact decide_eq_true c
        rw [h3] at hlt
        have := of_decide_eq_true hlt.symm
        omega
      rcases Nat.lt_or_ge j (k + 1) with h2 | h2
      · have := ih j (by omega); omega
      · obtain rfl : j = k + 1 := by omega
        exact Int.le_refl _
    · rw [if_neg c]
      rcases Nat.lt_or_ge j (k + 1) with h2 | h2
      · exact ih j (by omega)
      · obtain rfl : j = k + 1 := by omega
        have : ¬ ((l.getD (k + 1) z33).f1 < (minK l k).f1) := by
          intro h3
          rw [decide_eq_true (Or.inl h3)] at hlt
          exact c (by unfold ltOf at hlt; exact of_decide_eq_true hlt)
        omega
theorem minK_mem (l : List S33) : ∀ k, k < l.length → ∃ j, j ≤ k ∧ minK l k = l.getD j z33
  | 0, h => ⟨0, Nat.le_refl _, rfl⟩
  | k + 1, h => by
    obtain ⟨j, hj, e⟩ := minK_mem l k (by omega)
    unfold minK
    split
    · exact ⟨k + 1, Nat.le_refl _, rfl⟩
    · exact ⟨j, by omega, e⟩
theorem minAt_le (l : List S33) (t : S33) (ht : t ∈ l) : minAt l ≤ t.f1 := by
  obtain ⟨j, hj, rfl⟩ := List.getElem_of_mem ht
  have := minK_le l (l.length - 1) (by omega) j (by omega)
  rw [List.getD_eq_getElem?_getD, List.getElem?_eq_getElem hj] at this
  exact this
theorem minAt_mem (l : List S33) (h : 0 < l.length) : ∃ t ∈ l, minAt l = t.f1 := by
  obtain ⟨j, hj, e⟩ := minK_mem l (l.length - 1) (by omega)
  have hj' : j < l.length := by omega
  refine ⟨l[j], List.getElem_mem hj', ?_⟩
  unfold minAt
  rw [e, List.getD_eq_getElem?_getD, List.getElem?_eq_getElem hj']
  rfl

theorem okW_all {now : Int} {l : List S33} (h : okW now l = true) : 0 ≤ now ∧ now ≤ 1125899906842624 ∧ ∀ t ∈ l, okT now t = true := by
  unfold okW at h
  simp only [Bool.and_eq_true, decide_eq_true_eq] at h
  exact ⟨h.1, h.2.1, okL_mem now l (-1) h.2.2⟩
theorem okT_at {now : Int} {t : S33} (h : okT now t = true) : 0 ≤ t.f0 ∧ t.f0 < 32 ∧ now < t.f1 ∧ t.f1 ≤ 1125899906842624 := by
  simpa [okT] using h
theorem okL_later {now now' : Int} : ∀ (l : List S33) (last : Int), okL now last l = true → (∀ t ∈ l, now' < t.f1) → okL now' last l = true
  | [], _, _, _ => rfl
  | t :: r, last, h, hl => by
    simp only [okL, Bool.and_eq_true] at h ⊢
    have h1 := okT_at h.1
    refine ⟨?_, h.2.1, okL_later r t.f0 h.2.2 (fun x hx => hl x (List.mem_cons_of_mem _ hx))⟩
    have := hl t List.mem_cons_self
    simp [okT]; omega
theorem okW_later {now now' : Int} {l : List S33} (h : okW now l = true) (h0 : 0 ≤ now') (h1 : now' ≤ 1125899906842624) (hl : ∀ t ∈ l, now' < t.f1) : okW now' l = true := by
  unfold okW at h ⊢
  simp only [Bool.and_eq_true, decide_eq_true_eq] at h ⊢
  exact ⟨h0, h1, okL_later l (-1) h.2.2 hl⟩

theorem filter_len (l : List S33) (t : Int) : (l.filter (fun x => decide (t < x.f1))).length + (l.filter (fun x => decide (x.f1 ≤ t))).length = l.length := by
  induction l with
  | nil => rfl
  | cons x r ih =>
    simp only [List.filter_cons]
    by_cases h : t < x.f1
    · have : ¬ x.f1 ≤ t := by omega
      simp [h, this]; omega
    · have : x.f1 ≤ t := by omega
      simp [h, this]; omega
theorem sortT_len (l : List S33) : (sortT l).length = l.length := List.length_mergeSort l
theorem sortT_mem (l : List S33) (t : S33) : t ∈ sortT l ↔ t ∈ l := List.mem_mergeSort

theorem wheelNext_true (now : Int) (l : List S33) : mainsheetlaw15_WheelNext.f 200 now l = some true := by
  unfold mainsheetlaw15_WheelNext.f
  rw [wakes_k 200 (by omega)]
  simp only [Option.bind_some, if_true]
  by_cases h100 : (l.length : Int) > 100
  · rw [if_pos h100]
  rw [if_neg h100]
  have hn : l.length ≤ 100 := by omega
  have hN : wheel_Next.f now l = some (if okW now l = true ∧ 0 < l.length then (minAt l, true) else (0, false)) := by unfold wheel_Next.f; rw [if_pos (by omega)]
  rw [hN]
  simp only [Option.bind_some]
  by_cases hok : okW now l = true ∧ 0 < l.length
  · rw [if_pos hok]
    simp only [if_true]
    obtain ⟨hk, hp⟩ := hok
    obtain ⟨h0, h1, hm⟩ := okW_all hk
    obtain ⟨t, ht, e⟩ := minAt_mem l hp
    have htk := okT_at (hm t ht)
    have hw : wrap64 (minAt l - 1) = minAt l - 1 := by rw [wrap64_id] <;> omega
    have hmin : ∀ x ∈ l, minAt l ≤ x.f1 := minAt_le l
    have hp1 : passF now l (minAt l - 1) = (minAt l - 1, l, [], 0) := by
      unfold passF passOk
      rw [if_pos hk, if_neg (by omega)]
      have e1 : l.filter (fun x => decide (minAt l - 1 < x.f1)) = l := List.filter_eq_self.2 (fun x hx => by have := hmin x hx; simp; omega)
      have e2 : l.filter (fun x => decide (x.f1 ≤ minAt l - 1)) = [] := List.filter_eq_nil_iff.2 (fun x hx => by have := hmin x hx; simp; omega)
      rw [e1, e2]
      have : sortT [] = [] := List.eq_nil_of_length_eq_zero (sortT_len [])
      rw [this]
    have hp2 : passF (minAt l - 1) l (minAt l) = passOk (minAt l) l := by
      unfold passF
      rw [if_pos (okW_later hk (by omega) (by omega) (fun x hx => by have := hmin x hx; omega)), if_neg (by omega)]
    rw [hw, pass_k now l _ (by omega) 200 (by omega), hp1]
    simp only [Option.bind_some]
    rw [pass_k _ l _ (by omega) 200 (by omega), hp2]
    simp only [Option.bind_some]
    unfold passOk
    simp only
    have hlen := filter_len l (minAt l)
    have hs := sortT_len (l.filter (fun x => decide (x.f1 ≤ minAt l)))
    have hpos : 0 < (sortT (l.filter (fun x => decide (x.f1 ≤ minAt l)))).length := by
      rw [hs]
      exact List.length_pos_of_mem (List.mem_filter.2 ⟨ht, by simp; omega⟩)
    have hhead : (rd_T33 (sortT (l.filter (fun x => decide (x.f1 ≤ minAt l)))) 0).f1 = minAt l := by
      have hr := rd_at (sortT (l.filter (fun x => decide (x.f1 ≤ minAt l)))) 0 hpos
      rw [show ((0 : Nat) : Int) = 0 from rfl] at hr
      rw [hr]
      have hmem := List.getElem_mem hpos
      rw [sortT_mem, List.mem_filter] at hmem
      have := hmin _ hmem.1
      have h2 := hmem.2
      simp at h2
      omega
    rw [if_pos trivial, if_pos trivial, if_pos (by simp), if_pos (by omega), if_pos (by omega), if_pos hhead]
    have hw2 : wrap64 (((l.filter (fun x => decide (minAt l < x.f1))).length : Int) + ((sortT (l.filter (fun x => decide (x.f1 ≤ minAt l)))).length : Int)) = (l.length : Int) := by
      rw [wrap64_id] <;> omega
    rw [hw2]
    simp
  · rw [if_neg hok]
    simp only [Bool.false_eq_true, if_false]
    rw [check_k now l (by omega) 200 (by omega)]
    simp only [Option.bind_some]
    by_cases hk : okW now l = true
    · have : l.length = 0 := by
        rcases Nat.eq_zero_or_pos l.length with h | h
        · exact h
        · exact absurd ⟨hk, h⟩ hok
      simp [hk, this]
    · simp [hk]
end Go.Proofs.Ytolaaplnoahnkaa.C
