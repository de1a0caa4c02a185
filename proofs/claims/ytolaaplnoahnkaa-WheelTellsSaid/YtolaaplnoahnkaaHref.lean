import Derived.Test.YtolaaplnoahnkaaHlist
import Derived.Test.YtolaaplnoahnkaaCcop
import Derived.Test.YtolaaplnoahnkaaCsame
namespace Go.Proofs.Ytolaaplnoahnkaa.C
open Go.RowKit Go.Sort Go.Proofs.YtolaaplnoahnkaaW.PrintWords Go.Proofs.YtolaaplnoahnkaaW.PrintLast Go.Proofs.YtolaaplnoahnkaaW.PrintMore
set_option linter.unusedVariables false
set_option linter.unusedSimpArgs false

instance : DecidableEq S33 := fun a b => decidable_of_iff (a.f0 = b.f0 ∧ a.f1 = b.f1) (by cases a; cases b; simp)
theorem copied_f (now : Int) (l : List S33) (hn : l.length ≤ 1000000) : mainsheetlaw15_copied.f now l = some (now, l) := by
  unfold mainsheetlaw15_copied.f
  simp only [Option.bind_some]
  rw [if_pos (by simp; omega)]
  rfl

theorem s33_ext (a b : S33) : (!(a.f0 == b.f0) || (!(a.f1 == b.f1))) = true ↔ a ≠ b := by
  cases a; cases b
  simp
  omega

theorem same_l0 (l m : List S33) (hlm : l.length = m.length) (hn : l.length ≤ 1000000) (d : Nat) : ∀ (k i : Nat), i ≤ l.length → l.length - i = d → d < k →
    mainsheetref15_SameTimers.l0 k l m i = some (decide (l.drop i = m.drop i)) := by
  induction d with
  | zero =>
    intro k i h0 h1 hk
    obtain ⟨k, rfl⟩ : ∃ q, k = q + 1 := ⟨k - 1, by omega⟩
    obtain rfl : i = l.length := by omega
    have e : m.drop l.length = [] := by rw [hlm]; simp
    simp [mainsheetref15_SameTimers.l0, e]
  | succ d ih =>
    intro k i h0 h1 hk
    obtain ⟨k, rfl⟩ : ∃ q, k = q + 1 := ⟨k - 1, by omega⟩
    have hlt : i < l.length := by omega
    have hltm : i < m.length := by omega
    have hd : l.drop i = l[i] :: l.drop (i + 1) := List.drop_eq_getElem_cons hlt
    have hdm : m.drop i = m[i] :: m.drop (i + 1) := List.drop_eq_getElem_cons hltm
    have hw : wrap64 ((i : Int) + 1) = ((i + 1 : Nat) : Int) := by rw [wrap64_id] <;> omega
    simp only [mainsheetref15_SameTimers.l0]
    rw [if_pos (by omega), if_pos (by omega), if_pos (by omega), rd_at l i hlt, rd_at m i hltm, hw, ih k (i + 1) (by omega) (by omega) (by omega), hd, hdm]
    by_cases c : (!(l[i].f0 == m[i].f0) || (!(l[i].f1 == m[i].f1))) = true
    · rw [if_pos c, decide_eq_false (fun h => (s33_ext _ _).1 c (by injection h))]
    · rw [if_neg c]
      have e : l[i] = m[i] := Classical.byContradiction fun h => c ((s33_ext _ _).2 h)
      congr 1
      rw [decide_eq_decide]
      constructor
      · intro h; rw [e, h]
      · intro h; injection h
theorem sameT_k (l m : List S33) (hn : l.length ≤ 1000000) (k : Nat) (hk : l.length + 1 ≤ k) : mainsheetref15_SameTimers.f k l m = some (decide (l = m)) := by
  unfold mainsheetref15_SameTimers.f
  by_cases h : l.length = m.length
  · rw [if_pos (by omega)]
    have := same_l0 l m h hn l.length k 0 (by omega) (by omega) (by omega)
    simpa using this
  · rw [if_neg (by omega), decide_eq_false (fun e => h (by rw [e]))]
theorem same_k (now : Int) (l : List S33) (now' : Int) (m : List S33) (hn : l.length ≤ 1000000) (k : Nat) (hk : l.length + 1 ≤ k) : mainsheetref15_Same.f k now l now' m = some (decide (now = now' ∧ l = m)) := by
  unfold mainsheetref15_Same.f
  by_cases h : now = now'
  · rw [if_pos h, sameT_k l m hn k hk]
    simp [h]
  · rw [if_neg h]; simp [h]

theorem right_l0 (now : Int) (l : List S33) (hn : l.length ≤ 1000000) (d : Nat) : ∀ (k i : Nat), i ≤ l.length → l.length - i = d → d < k →
    mainsheetref15_Right.l0 k i now l = some (okL now (prevOf l i) (l.drop i)) := by
  induction d with
  | zero =>
    intro k i h0 h1 hk
    obtain ⟨k, rfl⟩ : ∃ m, k = m + 1 := ⟨k - 1, by omega⟩
    obtain rfl : i = l.length := by omega
    simp [mainsheetref15_Right.l0, okL]
  | succ d ih =>
    intro k i h0 h1 hk
    obtain ⟨k, rfl⟩ : ∃ m, k = m + 1 := ⟨k - 1, by omega⟩
    have hlt : i < l.length := by omega
    have hd : l.drop i = l[i] :: l.drop (i + 1) := List.drop_eq_getElem_cons hlt
    have hw : wrap64 ((i : Int) + 1) = ((i + 1 : Nat) : Int) := by rw [wrap64_id] <;> omega
    have ihh := ih k (i + 1) (by omega) (by omega) (by omega)
    have hp : prevOf l (i + 1) = l[i].f0 := by simp [prevOf, List.getD_eq_getElem?_getD, hlt]
    simp only [mainsheetref15_Right.l0]
    rw [if_pos (by omega), if_pos (by omega), rd_at l i hlt, hd, okL]
    by_cases c0 : l[i].f0 < 0
    · have : okT now l[i] = false := by simp [okT]; omega
      rw [if_pos c0, this]; rfl
    by_cases c1 : l[i].f0 > 31
    · have : okT now l[i] = false := by simp [okT]; omega
      rw [if_neg c0, if_pos c1, this]; rfl
    by_cases c2 : l[i].f1 ≤ now
    · have : okT now l[i] = false := by simp [okT]; omega
      rw [if_neg c0, if_neg c1, if_pos c2, this]; rfl
    by_cases c3 : l[i].f1 > 1125899906842624
    · have : okT now l[i] = false := by simp [okT]; omega
      rw [if_neg c0, if_neg c1, if_neg c2, if_pos c3, this]; rfl
    have hok : okT now l[i] = true := by simp [okT]; omega
    rw [if_neg c0, if_neg c1, if_neg c2, if_neg c3, hok, Bool.true_and, hw, ihh, hp]
    by_cases c4 : (i : Int) > 0
    · have hw2 : wrap64 ((i : Int) - 1) = ((i - 1 : Nat) : Int) := by rw [wrap64_id] <;> omega
      have hpi : prevOf l i = l[i - 1].f0 := by
        unfold prevOf; rw [if_neg (by omega)]
        simp [List.getD_eq_getElem?_getD, show i - 1 < l.length by omega]
      rw [if_pos c4, hw2, if_pos (by omega), if_pos (by omega), rd_at l (i - 1) (by omega), hpi]
      by_cases c5 : l[i - 1].f0 ≥ l[i].f0
      · rw [if_pos c5, decide_eq_false (by omega)]; rfl
      · rw [if_neg c5, decide_eq_true (by omega), Bool.true_and]
    · rw [if_neg c4]
      obtain rfl : i = 0 := by omega
      have hp0 : prevOf l 0 = -1 := rfl
      rw [hp0, decide_eq_true (by omega), Bool.true_and]
theorem right_k (now : Int) (l : List S33) (hn : l.length ≤ 1000000) (k : Nat) (hk : l.length + 2 ≤ k) : mainsheetref15_Right.f k now l = some (okW now l) := by
  obtain ⟨k, rfl⟩ : ∃ m, k = m + 1 := ⟨k - 1, by omega⟩
  unfold mainsheetref15_Right.f
  by_cases h : now < 0
  · rw [if_pos h]
    have : okW now l = false := by unfold okW; rw [decide_eq_false (by omega)]; rfl
    simp [mainsheetref15_Right.j0, this]
  rw [if_neg h]
  by_cases h2 : now > 1125899906842624
  · rw [if_pos h2]
    have : okW now l = false := by unfold okW; rw [decide_eq_false (p := now ≤ _) (by omega)]; simp
    simp [mainsheetref15_Right.j0, this]
  rw [if_neg h2]
  simp only [mainsheetref15_Right.j0]
  by_cases h3 : (l.length : Int) > 32
  · rw [if_pos (by simpa using h3)]
    have : okW now l = false := by
      by_cases c : okW now l = true
      · have := okW_len c; omega
      · simpa using c
    rw [this]
  · rw [if_neg (by simpa using h3)]
    have := right_l0 now l hn l.length k 0 (by omega) (by omega) (by omega)
    simp only [List.drop_zero] at this
    rw [show ((0 : Nat) : Int) = 0 from rfl] at this
    rw [this]
    have : okW now l = okL now (-1) l := by unfold okW; rw [decide_eq_true (show 0 ≤ now by omega), decide_eq_true (show now ≤ 1125899906842624 by omega)]; simp
    rw [this]; rfl

end Go.Proofs.Ytolaaplnoahnkaa.C
