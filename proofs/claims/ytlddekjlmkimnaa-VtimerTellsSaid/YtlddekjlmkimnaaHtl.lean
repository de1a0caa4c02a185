import Derived.Test.YtlddekjlmkimnaaHwk18
import Derived.Test.YtlddekjlmkimnaaC25
import Derived.Test.YtlddekjlmkimnaaC26
namespace Go.Proofs.Ytlddekjlmkimnaa.C
open Go.RowKit Go.Proofs.YtlddekjlmkimnaaW.PrintWords Go.Proofs.YtlddekjlmkimnaaW.PrintLast Go.Proofs.YtlddekjlmkimnaaW.PrintMore
set_option linter.unusedVariables false
set_option linter.unusedSimpArgs false

theorem short_f (now : Int) (ts : List S88) (rs : List S47) : mainsheetlaw18_short.f now ts rs = some (now, ts.take 33, rs.take 17) := by
  unfold mainsheetlaw18_short.f
  have m1 : mn (ts.length : Int) 33 = ((min ts.length 33 : Nat) : Int) := by unfold mn; split <;> omega
  have m2 : mn (rs.length : Int) 17 = ((min rs.length 17 : Nat) : Int) := by unfold mn; split <;> omega
  have t1 : ts.take (min ts.length 33) = ts.take 33 := by
    rcases Nat.le_total ts.length 33 with h | h
    · rw [Nat.min_eq_left h, List.take_length, List.take_of_length_le h]
    · rw [Nat.min_eq_right h]
  have t2 : rs.take (min rs.length 17) = rs.take 17 := by
    rcases Nat.le_total rs.length 17 with h | h
    · rw [Nat.min_eq_left h, List.take_length, List.take_of_length_le h]
    · rw [Nat.min_eq_right h]
  rw [m1, m2, if_pos (by omega), if_pos (by omega), if_pos (by omega), if_pos (by omega)]
  simp only [Int.toNat_natCast]
  rw [t1, t2]
  unfold mainsheetref18_Copy.f
  have l1 : (ts.take 33).length ≤ 33 := by rw [List.length_take]; omega
  have l2 : (rs.take 17).length ≤ 17 := by rw [List.length_take]; omega
  simp only [Option.bind_some, List.length_nil, Nat.zero_add, List.nil_append]
  rw [if_pos (by omega), if_pos (by omega)]
  rfl

instance : DecidableEq S47 := fun a b => decidable_of_iff (a.f0 = b.f0 ∧ a.f1 = b.f1 ∧ a.f2 = b.f2) (by cases a; cases b; simp)
theorem s47_ext (a b : S47) : (!(a.f0 == b.f0) || (!(a.f1 == b.f1) || (!(a.f2 == b.f2)))) = true ↔ a ≠ b := by
  cases a; cases b
  simp [S47.mk.injEq]
  omega
theorem eqT_l0 (l m : List S88) (hlm : l.length = m.length) (hn : l.length ≤ 1000000) (d : Nat) : ∀ (k i : Nat), i ≤ l.length → l.length - i = d → d < k →
    api_Timer_66.l0 k l m l.length i = some (decide (l.drop i = m.drop i)) := by
  induction d with
  | zero =>
    intro k i h0 h1 hk
    obtain ⟨k, rfl⟩ : ∃ q, k = q + 1 := ⟨k - 1, by omega⟩
    obtain rfl : i = l.length := by omega
    have e : m.drop l.length = [] := by rw [hlm]; simp
    simp [api_Timer_66.l0, e]
  | succ d ih =>
    intro k i h0 h1 hk
    obtain ⟨k, rfl⟩ : ∃ q, k = q + 1 := ⟨k - 1, by omega⟩
    have hlt : i < l.length := by omega
    have hltm : i < m.length := by omega
    have hd : l.drop i = l[i] :: l.drop (i + 1) := List.drop_eq_getElem_cons hlt
    have hdm : m.drop i = m[i] :: m.drop (i + 1) := List.drop_eq_getElem_cons hltm
    have hw : wrap64 ((i : Int) + 1) = ((i + 1 : Nat) : Int) := by rw [wrap64_id] <;> omega
    simp only [api_Timer_66.l0]
    rw [if_pos (by omega), if_pos (by omega), if_pos (by omega), if_pos (by omega), rd_at l i hlt, rd_at m i hltm, hw, ih k (i + 1) (by omega) (by omega) (by omega), hd, hdm]
    by_cases c : (!(l[i].f0 == m[i].f0) || (!(l[i].f1 == m[i].f1))) = true
    · rw [if_pos c, decide_eq_false (fun h => (s88_ext _ _).1 c (by injection h))]
    · rw [if_neg c]
      have e : l[i] = m[i] := Classical.byContradiction fun h => c ((s88_ext _ _).2 h)
      congr 1
      rw [decide_eq_decide]
      constructor
      · intro h; rw [e, h]
      · intro h; injection h
theorem sameW_k (now : Int) (l : List S88) (now' : Int) (m : List S88) (hn : l.length ≤ 1000000) (k : Nat) (hk : l.length + 1 ≤ k) : wheel_Same.f k now l now' m = some (decide (now = now' ∧ l = m)) := by
  have hT : api_Timer_66.f k l m = some (decide (l = m)) := by
    unfold api_Timer_66.f
    by_cases h : l.length = m.length
    · rw [if_pos (by omega)]
      have := eqT_l0 l m h hn l.length k 0 (by omega) (by omega) (by omega)
      simpa using this
    · rw [if_neg (by omega), decide_eq_false (fun e => h (by rw [e]))]
  unfold wheel_Same.f
  by_cases h : now = now'
  · rw [if_pos h, hT]
    simp [h]
  · rw [if_neg h]; simp [h]
theorem eqA_l0 (l m : List S47) (hlm : l.length = m.length) (hn : l.length ≤ 1000000) (d : Nat) : ∀ (k i : Nat), i ≤ l.length → l.length - i = d → d < k →
    api_Alarm.l0 k l m l.length i = some (decide (l.drop i = m.drop i)) := by
  induction d with
  | zero =>
    intro k i h0 h1 hk
    obtain ⟨k, rfl⟩ : ∃ q, k = q + 1 := ⟨k - 1, by omega⟩
    obtain rfl : i = l.length := by omega
    have e : m.drop l.length = [] := by rw [hlm]; simp
    simp [api_Alarm.l0, e]
  | succ d ih =>
    intro k i h0 h1 hk
    obtain ⟨k, rfl⟩ : ∃ q, k = q + 1 := ⟨k - 1, by omega⟩
    have hlt : i < l.length := by omega
    have hltm : i < m.length := by omega
    have hd : l.drop i = l[i] :: l.drop (i + 1) := List.drop_eq_getElem_cons hlt
    have hdm : m.drop i = m[i] :: m.drop (i + 1) := List.drop_eq_getElem_cons hltm
    have hw : wrap64 ((i : Int) + 1) = ((i + 1 : Nat) : Int) := by rw [wrap64_id] <;> omega
    simp only [api_Alarm.l0]
    rw [if_pos (by omega), if_pos (by omega), if_pos (by omega), if_pos (by omega), rdA_at l i hlt, rdA_at m i hltm, hw, ih k (i + 1) (by omega) (by omega) (by omega), hd, hdm]
    by_cases c : (!(l[i].f0 == m[i].f0) || (!(l[i].f1 == m[i].f1) || (!(l[i].f2 == m[i].f2)))) = true
    · rw [if_pos c, decide_eq_false (fun h => (s47_ext _ _).1 c (by injection h))]
    · rw [if_neg c]
      have e : l[i] = m[i] := Classical.byContradiction fun h => c ((s47_ext _ _).2 h)
      congr 1
      rw [decide_eq_decide]
      constructor
      · intro h; rw [e, h]
      · intro h; injection h
theorem sameV_k (now : Int) (ts : List S88) (rs : List S47) (now' : Int) (ts' : List S88) (rs' : List S47) (h1 : ts.length ≤ 1000000) (h2 : rs.length ≤ 1000000) (k : Nat) (hk : ts.length + rs.length + 1 ≤ k) :
    vtimer_Same.f k now ts rs now' ts' rs' = some (decide (now = now' ∧ ts = ts' ∧ rs = rs')) := by
  have hA : api_Alarm.f k rs rs' = some (decide (rs = rs')) := by
    unfold api_Alarm.f
    by_cases h : rs.length = rs'.length
    · rw [if_pos (by omega)]
      have := eqA_l0 rs rs' h h2 rs.length k 0 (by omega) (by omega) (by omega)
      simpa using this
    · rw [if_neg (by omega), decide_eq_false (fun e => h (by rw [e]))]
  unfold vtimer_Same.f
  rw [sameW_k now ts now' ts' h1 k (by omega)]
  simp only [Option.bind_some]
  by_cases h : now = now' ∧ ts = ts'
  · rw [decide_eq_true h, if_pos rfl, hA]
    simp [h.1, h.2]
  · rw [decide_eq_false h, if_neg (by simp)]
    have : ¬ (now = now' ∧ ts = ts' ∧ rs = rs') := fun hh => h ⟨hh.1, hh.2.1⟩
    rw [decide_eq_false this]
theorem sameR_l0 (now : Int) (ts : List S88) (l : List S47) (now' : Int) (ts' : List S88) (m : List S47) (hlm : l.length = m.length) (hn : l.length ≤ 1000000) (d : Nat) : ∀ (k i : Nat), i ≤ l.length → l.length - i = d → d < k →
    mainsheetref18_Same.l0 k l.length i now ts l now' ts' m = some (decide (l.drop i = m.drop i)) := by
  induction d with
  | zero =>
    intro k i h0 h1 hk
    obtain ⟨k, rfl⟩ : ∃ q, k = q + 1 := ⟨k - 1, by omega⟩
    obtain rfl : i = l.length := by omega
    have e : m.drop l.length = [] := by rw [hlm]; simp
    simp [mainsheetref18_Same.l0, e]
  | succ d ih =>
    intro k i h0 h1 hk
    obtain ⟨k, rfl⟩ : ∃ q, k = q + 1 := ⟨k - 1, by omega⟩
    have hlt : i < l.length := by omega
    have hltm : i < m.length := by omega
    have hd : l.drop i = l[i] :: l.drop (i + 1) := List.drop_eq_getElem_cons hlt
    have hdm : m.drop i = m[i] :: m.drop (i + 1) := List.drop_eq_getElem_cons hltm
    have hw : wrap64 ((i : Int) + 1) = ((i + 1 : Nat) : Int) := by rw [wrap64_id] <;> omega
    simp only [mainsheetref18_Same.l0]
    rw [if_pos (by omega), if_pos (by omega), if_pos (by omega), if_pos (by omega), rdA_at l i hlt, rdA_at m i hltm, hw, ih k (i + 1) (by omega) (by omega) (by omega), hd, hdm]
    by_cases c : (!(l[i].f0 == m[i].f0) || (!(l[i].f1 == m[i].f1) || (!(l[i].f2 == m[i].f2)))) = true
    · rw [if_pos c, decide_eq_false (fun h => (s47_ext _ _).1 c (by injection h))]
    · rw [if_neg c]
      have e : l[i] = m[i] := Classical.byContradiction fun h => c ((s47_ext _ _).2 h)
      congr 1
      rw [decide_eq_decide]
      constructor
      · intro h; rw [e, h]
      · intro h; injection h
theorem sameR_k (now : Int) (ts : List S88) (rs : List S47) (now' : Int) (ts' : List S88) (rs' : List S47) (h1 : ts.length ≤ 1000000) (h2 : rs.length ≤ 1000000) (k : Nat) (hk : ts.length + rs.length + 2 ≤ k) :
    mainsheetref18_Same.f k now ts rs now' ts' rs' = some (decide (now = now' ∧ ts = ts' ∧ rs = rs')) := by
  obtain ⟨k, rfl⟩ : ∃ q, k = q + 1 := ⟨k - 1, by omega⟩
  unfold mainsheetref18_Same.f
  rw [same_k now ts now' ts' h1 (k + 1) (by omega)]
  simp only [Option.bind_some, mainsheetref18_Same.j0]
  by_cases h : now = now' ∧ ts = ts'
  · rw [decide_eq_true h, if_pos rfl]
    by_cases hl : rs.length = rs'.length
    · have e : ((rs.length : Int) != (rs'.length : Int)) = false := by rw [hl]; simp
      rw [e, if_neg (by simp)]
      have := sameR_l0 now ts rs now' ts' rs' hl h2 rs.length k 0 (by omega) (by omega) (by omega)
      rw [show ((0 : Nat) : Int) = 0 from rfl] at this
      rw [this]
      simp [h.1, h.2]
    · have e : ((rs.length : Int) != (rs'.length : Int)) = true := by simp; omega
      rw [e]; simp only [if_true]; rw [decide_eq_false (fun hh => hl (by rw [hh.2.2]))]
  · rw [decide_eq_false h, if_neg (by simp)]; simp only [if_true]
    have : ¬ (now = now' ∧ ts = ts' ∧ rs = rs') := fun hh => h ⟨hh.1, hh.2.1⟩
    rw [decide_eq_false this]
end Go.Proofs.Ytlddekjlmkimnaa.C
