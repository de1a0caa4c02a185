import Derived.Test.YtlddekjlmkimnaaJ22
import Derived.Test.YtlddekjlmkimnaaJ26
import Derived.Test.YtlddekjlmkimnaaC24
import Derived.Test.YtlddekjlmkimnaaJ6
section
namespace Go.Proofs.Ytlddekjlmkimnaa.C
open Go.RowKit Go.Proofs.YtlddekjlmkimnaaW.PrintWords Go.Proofs.YtlddekjlmkimnaaW.PrintLast Go.Proofs.YtlddekjlmkimnaaW.PrintMore
set_option linter.unusedVariables false
set_option linter.unusedSimpArgs false

/-! ### Rows of alarms that rise -/
def RiseA (l : List S47) : Prop := l.Pairwise (fun a b => a.f0 < b.f0)
/-- Rows by rising numbers of virtual CPUs. -/
structure RowsA (l : List S47) : Prop where
  rise : RiseA l
  ok : ∀ x ∈ l, okA x = true
theorem vcpuB_iff {n : Int} : vcpuB n = true ↔ 1 ≤ n ∧ n ≤ 16 := by simp [vcpuB]
theorem okA_vcpu {x : S47} (h : okA x = true) : 1 ≤ x.f0 ∧ x.f0 ≤ 16 := by
  unfold okA at h
  simp only [Bool.and_eq_true] at h
  exact vcpuB_iff.1 h.1
theorem okR_rows : ∀ (l : List S47) (last : Int), okR last l = true → RowsA l ∧ ∀ x ∈ l, last < x.f0
  | [], _, _ => ⟨⟨List.Pairwise.nil, fun _ h => by cases h⟩, fun _ h => by cases h⟩
  | a :: r, last, h => by
    simp only [okR, Bool.and_eq_true, decide_eq_true_eq] at h
    obtain ⟨⟨h1, h2⟩, h3⟩ := okR_rows r a.f0 h.2.2
    refine ⟨⟨List.pairwise_cons.2 ⟨h3, h1⟩, fun x hx => ?_⟩, fun x hx => ?_⟩
    · rcases List.mem_cons.1 hx with rfl | hx
      · exact h.1
      · exact h2 x hx
    · rcases List.mem_cons.1 hx with rfl | hx
      · exact h.2.1
      · have := h3 x hx; omega
theorem rows_okR : ∀ (l : List S47) (last : Int), RowsA l → (∀ x ∈ l, last < x.f0) → okR last l = true
  | [], _, _, _ => rfl
  | a :: r, last, h, hl => by
    have h' := List.pairwise_cons.1 h.rise
    simp only [okR, Bool.and_eq_true, decide_eq_true_eq]
    exact ⟨h.ok a List.mem_cons_self, hl a List.mem_cons_self, rows_okR r a.f0 ⟨h'.2, fun x hx => h.ok x (List.mem_cons_of_mem _ hx)⟩ h'.1⟩
theorem okAl_rows {now : Int} {ts : List S88} {rs : List S47} (h : okAl now ts rs = true) : RowsA rs := by
  unfold okAl at h
  simp only [Bool.and_eq_true] at h
  exact (okR_rows rs 0 h.1).1
theorem okAl_wheel {now : Int} {ts : List S88} {rs : List S47} (h : okAl now ts rs = true) : okW now ts = true := by
  unfold okAl at h
  simp only [Bool.and_eq_true] at h
  exact h.2.1
theorem riseA_at {l : List S47} (h : RiseA l) {i j : Nat} (hi : i < j) (hj : j < l.length) : l[i].f0 < l[j].f0 := List.pairwise_iff_getElem.1 h i j (by omega) hj hi
theorem dif_lt {a b : Int} (h0 : -10000 ≤ a) (h1 : a ≤ 10000) (h2 : -10000 ≤ b) (h3 : b ≤ 10000) : dif a b = a - b := by unfold dif; exact wrap64_id (by omega) (by omega)
theorem bsGoA_spec {l : List S47} (h : RowsA l) (x : Int) (hx0 : -10000 ≤ x) (hx1 : x ≤ 10000) (n : Nat) : ∀ i j, j - i = n → i ≤ j → j ≤ l.length → (∀ q (hq : q < l.length), q < i → l[q].f0 < x) → (∀ q (hq : q < l.length), j ≤ q → x ≤ l[q].f0) →
    (∀ q (hq : q < l.length), q < bsGoA l x i j → l[q].f0 < x) ∧ (∀ q (hq : q < l.length), bsGoA l x i j ≤ q → x ≤ l[q].f0) := by
  induction n using Nat.strongRecOn with
  | ind n ih =>
    intro i j hn hij hj h1 h2
    by_cases hlt : i < j
    · rw [bsGoA_at _ _ _ _ hlt]
      have hm : i ≤ (i + j) / 2 ∧ (i + j) / 2 < j := by omega
      have hml : (i + j) / 2 < l.length := by omega
      have hg : l.getD ((i + j) / 2) z47 = l[(i + j) / 2] := by simp [List.getD_eq_getElem?_getD, hml]
      have hv := okA_vcpu (h.ok _ (List.getElem_mem hml))
      rw [hg, dif_lt (by omega) (by omega) hx0 hx1]
      split
      · rename_i c
        refine ih (j - ((i + j) / 2 + 1)) (by omega) ((i + j) / 2 + 1) j rfl (by omega) hj (fun q hq hqi => ?_) h2
        rcases Nat.lt_or_ge q ((i + j) / 2) with c1 | c1
        · have := riseA_at h.rise c1 hml; omega
        · obtain rfl : q = (i + j) / 2 := by omega
          omega
      · rename_i c
        refine ih ((i + j) / 2 - i) (by omega) i ((i + j) / 2) rfl (by omega) (by omega) h1 (fun q hq hqi => ?_)
        rcases Nat.lt_or_ge ((i + j) / 2) q with c1 | c1
        · have := riseA_at h.rise c1 hq; omega
        · obtain rfl : q = (i + j) / 2 := by omega
          omega
    · rw [bsGoA_end _ _ _ _ hlt]
      exact ⟨h1, fun q hq hqi => h2 q hq (by omega)⟩
theorem bsA_spec {l : List S47} (h : RowsA l) (x : Int) (hx0 : -10000 ≤ x) (hx1 : x ≤ 10000) : (∀ q (hq : q < l.length), q < bsA l x → l[q].f0 < x) ∧ (∀ q (hq : q < l.length), bsA l x ≤ q → x ≤ l[q].f0) :=
  bsGoA_spec h x hx0 hx1 l.length 0 l.length (by omega) (by omega) (Nat.le_refl _) (fun q _ hq => by omega) (fun q hq hq2 => by omega)
theorem thereA_iff {l : List S47} (h : RowsA l) (x : Int) (hx0 : -10000 ≤ x) (hx1 : x ≤ 10000) : thereA l x = true ↔ ∃ t ∈ l, t.f0 = x := by
  unfold thereA
  simp only [Bool.and_eq_true, decide_eq_true_eq]
  constructor
  · rintro ⟨h1, h2⟩
    rw [show l.getD (bsA l x) z47 = l[bsA l x] by simp [List.getD_eq_getElem?_getD, h1]] at h2
    have hv := okA_vcpu (h.ok _ (List.getElem_mem h1))
    rw [dif_lt (by omega) (by omega) hx0 hx1] at h2
    exact ⟨_, List.getElem_mem h1, by omega⟩
  · rintro ⟨t, ht, rfl⟩
    obtain ⟨i, hi, rfl⟩ := List.getElem_of_mem ht
    obtain ⟨s1, s2⟩ := bsA_spec h l[i].f0 hx0 hx1
    have hle : bsA l l[i].f0 ≤ i := by
      rcases Nat.lt_or_ge i (bsA l l[i].f0) with c | c
      · have := s1 i hi c; omega
      · exact c
    have hbl : bsA l l[i].f0 < l.length := by omega
    refine ⟨hbl, ?_⟩
    rw [show l.getD (bsA l l[i].f0) z47 = l[bsA l l[i].f0] by simp [List.getD_eq_getElem?_getD, hbl]]
    have hv := okA_vcpu (h.ok _ (List.getElem_mem hbl))
    rw [dif_lt (by omega) (by omega) hx0 hx1]
    have h1 := s2 (bsA l l[i].f0) hbl (Nat.le_refl _)
    rcases Nat.lt_or_ge (bsA l l[i].f0) i with c | c
    · have := riseA_at h.rise c hi; omega
    · have e : bsA l l[i].f0 = i := by omega
      simp only [e]; omega
theorem thereA_bs {l : List S47} (h : RowsA l) {x : Int} (hx0 : -10000 ≤ x) (hx1 : x ≤ 10000) (ht : thereA l x = true) : ∃ hb : bsA l x < l.length, l[bsA l x].f0 = x := by
  unfold thereA at ht
  simp only [Bool.and_eq_true, decide_eq_true_eq] at ht
  obtain ⟨h1, h2⟩ := ht
  rw [show l.getD (bsA l x) z47 = l[bsA l x] by simp [List.getD_eq_getElem?_getD, h1]] at h2
  have hv := okA_vcpu (h.ok _ (List.getElem_mem h1))
  rw [dif_lt (by omega) (by omega) hx0 hx1] at h2
  exact ⟨h1, by omega⟩

/-! ### The reference's find -/
theorem posG_lt {l : List S47} {x : Int} : posG x l < l.length ↔ ∃ t ∈ l, t.f0 = x := by
  unfold posG
  rw [List.findIdx_lt_length]
  simp
theorem posG_at {l : List S47} {x : Int} (h : posG x l < l.length) : l[posG x l].f0 = x := by
  have := List.findIdx_getElem (p := fun t : S47 => t.f0 == x) (xs := l) (w := h)
  exact eq_of_beq this
theorem thereA_find {l : List S47} (h : RowsA l) {x : Int} (hx0 : -10000 ≤ x) (hx1 : x ≤ 10000) : thereA l x = decide (idxF x l ≥ 0) := by
  have h1 := thereA_iff h x hx0 hx1
  unfold idxF
  by_cases c : posG x l < l.length
  · rw [if_pos c, h1.2 (posG_lt.1 c), decide_eq_true (by omega)]
  · rw [if_neg c]
    have : ¬ thereA l x = true := fun ht => c (posG_lt.2 (h1.1 ht))
    rw [show thereA l x = false by simpa using this]; rfl
theorem bsA_pos {l : List S47} (h : RowsA l) {x : Int} (hx0 : -10000 ≤ x) (hx1 : x ≤ 10000) (ht : thereA l x = true) : bsA l x = posG x l := by
  obtain ⟨hb, e⟩ := thereA_bs h hx0 hx1 ht
  have hp : posG x l < l.length := posG_lt.2 ((thereA_iff h x hx0 hx1).1 ht)
  have e2 := posG_at hp
  rcases Nat.lt_trichotomy (bsA l x) (posG x l) with c | c | c
  · have := riseA_at h.rise c hp; omega
  · exact c
  · have := riseA_at h.rise c hb; omega

theorem find_l0 (x : Int) (l : List S47) (hn : l.length ≤ 1000000) (d : Nat) : ∀ (k i : Nat), i ≤ l.length → l.length - i = d → d < k → (∀ q (hq : q < l.length), q < i → l[q].f0 ≠ x) →
    mainsheetref18_find.l0 k x l l.length i = some (idxF x l) := by
  induction d with
  | zero =>
    intro k i h0 h1 hk hb
    obtain ⟨k, rfl⟩ : ∃ m, k = m + 1 := ⟨k - 1, by omega⟩
    obtain rfl : i = l.length := by omega
    simp only [mainsheetref18_find.l0]
    rw [if_neg (by omega)]
    have : ¬ posG x l < l.length := fun h => by
      obtain ⟨t, ht, e⟩ := posG_lt.1 h
      obtain ⟨q, hq, rfl⟩ := List.getElem_of_mem ht
      exact hb q hq hq e
    unfold idxF; rw [if_neg this]
  | succ d ih =>
    intro k i h0 h1 hk hb
    obtain ⟨k, rfl⟩ : ∃ m, k = m + 1 := ⟨k - 1, by omega⟩
    have hlt : i < l.length := by omega
    have hw : wrap64 ((i : Int) + 1) = ((i + 1 : Nat) : Int) := by rw [wrap64_id] <;> omega
    simp only [mainsheetref18_find.l0]
    rw [if_pos (by omega), if_pos (by omega), if_pos (by omega), rdA_at l i hlt]
    by_cases c : l[i].f0 = x
    · rw [if_pos c]
      have hp : posG x l = i := by
        unfold posG
        rw [List.findIdx_eq hlt]
        exact ⟨by simpa using c, fun q hq => by simpa using hb q (by omega) hq⟩
      unfold idxF; rw [hp, if_pos hlt]
    · rw [if_neg c, hw]
      refine ih k (i + 1) (by omega) (by omega) (by omega) (fun q hq hqi => ?_)
      rcases Nat.lt_or_ge q i with c1 | c1
      · exact hb q hq c1
      · obtain rfl : q = i := by omega
        exact c
theorem find18_k (now : Int) (ts : List S88) (rs : List S47) (x : Int) (hn : rs.length ≤ 1000000) (k : Nat) (hk : rs.length < k) : mainsheetref18_find.f k now ts rs x = some (idxF x rs) := by
  unfold mainsheetref18_find.f
  have := find_l0 x rs hn rs.length k 0 (by omega) (by omega) (by omega) (fun q _ hq => by omega)
  simpa using this

/-! ### The reference's Right -/
theorem vcpu16_f (n : Int) : mainsheetref16_Vcpu.f n = some (vcpuB n) := by
  unfold mainsheetref16_Vcpu.f vcpuB
  by_cases h : n ≥ 1
  · rw [if_pos h, decide_eq_true (show 1 ≤ n by omega), Bool.true_and]
  · rw [if_neg h, decide_eq_false (show ¬ 1 ≤ n by omega), Bool.false_and]
theorem alarm18_f (x : S47) : mainsheetref18_Alarm.f x.f0 x.f1 x.f2 = some (okA x) := by
  rw [← alarm_f x]
  unfold mainsheetref18_Alarm.f vtimer_alarm.f
  rw [vcpu16_f, vcpu_f]
theorem right_l1 (now : Int) (ts : List S88) (rs : List S47) (h1 : ts.length ≤ 1000000) (h2 : rs.length ≤ 1000000) (hr : RowsA rs) (hw' : okW now ts = true) (d : Nat) : ∀ (k v : Nat), v ≤ 16 → 16 - v = d → d + ts.length + rs.length + 1 < k →
    mainsheetref18_Right.l1 k ((v : Int) + 1) now ts rs = some ((List.range' v d).all (fun u => okV now ts rs ((u : Int) + 1))) := by
  induction d with
  | zero =>
    intro k v hv hd hk
    obtain ⟨k, rfl⟩ : ∃ m, k = m + 1 := ⟨k - 1, by omega⟩
    obtain rfl : v = 16 := by omega
    simp only [mainsheetref18_Right.l1]
    rw [if_neg (by omega)]
    simp
  | succ d ih =>
    intro k v hv hd hk
    obtain ⟨k, rfl⟩ : ∃ m, k = m + 1 := ⟨k - 1, by omega⟩
    have ih' := ih k (v + 1) (by omega) (by omega) (by omega)
    simp only [mainsheetref18_Right.l1]
    rw [if_pos (by omega), wrap64_id (by omega) (by omega), wrap64_id (by omega) (by omega), refAt_k now ts _ h1 k (by omega), find18_k now ts rs _ h2 k (by omega)]
    simp only [Option.bind_some]
    rw [show ((v : Int) + 1 + 1) = (((v + 1 : Nat) : Int) + 1) by omega, ih', List.range'_succ, List.all_cons]
    have e : okV now ts rs ((v : Int) + 1) = (decide (atR ts ((v : Int) + 1 - 1) > 0) == decide (idxF ((v : Int) + 1) rs ≥ 0)) := by
      unfold okV
      rw [atF_ok hw', thereA_find hr (by omega) (by omega)]
    cases h : okV now ts rs ((v : Int) + 1) with
    | true =>
      have : (decide (atR ts ((v : Int) + 1 - 1) > 0) != decide (idxF ((v : Int) + 1) rs ≥ 0)) = false := by rw [bne, ← e, h]; rfl
      rw [this, if_neg (by simp), Bool.true_and]
    | false =>
      have : (decide (atR ts ((v : Int) + 1 - 1) > 0) != decide (idxF ((v : Int) + 1) rs ≥ 0)) = true := by rw [bne, ← e, h]; rfl
      rw [this]
      simp
theorem right_r0 (now : Int) (ts : List S88) (rs : List S47) (h1 : ts.length ≤ 1000000) (h2 : rs.length ≤ 1000000) (d : Nat) : ∀ (k i : Nat), i ≤ rs.length → rs.length - i = d → d + ts.length + rs.length + 30 < k → (∀ x ∈ rs.take i, okA x = true) → RiseA (rs.take i) →
    mainsheetref18_Right.l0 k rs rs.length i now ts rs = some (okR (lastOf rs i) (rs.drop i) && (okW now ts && (List.range 16).all (fun u => okV now ts rs ((u : Int) + 1)))) := by
  induction d with
  | zero =>
    intro k i hi hd hk ha hr
    obtain ⟨k, rfl⟩ : ∃ m, k = m + 1 := ⟨k - 1, by omega⟩
    obtain rfl : i = rs.length := by omega
    rw [List.take_length] at ha hr
    simp only [mainsheetref18_Right.l0]
    rw [if_neg (by omega), right_k now ts h1 k (by omega)]
    simp only [Option.bind_some, List.drop_length, okR, Bool.true_and]
    cases hw : okW now ts with
    | false => simp
    | true =>
      have := right_l1 now ts rs h1 h2 ⟨hr, ha⟩ hw 16 k 0 (by omega) (by omega) (by omega)
      rw [show (((0 : Nat) : Int) + 1) = 1 from rfl] at this
      rw [if_pos rfl, this, List.range_eq_range', Bool.true_and]
  | succ d ih =>
    intro k i hi hd hk ha hr
    obtain ⟨k, rfl⟩ : ∃ m, k = m + 1 := ⟨k - 1, by omega⟩
    have hlt : i < rs.length := by omega
    have hl : lastOf rs (i + 1) = rs[i].f0 := by simp [lastOf, List.getD_eq_getElem?_getD, hlt]
    have hd' : rs.drop i = rs[i] :: rs.drop (i + 1) := List.drop_eq_getElem_cons hlt
    have hw : wrap64 ((i : Int) + 1) = ((i + 1 : Nat) : Int) := by rw [wrap64_id] <;> omega
    simp only [mainsheetref18_Right.l0]
    rw [if_pos (by omega), if_pos (by omega), if_pos (by omega), rdA_at rs i hlt, alarm18_f]
    simp only [Option.bind_some]
    rw [hw, hd', okR]
    cases hx : okA rs[i] with
    | false => simp
    | true =>
      have hv := okA_vcpu hx
      simp only [if_true, Bool.true_and]
      have hnext : (lastOf rs i < rs[i].f0) → mainsheetref18_Right.l0 k rs rs.length ((i + 1 : Nat) : Int) now ts rs = some (okR rs[i].f0 (rs.drop (i + 1)) && (okW now ts && (List.range 16).all (fun u => okV now ts rs ((u : Int) + 1)))) := fun hlast => by
        have htk : rs.take (i + 1) = rs.take i ++ [rs[i]] := List.take_succ_eq_append_getElem hlt
        have := ih k (i + 1) (by omega) (by omega) (by omega) (by
          intro x hx'
          rw [htk] at hx'
          rcases List.mem_append.1 hx' with h | h
          · exact ha x h
          · simp only [List.mem_singleton] at h; rw [h]; exact hx) (by
          unfold RiseA
          rw [htk, List.pairwise_append]
          refine ⟨hr, List.pairwise_singleton _ _, fun a ha' b hb => ?_⟩
          simp only [List.mem_singleton] at hb
          subst hb
          obtain ⟨q, hq, rfl⟩ := List.getElem_of_mem ha'
          rw [List.length_take] at hq
          rw [List.getElem_take]
          have hi0 : ¬ i = 0 := by omega
          have hlo : lastOf rs i = rs[i - 1].f0 := by unfold lastOf; rw [if_neg hi0]; simp [List.getD_eq_getElem?_getD, show i - 1 < rs.length by omega]
          rcases Nat.lt_or_ge q (i - 1) with c | c
          · have h1 := List.pairwise_iff_getElem.1 hr q (i - 1) (by rw [List.length_take]; omega) (by rw [List.length_take]; omega) c
            rw [List.getElem_take, List.getElem_take] at h1
            omega
          · obtain rfl : q = i - 1 := by omega
            omega)
        rw [hl] at this
        exact this
      by_cases hi0 : (i : Int) > 0
      · have hwm : wrap64 ((i : Int) - 1) = ((i - 1 : Nat) : Int) := by rw [wrap64_id] <;> omega
        have hlo : lastOf rs i = rs[i - 1].f0 := by unfold lastOf; rw [if_neg (by omega)]; simp [List.getD_eq_getElem?_getD, show i - 1 < rs.length by omega]
        rw [if_pos hi0, hwm, if_pos (by omega), if_pos (by omega), rdA_at rs (i - 1) (by omega)]
        by_cases hc : rs[i - 1].f0 ≥ rs[i].f0
        · rw [if_pos hc, decide_eq_false (by omega)]; simp
        · rw [if_neg hc, decide_eq_true (show lastOf rs i < rs[i].f0 by omega), Bool.true_and]
          exact hnext (by omega)
      · have hlo : lastOf rs i = 0 := by unfold lastOf; rw [if_pos (by omega)]
        rw [if_neg hi0, decide_eq_true (show lastOf rs i < rs[i].f0 by omega), Bool.true_and]
        exact hnext (by omega)
theorem right18_k (now : Int) (ts : List S88) (rs : List S47) (h1 : ts.length ≤ 1000000) (h2 : rs.length ≤ 1000000) (k : Nat) (hk : 2 * rs.length + ts.length + 30 < k) : mainsheetref18_Right.f k now ts rs = some (okAl now ts rs) := by
  unfold mainsheetref18_Right.f okAl
  have := right_r0 now ts rs h1 h2 rs.length k 0 (by omega) (by omega) (by omega) (fun x hx => by simp at hx) (by simp [RiseA])
  simpa [lastOf] using this
end Go.Proofs.Ytlddekjlmkimnaa.C
end
section
-- Written by a program of this session (wip/tools/stub.py, over the kit's print) and by hand; not the kit's print.
namespace Go.Proofs.Ytlddekjlmkimnaa.C
open Go.RowKit Go.Proofs.YtlddekjlmkimnaaW.PrintWords Go.Proofs.YtlddekjlmkimnaaW.PrintLast Go.Proofs.YtlddekjlmkimnaaW.PrintMore
attribute [local go_sem] max2_int min2_int max_two min_two max_three min_three max_four min_four   -- for this text's walks alone
set_option linter.unusedVariables false
set_option linter.unusedSimpArgs false

theorem eqA44 (d : Nat) (w : World) (x0 y0 : Int) (x1 y1 : Int) (x2 y2 : Int) (x3 y3 : Int) :
 (Op.equalIn (d + 2) 44 (.agg #[.int .i64 x0, .int .i64 x1, .int .i64 x2, .int .i64 x3]) (.agg #[.int .i64 y0, .int .i64 y1, .int .i64 y2, .int .i64 y3])).run Try.prog w = .ok (x0 == y0 && (x1 == y1 && (x2 == y2 && (x3 == y3)))) w := by
 refine eqA_of Try.underlying44 (by kernel_rfl) ?_
 refine eqf_cons (by rfl) (by go_simp; rfl) (by go_simp; rfl) (by go_simp) ?_
 refine eqf_cons (by rfl) (by go_simp; rfl) (by go_simp; rfl) (by go_simp) ?_
 refine eqf_cons (by rfl) (by go_simp; rfl) (by go_simp; rfl) (by go_simp) ?_
 exact eqf_last (by rfl) (by go_simp; rfl) (by go_simp; rfl) (by go_simp)
end Go.Proofs.Ytlddekjlmkimnaa.C
end
