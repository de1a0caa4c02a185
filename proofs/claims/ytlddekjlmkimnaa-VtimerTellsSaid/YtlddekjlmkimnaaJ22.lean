import Derived.Test.YtlddekjlmkimnaaHfuel
import Derived.Test.YtlddekjlmkimnaaC17
import Derived.Test.YtlddekjlmkimnaaHnext
import Derived.Test.YtlddekjlmkimnaaC15
section
namespace Go.Proofs.Ytlddekjlmkimnaa.C
open Go.RowKit Go.Proofs.YtlddekjlmkimnaaW.PrintWords Go.Proofs.YtlddekjlmkimnaaW.PrintLast Go.Proofs.YtlddekjlmkimnaaW.PrintMore
set_option linter.unusedVariables false
set_option linter.unusedSimpArgs false

def atF (now : Int) (l : List S88) (id : Int) : Int × Bool := if (found l id && okW now l) = true then ((l.getD (bs l id) z88).f1, true) else (0, false)
theorem at_f (now : Int) (l : List S88) (id : Int) (hn : l.length ≤ 1000000) : wheel_At.f now l id = some (atF now l id) := by
  unfold wheel_At.f wheel_find.f atF
  rw [if_pos hn]
  simp only [Option.bind_some]
  show (if (found l id && okW now l) = true then _ else _) = _
  by_cases h : (found l id && okW now l) = true
  · rw [if_pos h, if_pos h]
    have : bs l id < l.length := by
      unfold found at h
      simp only [Bool.and_eq_true, decide_eq_true_eq] at h
      exact h.1.1
    rw [if_pos (by omega), if_pos (by omega)]
    rfl
  · rw [if_neg h, if_neg h]

theorem bs_nil (x : Int) : bs [] x = 0 := by unfold bs; exact bsGo_end _ _ _ _ (by simp)
end Go.Proofs.Ytlddekjlmkimnaa.C
end
section
namespace Go.Proofs.Ytlddekjlmkimnaa.C
open Go.RowKit Go.Sort Go.Proofs.YtlddekjlmkimnaaW.PrintWords Go.Proofs.YtlddekjlmkimnaaW.PrintLast Go.Proofs.YtlddekjlmkimnaaW.PrintMore
set_option linter.unusedVariables false
set_option linter.unusedSimpArgs false

theorem okL_mem (now : Int) : ∀ (l : List S88) (last : Int), okL now last l = true → ∀ t ∈ l, okT now t = true
  | [], _, _, t, h => by cases h
  | x :: r, last, h, t, ht => by
    simp only [okL, Bool.and_eq_true] at h
    rcases List.mem_cons.1 ht with rfl | ht
    · exact h.1
    · exact okL_mem now r _ h.2.2 t ht
theorem okW_mem {now : Int} {l : List S88} (h : okW now l = true) {t : S88} (ht : t ∈ l) : 0 ≤ t.f0 ∧ t.f0 < 32 ∧ now < t.f1 ∧ t.f1 ≤ 1125899906842624 := by
  simp only [okW, Bool.and_eq_true] at h
  have := okL_mem now l _ h.2.2 t ht
  simpa [okT] using this
theorem okW_now {now : Int} {l : List S88} (h : okW now l = true) : 0 ≤ now ∧ now ≤ 1125899906842624 := by
  simp only [okW, Bool.and_eq_true, decide_eq_true_eq] at h
  exact ⟨h.1, h.2.1⟩

theorem minK_le (l : List S88) : ∀ k, k < l.length → ∀ j, j ≤ k → (minK l k).f1 ≤ (l.getD j z88).f1
  | 0, h, j, hj => by obtain rfl : j = 0 := by omega
                      exact Int.le_refl _
  | k + 1, h, j, hj => by
    have ih := minK_le l k (by omega)
    have hlt := ordF_lt (l.getD (k + 1) z88) (minK l k)
    unfold minK
    by_cases c : ordF (l.getD (k + 1) z88) (minK l k) < 0
    · rw [if_pos c]
      have h1 : (l.getD (k + 1) z88).f1 ≤ (minK l k).f1 := by
        have h3 : ltOf ordF (l.getD (k + 1) z88) (minK l k) = true := by unfold ltOf; exact decide_eq_true c
        rw [h3] at hlt
        have := of_decide_eq_true hlt.symm
        omega
      rcases Nat.lt_or_ge j (k + 1) with h2 | h2
      · have := ih j (by omega); omega
      · obtain rfl : j = k + 1 := by omega
        exact Int.le_refl _
    · rw [if_neg c]
      rcases Nat.lt_or_ge j (k + 1) with h2 | h2
      · exact ih j (by omega)
      · obtain rfl : j = k + 1 := by omega
        have : ¬ ((l.getD (k + 1) z88).f1 < (minK l k).f1) := by
          intro h3
          rw [decide_eq_true (Or.inl h3)] at hlt
          exact c (by unfold ltOf at hlt; exact of_decide_eq_true hlt)
        omega
theorem minK_mem (l : List S88) : ∀ k, k < l.length → ∃ j, j ≤ k ∧ minK l k = l.getD j z88
  | 0, h => ⟨0, Nat.le_refl _, rfl⟩
  | k + 1, h => by
    obtain ⟨j, hj, e⟩ := minK_mem l k (by omega)
    unfold minK
    split
    · exact ⟨k + 1, Nat.le_refl _, rfl⟩
    · exact ⟨j, by omega, e⟩
theorem minAt_le (l : List S88) (t : S88) (ht : t ∈ l) : minAt l ≤ t.f1 := by
  obtain ⟨j, hj, rfl⟩ := List.getElem_of_mem ht
  have := minK_le l (l.length - 1) (by omega) j (by omega)
  rw [List.getD_eq_getElem?_getD, List.getElem?_eq_getElem hj] at this
  exact this
theorem minAt_mem (l : List S88) (h : 0 < l.length) : ∃ t ∈ l, minAt l = t.f1 := by
  obtain ⟨j, hj, e⟩ := minK_mem l (l.length - 1) (by omega)
  have hj' : j < l.length := by omega
  refine ⟨l[j], List.getElem_mem hj', ?_⟩
  unfold minAt
  rw [e, List.getD_eq_getElem?_getD, List.getElem?_eq_getElem hj']
  rfl

theorem okW_all {now : Int} {l : List S88} (h : okW now l = true) : 0 ≤ now ∧ now ≤ 1125899906842624 ∧ ∀ t ∈ l, okT now t = true := by
  unfold okW at h
  simp only [Bool.and_eq_true, decide_eq_true_eq] at h
  exact ⟨h.1, h.2.1, okL_mem now l (-1) h.2.2⟩
theorem sortT_len (l : List S88) : (sortT l).length = l.length := List.length_mergeSort l
end Go.Proofs.Ytlddekjlmkimnaa.C
end
section
namespace Go.Proofs.Ytlddekjlmkimnaa.C
open Go.RowKit Go.Sort Go.Proofs.YtlddekjlmkimnaaW.PrintWords Go.Proofs.YtlddekjlmkimnaaW.PrintLast Go.Proofs.YtlddekjlmkimnaaW.PrintMore
set_option linter.unusedVariables false
set_option linter.unusedSimpArgs false

/-! Lists of timers that rise by number: what they hold says what they are. -/
def Rise (l : List S88) : Prop := l.Pairwise (fun a b => a.f0 < b.f0)
theorem rise_at {l : List S88} (h : Rise l) {i j : Nat} (hi : i < j) (hj : j < l.length) : l[i].f0 < l[j].f0 := List.pairwise_iff_getElem.1 h i j (by omega) hj hi
theorem okL_rise (now : Int) : ∀ (l : List S88) (last : Int), okL now last l = true → Rise l ∧ ∀ t ∈ l, last < t.f0
  | [], _, _ => ⟨List.Pairwise.nil, fun _ h => by cases h⟩
  | x :: r, last, h => by
    simp only [okL, Bool.and_eq_true, decide_eq_true_eq] at h
    obtain ⟨h1, h2⟩ := okL_rise now r x.f0 h.2.2
    refine ⟨List.pairwise_cons.2 ⟨h2, h1⟩, fun t ht => ?_⟩
    rcases List.mem_cons.1 ht with rfl | ht
    · exact h.2.1
    · have := h2 t ht; have := h.2.1; omega
theorem okW_rise {now : Int} {l : List S88} (h : okW now l = true) : Rise l := by
  unfold okW at h
  simp only [Bool.and_eq_true] at h
  exact (okL_rise now l _ h.2.2).1
theorem rise_len : ∀ (l : List S88) (lo : Int), Rise l → (∀ t ∈ l, lo ≤ t.f0 ∧ t.f0 < 32) → lo ≤ 32 → (l.length : Int) ≤ 32 - lo
  | [], lo, _, _, h => by simp; omega
  | x :: r, lo, h, h1, h2 => by
    have h' := List.pairwise_cons.1 h
    have hx := h1 x List.mem_cons_self
    have := rise_len r (x.f0 + 1) h'.2 (fun t ht => by have := h'.1 t ht; have := h1 t (List.mem_cons_of_mem _ ht); omega) (by omega)
    simp; omega
theorem okW_len {now : Int} {l : List S88} (h : okW now l = true) : l.length ≤ 32 := by
  have := rise_len l 0 (okW_rise h) (fun t ht => by have := okW_mem h ht; omega) (by omega)
  omega

/-- Where the search ends. -/
theorem bsGo_spec {l : List S88} (h : Rise l) (x : Int) (n : Nat) : ∀ i j, j - i = n → i ≤ j → j ≤ l.length → (∀ q (hq : q < l.length), q < i → l[q].f0 < x) → (∀ q (hq : q < l.length), j ≤ q → x ≤ l[q].f0) →
    (∀ q (hq : q < l.length), q < bsGo l x i j → l[q].f0 < x) ∧ (∀ q (hq : q < l.length), bsGo l x i j ≤ q → x ≤ l[q].f0) := by
  induction n using Nat.strongRecOn with
  | ind n ih =>
    intro i j hn hij hj h1 h2
    by_cases hlt : i < j
    · rw [bsGo_at _ _ _ _ hlt]
      have hm : i ≤ (i + j) / 2 ∧ (i + j) / 2 < j := by omega
      have hml : (i + j) / 2 < l.length := by omega
      have hg : l.getD ((i + j) / 2) z88 = l[(i + j) / 2] := by simp [List.getD_eq_getElem?_getD, hml]
      rw [hg]
      split
      · rename_i c
        refine ih (j - ((i + j) / 2 + 1)) (by omega) ((i + j) / 2 + 1) j rfl (by omega) hj (fun q hq hqi => ?_) h2
        rcases Nat.lt_or_ge q ((i + j) / 2) with c1 | c1
        · have := rise_at h c1 hml; omega
        · obtain rfl : q = (i + j) / 2 := by omega
          exact c
      · rename_i c
        refine ih ((i + j) / 2 - i) (by omega) i ((i + j) / 2) rfl (by omega) (by omega) h1 (fun q hq hqi => ?_)
        rcases Nat.lt_or_ge ((i + j) / 2) q with c1 | c1
        · have := rise_at h c1 hq; omega
        · obtain rfl : q = (i + j) / 2 := by omega
          omega
    · rw [bsGo_end _ _ _ _ hlt]
      exact ⟨h1, fun q hq hqi => h2 q hq (by omega)⟩
theorem bs_spec {l : List S88} (h : Rise l) (x : Int) : (∀ q (hq : q < l.length), q < bs l x → l[q].f0 < x) ∧ (∀ q (hq : q < l.length), bs l x ≤ q → x ≤ l[q].f0) :=
  bsGo_spec h x l.length 0 l.length (by omega) (by omega) (Nat.le_refl _) (fun q _ hq => by omega) (fun q hq hq2 => by omega)
theorem found_iff {l : List S88} (h : Rise l) (x : Int) : found l x = true ↔ ∃ t ∈ l, t.f0 = x := by
  unfold found
  simp only [Bool.and_eq_true, decide_eq_true_eq]
  constructor
  · rintro ⟨h1, h2⟩
    rw [show l.getD (bs l x) z88 = l[bs l x] by simp [List.getD_eq_getElem?_getD, h1]] at h2
    exact ⟨_, List.getElem_mem h1, h2⟩
  · rintro ⟨t, ht, rfl⟩
    obtain ⟨i, hi, rfl⟩ := List.getElem_of_mem ht
    obtain ⟨s1, s2⟩ := bs_spec h l[i].f0
    have hle : bs l l[i].f0 ≤ i := by
      rcases Nat.lt_or_ge i (bs l l[i].f0) with c | c
      · have := s1 i hi c; omega
      · exact c
    have hbl : bs l l[i].f0 < l.length := by omega
    refine ⟨hbl, ?_⟩
    rw [show l.getD (bs l l[i].f0) z88 = l[bs l l[i].f0] by simp [List.getD_eq_getElem?_getD, hbl]]
    have h1 := s2 (bs l l[i].f0) hbl (Nat.le_refl _)
    rcases Nat.lt_or_ge (bs l l[i].f0) i with c | c
    · have := rise_at h c hi; omega
    · have e : bs l l[i].f0 = i := by omega
      simp only [e]
theorem found_bs {l : List S88} {x : Int} (h : found l x = true) : ∃ hb : bs l x < l.length, l[bs l x].f0 = x := by
  unfold found at h
  simp only [Bool.and_eq_true, decide_eq_true_eq] at h
  obtain ⟨h1, h2⟩ := h
  rw [show l.getD (bs l x) z88 = l[bs l x] by simp [List.getD_eq_getElem?_getD, h1]] at h2
  exact ⟨h1, h2⟩

/-- The document's At. -/
def atR : List S88 → Int → Int
  | [], _ => 0
  | t :: r, x => if t.f0 = x then t.f1 else atR r x
theorem atR_mem {l : List S88} (h : Rise l) {t : S88} (ht : t ∈ l) : atR l t.f0 = t.f1 := by
  induction l with
  | nil => cases ht
  | cons a r ih =>
    have h' := List.pairwise_cons.1 h
    unfold atR
    rcases List.mem_cons.1 ht with rfl | h1
    · simp
    · have := h'.1 t h1
      rw [if_neg (by omega)]
      exact ih h'.2 h1
theorem atR_pos {l : List S88} {x : Int} (h : atR l x ≠ 0) : ∃ t ∈ l, t.f0 = x ∧ atR l x = t.f1 := by
  induction l with
  | nil => exact absurd rfl h
  | cons a r ih =>
    unfold atR at h ⊢
    by_cases c : a.f0 = x
    · rw [if_pos c]; exact ⟨a, List.mem_cons_self, c, rfl⟩
    · rw [if_neg c] at h ⊢
      obtain ⟨t, ht, h1, h2⟩ := ih h
      exact ⟨t, List.mem_cons_of_mem _ ht, h1, h2⟩
section
variable {now : Int} {l : List S88} (hok : okW now l = true)
include hok
theorem atR_found (x : Int) : (found l x = true → 0 < atR l x) ∧ (¬ found l x = true → atR l x = 0) := by
  have hr := okW_rise hok
  have h0 := (okW_all hok).1
  constructor
  · intro h
    obtain ⟨t, ht, rfl⟩ := (found_iff hr x).1 h
    rw [atR_mem hr ht]
    have := okW_mem hok ht; omega
  · intro h
    by_cases c : atR l x = 0
    · exact c
    · obtain ⟨t, ht, h1, _⟩ := atR_pos c
      exact absurd ((found_iff hr x).2 ⟨t, ht, h1⟩) h
theorem atF_ok (x : Int) : atF now l x = (atR l x, decide (0 < atR l x)) := by
  unfold atF
  have hr := okW_rise hok
  obtain ⟨h1, h2⟩ := atR_found hok x
  by_cases c : found l x = true
  · obtain ⟨hb, e⟩ := found_bs c
    have hm := atR_mem hr (List.getElem_mem hb)
    rw [e] at hm
    have hg : l.getD (bs l x) z88 = l[bs l x] := by simp [List.getD_eq_getElem?_getD, hb]
    rw [hok, c, if_pos (by rfl), hg, ← hm, decide_eq_true (h1 c)]
  · have c' : found l x = false := by simpa using c
    rw [c', hok, if_neg (by simp), h2 c]
    rfl
end
end Go.Proofs.Ytlddekjlmkimnaa.C
end
section
namespace Go.Proofs.Ytlddekjlmkimnaa.C
open Go.RowKit Go.Proofs.YtlddekjlmkimnaaW.PrintWords Go.Proofs.YtlddekjlmkimnaaW.PrintLast Go.Proofs.YtlddekjlmkimnaaW.PrintMore
set_option linter.unusedVariables false
set_option linter.unusedSimpArgs false

/-! ### Which alarms may be -/
def vcpuB (n : Int) : Bool := decide (1 ≤ n) && decide (n ≤ 16)
def okA (x : S47) : Bool := vcpuB x.f0 && (decide (1 ≤ x.f1) && (decide (x.f1 ≤ 32) && (decide (x.f2 = 0) || (decide (1000 ≤ x.f2) && decide (x.f2 ≤ 1125899906842624)))))
def okR : Int → List S47 → Bool
  | _, [] => true
  | last, x :: r => okA x && (decide (last < x.f0) && okR x.f0 r)
def thereA (rs : List S47) (own : Int) : Bool := decide (bsA rs own < rs.length) && decide (dif (rs.getD (bsA rs own) z47).f0 own = 0)
def okV (now : Int) (ts : List S88) (rs : List S47) (own : Int) : Bool := (atF now ts (own - 1)).2 == thereA rs own
def okAl (now : Int) (ts : List S88) (rs : List S47) : Bool := okR 0 rs && (okW now ts && (List.range 16).all (fun v => okV now ts rs ((v : Int) + 1)))

theorem vcpu_f (n : Int) : vtimer_vcpu.f n = some (vcpuB n) := by
  unfold vtimer_vcpu.f vcpuB
  by_cases h : n ≥ 1
  · rw [if_pos h, decide_eq_true (show 1 ≤ n by omega), Bool.true_and]
  · rw [if_neg h, decide_eq_false (show ¬ 1 ≤ n by omega), Bool.false_and]
theorem alarm_f (x : S47) : vtimer_alarm.f x.f0 x.f1 x.f2 = some (okA x) := by
  unfold vtimer_alarm.f okA
  rw [vcpu_f]
  simp only [Option.bind_some]
  cases hv : vcpuB x.f0 with
  | false => by_cases h0 : x.f2 = 0 <;> by_cases h1 : x.f2 ≥ 1000 <;> simp [h0, h1]
  | true =>
    by_cases h2 : 1 ≤ x.f1
    · by_cases h3 : x.f1 ≤ 32
      · by_cases h0 : x.f2 = 0
        · simp [h0, h2, h3]
        · by_cases h1 : 1000 ≤ x.f2 <;> simp [h0, h1, h2, h3]
      · by_cases h0 : x.f2 = 0
        · simp [h0, h2, h3]
        · by_cases h1 : 1000 ≤ x.f2 <;> simp [h0, h1, h2, h3]
    · by_cases h0 : x.f2 = 0
      · simp [h0, h2]
      · by_cases h1 : 1000 ≤ x.f2 <;> simp [h0, h1, h2]
theorem alarmed_f (own : Int) (h0 : 1 ≤ own) (h1 : own ≤ 16) : vtimer_alarmed.f own = some (own - 1) := by
  unfold vtimer_alarmed.f; rw [wrap64_id (by omega) (by omega)]
theorem atA_f (rs : List S47) (own : Int) (hn : rs.length ≤ 1000000) : vtimer_at.f rs own = some ((bsA rs own : Int), thereA rs own) := by
  unfold vtimer_at.f thereA; rw [if_pos hn]

theorem rdA_at (l : List S47) (i : Nat) (h : i < l.length) : rd_T47 l (i : Int) = l[i] := by simp [rd_T47, List.getD_eq_getElem?_getD, h]

theorem chk_l1 (now : Int) (ts : List S88) (rs : List S47) (h1 : ts.length ≤ 1000000) (h2 : rs.length ≤ 1000000) (d : Nat) : ∀ (k v : Nat), v ≤ 16 → 16 - v = d → d < k →
    vtimer_Check.l1 k ((v : Int) + 1) now ts rs = some (if (List.range' v d).all (fun u => okV now ts rs ((u : Int) + 1)) = true then 0 else 280) := by
  induction d with
  | zero =>
    intro k v hv hd hk
    obtain ⟨k, rfl⟩ : ∃ m, k = m + 1 := ⟨k - 1, by omega⟩
    obtain rfl : v = 16 := by omega
    simp only [vtimer_Check.l1]
    rw [if_neg (by omega)]
    simp
  | succ d ih =>
    intro k v hv hd hk
    obtain ⟨k, rfl⟩ : ∃ m, k = m + 1 := ⟨k - 1, by omega⟩
    have ih' := ih k (v + 1) (by omega) (by omega) (by omega)
    simp only [vtimer_Check.l1]
    rw [if_pos (by omega), atA_f rs _ h2, alarmed_f _ (by omega) (by omega), wrap64_id (by omega) (by omega)]
    simp only [Option.bind_some]
    rw [at_f now ts _ h1]
    simp only [Option.bind_some]
    rw [show ((v : Int) + 1 + 1) = (((v + 1 : Nat) : Int) + 1) by omega, ih', List.range'_succ, List.all_cons]
    have e : okV now ts rs ((v : Int) + 1) = ((atF now ts ((v : Int) + 1 - 1)).2 == thereA rs ((v : Int) + 1)) := rfl
    cases h : okV now ts rs ((v : Int) + 1) with
    | true =>
      have : ((atF now ts ((v : Int) + 1 - 1)).2 != thereA rs ((v : Int) + 1)) = false := by rw [bne, ← e, h]; rfl
      rw [this, if_neg (by simp), Bool.true_and]
    | false =>
      have : ((atF now ts ((v : Int) + 1 - 1)).2 != thereA rs ((v : Int) + 1)) = true := by rw [bne, ← e, h]; rfl
      rw [this]
      simp

def lastOf (l : List S47) (i : Nat) : Int := if i = 0 then 0 else (l.getD (i - 1) z47).f0
theorem chk_l0 (now : Int) (ts : List S88) (rs : List S47) (h1 : ts.length ≤ 1000000) (h2 : rs.length ≤ 1000000) (d : Nat) : ∀ (k i : Nat), i ≤ rs.length → rs.length - i = d → d + ts.length + 30 < k →
    vtimer_Check.l0 k (lastOf rs i) rs rs.length i now ts rs = some (if (okR (lastOf rs i) (rs.drop i) && (okW now ts && (List.range 16).all (fun u => okV now ts rs ((u : Int) + 1)))) = true then 0 else 280) := by
  induction d with
  | zero =>
    intro k i hi hd hk
    obtain ⟨k, rfl⟩ : ∃ m, k = m + 1 := ⟨k - 1, by omega⟩
    obtain rfl : i = rs.length := by omega
    simp only [vtimer_Check.l0]
    rw [if_neg (by omega), check_k now ts (by omega) k (by omega)]
    simp only [Option.bind_some, List.drop_length, okR, Bool.true_and]
    have := chk_l1 now ts rs h1 h2 16 k 0 (by omega) (by omega) (by omega)
    rw [show (((0 : Nat) : Int) + 1) = 1 from rfl] at this
    rw [this, List.range_eq_range']
    cases okW now ts <;> simp
  | succ d ih =>
    intro k i hi hd hk
    obtain ⟨k, rfl⟩ : ∃ m, k = m + 1 := ⟨k - 1, by omega⟩
    have hlt : i < rs.length := by omega
    have ih' := ih k (i + 1) (by omega) (by omega) (by omega)
    have hl : lastOf rs (i + 1) = rs[i].f0 := by simp [lastOf, List.getD_eq_getElem?_getD, hlt]
    have hd' : rs.drop i = rs[i] :: rs.drop (i + 1) := List.drop_eq_getElem_cons hlt
    have hw : wrap64 ((i : Int) + 1) = ((i + 1 : Nat) : Int) := by rw [wrap64_id] <;> omega
    rw [hl] at ih'
    simp only [vtimer_Check.l0]
    rw [if_pos (by omega), if_pos (by omega), if_pos (by omega), rdA_at rs i hlt, alarm_f]
    simp only [Option.bind_some]
    rw [hw, ih', hd', okR]
    cases ha : okA rs[i] with
    | false => simp
    | true =>
      simp only [if_true, Bool.true_and]
      by_cases hc : rs[i].f0 ≤ lastOf rs i
      · rw [if_pos hc, decide_eq_false (by omega)]; simp
      · rw [if_neg hc, decide_eq_true (show lastOf rs i < rs[i].f0 by omega), Bool.true_and]
theorem chk_k (now : Int) (ts : List S88) (rs : List S47) (h1 : ts.length ≤ 1000000) (h2 : rs.length ≤ 1000000) (k : Nat) (hk : rs.length + ts.length + 30 < k) : vtimer_Check.f k now ts rs = some (if okAl now ts rs = true then 0 else 280) := by
  unfold vtimer_Check.f okAl
  have := chk_l0 now ts rs h1 h2 rs.length k 0 (by omega) (by omega) (by omega)
  simpa [lastOf] using this
end Go.Proofs.Ytlddekjlmkimnaa.C
end
