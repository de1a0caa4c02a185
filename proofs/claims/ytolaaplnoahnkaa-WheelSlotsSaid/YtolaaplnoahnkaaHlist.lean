import Derived.Test.YtolaaplnoahnkaaHmin
namespace Go.Proofs.Ytolaaplnoahnkaa.C
open Go.RowKit Go.Sort Go.Proofs.YtolaaplnoahnkaaW.PrintWords Go.Proofs.YtolaaplnoahnkaaW.PrintLast Go.Proofs.YtolaaplnoahnkaaW.PrintMore
set_option linter.unusedVariables false
set_option linter.unusedSimpArgs false

/-! Lists of timers that rise by number: what they hold says what they are. -/
def Rise (l : List S33) : Prop := l.Pairwise (fun a b => a.f0 < b.f0)
theorem rise_at {l : List S33} (h : Rise l) {i j : Nat} (hi : i < j) (hj : j < l.length) : l[i].f0 < l[j].f0 := List.pairwise_iff_getElem.1 h i j (by omega) hj hi
theorem rise_inj {l : List S33} (h : Rise l) {a b : S33} (ha : a ∈ l) (hb : b ∈ l) (e : a.f0 = b.f0) : a = b := by
  obtain ⟨i, hi, rfl⟩ := List.getElem_of_mem ha
  obtain ⟨j, hj, rfl⟩ := List.getElem_of_mem hb
  rcases Nat.lt_trichotomy i j with h1 | h1 | h1
  · have := rise_at h h1 hj; omega
  · subst h1; rfl
  · have := rise_at h h1 hi; omega

theorem okL_rise (now : Int) : ∀ (l : List S33) (last : Int), okL now last l = true → Rise l ∧ ∀ t ∈ l, last < t.f0
  | [], _, _ => ⟨List.Pairwise.nil, fun _ h => by cases h⟩
  | x :: r, last, h => by
    simp only [okL, Bool.and_eq_true, decide_eq_true_eq] at h
    obtain ⟨h1, h2⟩ := okL_rise now r x.f0 h.2.2
    refine ⟨List.pairwise_cons.2 ⟨h2, h1⟩, fun t ht => ?_⟩
    rcases List.mem_cons.1 ht with rfl | ht
    · exact h.2.1
    · have := h2 t ht; have := h.2.1; omega
theorem okW_rise {now : Int} {l : List S33} (h : okW now l = true) : Rise l := by
  unfold okW at h
  simp only [Bool.and_eq_true] at h
  exact (okL_rise now l _ h.2.2).1
theorem rise_len : ∀ (l : List S33) (lo : Int), Rise l → (∀ t ∈ l, lo ≤ t.f0 ∧ t.f0 < 32) → lo ≤ 32 → (l.length : Int) ≤ 32 - lo
  | [], lo, _, _, h => by simp; omega
  | x :: r, lo, h, h1, h2 => by
    have h' := List.pairwise_cons.1 h
    have hx := h1 x List.mem_cons_self
    have := rise_len r (x.f0 + 1) h'.2 (fun t ht => by have := h'.1 t ht; have := h1 t (List.mem_cons_of_mem _ ht); omega) (by omega)
    simp; omega
theorem okW_len {now : Int} {l : List S33} (h : okW now l = true) : l.length ≤ 32 := by
  have := rise_len l 0 (okW_rise h) (fun t ht => by have := okW_mem h ht; omega) (by omega)
  omega

/-- Where the search ends. -/
theorem bsGo_spec {l : List S33} (h : Rise l) (x : Int) (n : Nat) : ∀ i j, j - i = n → i ≤ j → j ≤ l.length → (∀ q (hq : q < l.length), q < i → l[q].f0 < x) → (∀ q (hq : q < l.length), j ≤ q → x ≤ l[q].f0) →
    (∀ q (hq : q < l.length), q < bsGo l x i j → l[q].f0 < x) ∧ (∀ q (hq : q < l.length), bsGo l x i j ≤ q → x ≤ l[q].f0) := by
  induction n using Nat.strongRecOn with
  | ind n ih =>
    intro i j hn hij hj h1 h2
    by_cases hlt : i < j
    · rw [bsGo_at _ _ _ _ hlt]
      have hm : i ≤ (i + j) / 2 ∧ (i + j) / 2 < j := by omega
      have hml : (i + j) / 2 < l.length := by omega
      have hg : l.getD ((i + j) / 2) z33 = l[(i + j) / 2] := by simp [List.getD_eq_getElem?_getD, hml]
      rw [hg]
      split
      · rename_i c
        refine ih (j - ((i + j) / 2 + 1)) (by omega) ((i + j) / 2 + 1) j rfl (by omega) hj (fun q hq hqi => ?_) h2
        rcases Nat.lt_or_ge q ((i + j) / 2) with c1 | c1
        · have := rise_at h c1 hml; omega
        · obtain rfl : q = (i + j) / 2 := by omega
          exact c
      · rename_i c
        refine ih ((i + j) / 2 - i) (by omega) i ((i + j) / 2) rfl (by omega) (by omega) h1 (fun q hq hqi => ?_)
        rcases Nat.lt_or_ge ((i + j) / 2) q with c1 | c1
        · have := rise_at h c1 hq; omega
        · obtain rfl : q = (i + j) / 2 := by omega
          omega
    · rw [bsGo_end _ _ _ _ hlt]
      exact ⟨h1, fun q hq hqi => h2 q hq (by omega)⟩
theorem bs_spec {l : List S33} (h : Rise l) (x : Int) : (∀ q (hq : q < l.length), q < bs l x → l[q].f0 < x) ∧ (∀ q (hq : q < l.length), bs l x ≤ q → x ≤ l[q].f0) :=
  bsGo_spec h x l.length 0 l.length (by omega) (by omega) (Nat.le_refl _) (fun q _ hq => by omega) (fun q hq hq2 => by omega)
theorem found_iff {l : List S33} (h : Rise l) (x : Int) : found l x = true ↔ ∃ t ∈ l, t.f0 = x := by
  unfold found
  simp only [Bool.and_eq_true, decide_eq_true_eq]
  constructor
  · rintro ⟨h1, h2⟩
    rw [show l.getD (bs l x) z33 = l[bs l x] by simp [List.getD_eq_getElem?_getD, h1]] at h2
    exact ⟨_, List.getElem_mem h1, h2⟩
  · rintro ⟨t, ht, rfl⟩
    obtain ⟨i, hi, rfl⟩ := List.getElem_of_mem ht
    obtain ⟨s1, s2⟩ := bs_spec h l[i].f0
    have hle : bs l l[i].f0 ≤ i := by
      rcases Nat.lt_or_ge i (bs l l[i].f0) with c | c
      · have := s1 i hi c; omega
      · exact c
    have hbl : bs l l[i].f0 < l.length := by omega
    refine ⟨hbl, ?_⟩
    rw [show l.getD (bs l l[i].f0) z33 = l[bs l l[i].f0] by simp [List.getD_eq_getElem?_getD, hbl]]
    have h1 := s2 (bs l l[i].f0) hbl (Nat.le_refl _)
    rcases Nat.lt_or_ge (bs l l[i].f0) i with c | c
    · have := rise_at h c hi; omega
    · have e : bs l l[i].f0 = i := by omega
      simp only [e]
theorem found_bs {l : List S33} {x : Int} (h : found l x = true) : ∃ hb : bs l x < l.length, l[bs l x].f0 = x := by
  unfold found at h
  simp only [Bool.and_eq_true, decide_eq_true_eq] at h
  obtain ⟨h1, h2⟩ := h
  rw [show l.getD (bs l x) z33 = l[bs l x] by simp [List.getD_eq_getElem?_getD, h1]] at h2
  exact ⟨h1, h2⟩

/-- The document's At. -/
def atR : List S33 → Int → Int
  | [], _ => 0
  | t :: r, x => if t.f0 = x then t.f1 else atR r x
theorem atR_mem {l : List S33} (h : Rise l) {t : S33} (ht : t ∈ l) : atR l t.f0 = t.f1 := by
  induction l with
  | nil => cases ht
  | cons a r ih =>
    have h' := List.pairwise_cons.1 h
    unfold atR
    rcases List.mem_cons.1 ht with rfl | h1
    · simp
    · have := h'.1 t h1
      rw [if_neg (by omega)]
      exact ih h'.2 h1
theorem atR_pos {l : List S33} {x : Int} (h : atR l x ≠ 0) : ∃ t ∈ l, t.f0 = x ∧ atR l x = t.f1 := by
  induction l with
  | nil => exact absurd rfl h
  | cons a r ih =>
    unfold atR at h ⊢
    by_cases c : a.f0 = x
    · rw [if_pos c]; exact ⟨a, List.mem_cons_self, c, rfl⟩
    · rw [if_neg c] at h ⊢
      obtain ⟨t, ht, h1, h2⟩ := ih h
      exact ⟨t, List.mem_cons_of_mem _ ht, h1, h2⟩
section
variable {now : Int} {l : List S33} (hok : okW now l = true)
include hok
theorem atR_found (x : Int) : (found l x = true → 0 < atR l x) ∧ (¬ found l x = true → atR l x = 0) := by
  have hr := okW_rise hok
  have h0 := (okW_all hok).1
  constructor
  · intro h
    obtain ⟨t, ht, rfl⟩ := (found_iff hr x).1 h
    rw [atR_mem hr ht]
    have := okW_mem hok ht; omega
  · intro h
    by_cases c : atR l x = 0
    · exact c
    · obtain ⟨t, ht, h1, _⟩ := atR_pos c
      exact absurd ((found_iff hr x).2 ⟨t, ht, h1⟩) h
theorem atF_ok (x : Int) : atF now l x = (atR l x, decide (0 < atR l x)) := by
  unfold atF
  have hr := okW_rise hok
  obtain ⟨h1, h2⟩ := atR_found hok x
  by_cases c : found l x = true
  · obtain ⟨hb, e⟩ := found_bs c
    have hm := atR_mem hr (List.getElem_mem hb)
    rw [e] at hm
    have hg : l.getD (bs l x) z33 = l[bs l x] := by simp [List.getD_eq_getElem?_getD, hb]
    rw [hok, c, if_pos (by rfl), hg, ← hm, decide_eq_true (h1 c)]
  · have c' : found l x = false := by simpa using c
    rw [c', hok, if_neg (by simp), h2 c]
    rfl
end
end Go.Proofs.Ytolaaplnoahnkaa.C
